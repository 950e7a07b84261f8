/- A case without some families: it stays valid, its best seating is there just if the groups left can be seated. Plain law of SeatLeft and SeatParted. No program. -/
import Derived.Test.YthhdhbalenanjaaGreatA2
open List renaming all_eq_true->bj,getD_eq_getElem?_getD->bq,mem_map->bw,getElem?_eq_getElem->bx,mem_range->bz,length_map->bb,getElem?_map->bg,map_map->bh,reverse->bm,map_congr_left->bn,range->cj
open Bool renaming and_eq_true->bk,eq_iff_iff->bc
open Int renaming toNat_natCast->bf
open Option renaming map_some->bp
set_option maxRecDepth 100000
open Go Go.Pg Go.Proofs Go.Wind
namespace Go.Proofs.Tryz.Op
theorem ACE{c:AR}{k:Nat}(hk:k<c.fams.length):CK c k∈c.fams:=by simp[CK,bx hk]
theorem ACF(n:Nat)(out:List Int):(J4 n out).length<=n:=by unfold J4;have:=List.length_filter_le (fun k:Nat=>!decide ((k:Int)∈out)) (cj n);rwa [List.length_range]at this
theorem ACG{c:AR}{out:List Int}{f:U5}(h:f∈(N6 c out).fams):f∈c.fams:=by obtain⟨k,hk,rfl⟩:=bw.1 h;exact ACE (bz.1 (List.mem_filter.1 hk).1)
theorem yJ(c:AR)(out:List Int):(N6 c out).fams.length<=c.fams.length:=by show((J4 c.fams.length out).map (CK c)).length<=_;rw[bb];exact ACF _ _
theorem qI{c:AR}(h:B5 c=0)(out:List Int):B5 (N6 c out)=0:=by
 have hc:=E9 h;have hl:=yJ c out;have hfl:=hc.fl;have h6:(N6 c out).fams.all GY=true:=bj.2 fun f hf=>by have:=hc.fo f (ACG hf);simp only[GY,bk,BU];exact this
 have hb:=I0 hc.be;have h5:D5 c=true:=by simp only[D5,bk,decide_eq_true_eq,bj];exact⟨hc.ch,hc.cr⟩
 unfold B5;rw[if_neg (by omega),if_neg (show ¬DH (N6 c out).beach≠0 from fun hh=>hh hb),if_neg (show ¬CP (N6 c out).beach (N6 c out).plan=false from by show ¬CP c.beach c.plan=false;rw[hc.pl];decide),if_neg (show ¬BQ (N6 c out).beach=[] from hc.tr),if_neg (show ¬D5 (N6 c out)=false from by show ¬D5 c=false;rw[h5];decide),if_neg (by rw[h6];decide)]
end Go.Proofs.Tryz.Op
namespace Go.Wind
def EB(n:Int):Int:=if n=1\/n=3 then 4-n else n
theorem LH(n:Int):EB (EB n)=n:=by
 unfold EB;split
 ·rw[if_pos (by omega)];omega
 ·rfl
theorem N7{n:Int}(h:0<=n/\n<=3):0<=EB n/\EB n<=3:=by unfold EB;split<;>omega
theorem YM{x y:Int}:EB x=EB y↔x=y:=⟨fun h=>by rw[<-LH x,h,LH],fun h=>by rw[h]⟩
def BN(l:List Int):List Int:=l.map EB
theorem YN(l:List Int):BN (BN l)=l:=by unfold BN;rw[bh,show EB∘EB=id from funext LH,List.map_id]
theorem F0(l:List Int):(BN l).length=l.length:=bb _
theorem ML(l:List Int)(i:Nat):(BN l).getD i 0=EB (l.getD i 0):=by unfold BN;rw[bq,bq,bg];cases l[i]?<;>rfl
def DS(plan:List (List Int)):List (List Int):=plan.map BN
theorem kN(plan:List (List Int))(h r:Nat):EF (DS plan) h r=EB (EF plan h r):=by unfold EF;rw[<-ML];congr 1;unfold DS;rw[bq,bq,bg];cases plan[h]?<;>rfl
def FE(l:List Int):List Int:=AE0.filter fun n=>decide (EB n∈l)
theorem YO{l:List Int}{n:Int}:n∈FE l↔(0<=n/\n<=3)/\EB n∈l:=by unfold FE;rw[List.mem_filter,AE1];simp
theorem ACH(p:Int->Bool):H7 (AE0.filter p)=true:=by unfold AE0;cases h0:p 0<;>cases h1:p 1<;>cases h2:p 2<;>cases h3:p 3<;>simp[List.filter,h0,h1,h2,h3,H7]
theorem uW{l:List Int}(h:DB l=true):DB (FE l)=true:=by
 simp only[DB,bk,Bool.not_eq_true',DF,bj]at h|-;obtain⟨⟨h1,h2⟩,_⟩:=h;refine⟨⟨?_,fun n hn=>BU.2 (YO.1 hn).1⟩,ACH _⟩;cases l with
 |nil=>simp at h1
 |cons x r=>
  have:EB x∈FE (x::r):=YO.2 ⟨N7 (BU.1 (h2 x (by simp))),by rw[LH];simp⟩
  cases hm:FE (x::r)with
  |nil=>rw[hm]at this;cases this
  |cons _ _=>rfl
def GM(b:AL)(s:Int×Int):Int×Int:=(s.1,b.places-1-s.2)
def IW(x:Int×Int):Int×Int:=(x.1,EB x.2)
def F1(b:AL):AL:={ b with face:=BN b.face,sun:=BN b.sun,winds:=b.winds.map FE,breaks:=b.breaks.map (GM b),notes:=b.notes.map IW }
theorem yK{b:AL}(hb:Valid b):Valid (F1 b):=by
 obtain⟨la,ro,pl,re,br,no,fa,su,wi,fd,sd,wo,bo,nok⟩:=hb;refine⟨la,ro,pl,re,by simpa [F1]using br,by simpa [F1]using no,by simpa [F1,BN]using fa,by simpa [F1,BN]using su,by simpa [F1]using wi,?_,?_,?_,?_,?_⟩
 ·simp only[DF,bj,F1,BN,bw]at fd|-;rintro _ ⟨x,hx,rfl⟩;exact BU.2 (N7 (BU.1 (fd x hx)))
 ·simp only[DF,bj,F1,BN,bw]at sd|-;rintro _ ⟨x,hx,rfl⟩;have:=BU.1 (sd x hx);rw[BU];unfold EB;split<;>omega
 ·simp only[bj,F1,bw]at wo|-;rintro _ ⟨l,hl,rfl⟩;exact uW (wo l hl)
 ·simp only[bj,F1,bw]at bo|-;rintro _ ⟨s,hs,rfl⟩;have:=bo s hs;simp only[E2,bk,BU,GM]at this|-;omega
 ·simp only[bj,F1,bw]at nok|-;rintro _ ⟨s,hs,rfl⟩;have:=nok s hs;simp only[HI,bk,BU,IW]at this|-;exact⟨this.1,N7 this.2⟩
theorem AI0(b:AL)(s k:Int×Int)(w:Int):rC (GM b s) (GM b k) (EB w)=rC s k w:=by
 have e1:(b.places-1-k.2=b.places-1-s.2)↔k.2=s.2:=by omega
 unfold rC GM EB;simp only[e1];by_cases h1:w=1
 ·subst h1;by_cases hk:k.1=s.1
  ·simp[hk];omega
  ·simp[hk]
 by_cases h3:w=3
 ·subst h3;by_cases hk:k.1=s.1
  ·simp[hk];omega
  ·simp[hk]
 simp[h1,h3]
theorem qJ(b:AL)(s:Int×Int)(w:Int):PS (F1 b) (GM b s) (EB w)=PS b s w:=by unfold PS;simp only[F1,List.any_map];congr 1;funext k;simp only[Function.comp,AI0]
theorem ACI(b:AL)(s:Int×Int)(f:Int){w:Int}(hw:0<=w/\w<=3):QR (F1 b) (GM b s) (EB f) (EB w)=QR b s f w:=by
 unfold QR;rw[qJ];have h1:w=0\/w=1\/w=2\/w=3:=by omega
 have:(EB w+2) % 4=EB ((w+2) % 4):=by rcases h1 with rfl|rfl|rfl|rfl<;>decide
 rw[this];simp only[YM]
theorem AI1(b:AL)(plan:List (List Int))(r h:Nat):OM (F1 b) (DS plan) r h=OM b plan r h:=by unfold OM;simp only[F1,kN,ML,YM]
theorem yL{b:AL}(hb:Valid b){t:List Int}(ht:AZ t b.winds=true){h:Nat}(hh:h<t.length):0<=t.getD h 0/\t.getD h 0<=3:=by have hl:=C6 ht;rw[bq,bx hh];have h1:=FA ht h hh (by omega);have h2:=bj.1 hb.wo _ (List.getElem_mem (show h<b.winds.length by omega));simp only[DB,DF,bk,bj]at h2;exact BU.1 (h2.1.2 _ h1)
theorem yM{b:AL}(hb:Valid b)(plan:List (List Int)){t:List Int}(ht:AZ t b.winds=true)(r:Nat){p:Nat}(hp:p<b.places.toNat):E3 (F1 b) (DS plan) (BN t) r (b.places.toNat-1-p)=E3 b plan t r p:=by
 have hpl:=hb.pl;have e:(((r:Int),((b.places.toNat-1-p:Nat):Int)):Int×Int)=GM b ((r:Int),(p:Int)):=by unfold GM;exact Prod.ext rfl (by simp only;omega)
 have hc:∀h,h<t.length->RB (F1 b) (DS plan) (BN t) r (b.places.toNat-1-p) h=RB b plan t r p h:=fun h hh=>by unfold RB;rw[e,kN,ML,ACI b _ _ (yL hb ht hh)]
 have hl:OM (F1 b) (DS plan) r=OM b plan r:=funext fun h=>AI1 b plan r h;unfold E3 rF;rw[hl,F0,eN hc,eN (f:=fun h=>OM b plan r h&&RB (F1 b) (DS plan) (BN t) r (b.places.toNat-1-p) h) fun h hh=>by rw[hc h hh]]
theorem kO:∀(n:Nat) (g:Nat->Int),FG (fun i=>g (n-1-i)) n=FG g n
 |0,_=>rfl
 |n+1,g=>by rw[ZJ g n,<-kO n fun i=>g (i+1)];show FG (fun i=>g (n+1-1-i)) n+g (n+1-1-n)=_;rw[show n+1-1-n=0 by omega,GO (f:=fun i=>g (n+1-1-i)) (g:=fun i=>g (n-1-i+1)) fun i hi=>by rw[show n+1-1-i=n-1-i+1 by omega]];omega
theorem YP:∀{ws:List (List Int)} {t:List Int},(∀l∈ws,∀x∈l,0<=x/\x<=3)->(AZ (BN t) (ws.map FE)=true↔AZ t ws=true)
 |[],[],_=>by simp[BN,AZ]
 |[],_::_,_=>by simp[BN,AZ]
 |_::_,[],_=>by simp[BN,AZ]
 |l::ws,x::t,h=>by
  have ih:=YP (ws:=ws) (t:=t) fun l hl=>h l (List.mem_cons_of_mem _ hl);unfold BN at ih|-;simp only[List.map_cons,AZ,bk,decide_eq_true_eq,ih,YO,LH];constructor
  ·exact fun ⟨⟨_,h1⟩,h2⟩=>⟨h1,h2⟩
  ·exact fun ⟨h1,h2⟩=>⟨⟨N7 (h l (by simp) x h1),h1⟩,h2⟩
theorem yN{b:AL}(hb:Valid b):∀l∈b.winds,∀x∈l,0<=x/\x<=3:=fun l hl x hx=>by have h2:=bj.1 hb.wo _ hl;simp only[DB,DF,bk,bj]at h2;exact BU.1 (h2.1.2 _ hx)
theorem U9{b:AL}(hb:Valid b){t:List Int}:BN t∈BQ (F1 b)↔t∈BQ b:=by
 rw[DT,DT];have e:(HJ (BN t))∘IW=HJ t:=funext fun x=>by simp only[Function.comp,HJ,IW,atI,ML];exact decide_eq_decide.2 YM
 unfold CZ;rw[bk,bk,show(F1 b).winds=b.winds.map FE from rfl,YP (yN hb),show(F1 b).notes=b.notes.map IW from rfl,List.all_map,e]
theorem yO{b:AL}(hb:Valid b){t:List Int}(h:t∈BQ (F1 b)):BN t∈BQ b:=(U9 hb).1 (by rwa [YN])
theorem ACJ{b:AL}{plan:List (List Int)}(h:CP b plan=true):CP (F1 b) (DS plan)=true:=by simp only[CP,bk,bj,decide_eq_true_eq,DS,bb,bw]at h|-;refine⟨?_,h.2⟩;rintro _ ⟨l,hl,rfl⟩;obtain⟨h1,h2⟩:=h.1 l hl;refine⟨by rw[F0];exact h1,?_⟩;simp only[DF,bj,BN,bw]at h2|-;rintro _ ⟨x,hx,rfl⟩;exact BU.2 (N7 (BU.1 (h2 x hx)))
end Go.Wind
namespace Go.Proofs.Tryz.Op
def EN(c:AR):AR:={ c with beach:=F1 c.beach,plan:=DS c.plan,chairs:=c.chairs.map bm }
theorem PK{c:AR}(h:B5 c=0):B5 (EN c)=0:=by
 have hc:=E9 h;have hfl:=hc.fl;have hb:=I0 (yK hc.be);have hp:=ACJ hc.pl;have ht:BQ (F1 c.beach)≠[]:=fun e=>by
  obtain⟨t,r,e2⟩:=List.exists_cons_of_ne_nil hc.tr;have h1:t∈BQ c.beach:=by rw[e2];simp
  have h2:=(U9 hc.be).2 h1;rw[e]at h2;cases h2
 have h6:c.fams.all GY=true:=bj.2 fun f hf=>by have:=hc.fo f hf;simp only[GY,bk,BU];exact this
 have h5:D5 (EN c)=true:=by simp only[D5,bk,decide_eq_true_eq,bj];refine⟨by rw[show(EN c).chairs=c.chairs.map bm from rfl,bb];exact hc.ch,fun l hl=>?_⟩;obtain⟨m,hm,rfl⟩:=bw.1 hl;rw[List.length_reverse];exact hc.cr m hm
 unfold B5;rw[if_neg (show ¬3<(EN c).fams.length from by show ¬3<c.fams.length;omega),if_neg (show ¬DH (EN c).beach≠0 from fun hh=>hh hb),if_neg (show ¬CP (EN c).beach (EN c).plan=false from by rw[show CP (EN c).beach (EN c).plan=true from hp];decide),if_neg (show ¬BQ (EN c).beach=[] from ht),if_neg (by rw[h5];decide),if_neg (show ¬(EN c).fams.all GY=false from by show ¬c.fams.all GY=false;rw[h6];decide)]
structure LI(c d:AR)(s u:List (List Int)):Prop where
 ro:d.beach.rows=c.beach.rows
 pl:d.beach.places=c.beach.places
 fa:d.fams=c.fams
 su:∀r p:Nat,r<c.beach.rows.toNat->p<c.beach.places.toNat->EM u r ((c.beach.places.toNat-1-p:Nat):Int)=EM s r p
 ch:∀r p:Nat,r<c.beach.rows.toNat->p<c.beach.places.toNat->HF d r ((c.beach.places.toNat-1-p:Nat):Int)=HF c r p
 cn:EZ d=EZ c
theorem LI.symm{c d:AR}{s u:List (List Int)}(h:LI c d s u):LI d c u s where
 ro:=h.ro.symm
 pl:=h.pl.symm
 fa:=h.fa.symm
 su:=fun r p h1 h2=>by rw[h.ro]at h1;rw[h.pl]at h2|-;have:=h.su r (c.beach.places.toNat-1-p) h1 (by omega);rw[show c.beach.places.toNat-1-(c.beach.places.toNat-1-p)=p by omega]at this;exact this.symm
 ch:=fun r p h1 h2=>by rw[h.ro]at h1;rw[h.pl]at h2|-;have:=h.ch r (c.beach.places.toNat-1-p) h1 (by omega);rw[show c.beach.places.toNat-1-(c.beach.places.toNat-1-p)=p by omega]at this;exact this.symm
 cn:=h.cn.symm
def K7(c:AR)(x:Sp):Sp:={ x with place:=c.beach.places-x.place-x.size }
theorem LI.fits{c d:AR}{s u:List (List Int)}(h:LI c d s u)(x:Sp):JL d (K7 c x)=JL c x:=by
 unfold JL K7;rw[h.ro,h.pl];have:HH (c.beach.places-x.place-x.size) 0 (c.beach.places-x.size)=HH x.place 0 (c.beach.places-x.size):=by rw[bc,BU,BU];omega
 simp only[this]
theorem LI.apart{c d:AR}{s u:List (List Int)}(h:LI c d s u)(x y:Sp):FO d (K7 c x) (K7 c y)=FO c x y:=by
 have hb:kH (K7 c x) (K7 c y)=kH x y:=by unfold kH K7;simp only;omega
 have hm:∀a b,R3 d a b=R3 c a b:=fun a b=>by unfold R3 CK;rw[h.fa]
 unfold FO;rw[hb];simp only[hm];rfl
theorem eB(f g:Nat->Int)(n:Nat)(h:∀i,i<n->f i=g (n-1-i)):FG f n=FG g n:=by rw[<-kO n g];exact GO fun i hi=>h i hi
theorem ACK(f g:Nat->Bool)(n:Nat)(h:∀i,i<n->f i=g (n-1-i)):(cj n).all f=(cj n).all g:=by
 rw[bc,bj,bj];constructor
 ·intro hf i hi;have hi:=bz.1 hi;have:=hf (n-1-i) (bz.2 (by omega));rw[h _ (by omega),show n-1-(n-1-i)=i by omega]at this;exact this
 ·intro hg i hi;have hi:=bz.1 hi;rw[h i hi];exact hg _ (bz.2 (by omega))
theorem LI.share{c d:AR}{s u:List (List Int)}(h:LI c d s u){x:Sp}(hx:JL c x=true):BI d u (K7 c x)=BI c s x:=by
 obtain⟨f1,f2,f3,f4⟩:=XV hx;have hz:(K7 c x).size=x.size:=rfl;have hr:(K7 c x).row=x.row:=rfl;have hf:(K7 c x).fam=x.fam:=rfl;have hp:(K7 c x).place=c.beach.places-x.place-x.size:=rfl;obtain⟨r,er⟩:∃r:Nat,x.row=r:=⟨x.row.toNat,by omega⟩;obtain⟨p0,ep⟩:∃p:Nat,x.place=p:=⟨x.place.toNat,by omega⟩;have key:∀i,i<x.size.toNat->(c.beach.places-x.place-x.size)+(i:Int)=((c.beach.places.toNat-1-(p0+(x.size.toNat-1-i)):Nat):Int):=fun i hi=>by omega
 have kb:∀i,i<x.size.toNat->p0+(x.size.toNat-1-i)<c.beach.places.toNat:=fun i hi=>by omega
 have hs:∀i,i<x.size.toNat->EM u x.row ((c.beach.places-x.place-x.size)+(i:Int))=EM s x.row (x.place+((x.size.toNat-1-i:Nat):Int)):=fun i hi=>by rw[key i hi,er,h.su r _ (by omega) (kb i hi),ep];rfl
 have hc:∀i,i<x.size.toNat->HF d x.row ((c.beach.places-x.place-x.size)+(i:Int))=HF c x.row (x.place+((x.size.toNat-1-i:Nat):Int)):=fun i hi=>by rw[key i hi,er,h.ch r _ (by omega) (kb i hi),ep];rfl
 have hfa:CK d x.fam=CK c x.fam:=by unfold CK;rw[h.fa]
 unfold BI;rw[hz,hr,hf,hp,hfa];congr 1
 ·exact eB _ (fun p=>EM s x.row (x.place+(p:Int))) _ hs
 ·exact eB _ (fun p=>if HF c x.row (x.place+(p:Int))=true then 0 else 1) _ fun i hi=>by rw[hc i hi]
 ·exact ACK _ (fun p=>decide ((CK c x.fam).good<=EM s x.row (x.place+(p:Int)))) _ fun i hi=>by rw[hs i hi]
theorem kQ(c:AR)(l:List Sp):(l.map (K7 c)).map grp=l.map grp:=by rw[bh];rfl
theorem LI.ok{c d:AR}{s u:List (List Int)}(h:LI c d s u){gs:List (Nat×Int)}{l:List Sp}(hl:OkS c s gs l):OkS d u gs (l.map (K7 c)):=by
 have e:gs=(l.map (K7 c)).map grp:=by rw[kQ,hl.gr]
 rw[e];refine hl.mapS (K7 c) (fun x hx h1 h2=>⟨by rw[h.fits];exact h1,by rw[h.share h1];exact h2⟩) (fun x hx y hy ha=>by rw[h.apart];exact ha) ?_;rw[h.cn,MK,kQ,<-MK];exact hl.pe
theorem LI.tot{c d:AR}{s u:List (List Int)}(h:LI c d s u){gs:List (Nat×Int)}{l:List Sp}(hl:OkS c s gs l):E0 d u (l.map (K7 c))=E0 c s l:=by
 have hf:=(gM.1 hl).2.1;rw[pZ,pZ];have e:∀{β:Type} (g:B0->β),(l.map (K7 c)).map (fun x=>g (BI d u x))=l.map fun x=>g (BI c s x):=fun g=>by
  rw[bh];exact bn fun x hx=>by show g (BI d u (K7 c x))=_;rw[h.share (hf x hx).1]
 have ea:(l.map (K7 c)).all (fun x=>(BI d u x).enough)=l.all fun x=>(BI c s x).enough:=by
  rw[List.all_map];rw[bc,bj,bj];have hq:∀x∈l,(BI d u (K7 c x)).enough=(BI c s x).enough:=fun x hx=>by rw[h.share (hf x hx).1]
  exact⟨fun h' x hx=>by rw[<-hq x hx];exact h' x hx,fun h' x hx=>(hq x hx).trans (h' x hx)⟩
 rw[e (fun z=>z.sun),e (fun z=>z.carried),ea]
theorem LI.can{c d:AR}{s u:List (List Int)}(h:LI c d s u)(gs:List (Nat×Int)):J3 d u gs=J3 c s gs:=by rw[bc,gK,gK];exact⟨fun ⟨l,hl⟩=>⟨_,h.symm.ok hl⟩,fun ⟨l,hl⟩=>⟨_,h.ok hl⟩⟩
theorem LI.best1{c d:AR}{s u:List (List Int)}(h:LI c d s u){gs:List (Nat×Int)}{q:List Sp×B0}(hq:QP c s (LG c s gs)=some q):∃q',QP d u (LG d u gs)=some q'/\uU q'.2 q.2:=by
 obtain⟨b,t⟩:=q;obtain⟨h1,h2,_⟩:=dZ hq;have hO:=XU.1 h1;have hm:=XU.2 (h.ok hO);cases hb:QP d u (LG d u gs)with
 |none=>
  rw[yG.1 hb]at hm
  cases hm
 |some q'=>
  refine⟨q',rfl,?_⟩
  have:=(dZ hb).2.2 _ hm
  rw[h.tot hO,<-h2]at this
  exact this
theorem LI.best{c d:AR}{s u:List (List Int)}(h:LI c d s u)(gs:List (Nat×Int)):(QP d u (LG d u gs)).map (fun q=>(q.2.sun,q.2.carried))=(QP c s (LG c s gs)).map fun q=>(q.2.sun,q.2.carried):=by
 cases hc:QP c s (LG c s gs)with
 |none=>
  cases hd:QP d u (LG d u gs)with
  |none=>rfl
  |some q=>
   obtain⟨q',h1,_⟩:=h.symm.best1 hd
   rw[hc]at h1
   cases h1
 |some q=>
  obtain⟨q',h1,h2⟩:=h.best1 hc
  obtain⟨q2,h3,h4⟩:=h.symm.best1 h1
  rw[hc]at h3
  cases h3
  rw[h1]
  unfold uU at h2 h4
  simp only[bp,Option.some.injEq,Prod.mk.injEq]
  omega
theorem qK(l:List (List Bool)):((l.map bm).map fun l=>l.count true).sum=(l.map fun l=>l.count true).sum:=by rw[bh];congr 1;exact bn fun x _=>List.count_reverse
theorem gN{c:AR}(h0:B5 c=0):LI c (EN c) (AU c) (AU (EN c)) where
 ro:=rfl
 pl:=rfl
 fa:=rfl
 su:=fun r p hr hp=>by
  have hc:=E9 h0;have hx:=E9 (PK h0);rw[kL hx (show r<(EN c).beach.rows.toNat from hr) (show c.beach.places.toNat-1-p<(EN c).beach.places.toNat from by show _<c.beach.places.toNat;omega),kL hc hr hp];have h1:=YL hc r p;have h2:=YL hx r (c.beach.places.toNat-1-p);have hh:∀t∈BQ c.beach,(E3 (EN c).beach (EN c).plan (BN t) r (c.beach.places.toNat-1-p)).good=(E3 c.beach c.plan t r p).good:=fun t ht=>by rw[show E3 (EN c).beach (EN c).plan (BN t) r (c.beach.places.toNat-1-p)=E3 c.beach c.plan t r p from yM hc.be c.plan (TP ht) r hp]
  apply Int.le_antisymm
  ·obtain⟨t,ht,e⟩:=h1.at';have:=h2.le _ ((U9 hc.be).2 ht);rw[hh t ht,e]at this;exact this
  ·obtain⟨t,ht,e⟩:=h2.at';have ht2:=yO hc.be ht;have h3:=h1.le _ ht2;have h4:=hh _ ht2;rw[YN]at h4;rw[<-h4,e]at h3;exact h3
 ch:=fun r p hr hp=>by
  have hc:=E9 h0;have hch:=hc.ch;have hr2:r<c.chairs.length:=by omega
  have hl:=hc.cr _ (List.getElem_mem hr2);have hp2:p<(c.chairs[r]).length:=by omega
  unfold HF;rw[show(EN c).chairs=c.chairs.map bm from rfl,bf,bf,bf];simp only[bq,bg,bx hr2,bp,Option.getD_some];rw[List.getElem?_reverse (by omega),show(c.chairs[r]).length-1-(c.beach.places.toNat-1-p)=p by omega]
 cn:=qK c.chairs
theorem kR{c:AR}(h0:B5 c=0)(out:List Int):FP (EN c) out=FP c out:=(gN h0).can (AV c out)
theorem yP{c:AR}(h0:B5 c=0):FZ (EN c)=FZ c:=by unfold FZ;rw[if_neg (show ¬B5 (EN c)≠0 by simp[PK h0]),if_neg (show ¬B5 c≠0 by simp[h0]),show FP (EN c)=FP c from funext (kR h0)];rfl
theorem ACL{c:AR}(h0:B5 c=0):JD (EN c)=JD c:=by
 have hp:FI (EN c)=FI c:=by funext k;unfold FI;refine congrArg (fun f=>List.any (cj ((CK c k).size / 2).toNat) f) (funext fun n=>?_);exact(gN h0).can _
 unfold JD;rw[if_neg (show ¬B5 (EN c)≠0 by simp[PK h0]),if_neg (show ¬B5 c≠0 by simp[h0]),kR h0,hp];rfl
theorem ACM{c:AR}(h0:B5 c=0):(FD (EN c)).2=(FD c).2:=by
 have h:=(gN h0).best (AV c []);have h:(GZ (EN c)).map (fun q=>(q.2.sun,q.2.carried))=(GZ c).map fun q=>(q.2.sun,q.2.carried):=h;unfold FD;rw[if_neg (show ¬B5 (EN c)≠0 by simp[PK h0]),if_neg (show ¬B5 c≠0 by simp[h0])];cases h1:GZ c with
 |none=>
  rw[h1]at h
  cases h2:GZ (EN c)with
  |none=>rfl
  |some q=>rw[h2]at h;cases h
 |some q=>
  rw[h1]at h
  cases h2:GZ (EN c)with
  |none=>rw[h2]at h;cases h
  |some q2=>
   rw[h2]at h
   simp only[bp,Option.some.injEq,Prod.mk.injEq]at h
   simp only[h.1,h.2]
theorem yQ(c:AR)(h:c.fams=[])(h0:B5 c=0):FD c=([],0,0,0):=by
 have hg:AV c []=[]:=by rw[qH,h];rfl
 have hb:GZ c=some ([],⟨0,0,true⟩):=by unfold GZ LG;rw[hg,if_neg (by unfold DK EZ;simp)];rfl
 unfold FD;rw[if_neg (by simp[h0]),hb];rfl
theorem qN{c:AR}(h:B5 c=0):B5 { c with fams:=[] }=0:=by
 have:=qI h (E8 (2 ^ c.fams.length-1) c.fams.length);have e:N6 c (E8 (2 ^ c.fams.length-1) c.fams.length)={ c with fams:=[] }:=by unfold N6;rw[eA fun k hk=>R8.2 ⟨hk,by rw[Nat.testBit_two_pow_sub_one];exact decide_eq_true hk⟩];rfl
 rwa [e]at this
end Go.Proofs.Tryz.Op
