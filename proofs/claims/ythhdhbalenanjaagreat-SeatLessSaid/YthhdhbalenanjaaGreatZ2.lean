/- The contract of the law's some: a case without some families. No condition but few of them. -/
import Derived.Test.YthhdhbalenanjaaGreatA3
import Derived.Test.YthhdhbalenanjaaGreatZ1
import Derived.Test.YthhdhbalenanjaaGreatC3
open Go.Proofs.Tryz renaming prog->ck
open List renaming getElem?_eq_getElem->bj,getD_cons_zero->bk,getD_cons_succ->bq,set_cons_zero->bw,set_cons_succ->bx,map_congr_left->bz,map_nil->bc,map->bf,map_cons->bg,length_set->bm
open Int renaming ofNat_tmod->bh,mul_le_mul->bn
open Option renaming getD_some->bp
set_option maxRecDepth 100000
set_option linter.unusedSimpArgs false
open Go Go.Pg Go.Proofs Go.Wind
namespace Go.Proofs.Tryz.Op
theorem AHC{f g:List Int->Bool}{N:Nat}{y z:List Int}(h:V7 f N y)(h':V7 g N z)(hfg:∀out,f out=true->g out=true):z.length<=y.length:=by have:=h'.min y h.inc (hfg _ h.can);unfold GM at this;simp only[Bool.or_eq_false_iff,decide_eq_false_iff_not]at this;omega
set_option maxHeartbeats 2000000 in
theorem wS(n:Nat)(x c:AU)(hT:JD c=true)(h0:DE c=0)(hTx:JD x=true)(h0x:DE x=0)(hN:x.fams.length=c.fams.length)(hb:∀q,GO c=some q->∃q',GO x=some q'/\q.2.sun<=q'.2.sun)(hl:∀out,FV c out=true->FV x out=true):BA ck kn (AF ck ann kn (n+9800)) 58 [.agg (AE x),.agg (AE c)]=some (.bool true):=by
 rw[AR rfl,AS Tryz.func58 b58 rfl (by simp[AE,AH,AM,AL,AO,AZ,AP])];obtain⟨t1,t2,t3,t4,t5,t6⟩:=G8 hT;obtain⟨l1,l2,l3,l4,l5,l6⟩:=NL t1;obtain⟨u1,u2,u3,u4,u5,u6⟩:=G8 hTx;obtain⟨m1,m2,m3,m4,m5,m6⟩:=NL u1;have qC:=fun n=>fX n c hT;have qCx:=fun n=>fX n x hTx;have qB:=fun n=>fW n c l4 (by omega);have qBx:=fun n=>fW n x m4 (by omega);have qL:=fun n=>tQ n c l4 (by omega);have qLx:=fun n=>tQ n x m4 (by omega);obtain⟨y,hy,hsp⟩:=N9 c;obtain⟨z,hz,hsz⟩:=N9 x;unfold XH at qL qLx;rw[if_neg (by simp[h0]),hy,bp]at qL;rw[if_neg (by simp[h0x]),hz,bp]at qLx;rw[hN]at hsz;have hle:=AHC hsp hsz hl;unfold FU at qB qBx;rw[if_neg (by simp[h0])]at qB;rw[if_neg (by simp[h0x])]at qBx;cases hO:GO c with
 |none=>
  rw[hO]at qB
  cases hX:GO x with
  |none=>
   rw[hX]at qBx
   simp only[AE,HR,FA]at qC qCx qB qBx qL qLx|-
   simp[c58,AD,AH,AM,AL,AO,AZ,AP,qC,qCx,qB,qBx,qL,qLx,hle]
   done
  |some q'=>
   rw[hX]at qBx
   simp only[AE,HR,FA]at qC qCx qB qBx qL qLx|-
   simp[c58,AD,AH,AM,AL,AO,AZ,AP,qC,qCx,qB,qBx,qL,qLx,hle]
   done
 |some q=>
  obtain⟨q',hX,hq⟩:=hb q hO
  rw[hO]at qB
  rw[hX]at qBx
  simp only[AE,HR,FA]at qC qCx qB qBx qL qLx|-
  simp[c58,AD,AH,AM,AL,AO,AZ,AP,qC,qCx,qB,qBx,qL,qLx,hle,hq]
  done
theorem AAV{l:List QN}{m:Nat}(h:(l.length+m)*24<=140737488355327):BZ ck 57 m (l.map AP)=true:=by rw[CC (by simp) (by simp)];simp[maxLen,AP];omega
theorem jC(k:IntKind)(n:Int):MU ck 5 3 (.int k n)=some (.int .i64 (IntKind.i64.wrap n)):=by kernel_rfl
theorem ghL(st:XS):LR [12014931095] st=aW 95 (KY 12 st) (aZ 930 14 st) [] st:=rfl
theorem UJ(c γ j g o:Nat)(T:TypeId)(es:List (List V))(fr:Fr)(loc:AA)(h1:BS fr 11=some (true,.ptr 0 11 g o))(h2:BS fr 13=some (true,i (j:Int)))(h3:loc.get 95=some (γ,.vec T es)) :
  LR [12014931095] ⟨c,fr,⟨[],loc⟩⟩=⟨c,jH 0 95 0 (930+j) fr,⟨[],(930+j,γ,QX 0 95 0 (930+j) (.vec T es))::aV 0 95 0 (930+j) loc⟩⟩:=by
 rw[ghL]
 have e1:KY 12 ⟨c,fr,⟨[],loc⟩⟩=0:=by show(match BS fr 11 with|some (true,.ptr l _ _ _)=>l|_=>0)=0;rw[h1]
 have e2:aZ 930 14 ⟨c,fr,⟨[],loc⟩⟩=930+j:=by show(match BS fr 13 with|some (true,.int _ n)=>930+n.toNat|_=>930)=930+j;rw[h2];simp
 rw[e1,e2]
 unfold aW
 have e3:QK 0 ([]:List AA).length (some (γ,.vec T es))=true:=rfl
 simp only[h3,e3,qY]
 rfl
theorem ID(n k l d j g:Nat)(r:AX)(L:AA):aV n k l d ((j,g,r)::L)=if j=k then aV n k l d L else(j,g,QX n k l d r)::aV n k l d L:=rfl
theorem IE(n k l d:Nat):aV n k l d []=[]:=rfl
theorem IF(n k l d j:Nat)(b:Bool)(v:V)(fr:Fr):jH n k l d ((j,b,v)::fr)=(j,b,JX n k l d 3 v)::jH n k l d fr:=rfl
theorem IG(n k l d:Nat):jH n k l d []=[]:=rfl
theorem IH{n k l d:Nat}(f:Nat):JX n k l d f .nil=.nil:=by cases f<;>rfl
theorem EU{n k l d:Nat}(a:List Bool):a.map (bf (JX n k l d 3)∘AZ)=a.map AZ:=bz fun b _=>by simp[AZ,CT]
theorem FP{n k l d:Nat}(a:List QN):a.map (bf (JX n k l d 3)∘AP)=a.map AP:=bz fun b _=>by simp[AP,CT,CO]
section
variable {σ:Nat->Nat}{δ:Nat}
theorem sX:bf (V.ren σ δ)∘AH=AH:=funext fun l=>by simp[AH]
theorem bX:bf (V.ren σ δ)∘AZ=AZ:=funext fun l=>by simp[AZ]
theorem AAW:bf (V.ren σ δ)∘AL=AL:=funext fun l=>by simp[AL]
theorem fM:bf (V.ren σ δ)∘AP=AP:=funext fun l=>by simp[AP]
theorem AAX:bf (V.ren σ δ)∘AM=AM:=funext fun l=>by simp[AM,sX]
theorem fN:bf (V.ren σ δ)∘AO=AO:=funext fun l=>by simp[AO,bX]
end
theorem I8{l k f:Nat}{o:Option (Nat×AX)}(a:List Bool):a.map (bf (BF l k o f)∘AZ)=a.map AZ:=bz fun b _=>by simp[AZ]
theorem KD{l k f:Nat}{o:Option (Nat×AX)}(a:List QN):a.map (bf (BF l k o f)∘AP)=a.map AP:=bz fun b _=>by simp[AP]
theorem I9(l k f a b c d:Nat):BF l k none f (.vec a b c d)=.vec a b c d:=by cases f<;>rfl
theorem fO(c:AU)(k w:Nat):(FL c k w).fams.length=c.fams.length:=bm
theorem AAY(c:AU)(k w:Nat):(FL c k w).beach=c.beach:=rfl
theorem AAZ(c:AU)(k w:Nat):(FL c k w).plan=c.plan:=rfl
theorem AA0(c:AU)(k w:Nat):(FL c k w).chairs=c.chairs:=rfl
theorem AA1(c:AU)(r p:Nat):(GG c r p).beach=c.beach:=rfl
theorem AA2(c:AU)(r p:Nat):(GG c r p).plan=c.plan:=rfl
theorem AA3(c:AU)(r p:Nat):(GG c r p).fams=c.fams:=rfl
theorem sZ(c:AU)(r p:Nat):(GG c r p).chairs=c.chairs.set r ((c.chairs.getD r []).set p true):=rfl
theorem wT{c d:AU}(hT:JD c=true)(hb:d.beach=c.beach)(hp:d.plan=c.plan)(hf:d.fams.length=c.fams.length)(hc:d.chairs.length=c.chairs.length)(hr:∀l∈d.chairs,l.length<=7):JD d=true:=by have h:=G8 hT;simp only[JD,Bool.and_eq_true,dN,List.all_eq_true,Bool.not_eq_true',decide_eq_false_iff_not]at hT|-;rw[hb,hp,hf,hc];exact⟨hT.1,hT.2.1,hr⟩
theorem tA{c:AU}(hT:JD c=true)(k w:Nat):JD (FL c k w)=true:=wT hT rfl rfl (fO c k w) rfl (G8 hT).2.2.2.2.2
theorem tB{c:AU}(hT:JD c=true)(h0:DE c=0)(r p:Nat):JD (GG c r p)=true:=wT hT rfl rfl rfl (bm) fun l hl=>by have hy:=HG (WA h0 r p);have:=hy.cr l hl;have:=hy.be.pl;omega
theorem oI(a:List Bool)(p:Nat):(a.set p true).map AZ=(a.map AZ).set p [.bool true]:=by rw[List.map_set];rfl
theorem V5(a:List Bool)(p:Nat):lb (a.set p true)=.list false ((a.map AZ).set p [.bool true]):=by show V.list false _=_;rw[oI]
theorem P4(a:List Bool)(p f:Nat):(∀x:List V,x∈(a.map AZ).set p [.bool true]->∀y:V,y∈x->AG (f+1) y=true)=True:=by refine eq_true fun x hx y hy=>?_;rw[<-oI]at hx;obtain⟨b,_,rfl⟩:=List.mem_map.1 hx;simp only[AZ,List.mem_singleton]at hy;subst hy;rfl
theorem AL5{α:Type}{l:List α}(h:l.length=2):∃a b,l=[a,b]:=by
 match l,h with
 |[a,b],_=>exact⟨a,b,rfl⟩
theorem AA4{α:Type}{l:List α}(h:l.length=3):∃a b c,l=[a,b,c]:=by
 match l,h with
 |[a,b,c],_=>exact⟨a,b,c,rfl⟩
theorem fP{l:List Bool}(h:l.length<=1000):BZ ck 4 0 (l.map AZ)=true:=by rw[CC (by simp) (by simp)];simp[maxLen,AZ];omega
theorem FQ{k:Nat}{v:V}(h:k<=10000):BZ ck 97 k [[v]]=true:=by rw[CC (by simp) (by simp)];simp[maxLen];omega
set_option maxHeartbeats 4000000 in
theorem AHD(n:Nat)(c:AU)(hT:JD c=true)(h0:DE c=0)(k w:Nat)(hk:k<c.fams.length)(m:Nat)(hm:(m:Int)<c.beach.rows*c.beach.places):V0 ck [ResultVar.tmp 8] (cZ (AF ck ann kn (n+9980) 159) ((IY 3071).seq (((IY 10239).seq (Code.cond (Operand.tmp 123) ((IY 38911).seq Code.ret) Code.skip)).seq ((IY 12287).seq ((IY 24575).seq ((IY 49151).seq Code.ret))))) (LQ 1 (BT (AF ck ann kn (n+9977) 159) XL (some ([4,9,11,12,13],[4,9,11,36,97,126,127,134,135,930,931,932])) (n+9977) { c:=4,fr:=[(4,true,V.ptr 0 4 0 0),(9,true,V.ptr 0 9 1 0),(11,true,V.ptr 0 11 3 0),(12,true,i m),(13,true,i 0)],s:={ up:=[],loc:=[(4,0,AX.box (AE c)),(9,1,AX.box [i c.beach.last,i c.beach.rows,i c.beach.places,i c.beach.reach,li c.beach.face,li c.beach.sun,KC c.beach.winds,V.list false (bf AL c.beach.breaks),V.list false (bf AL c.beach.notes),KC c.plan,V.list false (bf AO c.chairs),V.vec 0 36 2 c.fams.length]),(11,3,AX.box [i c.beach.last,i c.beach.rows,i c.beach.places,i c.beach.reach,li c.beach.face,li c.beach.sun,KC c.beach.winds,V.list false (bf AL c.beach.breaks),V.list false (bf AL c.beach.notes),KC c.plan,V.nil,V.list false (bf AP c.fams)]),(36,2,AX.vec 57 ((FL c k w).fams.map AP))] } })))=some (V.bool true):=by
 have hc:=HG h0;have hro:=hc.be.ro;have hpl:=hc.be.pl;have hch:=hc.ch;have hcr:=hc.cr;obtain⟨P,hPP⟩:∃P:Nat,c.beach.places=(P:Int):=⟨c.beach.places.toNat,by omega⟩;have hP5:1<=P/\P<=5:=by omega
 have hP0:¬P=0:=by omega
 have hlx:=fO c k w;have hTx:=tA hT k w;have h0x:=jP h0 hk w;obtain⟨t1,t2,t3,t4,t5,t6⟩:=G8 hT;obtain⟨l1,l2,l3,l4,l5,l6⟩:=NL t1;have qC:=fun n=>fX n c hT;have qB:=fun n=>fW n c l4 (by omega);have qNx:=fun n=>wS n (FL c k w) c hT h0 hTx h0x hlx (oV hc hk w) (xB hc hk w);have e3:(m:Int).tdiv (P:Int)=((m / P:Nat):Int):=(Int.ofNat_tdiv _ _).symm;have e4:(m:Int).tmod (P:Int)=((m % P:Nat):Int):=(bh _ _).symm;have hm15:m<15:=by have:c.beach.rows*c.beach.places<=3*5:=bn (by omega) (by omega) (by omega) (by omega);omega
 have hdiv:(m / P:Nat)<c.chairs.length:=by
  refine Nat.div_lt_of_lt_mul ?_;have:((P*c.chairs.length:Nat):Int)=c.beach.rows*c.beach.places:=by rw[Int.natCast_mul,hch,hPP,Int.mul_comm]
  omega
 have hmod:m % P<P:=Nat.mod_lt _ (by omega);have w3:IntKind.i64.wrap ((m / P:Nat):Int)=((m / P:Nat):Int):=(fun (k:Nat) (h:k<100)=>AY (x:=(k:Int)) (by omega) (by omega)) _ (Nat.lt_trans hdiv (by omega));generalize m / P=r at *;generalize m % P=p at *;have hTy:=tB hT h0 r p;have h0y:=WA h0 r p;have hyl:(GG c r p).chairs.length<=7:=by rw[sZ,bm];exact t3
 have qCy:=fun n=>fX n (GG c r p) hTy;have qBy:=fun n=>fW n (GG c r p) l4 (by omega);have qNy:=fun n=>wS n (GG c r p) c hT h0 hTy h0y rfl (fun q h=>by obtain⟨q',g1,g2,_⟩:=YA r p q h;exact⟨q',g1,g2⟩) (xC r p);have hmo:=YA (c:=c) r p;have hlaw:¬(FU c).2.2.2=0\/(FU (GG c r p)).2.2.2=0/\((FU c).2.1<(FU (GG c r p)).2.1\/¬(FU c).2.1<(FU (GG c r p)).2.1/\(FU (GG c r p)).2.2.1<=(FU c).2.2.1):=by
  unfold FU;rw[if_neg (by simp[h0]),if_neg (by simp[h0y])];cases hO:GO c with
  |none=>exact .inl (by decide)
  |some q=>
   obtain⟨q',hX,g1,g2⟩:=hmo q hO
   rw[hX]
   refine .inr ⟨rfl,?_⟩
   by_cases hlt:q.2.sun<q'.2.sun
   ·exact .inl hlt
   ·exact .inr ⟨hlt,g2 (by omega)⟩
 generalize FU c=BC at *;generalize FU (GG c r p)=BY at *;obtain hR|hR|hR:c.chairs.length=1\/c.chairs.length=2\/c.chairs.length=3:=by omega
 ·obtain⟨a,ha⟩:=List.length_eq_one_iff.1 hR;have la:a.length=P:=by have:=hcr a (by rw[ha];simp);omega
  have ba:=fP (l:=a) (by omega);obtain rfl:r=0:=by omega
  have hap:p<a.length:=by omega
  have hpn:a[p]? = some a[p]:=bj hap;simp only[AE,HR,FA,AAY,AAZ,AA0,AA1,AA2,AA3,sZ,ha,bg,bc,bw,bx,bk,bq,AO,V5,hPP]at qC qCy qB qBy qNx qNy|-;rw[AB];simp[AE,AO,AW,BH,BJ,A0,D3,DO,DJ,FE,ba,FQ,C4,UJ 6 4 0 3 0 4 (a.map AZ),ID,IE,IF,IG,CZ,CV,CT,CO,D9,CD,DY,EI,IH,EU,FP];rw[AB];simp[AO,AW,BH,BJ,A0,D3,DO,DJ,FE,hPP,e3,e4,hP0,w3,hap,hpn,I8,KD,I9,hlx,AH,AM,AL,AZ,AP,P4,qC,qCy,qNx,qNy,qB,qBy,CH,sX,bX,AAW,fM,AAX,fN];by_cases he:BC.2.2.2=0
  ·obtain⟨hg,hb|⟨hb,hq⟩⟩:=hlaw.resolve_left fun h=>h he
   ·simp[he,hg,hb,CH]
   ·simp[he,hg,hb,hq,CH]
  ·simp[he,CH]
 ·obtain⟨a,b,ha⟩:=AL5 hR;have la:a.length=P:=by have:=hcr a (by rw[ha];simp);omega
  have ba:=fP (l:=a) (by omega);have lb:b.length=P:=by have:=hcr b (by rw[ha];simp);omega
  have bb:=fP (l:=b) (by omega);obtain rfl|rfl:r=0\/r=1:=by omega
  ·have hap:p<a.length:=by omega
   have hpn:a[p]? = some a[p]:=bj hap;simp only[AE,HR,FA,AAY,AAZ,AA0,AA1,AA2,AA3,sZ,ha,bg,bc,bw,bx,bk,bq,AO,V5,hPP]at qC qCy qB qBy qNx qNy|-;rw[AB];simp[AE,AO,AW,BH,BJ,A0,D3,DO,DJ,FE,ba,FQ,C4,UJ 6 4 0 3 0 4 (a.map AZ),ID,IE,IF,IG,CZ,CV,CT,CO,D9,CD,DY,EI,IH,EU,FP];rw[AB];simp[AE,AO,AW,BH,BJ,A0,D3,DO,DJ,FE,bb,FQ,C4,UJ 8 6 1 3 0 4 (b.map AZ),ID,IE,IF,IG,CZ,CV,CT,CO,D9,CD,DY,EI,IH,EU,FP];rw[AB];simp[AO,AW,BH,BJ,A0,D3,DO,DJ,FE,hPP,e3,e4,hP0,w3,hap,hpn,I8,KD,I9,hlx,AH,AM,AL,AZ,AP,P4,qC,qCy,qNx,qNy,qB,qBy,CH,sX,bX,AAW,fM,AAX,fN];by_cases he:BC.2.2.2=0
   ·obtain⟨hg,hb|⟨hb,hq⟩⟩:=hlaw.resolve_left fun h=>h he
    ·simp[he,hg,hb,CH]
    ·simp[he,hg,hb,hq,CH]
   ·simp[he,CH]
  ·have hap:p<b.length:=by omega
   have hpn:b[p]? = some b[p]:=bj hap;simp only[AE,HR,FA,AAY,AAZ,AA0,AA1,AA2,AA3,sZ,ha,bg,bc,bw,bx,bk,bq,AO,V5,hPP]at qC qCy qB qBy qNx qNy|-;rw[AB];simp[AE,AO,AW,BH,BJ,A0,D3,DO,DJ,FE,ba,FQ,C4,UJ 6 4 0 3 0 4 (a.map AZ),ID,IE,IF,IG,CZ,CV,CT,CO,D9,CD,DY,EI,IH,EU,FP];rw[AB];simp[AE,AO,AW,BH,BJ,A0,D3,DO,DJ,FE,bb,FQ,C4,UJ 8 6 1 3 0 4 (b.map AZ),ID,IE,IF,IG,CZ,CV,CT,CO,D9,CD,DY,EI,IH,EU,FP];rw[AB];simp[AO,AW,BH,BJ,A0,D3,DO,DJ,FE,hPP,e3,e4,hP0,w3,hap,hpn,I8,KD,I9,hlx,AH,AM,AL,AZ,AP,P4,qC,qCy,qNx,qNy,qB,qBy,CH,sX,bX,AAW,fM,AAX,fN];by_cases he:BC.2.2.2=0
   ·obtain⟨hg,hb|⟨hb,hq⟩⟩:=hlaw.resolve_left fun h=>h he
    ·simp[he,hg,hb,CH]
    ·simp[he,hg,hb,hq,CH]
   ·simp[he,CH]
 ·obtain⟨a,b,d,ha⟩:=AA4 hR;have la:a.length=P:=by have:=hcr a (by rw[ha];simp);omega
  have ba:=fP (l:=a) (by omega);have lb:b.length=P:=by have:=hcr b (by rw[ha];simp);omega
  have bb:=fP (l:=b) (by omega);have ld:d.length=P:=by have:=hcr d (by rw[ha];simp);omega
  have bd:=fP (l:=d) (by omega);obtain rfl|rfl|rfl:r=0\/r=1\/r=2:=by omega
  ·have hap:p<a.length:=by omega
   have hpn:a[p]? = some a[p]:=bj hap;simp only[AE,HR,FA,AAY,AAZ,AA0,AA1,AA2,AA3,sZ,ha,bg,bc,bw,bx,bk,bq,AO,V5,hPP]at qC qCy qB qBy qNx qNy|-;rw[AB];simp[AE,AO,AW,BH,BJ,A0,D3,DO,DJ,FE,ba,FQ,C4,UJ 6 4 0 3 0 4 (a.map AZ),ID,IE,IF,IG,CZ,CV,CT,CO,D9,CD,DY,EI,IH,EU,FP];rw[AB];simp[AE,AO,AW,BH,BJ,A0,D3,DO,DJ,FE,bb,FQ,C4,UJ 8 6 1 3 0 4 (b.map AZ),ID,IE,IF,IG,CZ,CV,CT,CO,D9,CD,DY,EI,IH,EU,FP];rw[AB];simp[AE,AO,AW,BH,BJ,A0,D3,DO,DJ,FE,bd,FQ,C4,UJ 10 8 2 3 0 4 (d.map AZ),ID,IE,IF,IG,CZ,CV,CT,CO,D9,CD,DY,EI,IH,EU,FP];rw[AB];simp[AO,AW,BH,BJ,A0,D3,DO,DJ,FE,hPP,e3,e4,hP0,w3,hap,hpn,I8,KD,I9,hlx,AH,AM,AL,AZ,AP,P4,qC,qCy,qNx,qNy,qB,qBy,CH,sX,bX,AAW,fM,AAX,fN];by_cases he:BC.2.2.2=0
   ·obtain⟨hg,hb|⟨hb,hq⟩⟩:=hlaw.resolve_left fun h=>h he
    ·simp[he,hg,hb,CH]
    ·simp[he,hg,hb,hq,CH]
   ·simp[he,CH]
  ·have hap:p<b.length:=by omega
   have hpn:b[p]? = some b[p]:=bj hap;simp only[AE,HR,FA,AAY,AAZ,AA0,AA1,AA2,AA3,sZ,ha,bg,bc,bw,bx,bk,bq,AO,V5,hPP]at qC qCy qB qBy qNx qNy|-;rw[AB];simp[AE,AO,AW,BH,BJ,A0,D3,DO,DJ,FE,ba,FQ,C4,UJ 6 4 0 3 0 4 (a.map AZ),ID,IE,IF,IG,CZ,CV,CT,CO,D9,CD,DY,EI,IH,EU,FP];rw[AB];simp[AE,AO,AW,BH,BJ,A0,D3,DO,DJ,FE,bb,FQ,C4,UJ 8 6 1 3 0 4 (b.map AZ),ID,IE,IF,IG,CZ,CV,CT,CO,D9,CD,DY,EI,IH,EU,FP];rw[AB];simp[AE,AO,AW,BH,BJ,A0,D3,DO,DJ,FE,bd,FQ,C4,UJ 10 8 2 3 0 4 (d.map AZ),ID,IE,IF,IG,CZ,CV,CT,CO,D9,CD,DY,EI,IH,EU,FP];rw[AB];simp[AO,AW,BH,BJ,A0,D3,DO,DJ,FE,hPP,e3,e4,hP0,w3,hap,hpn,I8,KD,I9,hlx,AH,AM,AL,AZ,AP,P4,qC,qCy,qNx,qNy,qB,qBy,CH,sX,bX,AAW,fM,AAX,fN];by_cases he:BC.2.2.2=0
   ·obtain⟨hg,hb|⟨hb,hq⟩⟩:=hlaw.resolve_left fun h=>h he
    ·simp[he,hg,hb,CH]
    ·simp[he,hg,hb,hq,CH]
   ·simp[he,CH]
  ·have hap:p<d.length:=by omega
   have hpn:d[p]? = some d[p]:=bj hap;simp only[AE,HR,FA,AAY,AAZ,AA0,AA1,AA2,AA3,sZ,ha,bg,bc,bw,bx,bk,bq,AO,V5,hPP]at qC qCy qB qBy qNx qNy|-;rw[AB];simp[AE,AO,AW,BH,BJ,A0,D3,DO,DJ,FE,ba,FQ,C4,UJ 6 4 0 3 0 4 (a.map AZ),ID,IE,IF,IG,CZ,CV,CT,CO,D9,CD,DY,EI,IH,EU,FP];rw[AB];simp[AE,AO,AW,BH,BJ,A0,D3,DO,DJ,FE,bb,FQ,C4,UJ 8 6 1 3 0 4 (b.map AZ),ID,IE,IF,IG,CZ,CV,CT,CO,D9,CD,DY,EI,IH,EU,FP];rw[AB];simp[AE,AO,AW,BH,BJ,A0,D3,DO,DJ,FE,bd,FQ,C4,UJ 10 8 2 3 0 4 (d.map AZ),ID,IE,IF,IG,CZ,CV,CT,CO,D9,CD,DY,EI,IH,EU,FP];rw[AB];simp[AO,AW,BH,BJ,A0,D3,DO,DJ,FE,hPP,e3,e4,hP0,w3,hap,hpn,I8,KD,I9,hlx,AH,AM,AL,AZ,AP,P4,qC,qCy,qNx,qNy,qB,qBy,CH,sX,bX,AAW,fM,AAX,fN];by_cases he:BC.2.2.2=0
   ·obtain⟨hg,hb|⟨hb,hq⟩⟩:=hlaw.resolve_left fun h=>h he
    ·simp[he,hg,hb,CH]
    ·simp[he,hg,hb,hq,CH]
   ·simp[he,CH]
set_option maxHeartbeats 4000000 in
theorem AA5(n:Nat)(c:AU)(_:okC c)(κ:Nat)(hκ:κ<=255)(μ:Nat)(_:μ<=255)(τ:Nat)(hτ:τ<=255):EZ ck (AF ck ann kn (n+9990)) 13 [.agg (AE c),.int .u8 κ,.int .u8 μ,.int .u8 τ]=some (.bool true):=by
 rw[AS Tryz.func13 b13 rfl (by simp[AE,AH,AM,AL,AO,AZ,AP])];have qr:=fun n=>AL4 n c;cases hR:jB c with
 |false=>
  rw[hR]at qr
  simp only[AE]at qr|-
  simp[c13,AD,qr,AH,AM,AL,AO,AZ,AP,CH]
 |true=>
 rw[hR]at qr;by_cases hz:c.fams.length=0
 ·have hz':c.fams=[]:=List.eq_nil_of_length_eq_zero hz;simp only[AE,hz',bc]at qr|-;simp[c13,AD,qr,AH,AM,AL,AO,AZ,AP,CH]
 ·simp only[jB,Bool.and_eq_true,decide_eq_true_eq]at hR;obtain⟨hT,h0⟩:=hR;have hc:=HG h0;have hro:=hc.be.ro;have hpl:=hc.be.pl;have hfl:=hc.fl;have a1:BZ ck 57 0 (c.fams.map AP)=true:=AAV (by omega);have wk:IntKind.i64.wrap (κ:Int)=(κ:Int):=AY (by omega) (by omega);have e2:(κ:Int).tmod ((c.fams.length:Nat):Int)=((κ % c.fams.length:Nat):Int):=(bh _ _).symm;have hk:=Nat.mod_lt κ (show 0<c.fams.length by omega);have hne:¬c.fams.map AP=[]:=by simpa using fun e:c.fams=[]=>hz (by rw[e];rfl)
  have e3:(μ:Int).tmod 3=((μ % 3:Nat):Int):=(bh _ _).symm;have hm3:μ % 3<3:=Nat.mod_lt _ (by omega);generalize κ % c.fams.length=k at *;generalize μ % 3=w at *;have hkn:c.fams[k]? = some c.fams[k]:=bj hk;simp only[AE]at qr|-;have w1:IntKind.i64.wrap (c.fams[k].good-1)=c.fams[k].good-1:=by have:=(hc.fo _ (List.getElem_mem hk)).2;exact AY (by omega) (by omega)
  have hfa:DS c k=c.fams[k]:=by unfold DS;rw[List.getD_eq_getElem?_getD,hkn,bp]
  have hfx:∀w,(FL c k w).fams.map AP=(c.fams.map AP).set k (AP (RW w c.fams[k])):=fun w=>by show(c.fams.set k (RW w (DS c k))).map AP=_;rw[hfa,List.map_set]
  have s0:(c.fams.map AP).set k [i c.fams[k].size,.int .i64 (if 1<c.fams[k].good then c.fams[k].good-1 else 0),.bool c.fams[k].dog,.bool c.fams[k].shy]=(FL c k 0).fams.map AP:=by
   rw[hfx];have:(if 1<c.fams[k].good then c.fams[k].good-1 else 0)=max 0 (c.fams[k].good-1):=by split<;>omega
   rw[this];rfl
  have s1:(c.fams.map AP).set k [i c.fams[k].size,i c.fams[k].good,.bool false,.bool c.fams[k].shy]=(FL c k 1).fams.map AP:=(hfx 1).symm;have s2:(c.fams.map AP).set k [i c.fams[k].size,i c.fams[k].good,.bool c.fams[k].dog,.bool false]=(FL c k 2).fams.map AP:=(hfx 2).symm;have wt:IntKind.i64.wrap (τ:Int)=(τ:Int):=AY (by omega) (by omega);obtain⟨M,hM⟩:∃M:Nat,c.beach.rows*c.beach.places=(M:Int):=⟨(c.beach.rows*c.beach.places).toNat,(Int.toNat_of_nonneg (Int.mul_nonneg (by omega) (by omega))).symm⟩;have hM1:1*1<=c.beach.rows*c.beach.places:=bn (by omega) (by omega) (by omega) (by omega);have hM2:c.beach.rows*c.beach.places<=3*5:=bn (by omega) (by omega) (by omega) (by omega);have wM:IntKind.i64.wrap (M:Int)=(M:Int):=AY (by omega) (by omega);have e4:(τ:Int).tmod (M:Int)=((τ % M:Nat):Int):=(bh _ _).symm;have hlt:=Nat.mod_lt τ (show 0<M by omega);generalize τ % M=m at *;have hM0:¬M=0:=by omega
  have t0:=AHD n c hT h0 k 0 hk m (by omega);have t1:=AHD n c hT h0 k 1 hk m (by omega);have t2:=AHD n c hT h0 k 2 hk m (by omega);simp only[AE]at t0 t1 t2;rcases(show w=0\/w=1\/w=2 by omega)with rfl|rfl|rfl
  ·simp[c13,AD,qr,hz,AH,AM,AL,AO,AZ,AP,CH,DJ,FE,a1,AW,BH,BJ,A0,D3,DO,jC,wk,e2,e3,hk,hkn,w1,s0,wt,hM,wM,e4,hM0];exact t0
  ·simp[c13,AD,qr,hz,AH,AM,AL,AO,AZ,AP,CH,DJ,FE,a1,AW,BH,BJ,A0,D3,DO,jC,wk,e2,e3,hk,hkn,s1,wt,hM,wM,e4,hM0];exact t1
  ·simp[c13,AD,qr,hz,AH,AM,AL,AO,AZ,AP,CH,DJ,FE,a1,AW,BH,BJ,A0,D3,DO,jC,wk,e2,e3,hk,hkn,s2,wt,hM,wM,e4,hM0];exact t2
end Go.Proofs.Tryz.Op
