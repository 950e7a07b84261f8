/- Contracts: Min of two, minimum, wider, facing, turn, the directions as an array. No condition. -/
import Derived.Test.YthhdhbalenanjaaGreatH1
import Derived.Test.YthhdhbalenanjaaGreatW4
open Go.Proofs.Tryz renaming prog->bh
open List renaming getElem?_eq_getElem->bj,getD_eq_getElem?_getD->bk,map_nil->bq,getElem_mem->bw,getElem_map->bx,ext_getElem->bz,getElem_range->bb,mem_map->bc,range->bf
set_option maxRecDepth 100000
set_option linter.unusedSimpArgs false
open Go Go.Pg Go.Proofs Go.Wind
namespace Go.Proofs.Tryz.Op
theorem AVO(a b:Int):(if b<a then b else a)=min a b:=by split<;>omega
theorem AVP(a b:Int):(if a<b then b else a)=max a b:=by split<;>omega
theorem A7S(n:Nat)(a b:Int):A5 bh kn (AE bh ann kn (n+100)) 165 [.list false [[i a],[i b]]]=some (i (min a b)):=by
 rw[AN rfl,AP Tryz.func165 BBV rfl (by simp)];have hw:IntKind.i64.wrap (1+1)=2:=by decide
 simp[A1K,AD];rw[AB];simp[AVO];rw[AB];simp
theorem AIL(n:Nat)(a b:Int):A5 bh kn (AE bh ann kn (n+200)) 198 [.list false [[i a],[i b]]]=some (i (min a b)):=by rw[AN rfl,AP Tryz.func198 BBW rfl (by simp)];have q:=fun n=>A7S n a b;simp[A1L,AD,q]
def NK(r:Int×Int):List V:=[i r.1,i r.2]
theorem AVQ(n:Nat)(r:Int×Int)(x:Int):A5 bh kn (AE bh ann kn (n+300)) 186 [.agg (NK r),i x]=some (.agg (NK (min r.1 x,max r.2 x))):=by rw[AN rfl,AP Tryz.func186 BBX rfl (by simp[NK])];have q:=fun n=>AIL n r.1 x;simp[A1M,AD,NK,q,AVP]
theorem A7T{α:Type}(l:List α)(h:l.length=3):∃x y z,l=[x,y,z]:=by
 match l,h with
 |[x,y,z],_=>exact⟨x,y,z,rfl⟩
@[simp] theorem AZU(cs:List V):OS (.ref cs)=some (.ref cs):=rfl
theorem IV(L:AA)(k γ:Nat)(r:AX):AA.put L k γ r=(k,γ,r)::L:=rfl
@[simp] theorem A7U:H0 bh 186=false:=by kernel_rfl
def D9(b:AL)(ws:List (List Int)):List V:=[i b.last,i b.rows,i b.places,i b.reach,li b.face,li b.sun,J1 b.winds,.list false (b.breaks.map AM),.list false (b.notes.map AM),J1 ws,.any,.any]
section
variable {b:AL}{ws:List (List Int)}{g0 g1 g2:Int}{h:Nat}
end
section
variable {b:AL}{ws plan:List (List Int)}
theorem YG(b:AL)(t:List Int):t∈FH b [] b.winds []↔CZ b t=true:=by rw[hH];simp only[List.nil_append,List.map_id',List.mem_filter,PR,CZ,Bool.and_eq_true,List.all_eq_true];refine and_congr_right fun _=>?_;rw[XH,List.all_eq_true]
theorem ABT(hb:Valid b):DG (E1 b):=DG.ask _ _ fun t ht=>KU hb (by
 have:=(YG b t).1 ht;simp only[CZ,Bool.and_eq_true]at this;exact this.1)
theorem WK(hb:Valid b)(hT:FH b [] b.winds []≠[]):TO b (E1 b):=AEW hb (YG b) hT
end
theorem P8{n:Int}(h:-1000<=n/\n<=1000):NJ n:=⟨by omega,by omega⟩
@[simp] theorem clI(f:Nat)(l:List Int):(l.all ((fun e=>e.all (AG (f+1)))∘AJ))=true:=by simp[AJ]
@[simp] theorem clP(f:Nat)(l:List (Int×Int)):(l.all ((fun e=>e.all (AG (f+1)))∘AM))=true:=by simp[AM]
@[simp] theorem clL(f:Nat)(l:List (List Int)):(l.all ((fun e=>e.all (AG (f+2)))∘AQ))=true:=by simp[AQ]
theorem slX{α:Type}{f:α->List V}{l:List α}(h:l≠[]):sl (l.map f)=.list false (l.map f):=by
 cases l with
 |nil=>exact absurd rfl h
 |cons x l=>rfl
theorem yC{b:AL}{plan:List (List Int)}(hb:Valid b)(hp:ON b plan){h:Nat}(hh:h<plan.length):plan[h].length<=3/\(plan[h].length:Int)=b.rows/\∀x∈plan[h],0<=x/\x<=3:=by
 have hro:=hb.ro;have e:plan.getD h []=plan[h]:=by rw[bk,bj hh];rfl
 have hr:=hp.row h hh;have hd:=hp.dir h;rw[e]at hr;refine⟨by omega,hr,fun x hx=>?_⟩;obtain⟨r,h1,rfl⟩:=List.getElem_of_mem hx;have:=hd r hh (by rw[e];exact h1);unfold EF at this;rw[e,bk,bj h1]at this;exact BU.1 this
section
variable {b:AL}{x0 x1 x2 y0 y1 y2:Int}
end
section
variable {b:AL}{plan:List (List Int)}
end
@[simp] theorem AZV:H0 bh 157=false:=by kernel_rfl
theorem AVR(n:Nat)(x:zE):A5 bh kn (AE bh ann kn (n+50)) 156 [.agg (WI x)]=some (i x.calm):=by rw[AN rfl,AP Tryz.func156 BB1 rfl (by simp[WI])];simp[A1Q,AD,WI]
theorem AVS(n:Nat)(x:zE):A5 bh kn (AE bh ann kn (n+50)) 158 [.agg (WI x)]=some (i x.good):=by rw[AN rfl,AP Tryz.func158 BB2 rfl (by simp[WI])];simp[A1R,AD,WI]
section
variable {b:AL}{ws plan:List (List Int)}{ff:FuncId}{sel:zE->Int}{s:Nat×Nat}
def H9(b:AL)(plan:List (List Int))(s:Nat×Nat)(sel:zE->Int)(h:Nat)(w:Int):Int:=sel (ofB b (s.1,s.2) h (EF plan h s.1) w)
theorem A7V(hb:Valid b)(hp:ON b plan)(hsel:∀n x,A5 bh kn (AE bh ann kn (n+50)) ff [.agg (WI x)]=some (i (sel x)))(hs1:(s.1:Int)<b.rows)(hs2:(s.2:Int)<b.places)(out:Int×Int)(h:Nat)(hh:h<plan.length)(xs:List Int)(hx:∀x∈xs,0<=x/\x<=3)(hxl:xs.length<=100)(γ:Nat):∀(d j c:Nat),j+d=xs.length->γ<c->∃c',c<=c'/\∀n k,d<k->BJ (AE bh ann kn (n+1400) 66) SU (ann 66 (B9 SU)) k ⟨c,[(1,true,.ref (D9 b ws)),(2,true,J1 plan),(4,true,.ptr 0 4 0 0),(7,true,.ptr 0 7 1 0),(8,true,.ptr 0 8 2 0),(9,true,i h),(11,true,.ptr 0 11 γ 0),(17,true,J1 ws),(18,true,i ws.length),(19,true,i h),(25,true,li xs),(26,true,i xs.length),(27,true,i j)],⟨[],[(4,0,.box [.fn ff [] []]),(7,1,.box [i s.1,i s.2]),(8,2,.box (NK out)),(11,γ,.box (NK (GB (1,0) ((xs.take j).map (H9 b plan s sel h)))))]⟩⟩ =
  some (.exit 2,⟨c',[(28,true,.bool false),(1,true,.ref (D9 b ws)),(2,true,J1 plan),(4,true,.ptr 0 4 0 0),(7,true,.ptr 0 7 1 0),(8,true,.ptr 0 8 2 0),(9,true,i h),(11,true,.ptr 0 11 γ 0),(17,true,J1 ws),(18,true,i ws.length),(19,true,i h),(25,true,li xs),(26,true,i xs.length),(27,true,i xs.length)],⟨[],[(4,0,.box [.fn ff [] []]),(7,1,.box [i s.1,i s.2]),(8,2,.box (NK out)),(11,γ,.box (NK (GB (1,0) (xs.map (H9 b plan s sel h)))))]⟩⟩)
 |0,j,c,hd,hc=>by
  have:j=xs.length:=by omega
  subst this;refine⟨c,Nat.le_refl _,fun n k hk=>?_⟩;obtain⟨k,rfl⟩:∃k',k=k'+1:=⟨k-1,by omega⟩;rw[AB,List.take_length];simp[NK]
 |d+1,j,c,hd,hc=>by
  have hj:j<xs.length:=by omega
  have hla:=hb.la;have hro:=hb.ro;have hpl:=hb.pl;have hsu:=hb.su;have hlen:=hp.len;have hwj:=BW (k:=j) (by omega);obtain⟨c',hc',ih⟩:=A7V hb hp hsel hs1 hs2 out h hh xs hx hxl γ d (j+1) (c+1) (by omega) (by omega);refine⟨c',by omega,fun n k hk=>?_⟩;obtain⟨k,rfl⟩:∃k',k=k'+1:=⟨k-1,by omega⟩;have ih:=ih n k (by omega);have hxj:=hx _ (bw hj);have e1:(xs.take (j+1)).map (H9 b plan s sel h)=(xs.take j).map (H9 b plan s sel h)++[H9 b plan s sel h xs[j]]:=by rw[List.take_succ_eq_append_getElem hj,List.map_append,List.map_cons,bq]
  have e2:GB (1,0) ((xs.take (j+1)).map (H9 b plan s sel h))=(min (GB (1,0) ((xs.take j).map (H9 b plan s sel h))).1 (H9 b plan s sel h xs[j]),max (GB (1,0) ((xs.take j).map (H9 b plan s sel h))).2 (H9 b plan s sel h xs[j])):=by rw[e1];unfold GB;rw[List.foldl_append];rfl
  rw[e2]at ih;have qw:=fun n=>AVQ n (GB (1,0) ((xs.take j).map (H9 b plan s sel h))) (H9 b plan s sel h xs[j]);obtain⟨r1,r2,r3⟩:=yC hb hp hh;have hsr:s.1<plan[h].length:=by omega
  have hpa:EF plan h s.1=plan[h][s.1]:=by unfold EF;rw[show plan.getD h []=plan[h] by rw[bk,bj hh];rfl,bk,bj hsr];rfl
  have qo:=fun n=>kOf n b hb (s.1,s.2) (by simp only;omega) h (by omega) (EF plan h s.1) xs[j] hxj;have qs:=fun n=>hsel n (ofB b (s.1,s.2) h (EF plan h s.1) xs[j]);have es:H9 b plan s sel h xs[j]=sel (ofB b (s.1,s.2) h (EF plan h s.1) xs[j]):=rfl;rw[es]at ih qw;rw[hpa]at qo qs ih qw;generalize GB (1,0) (xs.map (H9 b plan s sel h))=RR at ih|-;generalize GB (1,0) ((xs.take j).map (H9 b plan s sel h))=R at ih qw|-;generalize sel (ofB b (s.1,s.2) h plan[h][s.1] xs[j])=y at qs ih qw;generalize ofB b (s.1,s.2) h plan[h][s.1] xs[j]=O at qs qo;have hc1:γ<c+1:=by omega
  rw[AB];simp only[AC,D9,NK,AM,WI]at qo qs ih qw|-;simp at ih;simp[hj,hwj,hh,hsr,AJ,AQ,qo,qs,qw,hc1,ih]
def PJ(b:AL)(ws plan:List (List Int))(s:Nat×Nat)(sel:zE->Int)(n:Nat):Int×Int:=AKW (1,0) ws (H9 b plan s sel) n
theorem AIM{l:List Int}(h:∀x∈l,0<=x/\x<=1):0<=(GB (1,0) l).1/\(GB (1,0) l).1<=1/\0<=(GB (1,0) l).2/\(GB (1,0) l).2<=1:=by have:=vP l (1,0) 0 1 h (by simp) (by simp);simp only at this;omega
theorem A7W(hb:Valid b)(hp:ON b plan)(hsel:∀n x,A5 bh kn (AE bh ann kn (n+50)) ff [.agg (WI x)]=some (i (sel x)))(hse:∀h w,0<=H9 b plan s sel h w/\H9 b plan s sel h w<=1)(hs1:(s.1:Int)<b.rows)(hs2:(s.2:Int)<b.places)(hwl:ws.length=b.winds.length)(hok:DG ws):∀(d h c:Nat),h+d=ws.length->3<=c->∃c',3<=c'/\∀n k,d<k->BJ (AE bh ann kn (n+1600) 66) SV (ann 66 (B9 SV)) k ⟨c,[(1,true,.ref (D9 b ws)),(2,true,J1 plan),(4,true,.ptr 0 4 0 0),(7,true,.ptr 0 7 1 0),(8,true,.ptr 0 8 2 0),(17,true,J1 ws),(18,true,i ws.length),(19,true,i h)],⟨[],[(4,0,.box [.fn ff [] []]),(7,1,.box [i s.1,i s.2]),(8,2,.box (NK (PJ b ws plan s sel h)))]⟩⟩ =
  some (.exit 0,⟨c',[(20,true,.bool false),(1,true,.ref (D9 b ws)),(2,true,J1 plan),(4,true,.ptr 0 4 0 0),(7,true,.ptr 0 7 1 0),(8,true,.ptr 0 8 2 0),(17,true,J1 ws),(18,true,i ws.length),(19,true,i ws.length)],⟨[],[(4,0,.box [.fn ff [] []]),(7,1,.box [i s.1,i s.2]),(8,2,.box (NK (PJ b ws plan s sel ws.length)))]⟩⟩)
 |0,h,c,hd,hc=>by
  have:h=ws.length:=by omega
  subst this;refine⟨c,hc,fun n k hk=>?_⟩;obtain⟨k,rfl⟩:∃k',k=k'+1:=⟨k-1,by omega⟩;rw[AB];simp[NK]
 |d+1,h,c,hd,hc=>by
  have hh:h<ws.length:=by omega
  have hh5:=hb.hl;have hwi:=hb.wi;have hlen:=hp.len;have hwh:=BW (k:=h) (by omega);have hwd:ws.getD h []=ws[h]:=by rw[bk,bj hh];rfl
  have hw4:=hok.len _ (bw hh);obtain⟨c1,hc1,q⟩:=A7V (ws:=ws) hb hp hsel hs1 hs2 (PJ b ws plan s sel h) h (by omega) ws[h] (hok.lo _ (bw hh)) (by omega) c ws[h].length 0 (c+1) (by omega) (by omega);obtain⟨c',hc',ih⟩:=A7W hb hp hsel hse hs1 hs2 hwl hok d (h+1) c1 (by omega) (by omega);refine⟨c',hc',fun n k hk=>?_⟩;obtain⟨k,rfl⟩:∃k',k=k'+1:=⟨k-1,by omega⟩;have ih:=ih n k (by omega);have q:=fun n k=>q n (k+100) (by omega);have e1:PJ b ws plan s sel (h+1)=((PJ b ws plan s sel h).1+(GB (1,0) (ws[h].map (H9 b plan s sel h))).1,(PJ b ws plan s sel h).2+(GB (1,0) (ws[h].map (H9 b plan s sel h))).2):=by rw[<-hwd];rfl
  have hr:=AIM (l:=ws[h].map (H9 b plan s sel h)) fun x hx=>by obtain⟨w,_,rfl⟩:=bc.1 hx;exact hse h w
  have hb1:=gY (n:=h) (c:=1) (f:=fun h=>(GB (1,0) ((ws.getD h []).map (H9 b plan s sel h))).1) fun j _=>by
   have:=AIM (l:=(ws.getD j []).map (H9 b plan s sel j)) fun x hx=>by obtain⟨w,_,rfl⟩:=bc.1 hx;exact hse j w
   omega
  have hb2:=gY (n:=h) (c:=1) (f:=fun h=>(GB (1,0) ((ws.getD h []).map (H9 b plan s sel h))).2) fun j _=>by
   have:=AIM (l:=(ws.getD j []).map (H9 b plan s sel j)) fun x hx=>by obtain⟨w,_,rfl⟩:=bc.1 hx;exact hse j w
   omega
  change 0<=(PJ b ws plan s sel h).1/\(PJ b ws plan s sel h).1<=h*1 at hb1;change 0<=(PJ b ws plan s sel h).2/\(PJ b ws plan s sel h).2<=h*1 at hb2;rw[e1]at ih;rw[List.take_zero,bq]at q;have e0:GB (1,0) []=(1,0):=rfl;rw[e0]at q;generalize PJ b ws plan s sel ws.length=TT at ih|-;generalize PJ b ws plan s sel h=T at ih q hb1 hb2|-;generalize GB (1,0) (ws[h].map (H9 b plan s sel h))=R at ih q hr;have w1:IntKind.i64.wrap (T.1+R.1)=T.1+R.1:=AW (by omega) (by omega);have w2:IntKind.i64.wrap (T.2+R.2)=T.2+R.2:=AW (by omega) (by omega);have hc2:2<c1:=by omega
  have hcc:c<c+1:=by omega
  rw[AB];simp only[D9,NK]at q ih|-;simp at q ih;simp[hh,hwh,AQ,q,w1,w2,hc2,hcc,ih]
theorem pL(n:Nat)(hb:Valid b)(hp:ON b plan)(hsel:∀n x,A5 bh kn (AE bh ann kn (n+50)) ff [.agg (WI x)]=some (i (sel x)))(hse:∀h w,0<=H9 b plan s sel h w/\H9 b plan s sel h w<=1)(hs1:(s.1:Int)<b.rows)(hs2:(s.2:Int)<b.places)(hwl:ws.length=b.winds.length)(hok:DG ws):A5 bh kn (AE bh ann kn (n+1800)) 157 [.agg [.fn ff [] []],.ref (D9 b ws),J1 plan,.agg [i s.1,i s.2]]=some (.agg (NK (PJ b ws plan s sel ws.length))):=by
 rw[AN rfl,AP Tryz.func157 BB0 rfl (by simp[D9])];obtain⟨c',hc',q⟩:=A7W (s:=s) hb hp hsel hse hs1 hs2 hwl hok ws.length 0 3 (by omega) (Nat.le_refl _);have h5:=hb.hl;have q:=fun n k=>q n (k+150) (by omega);have e0:PJ b ws plan s sel 0=(0,0):=rfl;rw[e0]at q;generalize PJ b ws plan s sel ws.length=T at q|-;have hc2:2<c':=by omega
 simp only[D9,NK]at q|-;simp at q;simp[A1P,AD,q,hc2]
end
end Go.Proofs.Tryz.Op
namespace Go.Wind
structure pY where
 sun:Int
 calm:Int×Int
 good:Int×Int
end Go.Wind
namespace Go.Proofs.Tryz.Op
@[simp] theorem AZW(T:TypeId)(x:Operand)(k:Nat)(f:Operand->Option V):H8 bh (.oth (.field T x k)) f=[]:=rfl
@[simp] theorem AZX(f:FuncId):weakC (.fn f [] [])=.fn f [] []:=rfl
def QO(x:pY):List V:=[i x.sun,i x.calm.1,i x.calm.2,i x.good.1,i x.good.2]
section
variable {b:AL}{ws plan:List (List Int)}
def pM(b:AL)(ws plan:List (List Int))(r p:Nat):pY:=⟨LV b plan r plan.length,lJ b ws plan r p,WV b ws plan r p⟩
theorem ABU(b:AL)(plan:List (List Int))(r n:Nat):LV b plan r (n+1)=LV b plan r n+(if OM b plan r n=true then 1 else 0):=by unfold LV;simp only[rD];split<;>simp
theorem AIN(hb:Valid b)(hp:ON b plan)(r p:Nat)(hr:(r:Int)<b.rows)(hp2:(p:Int)<b.places)(A:List (List V))(γ8 γ12:Nat):∀(d h c γ:Nat) (rs:List pY),h+d=plan.length->(rs.length:Int)=b.places->rs[p]? = some ⟨LV b plan r h,(0,0),(0,0)⟩->γ<c->∀n k,d<k->BJ (AE bh ann kn (n+1400) 90) OG (ann 90 (B9 OG)) k ⟨c,[(2,true,.ptr 0 2 0 0),(3,true,.ptr 0 3 1 0),(6,true,.ref (D9 b ws)),(8,true,pv 87 γ8 A),(9,true,i r),(10,true,.vec 0 30 γ rs.length),(11,true,i p),(12,true,.ptr 0 12 γ12 0),(24,true,i b.rows),(25,true,i r),(32,true,i rs.length),(33,true,i p),(40,true,i plan.length),(41,true,i h)],⟨[],(2,0,.box (AC b))::(3,1,.box [J1 plan])::(12,γ12,.box [i r,i p])::(30,γ,.vec 209 (rs.map QO))::pl 87 γ8 204 A⟩⟩ =
  some (.exit 4,⟨c,(42,true,.bool false)::[(2,true,.ptr 0 2 0 0),(3,true,.ptr 0 3 1 0),(6,true,.ref (D9 b ws)),(8,true,pv 87 γ8 A),(9,true,i r),(10,true,.vec 0 30 γ rs.length),(11,true,i p),(12,true,.ptr 0 12 γ12 0),(24,true,i b.rows),(25,true,i r),(32,true,i rs.length),(33,true,i p),(40,true,i plan.length),(41,true,i plan.length)],⟨[],(2,0,.box (AC b))::(3,1,.box [J1 plan])::(12,γ12,.box [i r,i p])::(30,γ,.vec 209 ((rs.set p ⟨LV b plan r plan.length,(0,0),(0,0)⟩).map QO))::pl 87 γ8 204 A⟩⟩)
 |0,h,c,γ,rs,hd,hl,e,hγ,n,k+1,hk=>by
  have:h=plan.length:=by omega
  subst this;have:rs.set p ⟨LV b plan r plan.length,(0,0),(0,0)⟩=rs:=by
   have hpl:p<rs.length:=by omega
   rw[bj hpl,Option.some.injEq]at e;rw[<-e];exact List.set_getElem_self hpl
  rw[this,AB];simp
 |d+1,h,c,γ,rs,hd,hl,e,hγ,n,k+1,hk=>by
  have hh:h<plan.length:=by omega
  have hla:=hb.la;have hro:=hb.ro;have hpc:=hb.pl;have hsu:=hb.su;have hlen:=hp.len;have hwh:=BW (k:=h) (by omega);obtain⟨r1,r2,r3⟩:=yC hb hp hh;have hr2:r<plan[h].length:=by omega
  have hpa:EF plan h r=plan[h][r]:=by unfold EF;rw[show plan.getD h []=plan[h] by rw[bk,bj hh];rfl,bk,bj hr2];rfl
  have q:=fun n=>kOf n b hb (r,p) (by simp only;omega) h (by omega) (EF plan h r) 0 (by omega);rw[hpa]at q;have hpl:p<rs.length:=by omega
  have ih:=AIN hb hp r p hr hp2 A γ8 γ12 d (h+1) c γ (rs.set p ⟨LV b plan r (h+1),(0,0),(0,0)⟩) (by omega) (by simpa using hl) (by rw[List.getElem?_set_self hpl]) hγ n k (by omega);rw[List.set_set,List.length_set]at ih;rw[bj hpl,Option.some.injEq]at e;have hs:=ZK (OM b plan r) h;have hsb:0<=LV b plan r h/\LV b plan r h<=h:=by unfold LV;omega
  have hof:(ofB b (r,p) h plan[h][r] 0).sun=if OM b plan r h=true then 1 else 0:=by
   have:OM b plan r h=decide (b.sun.getD h 0=plan[h][r]):=by unfold OM;rw[hpa];congr 1;exact propext eq_comm
   rw[this];rfl
  have hst:LV b plan r (h+1)=LV b plan r h+(ofB b (r,p) h plan[h][r] 0).sun:=by rw[ABU,hof]
  have hw:IntKind.i64.wrap (LV b plan r h+(ofB b (r,p) h plan[h][r] 0).sun)=LV b plan r h+(ofB b (r,p) h plan[h][r] 0).sun:=AW (by rw[hof];split<;>omega) (by rw[hof];split<;>omega);rw[hst]at ih;generalize rs.set p ⟨LV b plan r plan.length,(0,0),(0,0)⟩=F at ih|-;generalize LV b plan r h=S at *;generalize ofB b (r,p) h plan[h][r] 0=O at *;rw[List.map_set]at ih;have heg:(rs.map QO)[p]'(by simpa using hpl)=[i S,i 0,i 0,i 0,i 0]:=by rw[bx,e];rfl
  rw[AB];simp only[AC,AM,WI,QO,D9]at q ih heg|-;simp at ih;simp[hh,hr2,hwh,AJ,AQ,q,hpl,heg,hw,hγ,JF,ih]
def MJ(b:AL)(ws plan:List (List Int))(r p:Nat):List pY:=(bf b.places.toNat).map fun j=>if j<p then pM b ws plan r j else⟨0,(0,0),(0,0)⟩
def NL(b:AL)(ws plan:List (List Int))(r:Nat):List pY:=(bf b.places.toNat).map (pM b ws plan r)
theorem cL(b:AL)(ws plan:List (List Int))(r p:Nat):(MJ b ws plan r p).length=b.places.toNat:=by simp[MJ]
theorem AIO{r p:Nat}(h:p<b.places.toNat):(MJ b ws plan r p)[p]? = some ⟨0,(0,0),(0,0)⟩:=by simp[MJ,h]
theorem AIP{r p:Nat}:(MJ b ws plan r p).set p (pM b ws plan r p)=MJ b ws plan r (p+1):=by
 apply bz (by simp[MJ]);intro j h1 h2;simp only[MJ,List.getElem_set,bx,bb];by_cases e:p=j
 ·subst e;simp
 ·rw[if_neg e];have:(j<p)=(j<p+1):=propext ⟨fun h=>by omega,fun h=>by omega⟩;simp only[this]
theorem ABV(b:AL)(ws plan:List (List Int))(r:Nat):MJ b ws plan r b.places.toNat=NL b ws plan r:=by
 apply bz (by simp[MJ,NL]);intro j h1 h2;have:j<b.places.toNat:=by simpa [MJ]using h1
 simp only[MJ,NL,bx,bb,if_pos this]
theorem ABW(b:AL)(ws plan:List (List Int))(r:Nat):MJ b ws plan r 0=List.replicate b.places.toNat ⟨0,(0,0),(0,0)⟩:=by apply bz (by simp[MJ]);intro j h1 h2;simp[MJ]
theorem AIQ(hb:Valid b)(hp:ON b plan)(hwl:ws.length=b.winds.length)(hok:DG ws)(r:Nat)(hr:(r:Int)<b.rows)(A:List (List V))(γ8 γ:Nat):∀(d p c:Nat),p+d=b.places.toNat->γ<c->∃c',γ<c'/\∀n k,d<k->BJ (AE bh ann kn (n+2000) 90) OH (ann 90 (B9 OH)) k ⟨c,[(2,true,.ptr 0 2 0 0),(3,true,.ptr 0 3 1 0),(6,true,.ref (D9 b ws)),(8,true,pv 87 γ8 A),(9,true,i r),(10,true,.vec 0 30 γ b.places.toNat),(24,true,i b.rows),(25,true,i r),(32,true,i b.places.toNat),(33,true,i p)],⟨[],(2,0,.box (AC b))::(3,1,.box [J1 plan])::(30,γ,.vec 209 ((MJ b ws plan r p).map QO))::pl 87 γ8 204 A⟩⟩ =
  some (.exit 2,⟨c',(34,true,.bool false)::[(2,true,.ptr 0 2 0 0),(3,true,.ptr 0 3 1 0),(6,true,.ref (D9 b ws)),(8,true,pv 87 γ8 A),(9,true,i r),(10,true,.vec 0 30 γ b.places.toNat),(24,true,i b.rows),(25,true,i r),(32,true,i b.places.toNat),(33,true,i b.places.toNat)],⟨[],(2,0,.box (AC b))::(3,1,.box [J1 plan])::(30,γ,.vec 209 ((NL b ws plan r).map QO))::pl 87 γ8 204 A⟩⟩)
 |0,p,c,hd,hγ=>by
  have:p=b.places.toNat:=by omega
  subst this;refine⟨c,hγ,fun n k hk=>?_⟩;obtain⟨k,rfl⟩:∃k',k=k'+1:=⟨k-1,by omega⟩;rw[ABV,AB];simp
 |d+1,p,c,hd,hγ=>by
  have hpc:=hb.pl;have hla:=hb.la;have hlen:=hp.len;have hw:=BW (k:=p) (by omega);have hp':p<b.places.toNat:=by omega
  obtain⟨c',h1,ih⟩:=AIQ hb hp hwl hok r hr A γ8 γ d (p+1) (c+3) (by omega) (by omega);have q:=AIN (ws:=ws) hb hp r p hr (by omega) A γ8 c plan.length 0 (c+1) γ (MJ b ws plan r p) (by omega) (by rw[cL];omega) (AIO hp') (by omega);rw[cL]at q;have q:=fun n m=>q n (m+100) (by omega);have qc:=fun n=>pL (ws:=ws) (ff:=156) (sel:=zE.calm) (s:=(r,p)) n hb hp AVR (fun h w=>ZH _) hr (by simp only;omega) hwl hok;have qg:=fun n=>pL (ws:=ws) (ff:=158) (sel:=zE.good) (s:=(r,p)) n hb hp AVS (fun h w=>ZH _) hr (by simp only;omega) hwl hok;have ec:PJ b ws plan (r,p) zE.calm ws.length=lJ b ws plan r p:=rfl;have eg:PJ b ws plan (r,p) zE.good ws.length=WV b ws plan r p:=rfl;rw[ec]at qc;rw[eg]at qg;have hst:((MJ b ws plan r p).set p ⟨LV b plan r plan.length,(0,0),(0,0)⟩).set p (pM b ws plan r p)=MJ b ws plan r (p+1):=by rw[List.set_set,AIP]
  have hl:=cL b ws plan r p;have hbp:QO (pM b ws plan r p)=[i (LV b plan r plan.length),i (lJ b ws plan r p).1,i (lJ b ws plan r p).2,i (WV b ws plan r p).1,i (WV b ws plan r p).2]:=rfl;rw[<-hst,List.map_set,hbp]at ih;generalize MJ b ws plan r p=R0 at q ih hl|-;generalize pM b ws plan r p=BP at *;generalize lJ b ws plan r p=C at *;generalize WV b ws plan r p=G at *;generalize NL b ws plan r=RR at ih|-;generalize LV b plan r plan.length=S at *;generalize b.places.toNat=PP at hp' hl ih q|-;have hpl:p<R0.length:=by omega
  have heg:((R0.set p ⟨S,(0,0),(0,0)⟩).map QO)[p]? = some [i S,i 0,i 0,i 0,i 0]:=by simp[QO,hpl]
  have hle:PP<=R0.length:=by omega
  refine⟨c',h1,fun n k hk=>?_⟩;obtain⟨k,rfl⟩:∃k',k=k'+1:=⟨k-1,by omega⟩;have ih:=ih n k (by omega);rw[AB];generalize hRR:R0.set p ⟨S,(0,0),(0,0)⟩=R1 at *;have hl1:R1.length=PP:=by rw[<-hRR];simpa using hl
  have hpl1:p<R1.length:=by omega
  rw[bj (by simpa using hpl1),Option.some.injEq]at heg;simp only[AC,D9,NK]at q qc qg ih|-;simp at q ih;simp[hp',hw,q,qc,qg,heg,JF,JG,GS,DV,CE,CH,show Nat.beq 2 1=false from rfl,hl1,show γ<c+1+1+1 by omega,ih]
def EY(b:AL)(ws plan:List (List Int))(n:Nat):List (List pY):=(bf n).map (NL b ws plan)
theorem uL(b:AL)(ws plan:List (List Int))(n:Nat):EY b ws plan (n+1)=EY b ws plan n++[NL b ws plan n]:=by simp[EY,List.range_succ]
def H4(l:List pY):List V:=[.list false (l.map QO)]
theorem A7X{k:Nat}{x:List pY}(h:k<=10000):BV bh 204 k [H4 x]=true:=by rw[BS (by simp) (by simp)];simp[maxLen,H4];omega
theorem AP9(hb:Valid b)(hp:ON b plan)(hwl:ws.length=b.winds.length)(hok:DG ws):∀(d r c γ8:Nat),r+d=b.rows.toNat->1<c->∃fr c' γ',BD fr 8=some (true,pv 87 γ' ((EY b ws plan b.rows.toNat).map H4))/\∀n k,d<k->BJ (AE bh ann kn (n+2200) 90) SW (ann 90 (B9 SW)) k ⟨c,[(2,true,.ptr 0 2 0 0),(3,true,.ptr 0 3 1 0),(6,true,.ref (D9 b ws)),(8,true,pv 87 γ8 ((EY b ws plan r).map H4)),(24,true,i b.rows),(25,true,i r)],⟨[],(2,0,.box (AC b))::(3,1,.box [J1 plan])::pl 87 γ8 204 ((EY b ws plan r).map H4)⟩⟩ =
  some (.exit 0,⟨c',fr,⟨[],(2,0,.box (AC b))::(3,1,.box [J1 plan])::pl 87 γ' 204 ((EY b ws plan b.rows.toNat).map H4)⟩⟩)
 |0,r,c,γ8,hd,hc=>by
  have hr:r=b.rows.toNat:=by omega
  have hro:=hb.ro;have hr':b.rows=(r:Int):=by omega
  rw[<-hr];refine⟨?fr,c,γ8,?g1,fun n k hk=>?g2⟩;case g2=>
   obtain⟨k,rfl⟩:∃k',k=k'+1:=⟨k-1,by omega⟩
   rw[AB]
   simp[AC,hr']
   rfl
  case g1=>simp
 |d+1,r,c,γ8,hd,hc=>by
  have hro:=hb.ro;have hpc:=hb.pl;have hw:=BW (k:=r) (by omega);have hr':(r:Int)<b.rows:=by omega
  obtain⟨c1,h1,q⟩:=AIQ (ws:=ws) hb hp hwl hok r hr' ((EY b ws plan r).map H4) γ8 c b.places.toNat 0 (c+1) (by omega) (by omega);have q:=fun n m=>q n (m+100) (by omega);obtain⟨fr,c',γ',e1,ih⟩:=AP9 hb hp hwl hok d (r+1) (c1+1) c1 (by omega) (by omega);have happ:=A7X (k:=(EY b ws plan r).length) (x:=NL b ws plan r) (by simp[EY];omega);rw[ABW]at q;rw[uL]at ih;refine⟨fr,c',γ',e1,fun n k hk=>?_⟩;obtain⟨k,rfl⟩:∃k',k=k'+1:=⟨k-1,by omega⟩;have ih:=ih n k (by omega);generalize EY b ws plan b.rows.toNat=FF at ih|-;have hRl:(NL b ws plan r).length=b.places.toNat:=by simp[NL]
  generalize NL b ws plan r=RR at ih q happ hRl;obtain⟨PP,hPP⟩:∃P:Nat,b.places=P:=⟨b.places.toNat,by omega⟩;have hP2:b.places.toNat=PP:=by omega
  rw[hP2]at q hRl;subst hRl;rw[AB];simp only[AC,D9,hPP]at q ih|-;simp[H4]at ih q happ;simp[QO]at q;have m1:RR.length*40<=140737488355328:=by omega
  have m2:RR.length<=maxLen:=by simp[maxLen];omega
  have htl:∀o,GH 0 30 o (pl 87 γ8 204 ((EY b ws plan r).map H4))=pl 87 γ8 204 ((EY b ws plan r).map H4):=fun o=>AA8 (by decide) _ _ _ (by simp[H4,QO]);simp[hr',hw,H4,q,ih,happ,m1,m2,htl]
def lvB(b:AL)(plan:List (List Int)):AA:=[(2,0,.box (AC b)),(3,1,.box [J1 plan])]
theorem uM(hb:Valid b)(plan:List (List Int)):gW b (lvB b plan) 155 [.ptr 0 2 0 0,.ptr 0 3 1 0] 2 (CP b plan):=by intro n d fr;rw[A3 Tryz.func155 b155 rfl (by simp)];have q:=fun n=>AM6 n b hb plan;generalize CP b plan=z at q|-;simp only[AC,lvB]at q|-;simp[A1S,AD,q]
def H5(b:AL)(plan:List (List Int)):List (List pY)×Int:=if DH b=0 then(if CP b plan=true then(if (FH b [] b.winds []).isEmpty=true then([],11) else(EY b (E1 b) plan b.rows.toNat,0)) else([],2)) else([],DH b)
theorem pN(n:Nat)(b:AL)(h40:∀l∈b.winds,l.length<=40)(plan:List (List Int)):A5 bh kn (AE bh ann kn (n+6200)) 117 [.agg (AC b),J1 plan]=some (.tup [sl ((H5 b plan).1.map H4),i (H5 b plan).2]):=by
 rw[AN rfl,AP Tryz.func117 BB3 rfl (by simp[AC])];have hB:∀t:St,1<=t.up.length->AH t (lvB b plan)=lvB b plan:=fun t ht=>by simp[lvB,AC]
 have slnil:sl ([]:List (List V))=.nil:=rfl;unfold H5;by_cases h:DH b=0
 ·have hb:=TQ h;have hf:=uM hb plan;rw[if_pos h];cases hz:CP b plan with
  |false=>
   rw[hz]at hf
   rw[if_neg (by decide)]
   have q:=fun n=>qX (ff:=155) (cap:=[.ptr 0 2 0 0,.ptr 0 3 1 0]) hb hB (by simp) (by simp) 2 17 hf [(16,true,.fn 155 [] [.ptr 0 2 0 0,.ptr 0 3 1 0]),(15,true,.agg (AC b)),(2,true,.ptr 0 2 0 0),(3,true,.ptr 0 3 1 0)] (n+190)
   simp only[AC,lvB,bq,slnil]at q|-
   simp[ADQ,AD,q]
  |true=>
   rw[hz]at hf
   rw[if_pos rfl]
   by_cases hT:FH b [] b.winds []=[]
   ·obtain⟨c',hc',q⟩:=qZ (ff:=155) (cap:=[.ptr 0 2 0 0,.ptr 0 3 1 0]) hb hB (by simp) (by simp) 2 17 hf hT [(16,true,.fn 155 [] [.ptr 0 2 0 0,.ptr 0 3 1 0]),(15,true,.agg (AC b)),(2,true,.ptr 0 2 0 0),(3,true,.ptr 0 3 1 0)];rw[if_pos (by rw[hT];rfl)];have q:=fun n=>q (n+190);simp only[AC,lvB,bq,slnil]at q|-;simp[ADQ,AD,q]
   ·obtain⟨c',hc',q⟩:=AES (ff:=155) (cap:=[.ptr 0 2 0 0,.ptr 0 3 1 0]) hb hB (by simp) (by simp) 2 17 hf hT [(16,true,.fn 155 [] [.ptr 0 2 0 0,.ptr 0 3 1 0]),(15,true,.agg (AC b)),(2,true,.ptr 0 2 0 0),(3,true,.ptr 0 3 1 0)];rw[if_neg (by simpa using hT)];have q:=fun n=>q (n+190);have hro:=hb.ro;obtain⟨fr,c2,γ',e1,q6⟩:=AP9 (ws:=E1 b) hb (AKX hz) (lG _ _) (ABT hb) b.rows.toNat 0 c' 0 (by omega) (by omega);have q6:=fun n k=>q6 n (k+100) (by omega);have e0:EY b (E1 b) plan 0=[]:=rfl;rw[e0]at q6;generalize EY b (E1 b) plan b.rows.toNat=FF at *;simp only[AC,D9,lvB,List.cons_append,List.nil_append]at q q6|-;simp at q q6;simp[ADQ,AD,q,q6,e1];simp[H4,QO]
 ·rw[if_neg h];have q:=fun n=>lC (ff:=155) (cap:=[.ptr 0 2 0 0,.ptr 0 3 1 0]) h40 hB (by simp) h 2 17 [(16,true,.fn 155 [] [.ptr 0 2 0 0,.ptr 0 3 1 0]),(15,true,.agg (AC b)),(2,true,.ptr 0 2 0 0),(3,true,.ptr 0 3 1 0)] (n+190);simp only[AC,lvB,bq,slnil]at q|-;simp[ADQ,AD,q,h]
end
end Go.Proofs.Tryz.Op
