/- Contracts: Min of two, minimum, wider, facing, turn, the directions as an array. No condition. -/
import Derived.Test.YthhdhbalenanjaaGreatH1
import Derived.Test.YthhdhbalenanjaaGreatW4
open Go.Proofs.Tryz renaming prog->bh
open List renaming getElem?_eq_getElem->bj,getD_eq_getElem?_getD->bk,map_nil->bq,getElem_mem->bw,getElem_map->bx,ext_getElem->bz,getElem_range->bb,mem_map->bc,range->bf
set_option maxRecDepth 100000
set_option linter.unusedSimpArgs false
open Go Go.Pg Go.Proofs Go.Wind
namespace Go.Proofs.Tryz.Op
theorem AKY(a b:Int):(if b<a then b else a)=min a b:=by split<;>omega
theorem AKZ(a b:Int):(if a<b then b else a)=max a b:=by split<;>omega
theorem BDW(n:Nat)(a b:Int):A3 bh kn (AE bh ann kn (n+100)) 165 [.list false [[i a],[i b]]]=some (i (min a b)):=by
 rw[AP rfl,AQ Tryz.func165 BH5 rfl (by simp)];have hw:IntKind.i64.wrap (1+1)=2:=by decide
 simp[A6Z,AF];rw[AB];simp[hw,AKY];rw[AB];simp
theorem AK0(n:Nat)(a b:Int):A3 bh kn (AE bh ann kn (n+200)) 198 [.list false [[i a],[i b]]]=some (i (min a b)):=by rw[AP rfl,AQ Tryz.func198 BH6 rfl (by simp)];have q:=fun n=>BDW n a b;simp[A60,AF,q]
def F3(r:Int×Int):List V:=[i r.1,i r.2]
theorem AZQ(n:Nat)(r:Int×Int)(x:Int):A3 bh kn (AE bh ann kn (n+300)) 186 [.agg (F3 r),i x]=some (.agg (F3 (min r.1 x,max r.2 x))):=by rw[AP rfl,AQ Tryz.func186 BH7 rfl (by simp[F3])];have q:=fun n=>AK0 n r.1 x;simp[A61,AF,F3,q,AKZ]
theorem BDX{α:Type}(l:List α)(h:l.length=3):∃x y z,l=[x,y,z]:=by
 match l,h with
 |[x,y,z],_=>exact⟨x,y,z,rfl⟩
@[simp] theorem A4T(cs:List V):OB (.ref cs)=some (.ref cs):=rfl
theorem A0(L:AA)(k γ:Nat)(r:AZ):AA.put L k γ r=(k,γ,r)::L:=rfl
@[simp] theorem BDY:GV bh 186=false:=by kernel_rfl
def EM(b:AM)(ws:List (List Int)):List V:=[i b.last,i b.rows,i b.places,i b.reach,li b.face,li b.sun,HU b.winds,.list false (b.breaks.map AJ),.list false (b.notes.map AJ),HU ws,.any,.any]
section
variable {b:AM}{ws:List (List Int)}{g0 g1 g2:Int}{h:Nat}
end
section
variable {b:AM}{ws plan:List (List Int)}
theorem ZQ(b:AM)(t:List Int):t∈FW b [] b.winds []↔DF b t=true:=by rw[kK];simp only[List.nil_append,List.map_id',List.mem_filter,QK,DF,Bool.and_eq_true,List.all_eq_true];refine and_congr_right fun _=>?_;rw[YW,List.all_eq_true]
theorem AD6(hb:Valid b):DO (FL b):=DO.ask _ _ fun t ht=>LN hb (by
 have:=(ZQ b t).1 ht;simp only[DF,Bool.and_eq_true]at this;exact this.1)
theorem XV(hb:Valid b)(hT:FW b [] b.winds []≠[]):UZ b (FL b):=AG5 hb (ZQ b) hT
end
theorem Q2{n:Int}(h:-1000<=n/\n<=1000):LG n:=⟨by omega,by omega⟩
@[simp] theorem clI(f:Nat)(l:List Int):(l.all ((fun e=>e.all (AG (f+1)))∘AH))=true:=by simp[AH]
@[simp] theorem clP(f:Nat)(l:List (Int×Int)):(l.all ((fun e=>e.all (AG (f+1)))∘AJ))=true:=by simp[AJ]
@[simp] theorem clL(f:Nat)(l:List (List Int)):(l.all ((fun e=>e.all (AG (f+2)))∘AN))=true:=by simp[AN,AH]
theorem slX{α:Type}{f:α->List V}{l:List α}(h:l≠[]):sl (l.map f)=.list false (l.map f):=by
 cases l with
 |nil=>exact absurd rfl h
 |cons x l=>rfl
theorem AA2{b:AM}{plan:List (List Int)}(hb:Valid b)(hp:FV b plan){h:Nat}(hh:h<plan.length):plan[h].length<=3/\(plan[h].length:Int)=b.rows/\∀x∈plan[h],0<=x/\x<=3:=by
 have hro:=hb.ro;have e:plan.getD h []=plan[h]:=by rw[bk,bj hh];rfl
 have hr:=hp.row h hh;have hd:=hp.dir h;rw[e]at hr;refine⟨by omega,hr,fun x hx=>?_⟩;obtain⟨r,h1,rfl⟩:=List.getElem_of_mem hx;have:=hd r hh (by rw[e];exact h1);unfold C8 at this;rw[e,bk,bj h1]at this;exact DU.1 this
section
variable {b:AM}{x0 x1 x2 y0 y1 y2:Int}
end
section
variable {b:AM}{plan:List (List Int)}
end
@[simp] theorem A4V:GV bh 157=false:=by kernel_rfl
theorem AZR(n:Nat)(x:fN):A3 bh kn (AE bh ann kn (n+50)) 156 [.agg (GH x)]=some (i x.calm):=by rw[AP rfl,AQ Tryz.func156 BIB rfl (by simp[GH])];simp[A65,AF,GH]
theorem AZS(n:Nat)(x:fN):A3 bh kn (AE bh ann kn (n+50)) 158 [.agg (GH x)]=some (i x.good):=by rw[AP rfl,AQ Tryz.func158 BIC rfl (by simp[GH])];simp[A66,AF,GH]
section
variable {b:AM}{ws plan:List (List Int)}{ff:FuncId}{sel:fN->Int}{s:Nat×Nat}
def IP(b:AM)(plan:List (List Int))(s:Nat×Nat)(sel:fN->Int)(h:Nat)(w:Int):Int:=sel (ofB b (s.1,s.2) h (C8 plan h s.1) w)
theorem BDZ(hb:Valid b)(hp:FV b plan)(hsel:∀n x,A3 bh kn (AE bh ann kn (n+50)) ff [.agg (GH x)]=some (i (sel x)))(hs1:(s.1:Int)<b.rows)(hs2:(s.2:Int)<b.places)(out:Int×Int)(h:Nat)(hh:h<plan.length)(xs:List Int)(hx:∀x∈xs,0<=x/\x<=3)(hxl:xs.length<=100)(γ:Nat):∀(d j c:Nat),j+d=xs.length->γ<c->∃c',c<=c'/\∀n k,d<k->BI (AE bh ann kn (n+1400) 66) T8 (ann 66 (BZ T8)) k ⟨c,[(1,true,.ref (EM b ws)),(2,true,HU plan),(4,true,.ptr 0 4 0 0),(7,true,.ptr 0 7 1 0),(8,true,.ptr 0 8 2 0),(9,true,i h),(11,true,.ptr 0 11 γ 0),(17,true,HU ws),(18,true,i ws.length),(19,true,i h),(25,true,li xs),(26,true,i xs.length),(27,true,i j)],⟨[],[(4,0,.box [.fn ff [] []]),(7,1,.box [i s.1,i s.2]),(8,2,.box (F3 out)),(11,γ,.box (F3 (DP (1,0) ((xs.take j).map (IP b plan s sel h)))))]⟩⟩ =
  some (.exit 2,⟨c',[(28,true,.bool false),(1,true,.ref (EM b ws)),(2,true,HU plan),(4,true,.ptr 0 4 0 0),(7,true,.ptr 0 7 1 0),(8,true,.ptr 0 8 2 0),(9,true,i h),(11,true,.ptr 0 11 γ 0),(17,true,HU ws),(18,true,i ws.length),(19,true,i h),(25,true,li xs),(26,true,i xs.length),(27,true,i xs.length)],⟨[],[(4,0,.box [.fn ff [] []]),(7,1,.box [i s.1,i s.2]),(8,2,.box (F3 out)),(11,γ,.box (F3 (DP (1,0) (xs.map (IP b plan s sel h)))))]⟩⟩)
 |0,j,c,hd,hc=>by
  have:j=xs.length:=by omega
  subst this;refine⟨c,Nat.le_refl _,fun n k hk=>?_⟩;obtain⟨k,rfl⟩:∃k',k=k'+1:=⟨k-1,by omega⟩;rw[AB,List.take_length];simp[F3]
 |d+1,j,c,hd,hc=>by
  have hj:j<xs.length:=by omega
  have hla:=hb.la;have hro:=hb.ro;have hpl:=hb.pl;have hsu:=hb.su;have hlen:=hp.len;have hwj:=BS (k:=j) (by omega);obtain⟨c',hc',ih⟩:=BDZ hb hp hsel hs1 hs2 out h hh xs hx hxl γ d (j+1) (c+1) (by omega) (by omega);refine⟨c',by omega,fun n k hk=>?_⟩;obtain⟨k,rfl⟩:∃k',k=k'+1:=⟨k-1,by omega⟩;have ih:=ih n k (by omega);have hxj:=hx _ (bw hj);have e1:(xs.take (j+1)).map (IP b plan s sel h)=(xs.take j).map (IP b plan s sel h)++[IP b plan s sel h xs[j]]:=by rw[List.take_succ_eq_append_getElem hj,List.map_append,List.map_cons,bq]
  have e2:DP (1,0) ((xs.take (j+1)).map (IP b plan s sel h))=(min (DP (1,0) ((xs.take j).map (IP b plan s sel h))).1 (IP b plan s sel h xs[j]),max (DP (1,0) ((xs.take j).map (IP b plan s sel h))).2 (IP b plan s sel h xs[j])):=by rw[e1];unfold DP;rw[List.foldl_append];rfl
  rw[e2]at ih;have qw:=fun n=>AZQ n (DP (1,0) ((xs.take j).map (IP b plan s sel h))) (IP b plan s sel h xs[j]);obtain⟨r1,r2,r3⟩:=AA2 hb hp hh;have hsr:s.1<plan[h].length:=by omega
  have hpa:C8 plan h s.1=plan[h][s.1]:=by unfold C8;rw[show plan.getD h []=plan[h] by rw[bk,bj hh];rfl,bk,bj hsr];rfl
  have qo:=fun n=>kOf n b hb (s.1,s.2) (by simp only;omega) h (by omega) (C8 plan h s.1) xs[j] hxj;have qs:=fun n=>hsel n (ofB b (s.1,s.2) h (C8 plan h s.1) xs[j]);have es:IP b plan s sel h xs[j]=sel (ofB b (s.1,s.2) h (C8 plan h s.1) xs[j]):=rfl;rw[es]at ih qw;rw[hpa]at qo qs ih qw;generalize DP (1,0) (xs.map (IP b plan s sel h))=RR at ih|-;generalize DP (1,0) ((xs.take j).map (IP b plan s sel h))=R at ih qw|-;generalize sel (ofB b (s.1,s.2) h plan[h][s.1] xs[j])=y at qs ih qw;generalize ofB b (s.1,s.2) h plan[h][s.1] xs[j]=O at qs qo;have hc1:γ<c+1:=by omega
  rw[AB];simp only[AC,EM,F3,AJ,GH]at qo qs ih qw|-;simp at ih;simp[hj,hwj,hh,hsr,AH,AN,AJ,qo,qs,qw,hc1,A0,ih]
def P8(b:AM)(ws plan:List (List Int))(s:Nat×Nat)(sel:fN->Int)(n:Nat):Int×Int:=ANA (1,0) ws (IP b plan s sel) n
theorem AK1{l:List Int}(h:∀x∈l,0<=x/\x<=1):0<=(DP (1,0) l).1/\(DP (1,0) l).1<=1/\0<=(DP (1,0) l).2/\(DP (1,0) l).2<=1:=by have:=yC l (1,0) 0 1 h (by simp) (by simp);simp only at this;omega
theorem BD0(hb:Valid b)(hp:FV b plan)(hsel:∀n x,A3 bh kn (AE bh ann kn (n+50)) ff [.agg (GH x)]=some (i (sel x)))(hse:∀h w,0<=IP b plan s sel h w/\IP b plan s sel h w<=1)(hs1:(s.1:Int)<b.rows)(hs2:(s.2:Int)<b.places)(hwl:ws.length=b.winds.length)(hok:DO ws):∀(d h c:Nat),h+d=ws.length->3<=c->∃c',3<=c'/\∀n k,d<k->BI (AE bh ann kn (n+1600) 66) T9 (ann 66 (BZ T9)) k ⟨c,[(1,true,.ref (EM b ws)),(2,true,HU plan),(4,true,.ptr 0 4 0 0),(7,true,.ptr 0 7 1 0),(8,true,.ptr 0 8 2 0),(17,true,HU ws),(18,true,i ws.length),(19,true,i h)],⟨[],[(4,0,.box [.fn ff [] []]),(7,1,.box [i s.1,i s.2]),(8,2,.box (F3 (P8 b ws plan s sel h)))]⟩⟩ =
  some (.exit 0,⟨c',[(20,true,.bool false),(1,true,.ref (EM b ws)),(2,true,HU plan),(4,true,.ptr 0 4 0 0),(7,true,.ptr 0 7 1 0),(8,true,.ptr 0 8 2 0),(17,true,HU ws),(18,true,i ws.length),(19,true,i ws.length)],⟨[],[(4,0,.box [.fn ff [] []]),(7,1,.box [i s.1,i s.2]),(8,2,.box (F3 (P8 b ws plan s sel ws.length)))]⟩⟩)
 |0,h,c,hd,hc=>by
  have:h=ws.length:=by omega
  subst this;refine⟨c,hc,fun n k hk=>?_⟩;obtain⟨k,rfl⟩:∃k',k=k'+1:=⟨k-1,by omega⟩;rw[AB];simp[F3]
 |d+1,h,c,hd,hc=>by
  have hh:h<ws.length:=by omega
  have hh5:=hb.hl;have hwi:=hb.wi;have hlen:=hp.len;have hwh:=BS (k:=h) (by omega);have hwd:ws.getD h []=ws[h]:=by rw[bk,bj hh];rfl
  have hw4:=hok.len _ (bw hh);obtain⟨c1,hc1,q⟩:=BDZ (ws:=ws) hb hp hsel hs1 hs2 (P8 b ws plan s sel h) h (by omega) ws[h] (hok.lo _ (bw hh)) (by omega) c ws[h].length 0 (c+1) (by omega) (by omega);obtain⟨c',hc',ih⟩:=BD0 hb hp hsel hse hs1 hs2 hwl hok d (h+1) c1 (by omega) (by omega);refine⟨c',hc',fun n k hk=>?_⟩;obtain⟨k,rfl⟩:∃k',k=k'+1:=⟨k-1,by omega⟩;have ih:=ih n k (by omega);have q:=fun n k=>q n (k+100) (by omega);have e1:P8 b ws plan s sel (h+1)=((P8 b ws plan s sel h).1+(DP (1,0) (ws[h].map (IP b plan s sel h))).1,(P8 b ws plan s sel h).2+(DP (1,0) (ws[h].map (IP b plan s sel h))).2):=by rw[<-hwd];rfl
  have hr:=AK1 (l:=ws[h].map (IP b plan s sel h)) fun x hx=>by obtain⟨w,_,rfl⟩:=bc.1 hx;exact hse h w
  have hb1:=UY (n:=h) (c:=1) (f:=fun h=>(DP (1,0) ((ws.getD h []).map (IP b plan s sel h))).1) fun j _=>by
   have:=AK1 (l:=(ws.getD j []).map (IP b plan s sel j)) fun x hx=>by obtain⟨w,_,rfl⟩:=bc.1 hx;exact hse j w
   omega
  have hb2:=UY (n:=h) (c:=1) (f:=fun h=>(DP (1,0) ((ws.getD h []).map (IP b plan s sel h))).2) fun j _=>by
   have:=AK1 (l:=(ws.getD j []).map (IP b plan s sel j)) fun x hx=>by obtain⟨w,_,rfl⟩:=bc.1 hx;exact hse j w
   omega
  change 0<=(P8 b ws plan s sel h).1/\(P8 b ws plan s sel h).1<=h*1 at hb1;change 0<=(P8 b ws plan s sel h).2/\(P8 b ws plan s sel h).2<=h*1 at hb2;rw[e1]at ih;rw[List.take_zero,bq]at q;have e0:DP (1,0) []=(1,0):=rfl;rw[e0]at q;generalize P8 b ws plan s sel ws.length=TT at ih|-;generalize P8 b ws plan s sel h=T at ih q hb1 hb2|-;generalize DP (1,0) (ws[h].map (IP b plan s sel h))=R at ih q hr;have w1:IntKind.i64.wrap (T.1+R.1)=T.1+R.1:=AV (by omega) (by omega);have w2:IntKind.i64.wrap (T.2+R.2)=T.2+R.2:=AV (by omega) (by omega);have hc2:2<c1:=by omega
  have hcc:c<c+1:=by omega
  rw[AB];simp only[EM,F3]at q ih|-;simp at q ih;simp[hh,hwh,AH,AN,q,w1,w2,hc2,hcc,A0,ih]
theorem sO(n:Nat)(hb:Valid b)(hp:FV b plan)(hsel:∀n x,A3 bh kn (AE bh ann kn (n+50)) ff [.agg (GH x)]=some (i (sel x)))(hse:∀h w,0<=IP b plan s sel h w/\IP b plan s sel h w<=1)(hs1:(s.1:Int)<b.rows)(hs2:(s.2:Int)<b.places)(hwl:ws.length=b.winds.length)(hok:DO ws):A3 bh kn (AE bh ann kn (n+1800)) 157 [.agg [.fn ff [] []],.ref (EM b ws),HU plan,.agg [i s.1,i s.2]]=some (.agg (F3 (P8 b ws plan s sel ws.length))):=by
 rw[AP rfl,AQ Tryz.func157 BIA rfl (by simp[EM,AH,AN,AJ])];obtain⟨c',hc',q⟩:=BD0 (s:=s) hb hp hsel hse hs1 hs2 hwl hok ws.length 0 3 (by omega) (Nat.le_refl _);have h5:=hb.hl;have q:=fun n k=>q n (k+150) (by omega);have e0:P8 b ws plan s sel 0=(0,0):=rfl;rw[e0]at q;generalize P8 b ws plan s sel ws.length=T at q|-;have hc2:2<c':=by omega
 simp only[EM,F3]at q|-;simp at q;simp[A64,AF,AN,q,hc2,A0]
end
end Go.Proofs.Tryz.Op
namespace Go.Wind
structure tE where
 sun:Int
 calm:Int×Int
 good:Int×Int
end Go.Wind
namespace Go.Proofs.Tryz.Op
@[simp] theorem A4W(T:TypeId)(x:Operand)(k:Nat)(f:Operand->Option V):II bh (.oth (.field T x k)) f=[]:=rfl
@[simp] theorem A4X(f:FuncId):weakC (.fn f [] [])=.fn f [] []:=rfl
@[simp] theorem A4Y(f:FuncId):weakM (.fn f [] [])=.fn f [] []:=rfl
@[simp] theorem AZT(k:Nat)(f:FuncId):AG (k+1) (.fn f [] [])=true:=rfl
def P9(x:tE):List V:=[i x.sun,i x.calm.1,i x.calm.2,i x.good.1,i x.good.2]
section
variable {b:AM}{ws plan:List (List Int)}
def sP(b:AM)(ws plan:List (List Int))(r p:Nat):tE:=⟨MR b plan r plan.length,nZ b ws plan r p,YA b ws plan r p⟩
theorem AD7(b:AM)(plan:List (List Int))(r n:Nat):MR b plan r (n+1)=MR b plan r n+(if NC b plan r n=true then 1 else 0):=by unfold MR;simp only[mS];split<;>simp
theorem AK2(hb:Valid b)(hp:FV b plan)(r p:Nat)(hr:(r:Int)<b.rows)(hp2:(p:Int)<b.places)(A:List (List V))(γ8 γ12:Nat):∀(d h c γ:Nat) (rs:List tE),h+d=plan.length->(rs.length:Int)=b.places->rs[p]? = some ⟨MR b plan r h,(0,0),(0,0)⟩->γ<c->∀n k,d<k->BI (AE bh ann kn (n+1400) 90) O6 (ann 90 (BZ O6)) k ⟨c,[(2,true,.ptr 0 2 0 0),(3,true,.ptr 0 3 1 0),(6,true,.ref (EM b ws)),(8,true,pv 87 γ8 A),(9,true,i r),(10,true,.vec 0 30 γ rs.length),(11,true,i p),(12,true,.ptr 0 12 γ12 0),(24,true,i b.rows),(25,true,i r),(32,true,i rs.length),(33,true,i p),(40,true,i plan.length),(41,true,i h)],⟨[],(2,0,.box (AC b))::(3,1,.box [HU plan])::(12,γ12,.box [i r,i p])::(30,γ,.vec 209 (rs.map P9))::pl 87 γ8 204 A⟩⟩ =
  some (.exit 4,⟨c,(42,true,.bool false)::[(2,true,.ptr 0 2 0 0),(3,true,.ptr 0 3 1 0),(6,true,.ref (EM b ws)),(8,true,pv 87 γ8 A),(9,true,i r),(10,true,.vec 0 30 γ rs.length),(11,true,i p),(12,true,.ptr 0 12 γ12 0),(24,true,i b.rows),(25,true,i r),(32,true,i rs.length),(33,true,i p),(40,true,i plan.length),(41,true,i plan.length)],⟨[],(2,0,.box (AC b))::(3,1,.box [HU plan])::(12,γ12,.box [i r,i p])::(30,γ,.vec 209 ((rs.set p ⟨MR b plan r plan.length,(0,0),(0,0)⟩).map P9))::pl 87 γ8 204 A⟩⟩)
 |0,h,c,γ,rs,hd,hl,e,hγ,n,k+1,hk=>by
  have:h=plan.length:=by omega
  subst this;have:rs.set p ⟨MR b plan r plan.length,(0,0),(0,0)⟩=rs:=by
   have hpl:p<rs.length:=by omega
   rw[bj hpl,Option.some.injEq]at e;rw[<-e];exact List.set_getElem_self hpl
  rw[this,AB];simp
 |d+1,h,c,γ,rs,hd,hl,e,hγ,n,k+1,hk=>by
  have hh:h<plan.length:=by omega
  have hla:=hb.la;have hro:=hb.ro;have hpc:=hb.pl;have hsu:=hb.su;have hlen:=hp.len;have hwh:=BS (k:=h) (by omega);obtain⟨r1,r2,r3⟩:=AA2 hb hp hh;have hr2:r<plan[h].length:=by omega
  have hpa:C8 plan h r=plan[h][r]:=by unfold C8;rw[show plan.getD h []=plan[h] by rw[bk,bj hh];rfl,bk,bj hr2];rfl
  have q:=fun n=>kOf n b hb (r,p) (by simp only;omega) h (by omega) (C8 plan h r) 0 (by omega);rw[hpa]at q;have hpl:p<rs.length:=by omega
  have ih:=AK2 hb hp r p hr hp2 A γ8 γ12 d (h+1) c γ (rs.set p ⟨MR b plan r (h+1),(0,0),(0,0)⟩) (by omega) (by simpa using hl) (by rw[List.getElem?_set_self hpl]) hγ n k (by omega);rw[List.set_set,List.length_set]at ih;rw[bj hpl,Option.some.injEq]at e;have hs:=PC (NC b plan r) h;have hsb:0<=MR b plan r h/\MR b plan r h<=h:=by unfold MR;omega
  have hof:(ofB b (r,p) h plan[h][r] 0).sun=if NC b plan r h=true then 1 else 0:=by
   have:NC b plan r h=decide (b.sun.getD h 0=plan[h][r]):=by unfold NC;rw[hpa];congr 1;exact propext eq_comm
   rw[this];rfl
  have hst:MR b plan r (h+1)=MR b plan r h+(ofB b (r,p) h plan[h][r] 0).sun:=by rw[AD7,hof]
  have hw:IntKind.i64.wrap (MR b plan r h+(ofB b (r,p) h plan[h][r] 0).sun)=MR b plan r h+(ofB b (r,p) h plan[h][r] 0).sun:=AV (by rw[hof];split<;>omega) (by rw[hof];split<;>omega);rw[hst]at ih;generalize rs.set p ⟨MR b plan r plan.length,(0,0),(0,0)⟩=F at ih|-;generalize MR b plan r h=S at *;generalize ofB b (r,p) h plan[h][r] 0=O at *;rw[List.map_set]at ih;have heg:(rs.map P9)[p]'(by simpa using hpl)=[i S,i 0,i 0,i 0,i 0]:=by rw[bx,e];rfl
  rw[AB];simp only[AC,AJ,GH,P9,EM]at q ih heg|-;simp at ih;simp[hh,hr2,hwh,AH,AN,AJ,q,hpl,heg,hw,hγ,A0,GU,ih]
def M6(b:AM)(ws plan:List (List Int))(r p:Nat):List tE:=(bf b.places.toNat).map fun j=>if j<p then sP b ws plan r j else⟨0,(0,0),(0,0)⟩
def N7(b:AM)(ws plan:List (List Int))(r:Nat):List tE:=(bf b.places.toNat).map (sP b ws plan r)
theorem eY(b:AM)(ws plan:List (List Int))(r p:Nat):(M6 b ws plan r p).length=b.places.toNat:=by simp[M6]
theorem AK3{r p:Nat}(h:p<b.places.toNat):(M6 b ws plan r p)[p]? = some ⟨0,(0,0),(0,0)⟩:=by simp[M6,h]
theorem AK4{r p:Nat}:(M6 b ws plan r p).set p (sP b ws plan r p)=M6 b ws plan r (p+1):=by
 apply bz (by simp[M6]);intro j h1 h2;simp only[M6,List.getElem_set,bx,bb];by_cases e:p=j
 ·subst e;simp
 ·rw[if_neg e];have:(j<p)=(j<p+1):=propext ⟨fun h=>by omega,fun h=>by omega⟩;simp only[this]
theorem AD8(b:AM)(ws plan:List (List Int))(r:Nat):M6 b ws plan r b.places.toNat=N7 b ws plan r:=by
 apply bz (by simp[M6,N7]);intro j h1 h2;have:j<b.places.toNat:=by simpa [M6]using h1
 simp only[M6,N7,bx,bb,if_pos this]
theorem AD9(b:AM)(ws plan:List (List Int))(r:Nat):M6 b ws plan r 0=List.replicate b.places.toNat ⟨0,(0,0),(0,0)⟩:=by apply bz (by simp[M6]);intro j h1 h2;simp[M6]
theorem AK5(hb:Valid b)(hp:FV b plan)(hwl:ws.length=b.winds.length)(hok:DO ws)(r:Nat)(hr:(r:Int)<b.rows)(A:List (List V))(γ8 γ:Nat):∀(d p c:Nat),p+d=b.places.toNat->γ<c->∃c',γ<c'/\∀n k,d<k->BI (AE bh ann kn (n+2000) 90) O7 (ann 90 (BZ O7)) k ⟨c,[(2,true,.ptr 0 2 0 0),(3,true,.ptr 0 3 1 0),(6,true,.ref (EM b ws)),(8,true,pv 87 γ8 A),(9,true,i r),(10,true,.vec 0 30 γ b.places.toNat),(24,true,i b.rows),(25,true,i r),(32,true,i b.places.toNat),(33,true,i p)],⟨[],(2,0,.box (AC b))::(3,1,.box [HU plan])::(30,γ,.vec 209 ((M6 b ws plan r p).map P9))::pl 87 γ8 204 A⟩⟩ =
  some (.exit 2,⟨c',(34,true,.bool false)::[(2,true,.ptr 0 2 0 0),(3,true,.ptr 0 3 1 0),(6,true,.ref (EM b ws)),(8,true,pv 87 γ8 A),(9,true,i r),(10,true,.vec 0 30 γ b.places.toNat),(24,true,i b.rows),(25,true,i r),(32,true,i b.places.toNat),(33,true,i b.places.toNat)],⟨[],(2,0,.box (AC b))::(3,1,.box [HU plan])::(30,γ,.vec 209 ((N7 b ws plan r).map P9))::pl 87 γ8 204 A⟩⟩)
 |0,p,c,hd,hγ=>by
  have:p=b.places.toNat:=by omega
  subst this;refine⟨c,hγ,fun n k hk=>?_⟩;obtain⟨k,rfl⟩:∃k',k=k'+1:=⟨k-1,by omega⟩;rw[AD8,AB];simp
 |d+1,p,c,hd,hγ=>by
  have hpc:=hb.pl;have hla:=hb.la;have hlen:=hp.len;have hw:=BS (k:=p) (by omega);have hp':p<b.places.toNat:=by omega
  obtain⟨c',h1,ih⟩:=AK5 hb hp hwl hok r hr A γ8 γ d (p+1) (c+3) (by omega) (by omega);have q:=AK2 (ws:=ws) hb hp r p hr (by omega) A γ8 c plan.length 0 (c+1) γ (M6 b ws plan r p) (by omega) (by rw[eY];omega) (AK3 hp') (by omega);rw[eY]at q;have q:=fun n m=>q n (m+100) (by omega);have qc:=fun n=>sO (ws:=ws) (ff:=156) (sel:=fN.calm) (s:=(r,p)) n hb hp AZR (fun h w=>bF _) hr (by simp only;omega) hwl hok;have qg:=fun n=>sO (ws:=ws) (ff:=158) (sel:=fN.good) (s:=(r,p)) n hb hp AZS (fun h w=>bF _) hr (by simp only;omega) hwl hok;have ec:P8 b ws plan (r,p) fN.calm ws.length=nZ b ws plan r p:=rfl;have eg:P8 b ws plan (r,p) fN.good ws.length=YA b ws plan r p:=rfl;rw[ec]at qc;rw[eg]at qg;have hst:((M6 b ws plan r p).set p ⟨MR b plan r plan.length,(0,0),(0,0)⟩).set p (sP b ws plan r p)=M6 b ws plan r (p+1):=by rw[List.set_set,AK4]
  have hl:=eY b ws plan r p;have hbp:P9 (sP b ws plan r p)=[i (MR b plan r plan.length),i (nZ b ws plan r p).1,i (nZ b ws plan r p).2,i (YA b ws plan r p).1,i (YA b ws plan r p).2]:=rfl;rw[<-hst,List.map_set,hbp]at ih;generalize M6 b ws plan r p=R0 at q ih hl|-;generalize sP b ws plan r p=BP at *;generalize nZ b ws plan r p=C at *;generalize YA b ws plan r p=G at *;generalize N7 b ws plan r=RR at ih|-;generalize MR b plan r plan.length=S at *;generalize b.places.toNat=PP at hp' hl ih q|-;have hpl:p<R0.length:=by omega
  have heg:((R0.set p ⟨S,(0,0),(0,0)⟩).map P9)[p]? = some [i S,i 0,i 0,i 0,i 0]:=by simp[P9,hpl]
  have hle:PP<=R0.length:=by omega
  refine⟨c',h1,fun n k hk=>?_⟩;obtain⟨k,rfl⟩:∃k',k=k'+1:=⟨k-1,by omega⟩;have ih:=ih n k (by omega);rw[AB];generalize hRR:R0.set p ⟨S,(0,0),(0,0)⟩=R1 at *;have hl1:R1.length=PP:=by rw[<-hRR];simpa using hl
  have hpl1:p<R1.length:=by omega
  rw[bj (by simpa using hpl1),Option.some.injEq]at heg;simp only[AC,EM,F3]at q qc qg ih|-;simp at q ih;simp[hp',hw,AH,AN,AJ,q,qc,qg,hpl1,heg,A0,GU,FD,EQ,B8,BV,BF,show Nat.beq 2 1=false from rfl,hl1,show γ<c+1+1+1 by omega,ih]
def FJ(b:AM)(ws plan:List (List Int))(n:Nat):List (List tE):=(bf n).map (N7 b ws plan)
theorem wP(b:AM)(ws plan:List (List Int))(n:Nat):FJ b ws plan (n+1)=FJ b ws plan n++[N7 b ws plan n]:=by simp[FJ,List.range_succ]
def HR(l:List tE):List V:=[.list false (l.map P9)]
theorem BD1{k:Nat}{x:List tE}(h:k<=10000):B5 bh 204 k [HR x]=true:=by rw[B9 (by simp[HR]) (by simp)];simp[maxLen,HR];omega
theorem ATJ(hb:Valid b)(hp:FV b plan)(hwl:ws.length=b.winds.length)(hok:DO ws):∀(d r c γ8:Nat),r+d=b.rows.toNat->1<c->∃fr c' γ',BJ fr 8=some (true,pv 87 γ' ((FJ b ws plan b.rows.toNat).map HR))/\∀n k,d<k->BI (AE bh ann kn (n+2200) 90) UA (ann 90 (BZ UA)) k ⟨c,[(2,true,.ptr 0 2 0 0),(3,true,.ptr 0 3 1 0),(6,true,.ref (EM b ws)),(8,true,pv 87 γ8 ((FJ b ws plan r).map HR)),(24,true,i b.rows),(25,true,i r)],⟨[],(2,0,.box (AC b))::(3,1,.box [HU plan])::pl 87 γ8 204 ((FJ b ws plan r).map HR)⟩⟩ =
  some (.exit 0,⟨c',fr,⟨[],(2,0,.box (AC b))::(3,1,.box [HU plan])::pl 87 γ' 204 ((FJ b ws plan b.rows.toNat).map HR)⟩⟩)
 |0,r,c,γ8,hd,hc=>by
  have hr:r=b.rows.toNat:=by omega
  have hro:=hb.ro;have hr':b.rows=(r:Int):=by omega
  rw[<-hr];refine⟨?fr,c,γ8,?g1,fun n k hk=>?g2⟩;case g2=>
   obtain⟨k,rfl⟩:∃k',k=k'+1:=⟨k-1,by omega⟩
   rw[AB]
   simp[AC,hr']
   rfl
  case g1=>simp
 |d+1,r,c,γ8,hd,hc=>by
  have hro:=hb.ro;have hpc:=hb.pl;have hw:=BS (k:=r) (by omega);have hr':(r:Int)<b.rows:=by omega
  obtain⟨c1,h1,q⟩:=AK5 (ws:=ws) hb hp hwl hok r hr' ((FJ b ws plan r).map HR) γ8 c b.places.toNat 0 (c+1) (by omega) (by omega);have q:=fun n m=>q n (m+100) (by omega);obtain⟨fr,c',γ',e1,ih⟩:=ATJ hb hp hwl hok d (r+1) (c1+1) c1 (by omega) (by omega);have happ:=BD1 (k:=(FJ b ws plan r).length) (x:=N7 b ws plan r) (by simp[FJ];omega);rw[AD9]at q;rw[wP]at ih;refine⟨fr,c',γ',e1,fun n k hk=>?_⟩;obtain⟨k,rfl⟩:∃k',k=k'+1:=⟨k-1,by omega⟩;have ih:=ih n k (by omega);generalize FJ b ws plan b.rows.toNat=FF at ih|-;have hRl:(N7 b ws plan r).length=b.places.toNat:=by simp[N7]
  generalize N7 b ws plan r=RR at ih q happ hRl;obtain⟨PP,hPP⟩:∃P:Nat,b.places=P:=⟨b.places.toNat,by omega⟩;have hP2:b.places.toNat=PP:=by omega
  rw[hP2]at q hRl;subst hRl;rw[AB];simp only[AC,EM,hPP]at q ih|-;simp[HR]at ih q happ;simp[P9]at q;have m1:RR.length*40<=140737488355328:=by omega
  have m2:RR.length<=maxLen:=by simp[maxLen];omega
  have htl:∀o,FH 0 30 o (pl 87 γ8 204 ((FJ b ws plan r).map HR))=pl 87 γ8 204 ((FJ b ws plan r).map HR):=fun o=>XL (by decide) _ _ _ (by simp[HR,P9]);simp[hr',hw,HR,q,ih,happ,m1,m2,htl]
def lvB(b:AM)(plan:List (List Int)):AA:=[(2,0,.box (AC b)),(3,1,.box [HU plan])]
theorem wQ(hb:Valid b)(plan:List (List Int)):kG b (lvB b plan) 155 [.ptr 0 2 0 0,.ptr 0 3 1 0] 2 (EX b plan):=by intro n d fr;rw[A7 Tryz.func155 b155 rfl (by simp)];have q:=fun n=>APQ n b hb plan;generalize EX b plan=z at q|-;simp only[AC,lvB]at q|-;simp[A67,AF,q,AH,AN,AJ]
def IL(b:AM)(plan:List (List Int)):List (List tE)×Int:=if D7 b=0 then(if EX b plan=true then(if (FW b [] b.winds []).isEmpty=true then([],11) else(FJ b (FL b) plan b.rows.toNat,0)) else([],2)) else([],D7 b)
theorem sS(n:Nat)(b:AM)(h40:∀l∈b.winds,l.length<=40)(plan:List (List Int)):A3 bh kn (AE bh ann kn (n+6200)) 117 [.agg (AC b),HU plan]=some (.tup [sl ((IL b plan).1.map HR),i (IL b plan).2]):=by
 rw[AP rfl,AQ Tryz.func117 BID rfl (by simp[AC,AH,AN,AJ])];have hB:∀t:St,1<=t.up.length->AK t (lvB b plan)=lvB b plan:=fun t ht=>by simp[lvB,AC,AH,AN,AJ]
 have slnil:sl ([]:List (List V))=.nil:=rfl;unfold IL;by_cases h:D7 b=0
 ·have hb:=U1 h;have hf:=wQ hb plan;rw[if_pos h];cases hz:EX b plan with
  |false=>
   rw[hz]at hf
   rw[if_neg (by decide)]
   have q:=fun n=>tQ (ff:=155) (cap:=[.ptr 0 2 0 0,.ptr 0 3 1 0]) hb hB (by simp) (by simp) 2 17 hf [(16,true,.fn 155 [] [.ptr 0 2 0 0,.ptr 0 3 1 0]),(15,true,.agg (AC b)),(2,true,.ptr 0 2 0 0),(3,true,.ptr 0 3 1 0)] (n+190)
   simp only[AC,lvB,bq,slnil]at q|-
   simp[AF3,AF,AH,AN,AJ,q]
  |true=>
   rw[hz]at hf
   rw[if_pos rfl]
   by_cases hT:FW b [] b.winds []=[]
   ·obtain⟨c',hc',q⟩:=tS (ff:=155) (cap:=[.ptr 0 2 0 0,.ptr 0 3 1 0]) hb hB (by simp) (by simp) 2 17 hf hT [(16,true,.fn 155 [] [.ptr 0 2 0 0,.ptr 0 3 1 0]),(15,true,.agg (AC b)),(2,true,.ptr 0 2 0 0),(3,true,.ptr 0 3 1 0)];rw[if_pos (by rw[hT];rfl)];have q:=fun n=>q (n+190);simp only[AC,lvB,bq,slnil]at q|-;simp[AF3,AF,AH,AN,AJ,q]
   ·obtain⟨c',hc',q⟩:=AG1 (ff:=155) (cap:=[.ptr 0 2 0 0,.ptr 0 3 1 0]) hb hB (by simp) (by simp) 2 17 hf hT [(16,true,.fn 155 [] [.ptr 0 2 0 0,.ptr 0 3 1 0]),(15,true,.agg (AC b)),(2,true,.ptr 0 2 0 0),(3,true,.ptr 0 3 1 0)];rw[if_neg (by simpa using hT)];have q:=fun n=>q (n+190);have hro:=hb.ro;obtain⟨fr,c2,γ',e1,q6⟩:=ATJ (ws:=FL b) hb (yI hz) (nV _ _) (AD6 hb) b.rows.toNat 0 c' 0 (by omega) (by omega);have q6:=fun n k=>q6 n (k+100) (by omega);have e0:FJ b (FL b) plan 0=[]:=rfl;rw[e0]at q6;generalize FJ b (FL b) plan b.rows.toNat=FF at *;simp only[AC,EM,lvB,List.cons_append,List.nil_append]at q q6|-;simp at q q6;simp[AF3,AF,AH,AN,AJ,q,q6,e1];simp[HR,P9]
 ·rw[if_neg h];have q:=fun n=>nR (ff:=155) (cap:=[.ptr 0 2 0 0,.ptr 0 3 1 0]) h40 hB (by simp) h 2 17 [(16,true,.fn 155 [] [.ptr 0 2 0 0,.ptr 0 3 1 0]),(15,true,.agg (AC b)),(2,true,.ptr 0 2 0 0),(3,true,.ptr 0 3 1 0)] (n+190);simp only[AC,lvB,bq,slnil]at q|-;simp[AF3,AF,AH,AN,AJ,q,h]
end
end Go.Proofs.Tryz.Op
