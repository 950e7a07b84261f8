/- Contracts: Min of two, minimum, wider, facing, turn, the directions as an array. No condition. -/
import Derived.Test.YthhdhbalenanjaaGreatH1
import Derived.Test.YthhdhbalenanjaaGreatW4
open Go.Proofs.Tryz renaming prog->bh
open List renaming getElem?_eq_getElem->bj,getD_eq_getElem?_getD->bk,map_nil->bq,getElem_mem->bw,getElem_map->bx,ext_getElem->bz,getElem_range->bb,mem_map->bc,range->bf
set_option maxRecDepth 100000
set_option linter.unusedSimpArgs false
open Go Go.Pg Go.Proofs Go.Wind
namespace Go.Proofs.Tryz.Op
theorem AKH(a b:Int):(if b<a then b else a)=min a b:=by split<;>omega
theorem AKI(a b:Int):(if a<b then b else a)=max a b:=by split<;>omega
theorem BBN(n:Nat)(a b:Int):AZ bh kn (AE bh ann kn (n+100)) 165 [.list false [[i a],[i b]]]=some (i (min a b)):=by
 rw[AN rfl,AO Tryz.func165 BFI rfl (by simp)];have hw:IntKind.i64.wrap (1+1)=2:=by decide
 simp[A41,AF];rw[AB];simp[AKH];rw[AB];simp
theorem AKJ(n:Nat)(a b:Int):AZ bh kn (AE bh ann kn (n+200)) 198 [.list false [[i a],[i b]]]=some (i (min a b)):=by rw[AN rfl,AO Tryz.func198 BFJ rfl (by simp)];have q:=fun n=>BBN n a b;simp[A42,AF,q]
def F0(r:Int×Int):List V:=[i r.1,i r.2]
theorem AYQ(n:Nat)(r:Int×Int)(x:Int):AZ bh kn (AE bh ann kn (n+300)) 186 [.agg (F0 r),i x]=some (.agg (F0 (min r.1 x,max r.2 x))):=by rw[AN rfl,AO Tryz.func186 BFK rfl (by simp[F0])];have q:=fun n=>AKJ n r.1 x;simp[A43,AF,F0,q,AKI]
theorem BBO{α:Type}(l:List α)(h:l.length=3):∃x y z,l=[x,y,z]:=by
 match l,h with
 |[x,y,z],_=>exact⟨x,y,z,rfl⟩
@[simp] theorem A2Y(cs:List V):PB (.ref cs)=some (.ref cs):=rfl
theorem LJ(L:AA)(k γ:Nat)(r:A0):AA.put L k γ r=(k,γ,r)::L:=rfl
@[simp] theorem BBP:IW bh 186=false:=by kernel_rfl
def EI(b:AK)(ws:List (List Int)):List V:=[i b.last,i b.rows,i b.places,i b.reach,li b.face,li b.sun,FI b.winds,.list false (b.breaks.map AH),.list false (b.notes.map AH),FI ws,.any,.any]
section
variable {b:AK}{ws:List (List Int)}{g0 g1 g2:Int}{h:Nat}
end
section
variable {b:AK}{ws plan:List (List Int)}
theorem ZJ(b:AK)(t:List Int):t∈FM b [] b.winds []↔DA b t=true:=by rw[kG];simp only[List.nil_append,List.map_id',List.mem_filter,QD,DA,Bool.and_eq_true,List.all_eq_true];refine and_congr_right fun _=>?_;rw[YO,List.all_eq_true]
theorem ADQ(hb:Valid b):DL (FA b):=DL.ask _ _ fun t ht=>K4 hb (by
 have:=(ZJ b t).1 ht;simp only[DA,Bool.and_eq_true]at this;exact this.1)
theorem XQ(hb:Valid b)(hT:FM b [] b.winds []≠[]):UJ b (FA b):=AGI hb (ZJ b) hT
end
theorem QS{n:Int}(h:-1000<=n/\n<=1000):FE n:=⟨by omega,by omega⟩
@[simp] theorem clI(f:Nat)(l:List Int):(l.all ((fun e=>e.all (AG (f+1)))∘AW))=true:=by simp[AW]
@[simp] theorem clP(f:Nat)(l:List (Int×Int)):(l.all ((fun e=>e.all (AG (f+1)))∘AH))=true:=by simp[AH]
@[simp] theorem clL(f:Nat)(l:List (List Int)):(l.all ((fun e=>e.all (AG (f+2)))∘AY))=true:=by simp[AY]
theorem slX{α:Type}{f:α->List V}{l:List α}(h:l≠[]):sl (l.map f)=.list false (l.map f):=by
 cases l with
 |nil=>exact absurd rfl h
 |cons x l=>rfl
theorem AAU{b:AK}{plan:List (List Int)}(hb:Valid b)(hp:FL b plan){h:Nat}(hh:h<plan.length):plan[h].length<=3/\(plan[h].length:Int)=b.rows/\∀x∈plan[h],0<=x/\x<=3:=by
 have hro:=hb.ro;have e:plan.getD h []=plan[h]:=by rw[bk,bj hh];rfl
 have hr:=hp.row h hh;have hd:=hp.dir h;rw[e]at hr;refine⟨by omega,hr,fun x hx=>?_⟩;obtain⟨r,h1,rfl⟩:=List.getElem_of_mem hx;have:=hd r hh (by rw[e];exact h1);unfold C7 at this;rw[e,bk,bj h1]at this;exact C6.1 this
section
variable {b:AK}{x0 x1 x2 y0 y1 y2:Int}
end
section
variable {b:AK}{plan:List (List Int)}
end
@[simp] theorem A2Z:IW bh 157=false:=by kernel_rfl
theorem AYR(n:Nat)(x:fD):AZ bh kn (AE bh ann kn (n+50)) 156 [.agg (F9 x)]=some (i x.calm):=by rw[AN rfl,AO Tryz.func156 BFO rfl (by simp[F9])];simp[A47,AF,F9]
theorem AYS(n:Nat)(x:fD):AZ bh kn (AE bh ann kn (n+50)) 158 [.agg (F9 x)]=some (i x.good):=by rw[AN rfl,AO Tryz.func158 BFP rfl (by simp[F9])];simp[A48,AF,F9]
section
variable {b:AK}{ws plan:List (List Int)}{ff:FuncId}{sel:fD->Int}{s:Nat×Nat}
def IA(b:AK)(plan:List (List Int))(s:Nat×Nat)(sel:fD->Int)(h:Nat)(w:Int):Int:=sel (ofB b (s.1,s.2) h (C7 plan h s.1) w)
theorem BBQ(hb:Valid b)(hp:FL b plan)(hsel:∀n x,AZ bh kn (AE bh ann kn (n+50)) ff [.agg (F9 x)]=some (i (sel x)))(hs1:(s.1:Int)<b.rows)(hs2:(s.2:Int)<b.places)(out:Int×Int)(h:Nat)(hh:h<plan.length)(xs:List Int)(hx:∀x∈xs,0<=x/\x<=3)(hxl:xs.length<=100)(γ:Nat):∀(d j c:Nat),j+d=xs.length->γ<c->∃c',c<=c'/\∀n k,d<k->A9 (AE bh ann kn (n+1400) 66) TP (ann 66 (BV TP)) k ⟨c,[(1,true,.ref (EI b ws)),(2,true,FI plan),(4,true,.ptr 0 4 0 0),(7,true,.ptr 0 7 1 0),(8,true,.ptr 0 8 2 0),(9,true,i h),(11,true,.ptr 0 11 γ 0),(17,true,FI ws),(18,true,i ws.length),(19,true,i h),(25,true,li xs),(26,true,i xs.length),(27,true,i j)],⟨[],[(4,0,.box [.fn ff [] []]),(7,1,.box [i s.1,i s.2]),(8,2,.box (F0 out)),(11,γ,.box (F0 (DM (1,0) ((xs.take j).map (IA b plan s sel h)))))]⟩⟩ =
  some (.exit 2,⟨c',[(28,true,.bool false),(1,true,.ref (EI b ws)),(2,true,FI plan),(4,true,.ptr 0 4 0 0),(7,true,.ptr 0 7 1 0),(8,true,.ptr 0 8 2 0),(9,true,i h),(11,true,.ptr 0 11 γ 0),(17,true,FI ws),(18,true,i ws.length),(19,true,i h),(25,true,li xs),(26,true,i xs.length),(27,true,i xs.length)],⟨[],[(4,0,.box [.fn ff [] []]),(7,1,.box [i s.1,i s.2]),(8,2,.box (F0 out)),(11,γ,.box (F0 (DM (1,0) (xs.map (IA b plan s sel h)))))]⟩⟩)
 |0,j,c,hd,hc=>by
  have:j=xs.length:=by omega
  subst this;refine⟨c,Nat.le_refl _,fun n k hk=>?_⟩;obtain⟨k,rfl⟩:∃k',k=k'+1:=⟨k-1,by omega⟩;rw[AB,List.take_length];simp[F0]
 |d+1,j,c,hd,hc=>by
  have hj:j<xs.length:=by omega
  have hla:=hb.la;have hro:=hb.ro;have hpl:=hb.pl;have hsu:=hb.su;have hlen:=hp.len;have hwj:=BH (k:=j) (by omega);obtain⟨c',hc',ih⟩:=BBQ hb hp hsel hs1 hs2 out h hh xs hx hxl γ d (j+1) (c+1) (by omega) (by omega);refine⟨c',by omega,fun n k hk=>?_⟩;obtain⟨k,rfl⟩:∃k',k=k'+1:=⟨k-1,by omega⟩;have ih:=ih n k (by omega);have hxj:=hx _ (bw hj);have e1:(xs.take (j+1)).map (IA b plan s sel h)=(xs.take j).map (IA b plan s sel h)++[IA b plan s sel h xs[j]]:=by rw[List.take_succ_eq_append_getElem hj,List.map_append,List.map_cons,bq]
  have e2:DM (1,0) ((xs.take (j+1)).map (IA b plan s sel h))=(min (DM (1,0) ((xs.take j).map (IA b plan s sel h))).1 (IA b plan s sel h xs[j]),max (DM (1,0) ((xs.take j).map (IA b plan s sel h))).2 (IA b plan s sel h xs[j])):=by rw[e1];unfold DM;rw[List.foldl_append];rfl
  rw[e2]at ih;have qw:=fun n=>AYQ n (DM (1,0) ((xs.take j).map (IA b plan s sel h))) (IA b plan s sel h xs[j]);obtain⟨r1,r2,r3⟩:=AAU hb hp hh;have hsr:s.1<plan[h].length:=by omega
  have hpa:C7 plan h s.1=plan[h][s.1]:=by unfold C7;rw[show plan.getD h []=plan[h] by rw[bk,bj hh];rfl,bk,bj hsr];rfl
  have qo:=fun n=>kOf n b hb (s.1,s.2) (by simp only;omega) h (by omega) (C7 plan h s.1) xs[j] hxj;have qs:=fun n=>hsel n (ofB b (s.1,s.2) h (C7 plan h s.1) xs[j]);have es:IA b plan s sel h xs[j]=sel (ofB b (s.1,s.2) h (C7 plan h s.1) xs[j]):=rfl;rw[es]at ih qw;rw[hpa]at qo qs ih qw;generalize DM (1,0) (xs.map (IA b plan s sel h))=RR at ih|-;generalize DM (1,0) ((xs.take j).map (IA b plan s sel h))=R at ih qw|-;generalize sel (ofB b (s.1,s.2) h plan[h][s.1] xs[j])=y at qs ih qw;generalize ofB b (s.1,s.2) h plan[h][s.1] xs[j]=O at qs qo;have hc1:γ<c+1:=by omega
  rw[AB];simp only[AC,EI,F0,AH,F9]at qo qs ih qw|-;simp at ih;simp[hj,hwj,hh,hsr,AW,AY,qo,qs,qw,hc1,ih]
def P2(b:AK)(ws plan:List (List Int))(s:Nat×Nat)(sel:fD->Int)(n:Nat):Int×Int:=AM3 (1,0) ws (IA b plan s sel) n
theorem AKK{l:List Int}(h:∀x∈l,0<=x/\x<=1):0<=(DM (1,0) l).1/\(DM (1,0) l).1<=1/\0<=(DM (1,0) l).2/\(DM (1,0) l).2<=1:=by have:=xX l (1,0) 0 1 h (by simp) (by simp);simp only at this;omega
theorem BBR(hb:Valid b)(hp:FL b plan)(hsel:∀n x,AZ bh kn (AE bh ann kn (n+50)) ff [.agg (F9 x)]=some (i (sel x)))(hse:∀h w,0<=IA b plan s sel h w/\IA b plan s sel h w<=1)(hs1:(s.1:Int)<b.rows)(hs2:(s.2:Int)<b.places)(hwl:ws.length=b.winds.length)(hok:DL ws):∀(d h c:Nat),h+d=ws.length->3<=c->∃c',3<=c'/\∀n k,d<k->A9 (AE bh ann kn (n+1600) 66) TQ (ann 66 (BV TQ)) k ⟨c,[(1,true,.ref (EI b ws)),(2,true,FI plan),(4,true,.ptr 0 4 0 0),(7,true,.ptr 0 7 1 0),(8,true,.ptr 0 8 2 0),(17,true,FI ws),(18,true,i ws.length),(19,true,i h)],⟨[],[(4,0,.box [.fn ff [] []]),(7,1,.box [i s.1,i s.2]),(8,2,.box (F0 (P2 b ws plan s sel h)))]⟩⟩ =
  some (.exit 0,⟨c',[(20,true,.bool false),(1,true,.ref (EI b ws)),(2,true,FI plan),(4,true,.ptr 0 4 0 0),(7,true,.ptr 0 7 1 0),(8,true,.ptr 0 8 2 0),(17,true,FI ws),(18,true,i ws.length),(19,true,i ws.length)],⟨[],[(4,0,.box [.fn ff [] []]),(7,1,.box [i s.1,i s.2]),(8,2,.box (F0 (P2 b ws plan s sel ws.length)))]⟩⟩)
 |0,h,c,hd,hc=>by
  have:h=ws.length:=by omega
  subst this;refine⟨c,hc,fun n k hk=>?_⟩;obtain⟨k,rfl⟩:∃k',k=k'+1:=⟨k-1,by omega⟩;rw[AB];simp[F0]
 |d+1,h,c,hd,hc=>by
  have hh:h<ws.length:=by omega
  have hh5:=hb.hl;have hwi:=hb.wi;have hlen:=hp.len;have hwh:=BH (k:=h) (by omega);have hwd:ws.getD h []=ws[h]:=by rw[bk,bj hh];rfl
  have hw4:=hok.len _ (bw hh);obtain⟨c1,hc1,q⟩:=BBQ (ws:=ws) hb hp hsel hs1 hs2 (P2 b ws plan s sel h) h (by omega) ws[h] (hok.lo _ (bw hh)) (by omega) c ws[h].length 0 (c+1) (by omega) (by omega);obtain⟨c',hc',ih⟩:=BBR hb hp hsel hse hs1 hs2 hwl hok d (h+1) c1 (by omega) (by omega);refine⟨c',hc',fun n k hk=>?_⟩;obtain⟨k,rfl⟩:∃k',k=k'+1:=⟨k-1,by omega⟩;have ih:=ih n k (by omega);have q:=fun n k=>q n (k+100) (by omega);have e1:P2 b ws plan s sel (h+1)=((P2 b ws plan s sel h).1+(DM (1,0) (ws[h].map (IA b plan s sel h))).1,(P2 b ws plan s sel h).2+(DM (1,0) (ws[h].map (IA b plan s sel h))).2):=by rw[<-hwd];rfl
  have hr:=AKK (l:=ws[h].map (IA b plan s sel h)) fun x hx=>by obtain⟨w,_,rfl⟩:=bc.1 hx;exact hse h w
  have hb1:=M7 (n:=h) (c:=1) (f:=fun h=>(DM (1,0) ((ws.getD h []).map (IA b plan s sel h))).1) fun j _=>by
   have:=AKK (l:=(ws.getD j []).map (IA b plan s sel j)) fun x hx=>by obtain⟨w,_,rfl⟩:=bc.1 hx;exact hse j w
   omega
  have hb2:=M7 (n:=h) (c:=1) (f:=fun h=>(DM (1,0) ((ws.getD h []).map (IA b plan s sel h))).2) fun j _=>by
   have:=AKK (l:=(ws.getD j []).map (IA b plan s sel j)) fun x hx=>by obtain⟨w,_,rfl⟩:=bc.1 hx;exact hse j w
   omega
  change 0<=(P2 b ws plan s sel h).1/\(P2 b ws plan s sel h).1<=h*1 at hb1;change 0<=(P2 b ws plan s sel h).2/\(P2 b ws plan s sel h).2<=h*1 at hb2;rw[e1]at ih;rw[List.take_zero,bq]at q;have e0:DM (1,0) []=(1,0):=rfl;rw[e0]at q;generalize P2 b ws plan s sel ws.length=TT at ih|-;generalize P2 b ws plan s sel h=T at ih q hb1 hb2|-;generalize DM (1,0) (ws[h].map (IA b plan s sel h))=R at ih q hr;have w1:IntKind.i64.wrap (T.1+R.1)=T.1+R.1:=AX (by omega) (by omega);have w2:IntKind.i64.wrap (T.2+R.2)=T.2+R.2:=AX (by omega) (by omega);have hc2:2<c1:=by omega
  have hcc:c<c+1:=by omega
  rw[AB];simp only[EI,F0]at q ih|-;simp at q ih;simp[hh,hwh,AY,q,w1,w2,hc2,hcc,ih]
theorem sM(n:Nat)(hb:Valid b)(hp:FL b plan)(hsel:∀n x,AZ bh kn (AE bh ann kn (n+50)) ff [.agg (F9 x)]=some (i (sel x)))(hse:∀h w,0<=IA b plan s sel h w/\IA b plan s sel h w<=1)(hs1:(s.1:Int)<b.rows)(hs2:(s.2:Int)<b.places)(hwl:ws.length=b.winds.length)(hok:DL ws):AZ bh kn (AE bh ann kn (n+1800)) 157 [.agg [.fn ff [] []],.ref (EI b ws),FI plan,.agg [i s.1,i s.2]]=some (.agg (F0 (P2 b ws plan s sel ws.length))):=by
 rw[AN rfl,AO Tryz.func157 BFN rfl (by simp[EI])];obtain⟨c',hc',q⟩:=BBR (s:=s) hb hp hsel hse hs1 hs2 hwl hok ws.length 0 3 (by omega) (Nat.le_refl _);have h5:=hb.hl;have q:=fun n k=>q n (k+150) (by omega);have e0:P2 b ws plan s sel 0=(0,0):=rfl;rw[e0]at q;generalize P2 b ws plan s sel ws.length=T at q|-;have hc2:2<c':=by omega
 simp only[EI,F0]at q|-;simp at q;simp[A46,AF,q,hc2]
end
end Go.Proofs.Tryz.Op
namespace Go.Wind
structure tB where
 sun:Int
 calm:Int×Int
 good:Int×Int
end Go.Wind
namespace Go.Proofs.Tryz.Op
@[simp] theorem A20(T:TypeId)(x:Operand)(k:Nat)(f:Operand->Option V):H8 bh (.oth (.field T x k)) f=[]:=rfl
@[simp] theorem A21(f:FuncId):weakC (.fn f [] [])=.fn f [] []:=rfl
def Q7(x:tB):List V:=[i x.sun,i x.calm.1,i x.calm.2,i x.good.1,i x.good.2]
section
variable {b:AK}{ws plan:List (List Int)}
def sN(b:AK)(ws plan:List (List Int))(r p:Nat):tB:=⟨MJ b plan r plan.length,nX b ws plan r p,XY b ws plan r p⟩
theorem ADR(b:AK)(plan:List (List Int))(r n:Nat):MJ b plan r (n+1)=MJ b plan r n+(if M8 b plan r n=true then 1 else 0):=by unfold MJ;simp only[mP];split<;>simp
theorem AKL(hb:Valid b)(hp:FL b plan)(r p:Nat)(hr:(r:Int)<b.rows)(hp2:(p:Int)<b.places)(A:List (List V))(γ8 γ12:Nat):∀(d h c γ:Nat) (rs:List tB),h+d=plan.length->(rs.length:Int)=b.places->rs[p]? = some ⟨MJ b plan r h,(0,0),(0,0)⟩->γ<c->∀n k,d<k->A9 (AE bh ann kn (n+1400) 90) O1 (ann 90 (BV O1)) k ⟨c,[(2,true,.ptr 0 2 0 0),(3,true,.ptr 0 3 1 0),(6,true,.ref (EI b ws)),(8,true,pv 87 γ8 A),(9,true,i r),(10,true,.vec 0 30 γ rs.length),(11,true,i p),(12,true,.ptr 0 12 γ12 0),(24,true,i b.rows),(25,true,i r),(32,true,i rs.length),(33,true,i p),(40,true,i plan.length),(41,true,i h)],⟨[],(2,0,.box (AC b))::(3,1,.box [FI plan])::(12,γ12,.box [i r,i p])::(30,γ,.vec 209 (rs.map Q7))::pl 87 γ8 204 A⟩⟩ =
  some (.exit 4,⟨c,(42,true,.bool false)::[(2,true,.ptr 0 2 0 0),(3,true,.ptr 0 3 1 0),(6,true,.ref (EI b ws)),(8,true,pv 87 γ8 A),(9,true,i r),(10,true,.vec 0 30 γ rs.length),(11,true,i p),(12,true,.ptr 0 12 γ12 0),(24,true,i b.rows),(25,true,i r),(32,true,i rs.length),(33,true,i p),(40,true,i plan.length),(41,true,i plan.length)],⟨[],(2,0,.box (AC b))::(3,1,.box [FI plan])::(12,γ12,.box [i r,i p])::(30,γ,.vec 209 ((rs.set p ⟨MJ b plan r plan.length,(0,0),(0,0)⟩).map Q7))::pl 87 γ8 204 A⟩⟩)
 |0,h,c,γ,rs,hd,hl,e,hγ,n,k+1,hk=>by
  have:h=plan.length:=by omega
  subst this;have:rs.set p ⟨MJ b plan r plan.length,(0,0),(0,0)⟩=rs:=by
   have hpl:p<rs.length:=by omega
   rw[bj hpl,Option.some.injEq]at e;rw[<-e];exact List.set_getElem_self hpl
  rw[this,AB];simp
 |d+1,h,c,γ,rs,hd,hl,e,hγ,n,k+1,hk=>by
  have hh:h<plan.length:=by omega
  have hla:=hb.la;have hro:=hb.ro;have hpc:=hb.pl;have hsu:=hb.su;have hlen:=hp.len;have hwh:=BH (k:=h) (by omega);obtain⟨r1,r2,r3⟩:=AAU hb hp hh;have hr2:r<plan[h].length:=by omega
  have hpa:C7 plan h r=plan[h][r]:=by unfold C7;rw[show plan.getD h []=plan[h] by rw[bk,bj hh];rfl,bk,bj hr2];rfl
  have q:=fun n=>kOf n b hb (r,p) (by simp only;omega) h (by omega) (C7 plan h r) 0 (by omega);rw[hpa]at q;have hpl:p<rs.length:=by omega
  have ih:=AKL hb hp r p hr hp2 A γ8 γ12 d (h+1) c γ (rs.set p ⟨MJ b plan r (h+1),(0,0),(0,0)⟩) (by omega) (by simpa using hl) (by rw[List.getElem?_set_self hpl]) hγ n k (by omega);rw[List.set_set,List.length_set]at ih;rw[bj hpl,Option.some.injEq]at e;have hs:=O7 (M8 b plan r) h;have hsb:0<=MJ b plan r h/\MJ b plan r h<=h:=by unfold MJ;omega
  have hof:(ofB b (r,p) h plan[h][r] 0).sun=if M8 b plan r h=true then 1 else 0:=by
   have:M8 b plan r h=decide (b.sun.getD h 0=plan[h][r]):=by unfold M8;rw[hpa];congr 1;exact propext eq_comm
   rw[this];rfl
  have hst:MJ b plan r (h+1)=MJ b plan r h+(ofB b (r,p) h plan[h][r] 0).sun:=by rw[ADR,hof]
  have hw:IntKind.i64.wrap (MJ b plan r h+(ofB b (r,p) h plan[h][r] 0).sun)=MJ b plan r h+(ofB b (r,p) h plan[h][r] 0).sun:=AX (by rw[hof];split<;>omega) (by rw[hof];split<;>omega);rw[hst]at ih;generalize rs.set p ⟨MJ b plan r plan.length,(0,0),(0,0)⟩=F at ih|-;generalize MJ b plan r h=S at *;generalize ofB b (r,p) h plan[h][r] 0=O at *;rw[List.map_set]at ih;have heg:(rs.map Q7)[p]'(by simpa using hpl)=[i S,i 0,i 0,i 0,i 0]:=by rw[bx,e];rfl
  rw[AB];simp only[AC,AH,F9,Q7,EI]at q ih heg|-;simp at ih;simp[hh,hr2,hwh,AW,AY,q,hpl,heg,hw,hγ,JE,ih]
def MZ(b:AK)(ws plan:List (List Int))(r p:Nat):List tB:=(bf b.places.toNat).map fun j=>if j<p then sN b ws plan r j else⟨0,(0,0),(0,0)⟩
def N4(b:AK)(ws plan:List (List Int))(r:Nat):List tB:=(bf b.places.toNat).map (sN b ws plan r)
theorem eM(b:AK)(ws plan:List (List Int))(r p:Nat):(MZ b ws plan r p).length=b.places.toNat:=by simp[MZ]
theorem AKM{r p:Nat}(h:p<b.places.toNat):(MZ b ws plan r p)[p]? = some ⟨0,(0,0),(0,0)⟩:=by simp[MZ,h]
theorem AKN{r p:Nat}:(MZ b ws plan r p).set p (sN b ws plan r p)=MZ b ws plan r (p+1):=by
 apply bz (by simp[MZ]);intro j h1 h2;simp only[MZ,List.getElem_set,bx,bb];by_cases e:p=j
 ·subst e;simp
 ·rw[if_neg e];have:(j<p)=(j<p+1):=propext ⟨fun h=>by omega,fun h=>by omega⟩;simp only[this]
theorem ADS(b:AK)(ws plan:List (List Int))(r:Nat):MZ b ws plan r b.places.toNat=N4 b ws plan r:=by
 apply bz (by simp[MZ,N4]);intro j h1 h2;have:j<b.places.toNat:=by simpa [MZ]using h1
 simp only[MZ,N4,bx,bb,if_pos this]
theorem ADT(b:AK)(ws plan:List (List Int))(r:Nat):MZ b ws plan r 0=List.replicate b.places.toNat ⟨0,(0,0),(0,0)⟩:=by apply bz (by simp[MZ]);intro j h1 h2;simp[MZ]
theorem AKO(hb:Valid b)(hp:FL b plan)(hwl:ws.length=b.winds.length)(hok:DL ws)(r:Nat)(hr:(r:Int)<b.rows)(A:List (List V))(γ8 γ:Nat):∀(d p c:Nat),p+d=b.places.toNat->γ<c->∃c',γ<c'/\∀n k,d<k->A9 (AE bh ann kn (n+2000) 90) O2 (ann 90 (BV O2)) k ⟨c,[(2,true,.ptr 0 2 0 0),(3,true,.ptr 0 3 1 0),(6,true,.ref (EI b ws)),(8,true,pv 87 γ8 A),(9,true,i r),(10,true,.vec 0 30 γ b.places.toNat),(24,true,i b.rows),(25,true,i r),(32,true,i b.places.toNat),(33,true,i p)],⟨[],(2,0,.box (AC b))::(3,1,.box [FI plan])::(30,γ,.vec 209 ((MZ b ws plan r p).map Q7))::pl 87 γ8 204 A⟩⟩ =
  some (.exit 2,⟨c',(34,true,.bool false)::[(2,true,.ptr 0 2 0 0),(3,true,.ptr 0 3 1 0),(6,true,.ref (EI b ws)),(8,true,pv 87 γ8 A),(9,true,i r),(10,true,.vec 0 30 γ b.places.toNat),(24,true,i b.rows),(25,true,i r),(32,true,i b.places.toNat),(33,true,i b.places.toNat)],⟨[],(2,0,.box (AC b))::(3,1,.box [FI plan])::(30,γ,.vec 209 ((N4 b ws plan r).map Q7))::pl 87 γ8 204 A⟩⟩)
 |0,p,c,hd,hγ=>by
  have:p=b.places.toNat:=by omega
  subst this;refine⟨c,hγ,fun n k hk=>?_⟩;obtain⟨k,rfl⟩:∃k',k=k'+1:=⟨k-1,by omega⟩;rw[ADS,AB];simp
 |d+1,p,c,hd,hγ=>by
  have hpc:=hb.pl;have hla:=hb.la;have hlen:=hp.len;have hw:=BH (k:=p) (by omega);have hp':p<b.places.toNat:=by omega
  obtain⟨c',h1,ih⟩:=AKO hb hp hwl hok r hr A γ8 γ d (p+1) (c+3) (by omega) (by omega);have q:=AKL (ws:=ws) hb hp r p hr (by omega) A γ8 c plan.length 0 (c+1) γ (MZ b ws plan r p) (by omega) (by rw[eM];omega) (AKM hp') (by omega);rw[eM]at q;have q:=fun n m=>q n (m+100) (by omega);have qc:=fun n=>sM (ws:=ws) (ff:=156) (sel:=fD.calm) (s:=(r,p)) n hb hp AYR (fun h w=>bD _) hr (by simp only;omega) hwl hok;have qg:=fun n=>sM (ws:=ws) (ff:=158) (sel:=fD.good) (s:=(r,p)) n hb hp AYS (fun h w=>bD _) hr (by simp only;omega) hwl hok;have ec:P2 b ws plan (r,p) fD.calm ws.length=nX b ws plan r p:=rfl;have eg:P2 b ws plan (r,p) fD.good ws.length=XY b ws plan r p:=rfl;rw[ec]at qc;rw[eg]at qg;have hst:((MZ b ws plan r p).set p ⟨MJ b plan r plan.length,(0,0),(0,0)⟩).set p (sN b ws plan r p)=MZ b ws plan r (p+1):=by rw[List.set_set,AKN]
  have hl:=eM b ws plan r p;have hbp:Q7 (sN b ws plan r p)=[i (MJ b plan r plan.length),i (nX b ws plan r p).1,i (nX b ws plan r p).2,i (XY b ws plan r p).1,i (XY b ws plan r p).2]:=rfl;rw[<-hst,List.map_set,hbp]at ih;generalize MZ b ws plan r p=R0 at q ih hl|-;generalize sN b ws plan r p=BP at *;generalize nX b ws plan r p=C at *;generalize XY b ws plan r p=G at *;generalize N4 b ws plan r=RR at ih|-;generalize MJ b plan r plan.length=S at *;generalize b.places.toNat=PP at hp' hl ih q|-;have hpl:p<R0.length:=by omega
  have heg:((R0.set p ⟨S,(0,0),(0,0)⟩).map Q7)[p]? = some [i S,i 0,i 0,i 0,i 0]:=by simp[Q7,hpl]
  have hle:PP<=R0.length:=by omega
  refine⟨c',h1,fun n k hk=>?_⟩;obtain⟨k,rfl⟩:∃k',k=k'+1:=⟨k-1,by omega⟩;have ih:=ih n k (by omega);rw[AB];generalize hRR:R0.set p ⟨S,(0,0),(0,0)⟩=R1 at *;have hl1:R1.length=PP:=by rw[<-hRR];simpa using hl
  have hpl1:p<R1.length:=by omega
  rw[bj (by simpa using hpl1),Option.some.injEq]at heg;simp only[AC,EI,F0]at q qc qg ih|-;simp at q ih;simp[hp',hw,q,qc,qg,heg,JE,FU,E7,C4,BR,BG,show Nat.beq 2 1=false from rfl,hl1,show γ<c+1+1+1 by omega,ih]
def E9(b:AK)(ws plan:List (List Int))(n:Nat):List (List tB):=(bf n).map (N4 b ws plan)
theorem wI(b:AK)(ws plan:List (List Int))(n:Nat):E9 b ws plan (n+1)=E9 b ws plan n++[N4 b ws plan n]:=by simp[E9,List.range_succ]
def H4(l:List tB):List V:=[.list false (l.map Q7)]
theorem BBS{k:Nat}{x:List tB}(h:k<=10000):BZ bh 204 k [H4 x]=true:=by rw[BT (by simp) (by simp)];simp[maxLen,H4];omega
theorem ASZ(hb:Valid b)(hp:FL b plan)(hwl:ws.length=b.winds.length)(hok:DL ws):∀(d r c γ8:Nat),r+d=b.rows.toNat->1<c->∃fr c' γ',A3 fr 8=some (true,pv 87 γ' ((E9 b ws plan b.rows.toNat).map H4))/\∀n k,d<k->A9 (AE bh ann kn (n+2200) 90) TR (ann 90 (BV TR)) k ⟨c,[(2,true,.ptr 0 2 0 0),(3,true,.ptr 0 3 1 0),(6,true,.ref (EI b ws)),(8,true,pv 87 γ8 ((E9 b ws plan r).map H4)),(24,true,i b.rows),(25,true,i r)],⟨[],(2,0,.box (AC b))::(3,1,.box [FI plan])::pl 87 γ8 204 ((E9 b ws plan r).map H4)⟩⟩ =
  some (.exit 0,⟨c',fr,⟨[],(2,0,.box (AC b))::(3,1,.box [FI plan])::pl 87 γ' 204 ((E9 b ws plan b.rows.toNat).map H4)⟩⟩)
 |0,r,c,γ8,hd,hc=>by
  have hr:r=b.rows.toNat:=by omega
  have hro:=hb.ro;have hr':b.rows=(r:Int):=by omega
  rw[<-hr];refine⟨?fr,c,γ8,?g1,fun n k hk=>?g2⟩;case g2=>
   obtain⟨k,rfl⟩:∃k',k=k'+1:=⟨k-1,by omega⟩
   rw[AB]
   simp[AC,hr']
   rfl
  case g1=>simp
 |d+1,r,c,γ8,hd,hc=>by
  have hro:=hb.ro;have hpc:=hb.pl;have hw:=BH (k:=r) (by omega);have hr':(r:Int)<b.rows:=by omega
  obtain⟨c1,h1,q⟩:=AKO (ws:=ws) hb hp hwl hok r hr' ((E9 b ws plan r).map H4) γ8 c b.places.toNat 0 (c+1) (by omega) (by omega);have q:=fun n m=>q n (m+100) (by omega);obtain⟨fr,c',γ',e1,ih⟩:=ASZ hb hp hwl hok d (r+1) (c1+1) c1 (by omega) (by omega);have happ:=BBS (k:=(E9 b ws plan r).length) (x:=N4 b ws plan r) (by simp[E9];omega);rw[ADT]at q;rw[wI]at ih;refine⟨fr,c',γ',e1,fun n k hk=>?_⟩;obtain⟨k,rfl⟩:∃k',k=k'+1:=⟨k-1,by omega⟩;have ih:=ih n k (by omega);generalize E9 b ws plan b.rows.toNat=FF at ih|-;have hRl:(N4 b ws plan r).length=b.places.toNat:=by simp[N4]
  generalize N4 b ws plan r=RR at ih q happ hRl;obtain⟨PP,hPP⟩:∃P:Nat,b.places=P:=⟨b.places.toNat,by omega⟩;have hP2:b.places.toNat=PP:=by omega
  rw[hP2]at q hRl;subst hRl;rw[AB];simp only[AC,EI,hPP]at q ih|-;simp[H4]at ih q happ;simp[Q7]at q;have m1:RR.length*40<=140737488355328:=by omega
  have m2:RR.length<=maxLen:=by simp[maxLen];omega
  have htl:∀o,FH 0 30 o (pl 87 γ8 204 ((E9 b ws plan r).map H4))=pl 87 γ8 204 ((E9 b ws plan r).map H4):=fun o=>XG (by decide) _ _ _ (by simp[H4,Q7]);simp[hr',hw,H4,q,ih,happ,m1,m2,htl]
def lvB(b:AK)(plan:List (List Int)):AA:=[(2,0,.box (AC b)),(3,1,.box [FI plan])]
theorem wJ(hb:Valid b)(plan:List (List Int)):kB b (lvB b plan) 155 [.ptr 0 2 0 0,.ptr 0 3 1 0] 2 (D6 b plan):=by intro n d fr;rw[BC Tryz.func155 b155 rfl (by simp)];have q:=fun n=>APF n b hb plan;generalize D6 b plan=z at q|-;simp only[AC,lvB]at q|-;simp[A49,AF,q]
def H5(b:AK)(plan:List (List Int)):List (List tB)×Int:=if DU b=0 then(if D6 b plan=true then(if (FM b [] b.winds []).isEmpty=true then([],11) else(E9 b (FA b) plan b.rows.toNat,0)) else([],2)) else([],DU b)
theorem sO(n:Nat)(b:AK)(h40:∀l∈b.winds,l.length<=40)(plan:List (List Int)):AZ bh kn (AE bh ann kn (n+6200)) 117 [.agg (AC b),FI plan]=some (.tup [sl ((H5 b plan).1.map H4),i (H5 b plan).2]):=by
 rw[AN rfl,AO Tryz.func117 BFQ rfl (by simp[AC])];have hB:∀t:St,1<=t.up.length->AJ t (lvB b plan)=lvB b plan:=fun t ht=>by simp[lvB,AC]
 have slnil:sl ([]:List (List V))=.nil:=rfl;unfold H5;by_cases h:DU b=0
 ·have hb:=UL h;have hf:=wJ hb plan;rw[if_pos h];cases hz:D6 b plan with
  |false=>
   rw[hz]at hf
   rw[if_neg (by decide)]
   have q:=fun n=>tL (ff:=155) (cap:=[.ptr 0 2 0 0,.ptr 0 3 1 0]) hb hB (by simp) (by simp) 2 17 hf [(16,true,.fn 155 [] [.ptr 0 2 0 0,.ptr 0 3 1 0]),(15,true,.agg (AC b)),(2,true,.ptr 0 2 0 0),(3,true,.ptr 0 3 1 0)] (n+190)
   simp only[AC,lvB,bq,slnil]at q|-
   simp[AFC,AF,q]
  |true=>
   rw[hz]at hf
   rw[if_pos rfl]
   by_cases hT:FM b [] b.winds []=[]
   ·obtain⟨c',hc',q⟩:=tN (ff:=155) (cap:=[.ptr 0 2 0 0,.ptr 0 3 1 0]) hb hB (by simp) (by simp) 2 17 hf hT [(16,true,.fn 155 [] [.ptr 0 2 0 0,.ptr 0 3 1 0]),(15,true,.agg (AC b)),(2,true,.ptr 0 2 0 0),(3,true,.ptr 0 3 1 0)];rw[if_pos (by rw[hT];rfl)];have q:=fun n=>q (n+190);simp only[AC,lvB,bq,slnil]at q|-;simp[AFC,AF,q]
   ·obtain⟨c',hc',q⟩:=AGE (ff:=155) (cap:=[.ptr 0 2 0 0,.ptr 0 3 1 0]) hb hB (by simp) (by simp) 2 17 hf hT [(16,true,.fn 155 [] [.ptr 0 2 0 0,.ptr 0 3 1 0]),(15,true,.agg (AC b)),(2,true,.ptr 0 2 0 0),(3,true,.ptr 0 3 1 0)];rw[if_neg (by simpa using hT)];have q:=fun n=>q (n+190);have hro:=hb.ro;obtain⟨fr,c2,γ',e1,q6⟩:=ASZ (ws:=FA b) hb (yD hz) (nT _ _) (ADQ hb) b.rows.toNat 0 c' 0 (by omega) (by omega);have q6:=fun n k=>q6 n (k+100) (by omega);have e0:E9 b (FA b) plan 0=[]:=rfl;rw[e0]at q6;generalize E9 b (FA b) plan b.rows.toNat=FF at *;simp only[AC,EI,lvB,List.cons_append,List.nil_append]at q q6|-;simp at q q6;simp[AFC,AF,q,q6,e1];simp[H4,Q7]
 ·rw[if_neg h];have q:=fun n=>nP (ff:=155) (cap:=[.ptr 0 2 0 0,.ptr 0 3 1 0]) h40 hB (by simp) h 2 17 [(16,true,.fn 155 [] [.ptr 0 2 0 0,.ptr 0 3 1 0]),(15,true,.agg (AC b)),(2,true,.ptr 0 2 0 0),(3,true,.ptr 0 3 1 0)] (n+190);simp only[AC,lvB,bq,slnil]at q|-;simp[AFC,AF,q,h]
end
end Go.Proofs.Tryz.Op
