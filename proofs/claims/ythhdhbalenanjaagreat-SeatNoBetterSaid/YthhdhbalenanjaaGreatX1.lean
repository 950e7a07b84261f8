/- Contracts: Min of two, minimum, wider, facing, turn, the directions as an array. No condition. -/
import Derived.Test.YthhdhbalenanjaaGreatH1
import Derived.Test.YthhdhbalenanjaaGreatW4
open Go.Proofs.Tryz renaming prog->bh
open List renaming getElem?_eq_getElem->bj,getD_eq_getElem?_getD->bk,map_nil->bq,getElem_mem->bw,getElem_map->bx,ext_getElem->bz,getElem_range->bb,mem_map->bc,range->bf
set_option maxRecDepth 100000
set_option linter.unusedSimpArgs false
open Go Go.Pg Go.Proofs Go.Wind
namespace Go.Proofs.Tryz.Op
theorem AJY(a b:Int):(if b<a then b else a)=min a b:=by split<;>omega
theorem AJZ(a b:Int):(if a<b then b else a)=max a b:=by split<;>omega
theorem BDD(n:Nat)(a b:Int):A2 bh kn (AE bh ann kn (n+100)) 165 [.list false [[i a],[i b]]]=some (i (min a b)):=by
 rw[AO rfl,AP Tryz.func165 BHL rfl (by simp)];have hw:IntKind.i64.wrap (1+1)=2:=by decide
 simp[A6H,AG];rw[AB];simp[hw,AJY];rw[AB];simp
theorem AJ0(n:Nat)(a b:Int):A2 bh kn (AE bh ann kn (n+200)) 198 [.list false [[i a],[i b]]]=some (i (min a b)):=by rw[AO rfl,AP Tryz.func198 BHM rfl (by simp)];have q:=fun n=>BDD n a b;simp[A6I,AG,q]
def FW(r:Int×Int):List V:=[i r.1,i r.2]
theorem AY6(n:Nat)(r:Int×Int)(x:Int):A2 bh kn (AE bh ann kn (n+300)) 186 [.agg (FW r),i x]=some (.agg (FW (min r.1 x,max r.2 x))):=by rw[AO rfl,AP Tryz.func186 BHN rfl (by simp[FW])];have q:=fun n=>AJ0 n r.1 x;simp[A6J,AG,FW,q,AJZ]
theorem BDE{α:Type}(l:List α)(h:l.length=3):∃x y z,l=[x,y,z]:=by
 match l,h with
 |[x,y,z],_=>exact⟨x,y,z,rfl⟩
@[simp] theorem A4B(cs:List V):N7 (.ref cs)=some (.ref cs):=rfl
theorem A3(L:AA)(k γ:Nat)(r:A0):AA.put L k γ r=(k,γ,r)::L:=rfl
@[simp] theorem BDF:H9 bh 186=false:=by kernel_rfl
def EN(b:AN)(ws:List (List Int)):List V:=[i b.last,i b.rows,i b.places,i b.reach,li b.face,li b.sun,GW b.winds,.list false (b.breaks.map AF),.list false (b.notes.map AF),GW ws,.any,.any]
section
variable {b:AN}{ws:List (List Int)}{g0 g1 g2:Int}{h:Nat}
end
section
variable {b:AN}{ws plan:List (List Int)}
theorem Y5(b:AN)(t:List Int):t∈FQ b [] b.winds []↔DF b t=true:=by rw[jT];simp only[List.nil_append,List.map_id',List.mem_filter,QC,DF,Bool.and_eq_true,List.all_eq_true];refine and_congr_right fun _=>?_;rw[YF,List.all_eq_true]
theorem ADJ(hb:Valid b):DO (FH b):=DO.ask _ _ fun t ht=>LK hb (by
 have:=(Y5 b t).1 ht;simp only[DF,Bool.and_eq_true]at this;exact this.1)
theorem XJ(hb:Valid b)(hT:FQ b [] b.winds []≠[]):UJ b (FH b):=AF2 hb (Y5 b) hT
end
theorem QS{n:Int}(h:-1000<=n/\n<=1000):LC n:=⟨by omega,by omega⟩
@[simp] theorem clI(f:Nat)(l:List Int):(l.all ((fun e=>e.all (AH (f+1)))∘AJ))=true:=by simp[AJ]
@[simp] theorem clP(f:Nat)(l:List (Int×Int)):(l.all ((fun e=>e.all (AH (f+1)))∘AF))=true:=by simp[AF]
@[simp] theorem clL(f:Nat)(l:List (List Int)):(l.all ((fun e=>e.all (AH (f+2)))∘AL))=true:=by simp[AL,AJ]
theorem slX{α:Type}{f:α->List V}{l:List α}(h:l≠[]):sl (l.map f)=.list false (l.map f):=by
 cases l with
 |nil=>exact absurd rfl h
 |cons x l=>rfl
theorem AAM{b:AN}{plan:List (List Int)}(hb:Valid b)(hp:FP b plan){h:Nat}(hh:h<plan.length):plan[h].length<=3/\(plan[h].length:Int)=b.rows/\∀x∈plan[h],0<=x/\x<=3:=by
 have hro:=hb.ro;have e:plan.getD h []=plan[h]:=by rw[bk,bj hh];rfl
 have hr:=hp.row h hh;have hd:=hp.dir h;rw[e]at hr;refine⟨by omega,hr,fun x hx=>?_⟩;obtain⟨r,h1,rfl⟩:=List.getElem_of_mem hx;have:=hd r hh (by rw[e];exact h1);unfold DC at this;rw[e,bk,bj h1]at this;exact C5.1 this
section
variable {b:AN}{x0 x1 x2 y0 y1 y2:Int}
end
section
variable {b:AN}{plan:List (List Int)}
end
@[simp] theorem A4D:H9 bh 157=false:=by kernel_rfl
theorem AY7(n:Nat)(x:eY):A2 bh kn (AE bh ann kn (n+50)) 156 [.agg (F6 x)]=some (i x.calm):=by rw[AO rfl,AP Tryz.func156 BHR rfl (by simp[F6])];simp[A6N,AG,F6]
theorem AY8(n:Nat)(x:eY):A2 bh kn (AE bh ann kn (n+50)) 158 [.agg (F6 x)]=some (i x.good):=by rw[AO rfl,AP Tryz.func158 BHS rfl (by simp[F6])];simp[A6O,AG,F6]
section
variable {b:AN}{ws plan:List (List Int)}{ff:FuncId}{sel:eY->Int}{s:Nat×Nat}
def IH(b:AN)(plan:List (List Int))(s:Nat×Nat)(sel:eY->Int)(h:Nat)(w:Int):Int:=sel (ofB b (s.1,s.2) h (DC plan h s.1) w)
theorem BDG(hb:Valid b)(hp:FP b plan)(hsel:∀n x,A2 bh kn (AE bh ann kn (n+50)) ff [.agg (F6 x)]=some (i (sel x)))(hs1:(s.1:Int)<b.rows)(hs2:(s.2:Int)<b.places)(out:Int×Int)(h:Nat)(hh:h<plan.length)(xs:List Int)(hx:∀x∈xs,0<=x/\x<=3)(hxl:xs.length<=100)(γ:Nat):∀(d j c:Nat),j+d=xs.length->γ<c->∃c',c<=c'/\∀n k,d<k->BF (AE bh ann kn (n+1400) 66) TR (ann 66 (BW TR)) k ⟨c,[(1,true,.ref (EN b ws)),(2,true,GW plan),(4,true,.ptr 0 4 0 0),(7,true,.ptr 0 7 1 0),(8,true,.ptr 0 8 2 0),(9,true,i h),(11,true,.ptr 0 11 γ 0),(17,true,GW ws),(18,true,i ws.length),(19,true,i h),(25,true,li xs),(26,true,i xs.length),(27,true,i j)],⟨[],[(4,0,.box [.fn ff [] []]),(7,1,.box [i s.1,i s.2]),(8,2,.box (FW out)),(11,γ,.box (FW (DP (1,0) ((xs.take j).map (IH b plan s sel h)))))]⟩⟩ =
  some (.exit 2,⟨c',[(28,true,.bool false),(1,true,.ref (EN b ws)),(2,true,GW plan),(4,true,.ptr 0 4 0 0),(7,true,.ptr 0 7 1 0),(8,true,.ptr 0 8 2 0),(9,true,i h),(11,true,.ptr 0 11 γ 0),(17,true,GW ws),(18,true,i ws.length),(19,true,i h),(25,true,li xs),(26,true,i xs.length),(27,true,i xs.length)],⟨[],[(4,0,.box [.fn ff [] []]),(7,1,.box [i s.1,i s.2]),(8,2,.box (FW out)),(11,γ,.box (FW (DP (1,0) (xs.map (IH b plan s sel h)))))]⟩⟩)
 |0,j,c,hd,hc=>by
  have:j=xs.length:=by omega
  subst this;refine⟨c,Nat.le_refl _,fun n k hk=>?_⟩;obtain⟨k,rfl⟩:∃k',k=k'+1:=⟨k-1,by omega⟩;rw[AB,List.take_length];simp[FW]
 |d+1,j,c,hd,hc=>by
  have hj:j<xs.length:=by omega
  have hla:=hb.la;have hro:=hb.ro;have hpl:=hb.pl;have hsu:=hb.su;have hlen:=hp.len;have hwj:=BM (k:=j) (by omega);obtain⟨c',hc',ih⟩:=BDG hb hp hsel hs1 hs2 out h hh xs hx hxl γ d (j+1) (c+1) (by omega) (by omega);refine⟨c',by omega,fun n k hk=>?_⟩;obtain⟨k,rfl⟩:∃k',k=k'+1:=⟨k-1,by omega⟩;have ih:=ih n k (by omega);have hxj:=hx _ (bw hj);have e1:(xs.take (j+1)).map (IH b plan s sel h)=(xs.take j).map (IH b plan s sel h)++[IH b plan s sel h xs[j]]:=by rw[List.take_succ_eq_append_getElem hj,List.map_append,List.map_cons,bq]
  have e2:DP (1,0) ((xs.take (j+1)).map (IH b plan s sel h))=(min (DP (1,0) ((xs.take j).map (IH b plan s sel h))).1 (IH b plan s sel h xs[j]),max (DP (1,0) ((xs.take j).map (IH b plan s sel h))).2 (IH b plan s sel h xs[j])):=by rw[e1];unfold DP;rw[List.foldl_append];rfl
  rw[e2]at ih;have qw:=fun n=>AY6 n (DP (1,0) ((xs.take j).map (IH b plan s sel h))) (IH b plan s sel h xs[j]);obtain⟨r1,r2,r3⟩:=AAM hb hp hh;have hsr:s.1<plan[h].length:=by omega
  have hpa:DC plan h s.1=plan[h][s.1]:=by unfold DC;rw[show plan.getD h []=plan[h] by rw[bk,bj hh];rfl,bk,bj hsr];rfl
  have qo:=fun n=>kOf n b hb (s.1,s.2) (by simp only;omega) h (by omega) (DC plan h s.1) xs[j] hxj;have qs:=fun n=>hsel n (ofB b (s.1,s.2) h (DC plan h s.1) xs[j]);have es:IH b plan s sel h xs[j]=sel (ofB b (s.1,s.2) h (DC plan h s.1) xs[j]):=rfl;rw[es]at ih qw;rw[hpa]at qo qs ih qw;generalize DP (1,0) (xs.map (IH b plan s sel h))=RR at ih|-;generalize DP (1,0) ((xs.take j).map (IH b plan s sel h))=R at ih qw|-;generalize sel (ofB b (s.1,s.2) h plan[h][s.1] xs[j])=y at qs ih qw;generalize ofB b (s.1,s.2) h plan[h][s.1] xs[j]=O at qs qo;have hc1:γ<c+1:=by omega
  rw[AB];simp only[AC,EN,FW,AF,F6]at qo qs ih qw|-;simp at ih;simp[hj,hwj,hh,hsr,AJ,AL,AF,qo,qs,qw,hc1,A3,ih]
def P2(b:AN)(ws plan:List (List Int))(s:Nat×Nat)(sel:eY->Int)(n:Nat):Int×Int:=AMK (1,0) ws (IH b plan s sel) n
theorem AJ1{l:List Int}(h:∀x∈l,0<=x/\x<=1):0<=(DP (1,0) l).1/\(DP (1,0) l).1<=1/\0<=(DP (1,0) l).2/\(DP (1,0) l).2<=1:=by have:=xO l (1,0) 0 1 h (by simp) (by simp);simp only at this;omega
theorem BDH(hb:Valid b)(hp:FP b plan)(hsel:∀n x,A2 bh kn (AE bh ann kn (n+50)) ff [.agg (F6 x)]=some (i (sel x)))(hse:∀h w,0<=IH b plan s sel h w/\IH b plan s sel h w<=1)(hs1:(s.1:Int)<b.rows)(hs2:(s.2:Int)<b.places)(hwl:ws.length=b.winds.length)(hok:DO ws):∀(d h c:Nat),h+d=ws.length->3<=c->∃c',3<=c'/\∀n k,d<k->BF (AE bh ann kn (n+1600) 66) TS (ann 66 (BW TS)) k ⟨c,[(1,true,.ref (EN b ws)),(2,true,GW plan),(4,true,.ptr 0 4 0 0),(7,true,.ptr 0 7 1 0),(8,true,.ptr 0 8 2 0),(17,true,GW ws),(18,true,i ws.length),(19,true,i h)],⟨[],[(4,0,.box [.fn ff [] []]),(7,1,.box [i s.1,i s.2]),(8,2,.box (FW (P2 b ws plan s sel h)))]⟩⟩ =
  some (.exit 0,⟨c',[(20,true,.bool false),(1,true,.ref (EN b ws)),(2,true,GW plan),(4,true,.ptr 0 4 0 0),(7,true,.ptr 0 7 1 0),(8,true,.ptr 0 8 2 0),(17,true,GW ws),(18,true,i ws.length),(19,true,i ws.length)],⟨[],[(4,0,.box [.fn ff [] []]),(7,1,.box [i s.1,i s.2]),(8,2,.box (FW (P2 b ws plan s sel ws.length)))]⟩⟩)
 |0,h,c,hd,hc=>by
  have:h=ws.length:=by omega
  subst this;refine⟨c,hc,fun n k hk=>?_⟩;obtain⟨k,rfl⟩:∃k',k=k'+1:=⟨k-1,by omega⟩;rw[AB];simp[FW]
 |d+1,h,c,hd,hc=>by
  have hh:h<ws.length:=by omega
  have hh5:=hb.hl;have hwi:=hb.wi;have hlen:=hp.len;have hwh:=BM (k:=h) (by omega);have hwd:ws.getD h []=ws[h]:=by rw[bk,bj hh];rfl
  have hw4:=hok.len _ (bw hh);obtain⟨c1,hc1,q⟩:=BDG (ws:=ws) hb hp hsel hs1 hs2 (P2 b ws plan s sel h) h (by omega) ws[h] (hok.lo _ (bw hh)) (by omega) c ws[h].length 0 (c+1) (by omega) (by omega);obtain⟨c',hc',ih⟩:=BDH hb hp hsel hse hs1 hs2 hwl hok d (h+1) c1 (by omega) (by omega);refine⟨c',hc',fun n k hk=>?_⟩;obtain⟨k,rfl⟩:∃k',k=k'+1:=⟨k-1,by omega⟩;have ih:=ih n k (by omega);have q:=fun n k=>q n (k+100) (by omega);have e1:P2 b ws plan s sel (h+1)=((P2 b ws plan s sel h).1+(DP (1,0) (ws[h].map (IH b plan s sel h))).1,(P2 b ws plan s sel h).2+(DP (1,0) (ws[h].map (IH b plan s sel h))).2):=by rw[<-hwd];rfl
  have hr:=AJ1 (l:=ws[h].map (IH b plan s sel h)) fun x hx=>by obtain⟨w,_,rfl⟩:=bc.1 hx;exact hse h w
  have hb1:=M8 (n:=h) (c:=1) (f:=fun h=>(DP (1,0) ((ws.getD h []).map (IH b plan s sel h))).1) fun j _=>by
   have:=AJ1 (l:=(ws.getD j []).map (IH b plan s sel j)) fun x hx=>by obtain⟨w,_,rfl⟩:=bc.1 hx;exact hse j w
   omega
  have hb2:=M8 (n:=h) (c:=1) (f:=fun h=>(DP (1,0) ((ws.getD h []).map (IH b plan s sel h))).2) fun j _=>by
   have:=AJ1 (l:=(ws.getD j []).map (IH b plan s sel j)) fun x hx=>by obtain⟨w,_,rfl⟩:=bc.1 hx;exact hse j w
   omega
  change 0<=(P2 b ws plan s sel h).1/\(P2 b ws plan s sel h).1<=h*1 at hb1;change 0<=(P2 b ws plan s sel h).2/\(P2 b ws plan s sel h).2<=h*1 at hb2;rw[e1]at ih;rw[List.take_zero,bq]at q;have e0:DP (1,0) []=(1,0):=rfl;rw[e0]at q;generalize P2 b ws plan s sel ws.length=TT at ih|-;generalize P2 b ws plan s sel h=T at ih q hb1 hb2|-;generalize DP (1,0) (ws[h].map (IH b plan s sel h))=R at ih q hr;have w1:IntKind.i64.wrap (T.1+R.1)=T.1+R.1:=AU (by omega) (by omega);have w2:IntKind.i64.wrap (T.2+R.2)=T.2+R.2:=AU (by omega) (by omega);have hc2:2<c1:=by omega
  have hcc:c<c+1:=by omega
  rw[AB];simp only[EN,FW]at q ih|-;simp at q ih;simp[hh,hwh,AJ,AL,q,w1,w2,hc2,hcc,A3,ih]
theorem sA(n:Nat)(hb:Valid b)(hp:FP b plan)(hsel:∀n x,A2 bh kn (AE bh ann kn (n+50)) ff [.agg (F6 x)]=some (i (sel x)))(hse:∀h w,0<=IH b plan s sel h w/\IH b plan s sel h w<=1)(hs1:(s.1:Int)<b.rows)(hs2:(s.2:Int)<b.places)(hwl:ws.length=b.winds.length)(hok:DO ws):A2 bh kn (AE bh ann kn (n+1800)) 157 [.agg [.fn ff [] []],.ref (EN b ws),GW plan,.agg [i s.1,i s.2]]=some (.agg (FW (P2 b ws plan s sel ws.length))):=by
 rw[AO rfl,AP Tryz.func157 BHQ rfl (by simp[EN,AJ,AL,AF])];obtain⟨c',hc',q⟩:=BDH (s:=s) hb hp hsel hse hs1 hs2 hwl hok ws.length 0 3 (by omega) (Nat.le_refl _);have h5:=hb.hl;have q:=fun n k=>q n (k+150) (by omega);have e0:P2 b ws plan s sel 0=(0,0):=rfl;rw[e0]at q;generalize P2 b ws plan s sel ws.length=T at q|-;have hc2:2<c':=by omega
 simp only[EN,FW]at q|-;simp at q;simp[A6M,AG,AL,q,hc2,A3]
end
end Go.Proofs.Tryz.Op
namespace Go.Wind
structure sK where
 sun:Int
 calm:Int×Int
 good:Int×Int
end Go.Wind
namespace Go.Proofs.Tryz.Op
@[simp] theorem A4E(T:TypeId)(x:Operand)(k:Nat)(f:Operand->Option V):IC bh (.oth (.field T x k)) f=[]:=rfl
@[simp] theorem A4F(f:FuncId):weakC (.fn f [] [])=.fn f [] []:=rfl
@[simp] theorem A4G(f:FuncId):weakM (.fn f [] [])=.fn f [] []:=rfl
@[simp] theorem AY9(k:Nat)(f:FuncId):AH (k+1) (.fn f [] [])=true:=rfl
def P3(x:sK):List V:=[i x.sun,i x.calm.1,i x.calm.2,i x.good.1,i x.good.2]
section
variable {b:AN}{ws plan:List (List Int)}
def sB(b:AN)(ws plan:List (List Int))(r p:Nat):sK:=⟨MM b plan r plan.length,nQ b ws plan r p,XP b ws plan r p⟩
theorem ADK(b:AN)(plan:List (List Int))(r n:Nat):MM b plan r (n+1)=MM b plan r n+(if M9 b plan r n=true then 1 else 0):=by unfold MM;simp only[mD];split<;>simp
theorem AJ2(hb:Valid b)(hp:FP b plan)(r p:Nat)(hr:(r:Int)<b.rows)(hp2:(p:Int)<b.places)(A:List (List V))(γ8 γ12:Nat):∀(d h c γ:Nat) (rs:List sK),h+d=plan.length->(rs.length:Int)=b.places->rs[p]? = some ⟨MM b plan r h,(0,0),(0,0)⟩->γ<c->∀n k,d<k->BF (AE bh ann kn (n+1400) 90) O1 (ann 90 (BW O1)) k ⟨c,[(2,true,.ptr 0 2 0 0),(3,true,.ptr 0 3 1 0),(6,true,.ref (EN b ws)),(8,true,pv 87 γ8 A),(9,true,i r),(10,true,.vec 0 30 γ rs.length),(11,true,i p),(12,true,.ptr 0 12 γ12 0),(24,true,i b.rows),(25,true,i r),(32,true,i rs.length),(33,true,i p),(40,true,i plan.length),(41,true,i h)],⟨[],(2,0,.box (AC b))::(3,1,.box [GW plan])::(12,γ12,.box [i r,i p])::(30,γ,.vec 209 (rs.map P3))::pl 87 γ8 204 A⟩⟩ =
  some (.exit 4,⟨c,(42,true,.bool false)::[(2,true,.ptr 0 2 0 0),(3,true,.ptr 0 3 1 0),(6,true,.ref (EN b ws)),(8,true,pv 87 γ8 A),(9,true,i r),(10,true,.vec 0 30 γ rs.length),(11,true,i p),(12,true,.ptr 0 12 γ12 0),(24,true,i b.rows),(25,true,i r),(32,true,i rs.length),(33,true,i p),(40,true,i plan.length),(41,true,i plan.length)],⟨[],(2,0,.box (AC b))::(3,1,.box [GW plan])::(12,γ12,.box [i r,i p])::(30,γ,.vec 209 ((rs.set p ⟨MM b plan r plan.length,(0,0),(0,0)⟩).map P3))::pl 87 γ8 204 A⟩⟩)
 |0,h,c,γ,rs,hd,hl,e,hγ,n,k+1,hk=>by
  have:h=plan.length:=by omega
  subst this;have:rs.set p ⟨MM b plan r plan.length,(0,0),(0,0)⟩=rs:=by
   have hpl:p<rs.length:=by omega
   rw[bj hpl,Option.some.injEq]at e;rw[<-e];exact List.set_getElem_self hpl
  rw[this,AB];simp
 |d+1,h,c,γ,rs,hd,hl,e,hγ,n,k+1,hk=>by
  have hh:h<plan.length:=by omega
  have hla:=hb.la;have hro:=hb.ro;have hpc:=hb.pl;have hsu:=hb.su;have hlen:=hp.len;have hwh:=BM (k:=h) (by omega);obtain⟨r1,r2,r3⟩:=AAM hb hp hh;have hr2:r<plan[h].length:=by omega
  have hpa:DC plan h r=plan[h][r]:=by unfold DC;rw[show plan.getD h []=plan[h] by rw[bk,bj hh];rfl,bk,bj hr2];rfl
  have q:=fun n=>kOf n b hb (r,p) (by simp only;omega) h (by omega) (DC plan h r) 0 (by omega);rw[hpa]at q;have hpl:p<rs.length:=by omega
  have ih:=AJ2 hb hp r p hr hp2 A γ8 γ12 d (h+1) c γ (rs.set p ⟨MM b plan r (h+1),(0,0),(0,0)⟩) (by omega) (by simpa using hl) (by rw[List.getElem?_set_self hpl]) hγ n k (by omega);rw[List.set_set,List.length_set]at ih;rw[bj hpl,Option.some.injEq]at e;have hs:=O7 (M9 b plan r) h;have hsb:0<=MM b plan r h/\MM b plan r h<=h:=by unfold MM;omega
  have hof:(ofB b (r,p) h plan[h][r] 0).sun=if M9 b plan r h=true then 1 else 0:=by
   have:M9 b plan r h=decide (b.sun.getD h 0=plan[h][r]):=by unfold M9;rw[hpa];congr 1;exact propext eq_comm
   rw[this];rfl
  have hst:MM b plan r (h+1)=MM b plan r h+(ofB b (r,p) h plan[h][r] 0).sun:=by rw[ADK,hof]
  have hw:IntKind.i64.wrap (MM b plan r h+(ofB b (r,p) h plan[h][r] 0).sun)=MM b plan r h+(ofB b (r,p) h plan[h][r] 0).sun:=AU (by rw[hof];split<;>omega) (by rw[hof];split<;>omega);rw[hst]at ih;generalize rs.set p ⟨MM b plan r plan.length,(0,0),(0,0)⟩=F at ih|-;generalize MM b plan r h=S at *;generalize ofB b (r,p) h plan[h][r] 0=O at *;rw[List.map_set]at ih;have heg:(rs.map P3)[p]'(by simpa using hpl)=[i S,i 0,i 0,i 0,i 0]:=by rw[bx,e];rfl
  rw[AB];simp only[AC,AF,F6,P3,EN]at q ih heg|-;simp at ih;simp[hh,hr2,hwh,AJ,AL,AF,q,hpl,heg,hw,hγ,A3,GK,ih]
def M1(b:AN)(ws plan:List (List Int))(r p:Nat):List sK:=(bf b.places.toNat).map fun j=>if j<p then sB b ws plan r j else⟨0,(0,0),(0,0)⟩
def N4(b:AN)(ws plan:List (List Int))(r:Nat):List sK:=(bf b.places.toNat).map (sB b ws plan r)
theorem eE(b:AN)(ws plan:List (List Int))(r p:Nat):(M1 b ws plan r p).length=b.places.toNat:=by simp[M1]
theorem AJ3{r p:Nat}(h:p<b.places.toNat):(M1 b ws plan r p)[p]? = some ⟨0,(0,0),(0,0)⟩:=by simp[M1,h]
theorem AJ4{r p:Nat}:(M1 b ws plan r p).set p (sB b ws plan r p)=M1 b ws plan r (p+1):=by
 apply bz (by simp[M1]);intro j h1 h2;simp only[M1,List.getElem_set,bx,bb];by_cases e:p=j
 ·subst e;simp
 ·rw[if_neg e];have:(j<p)=(j<p+1):=propext ⟨fun h=>by omega,fun h=>by omega⟩;simp only[this]
theorem ADL(b:AN)(ws plan:List (List Int))(r:Nat):M1 b ws plan r b.places.toNat=N4 b ws plan r:=by
 apply bz (by simp[M1,N4]);intro j h1 h2;have:j<b.places.toNat:=by simpa [M1]using h1
 simp only[M1,N4,bx,bb,if_pos this]
theorem ADM(b:AN)(ws plan:List (List Int))(r:Nat):M1 b ws plan r 0=List.replicate b.places.toNat ⟨0,(0,0),(0,0)⟩:=by apply bz (by simp[M1]);intro j h1 h2;simp[M1]
theorem AJ5(hb:Valid b)(hp:FP b plan)(hwl:ws.length=b.winds.length)(hok:DO ws)(r:Nat)(hr:(r:Int)<b.rows)(A:List (List V))(γ8 γ:Nat):∀(d p c:Nat),p+d=b.places.toNat->γ<c->∃c',γ<c'/\∀n k,d<k->BF (AE bh ann kn (n+2000) 90) O2 (ann 90 (BW O2)) k ⟨c,[(2,true,.ptr 0 2 0 0),(3,true,.ptr 0 3 1 0),(6,true,.ref (EN b ws)),(8,true,pv 87 γ8 A),(9,true,i r),(10,true,.vec 0 30 γ b.places.toNat),(24,true,i b.rows),(25,true,i r),(32,true,i b.places.toNat),(33,true,i p)],⟨[],(2,0,.box (AC b))::(3,1,.box [GW plan])::(30,γ,.vec 209 ((M1 b ws plan r p).map P3))::pl 87 γ8 204 A⟩⟩ =
  some (.exit 2,⟨c',(34,true,.bool false)::[(2,true,.ptr 0 2 0 0),(3,true,.ptr 0 3 1 0),(6,true,.ref (EN b ws)),(8,true,pv 87 γ8 A),(9,true,i r),(10,true,.vec 0 30 γ b.places.toNat),(24,true,i b.rows),(25,true,i r),(32,true,i b.places.toNat),(33,true,i b.places.toNat)],⟨[],(2,0,.box (AC b))::(3,1,.box [GW plan])::(30,γ,.vec 209 ((N4 b ws plan r).map P3))::pl 87 γ8 204 A⟩⟩)
 |0,p,c,hd,hγ=>by
  have:p=b.places.toNat:=by omega
  subst this;refine⟨c,hγ,fun n k hk=>?_⟩;obtain⟨k,rfl⟩:∃k',k=k'+1:=⟨k-1,by omega⟩;rw[ADL,AB];simp
 |d+1,p,c,hd,hγ=>by
  have hpc:=hb.pl;have hla:=hb.la;have hlen:=hp.len;have hw:=BM (k:=p) (by omega);have hp':p<b.places.toNat:=by omega
  obtain⟨c',h1,ih⟩:=AJ5 hb hp hwl hok r hr A γ8 γ d (p+1) (c+3) (by omega) (by omega);have q:=AJ2 (ws:=ws) hb hp r p hr (by omega) A γ8 c plan.length 0 (c+1) γ (M1 b ws plan r p) (by omega) (by rw[eE];omega) (AJ3 hp') (by omega);rw[eE]at q;have q:=fun n m=>q n (m+100) (by omega);have qc:=fun n=>sA (ws:=ws) (ff:=156) (sel:=eY.calm) (s:=(r,p)) n hb hp AY7 (fun h w=>aK _) hr (by simp only;omega) hwl hok;have qg:=fun n=>sA (ws:=ws) (ff:=158) (sel:=eY.good) (s:=(r,p)) n hb hp AY8 (fun h w=>aK _) hr (by simp only;omega) hwl hok;have ec:P2 b ws plan (r,p) eY.calm ws.length=nQ b ws plan r p:=rfl;have eg:P2 b ws plan (r,p) eY.good ws.length=XP b ws plan r p:=rfl;rw[ec]at qc;rw[eg]at qg;have hst:((M1 b ws plan r p).set p ⟨MM b plan r plan.length,(0,0),(0,0)⟩).set p (sB b ws plan r p)=M1 b ws plan r (p+1):=by rw[List.set_set,AJ4]
  have hl:=eE b ws plan r p;have hbp:P3 (sB b ws plan r p)=[i (MM b plan r plan.length),i (nQ b ws plan r p).1,i (nQ b ws plan r p).2,i (XP b ws plan r p).1,i (XP b ws plan r p).2]:=rfl;rw[<-hst,List.map_set,hbp]at ih;generalize M1 b ws plan r p=R0 at q ih hl|-;generalize sB b ws plan r p=BP at *;generalize nQ b ws plan r p=C at *;generalize XP b ws plan r p=G at *;generalize N4 b ws plan r=RR at ih|-;generalize MM b plan r plan.length=S at *;generalize b.places.toNat=PP at hp' hl ih q|-;have hpl:p<R0.length:=by omega
  have heg:((R0.set p ⟨S,(0,0),(0,0)⟩).map P3)[p]? = some [i S,i 0,i 0,i 0,i 0]:=by simp[P3,hpl]
  have hle:PP<=R0.length:=by omega
  refine⟨c',h1,fun n k hk=>?_⟩;obtain⟨k,rfl⟩:∃k',k=k'+1:=⟨k-1,by omega⟩;have ih:=ih n k (by omega);rw[AB];generalize hRR:R0.set p ⟨S,(0,0),(0,0)⟩=R1 at *;have hl1:R1.length=PP:=by rw[<-hRR];simpa using hl
  have hpl1:p<R1.length:=by omega
  rw[bj (by simpa using hpl1),Option.some.injEq]at heg;simp only[AC,EN,FW]at q qc qg ih|-;simp at q ih;simp[hp',hw,AJ,AL,AF,q,qc,qg,hpl1,heg,A3,GK,EX,EG,B7,BV,BD,show Nat.beq 2 1=false from rfl,hl1,show γ<c+1+1+1 by omega,ih]
def FE(b:AN)(ws plan:List (List Int))(n:Nat):List (List sK):=(bf n).map (N4 b ws plan)
theorem wD(b:AN)(ws plan:List (List Int))(n:Nat):FE b ws plan (n+1)=FE b ws plan n++[N4 b ws plan n]:=by simp[FE,List.range_succ]
def HG(l:List sK):List V:=[.list false (l.map P3)]
theorem BDI{k:Nat}{x:List sK}(h:k<=10000):B9 bh 204 k [HG x]=true:=by rw[CB (by simp[HG]) (by simp)];simp[maxLen,HG];omega
theorem AS0(hb:Valid b)(hp:FP b plan)(hwl:ws.length=b.winds.length)(hok:DO ws):∀(d r c γ8:Nat),r+d=b.rows.toNat->1<c->∃fr c' γ',BC fr 8=some (true,pv 87 γ' ((FE b ws plan b.rows.toNat).map HG))/\∀n k,d<k->BF (AE bh ann kn (n+2200) 90) TU (ann 90 (BW TU)) k ⟨c,[(2,true,.ptr 0 2 0 0),(3,true,.ptr 0 3 1 0),(6,true,.ref (EN b ws)),(8,true,pv 87 γ8 ((FE b ws plan r).map HG)),(24,true,i b.rows),(25,true,i r)],⟨[],(2,0,.box (AC b))::(3,1,.box [GW plan])::pl 87 γ8 204 ((FE b ws plan r).map HG)⟩⟩ =
  some (.exit 0,⟨c',fr,⟨[],(2,0,.box (AC b))::(3,1,.box [GW plan])::pl 87 γ' 204 ((FE b ws plan b.rows.toNat).map HG)⟩⟩)
 |0,r,c,γ8,hd,hc=>by
  have hr:r=b.rows.toNat:=by omega
  have hro:=hb.ro;have hr':b.rows=(r:Int):=by omega
  rw[<-hr];refine⟨?fr,c,γ8,?g1,fun n k hk=>?g2⟩;case g2=>
   obtain⟨k,rfl⟩:∃k',k=k'+1:=⟨k-1,by omega⟩
   rw[AB]
   simp[AC,hr']
   rfl
  case g1=>simp
 |d+1,r,c,γ8,hd,hc=>by
  have hro:=hb.ro;have hpc:=hb.pl;have hw:=BM (k:=r) (by omega);have hr':(r:Int)<b.rows:=by omega
  obtain⟨c1,h1,q⟩:=AJ5 (ws:=ws) hb hp hwl hok r hr' ((FE b ws plan r).map HG) γ8 c b.places.toNat 0 (c+1) (by omega) (by omega);have q:=fun n m=>q n (m+100) (by omega);obtain⟨fr,c',γ',e1,ih⟩:=AS0 hb hp hwl hok d (r+1) (c1+1) c1 (by omega) (by omega);have happ:=BDI (k:=(FE b ws plan r).length) (x:=N4 b ws plan r) (by simp[FE];omega);rw[ADM]at q;rw[wD]at ih;refine⟨fr,c',γ',e1,fun n k hk=>?_⟩;obtain⟨k,rfl⟩:∃k',k=k'+1:=⟨k-1,by omega⟩;have ih:=ih n k (by omega);generalize FE b ws plan b.rows.toNat=FF at ih|-;have hRl:(N4 b ws plan r).length=b.places.toNat:=by simp[N4]
  generalize N4 b ws plan r=RR at ih q happ hRl;obtain⟨PP,hPP⟩:∃P:Nat,b.places=P:=⟨b.places.toNat,by omega⟩;have hP2:b.places.toNat=PP:=by omega
  rw[hP2]at q hRl;subst hRl;rw[AB];simp only[AC,EN,hPP]at q ih|-;simp[HG]at ih q happ;simp[P3]at q;have m1:RR.length*40<=140737488355328:=by omega
  have m2:RR.length<=maxLen:=by simp[maxLen];omega
  have htl:∀o,FB 0 30 o (pl 87 γ8 204 ((FE b ws plan r).map HG))=pl 87 γ8 204 ((FE b ws plan r).map HG):=fun o=>W8 (by decide) _ _ _ (by simp[HG,P3]);simp[hr',hw,HG,q,ih,happ,m1,m2,htl]
def lvB(b:AN)(plan:List (List Int)):AA:=[(2,0,.box (AC b)),(3,1,.box [GW plan])]
theorem wE(hb:Valid b)(plan:List (List Int)):jP b (lvB b plan) 155 [.ptr 0 2 0 0,.ptr 0 3 1 0] 2 (EV b plan):=by intro n d fr;rw[BA Tryz.func155 b155 rfl (by simp)];have q:=fun n=>AO2 n b hb plan;generalize EV b plan=z at q|-;simp only[AC,lvB]at q|-;simp[A6P,AG,q,AJ,AL,AF]
def IF(b:AN)(plan:List (List Int)):List (List sK)×Int:=if D4 b=0 then(if EV b plan=true then(if (FQ b [] b.winds []).isEmpty=true then([],11) else(FE b (FH b) plan b.rows.toNat,0)) else([],2)) else([],D4 b)
theorem sC(n:Nat)(b:AN)(h40:∀l∈b.winds,l.length<=40)(plan:List (List Int)):A2 bh kn (AE bh ann kn (n+6200)) 117 [.agg (AC b),GW plan]=some (.tup [sl ((IF b plan).1.map HG),i (IF b plan).2]):=by
 rw[AO rfl,AP Tryz.func117 BHT rfl (by simp[AC,AJ,AL,AF])];have hB:∀t:St,1<=t.up.length->AK t (lvB b plan)=lvB b plan:=fun t ht=>by simp[lvB,AC,AJ,AL,AF]
 have slnil:sl ([]:List (List V))=.nil:=rfl;unfold IF;by_cases h:D4 b=0
 ·have hb:=UL h;have hf:=wE hb plan;rw[if_pos h];cases hz:EV b plan with
  |false=>
   rw[hz]at hf
   rw[if_neg (by decide)]
   have q:=fun n=>tA (ff:=155) (cap:=[.ptr 0 2 0 0,.ptr 0 3 1 0]) hb hB (by simp) (by simp) 2 17 hf [(16,true,.fn 155 [] [.ptr 0 2 0 0,.ptr 0 3 1 0]),(15,true,.agg (AC b)),(2,true,.ptr 0 2 0 0),(3,true,.ptr 0 3 1 0)] (n+190)
   simp only[AC,lvB,bq,slnil]at q|-
   simp[AEZ,AG,AJ,AL,AF,q]
  |true=>
   rw[hz]at hf
   rw[if_pos rfl]
   by_cases hT:FQ b [] b.winds []=[]
   ·obtain⟨c',hc',q⟩:=tC (ff:=155) (cap:=[.ptr 0 2 0 0,.ptr 0 3 1 0]) hb hB (by simp) (by simp) 2 17 hf hT [(16,true,.fn 155 [] [.ptr 0 2 0 0,.ptr 0 3 1 0]),(15,true,.agg (AC b)),(2,true,.ptr 0 2 0 0),(3,true,.ptr 0 3 1 0)];rw[if_pos (by rw[hT];rfl)];have q:=fun n=>q (n+190);simp only[AC,lvB,bq,slnil]at q|-;simp[AEZ,AG,AJ,AL,AF,q]
   ·obtain⟨c',hc',q⟩:=AFY (ff:=155) (cap:=[.ptr 0 2 0 0,.ptr 0 3 1 0]) hb hB (by simp) (by simp) 2 17 hf hT [(16,true,.fn 155 [] [.ptr 0 2 0 0,.ptr 0 3 1 0]),(15,true,.agg (AC b)),(2,true,.ptr 0 2 0 0),(3,true,.ptr 0 3 1 0)];rw[if_neg (by simpa using hT)];have q:=fun n=>q (n+190);have hro:=hb.ro;obtain⟨fr,c2,γ',e1,q6⟩:=AS0 (ws:=FH b) hb (xU hz) (nM _ _) (ADJ hb) b.rows.toNat 0 c' 0 (by omega) (by omega);have q6:=fun n k=>q6 n (k+100) (by omega);have e0:FE b (FH b) plan 0=[]:=rfl;rw[e0]at q6;generalize FE b (FH b) plan b.rows.toNat=FF at *;simp only[AC,EN,lvB,List.cons_append,List.nil_append]at q q6|-;simp at q q6;simp[AEZ,AG,AJ,AL,AF,q,q6,e1];simp[HG,P3]
 ·rw[if_neg h];have q:=fun n=>nI (ff:=155) (cap:=[.ptr 0 2 0 0,.ptr 0 3 1 0]) h40 hB (by simp) h 2 17 [(16,true,.fn 155 [] [.ptr 0 2 0 0,.ptr 0 3 1 0]),(15,true,.agg (AC b)),(2,true,.ptr 0 2 0 0),(3,true,.ptr 0 3 1 0)] (n+190);simp only[AC,lvB,bq,slnil]at q|-;simp[AEZ,AG,AJ,AL,AF,q,h]
end
end Go.Proofs.Tryz.Op
