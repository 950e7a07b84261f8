/- Contracts: Min of two, minimum, wider, facing, turn, the directions as an array. No condition. -/
import Derived.Test.YthhdhbalenanjaaGreatH1
import Derived.Test.YthhdhbalenanjaaGreatW4
open Go.Proofs.Tryz renaming prog->bh
open List renaming getElem?_eq_getElem->bj,getD_eq_getElem?_getD->bk,map_nil->bq,getElem_mem->bw,getElem_map->bx,ext_getElem->bz,getElem_range->bb,mem_map->bc,range->bf
set_option maxRecDepth 100000
set_option linter.unusedSimpArgs false
open Go Go.Pg Go.Proofs Go.Wind
namespace Go.Proofs.Tryz.Op
theorem AJ5(a b:Int):(if b<a then b else a)=min a b:=by split<;>omega
theorem AJ6(a b:Int):(if a<b then b else a)=max a b:=by split<;>omega
theorem BBD(n:Nat)(a b:Int):AY bh kn (AE bh ann kn (n+100)) 165 [.list false [[i a],[i b]]]=some (i (min a b)):=by
 rw[AN rfl,AO Tryz.func165 BE7 rfl (by simp)];have hw:IntKind.i64.wrap (1+1)=2:=by decide
 simp[A4U,AF];rw[AB];simp[AJ5];rw[AB];simp
theorem AJ7(n:Nat)(a b:Int):AY bh kn (AE bh ann kn (n+200)) 198 [.list false [[i a],[i b]]]=some (i (min a b)):=by rw[AN rfl,AO Tryz.func198 BE8 rfl (by simp)];have q:=fun n=>BBD n a b;simp[A4V,AF,q]
def F0(r:Int×Int):List V:=[i r.1,i r.2]
theorem AYC(n:Nat)(r:Int×Int)(x:Int):AY bh kn (AE bh ann kn (n+300)) 186 [.agg (F0 r),i x]=some (.agg (F0 (min r.1 x,max r.2 x))):=by rw[AN rfl,AO Tryz.func186 BE9 rfl (by simp[F0])];have q:=fun n=>AJ7 n r.1 x;simp[A4W,AF,F0,q,AJ6]
theorem BBE{α:Type}(l:List α)(h:l.length=3):∃x y z,l=[x,y,z]:=by
 match l,h with
 |[x,y,z],_=>exact⟨x,y,z,rfl⟩
@[simp] theorem A2L(cs:List V):PC (.ref cs)=some (.ref cs):=rfl
theorem LN(L:AA)(k γ:Nat)(r:A1):AA.put L k γ r=(k,γ,r)::L:=rfl
@[simp] theorem BBF:LZ bh 186=false:=by kernel_rfl
def EI(b:AL)(ws:List (List Int)):List V:=[i b.last,i b.rows,i b.places,i b.reach,li b.face,li b.sun,FO b.winds,.list false (b.breaks.map AJ),.list false (b.notes.map AJ),FO ws,.any,.any]
section
variable {b:AL}{ws:List (List Int)}{g0 g1 g2:Int}{h:Nat}
end
section
variable {b:AL}{ws plan:List (List Int)}
theorem Y8(b:AL)(t:List Int):t∈FM b [] b.winds []↔DD b t=true:=by rw[jW];simp only[List.nil_append,List.map_id',List.mem_filter,QE,DD,Bool.and_eq_true,List.all_eq_true];refine and_congr_right fun _=>?_;rw[YF,List.all_eq_true]
theorem ADL(hb:Valid b):DM (FC b):=DM.ask _ _ fun t ht=>K9 hb (by
 have:=(Y8 b t).1 ht;simp only[DD,Bool.and_eq_true]at this;exact this.1)
theorem XJ(hb:Valid b)(hT:FM b [] b.winds []≠[]):UH b (FC b):=AF8 hb (Y8 b) hT
end
theorem QT{n:Int}(h:-1000<=n/\n<=1000):JI n:=⟨by omega,by omega⟩
@[simp] theorem clI(f:Nat)(l:List Int):(l.all ((fun e=>e.all (AG (f+1)))∘AX))=true:=by simp[AX]
@[simp] theorem clP(f:Nat)(l:List (Int×Int)):(l.all ((fun e=>e.all (AG (f+1)))∘AJ))=true:=by simp[AJ]
@[simp] theorem clL(f:Nat)(l:List (List Int)):(l.all ((fun e=>e.all (AG (f+2)))∘AZ))=true:=by simp[AZ]
theorem slX{α:Type}{f:α->List V}{l:List α}(h:l≠[]):sl (l.map f)=.list false (l.map f):=by
 cases l with
 |nil=>exact absurd rfl h
 |cons x l=>rfl
theorem AAO{b:AL}{plan:List (List Int)}(hb:Valid b)(hp:FL b plan){h:Nat}(hh:h<plan.length):plan[h].length<=3/\(plan[h].length:Int)=b.rows/\∀x∈plan[h],0<=x/\x<=3:=by
 have hro:=hb.ro;have e:plan.getD h []=plan[h]:=by rw[bk,bj hh];rfl
 have hr:=hp.row h hh;have hd:=hp.dir h;rw[e]at hr;refine⟨by omega,hr,fun x hx=>?_⟩;obtain⟨r,h1,rfl⟩:=List.getElem_of_mem hx;have:=hd r hh (by rw[e];exact h1);unfold DA at this;rw[e,bk,bj h1]at this;exact C6.1 this
section
variable {b:AL}{x0 x1 x2 y0 y1 y2:Int}
end
section
variable {b:AL}{plan:List (List Int)}
end
@[simp] theorem A2N:LZ bh 157=false:=by kernel_rfl
theorem AYD(n:Nat)(x:eY):AY bh kn (AE bh ann kn (n+50)) 156 [.agg (F9 x)]=some (i x.calm):=by rw[AN rfl,AO Tryz.func156 BFD rfl (by simp[F9])];simp[A40,AF,F9]
theorem AYE(n:Nat)(x:eY):AY bh kn (AE bh ann kn (n+50)) 158 [.agg (F9 x)]=some (i x.good):=by rw[AN rfl,AO Tryz.func158 BFE rfl (by simp[F9])];simp[A41,AF,F9]
section
variable {b:AL}{ws plan:List (List Int)}{ff:FuncId}{sel:eY->Int}{s:Nat×Nat}
def H8(b:AL)(plan:List (List Int))(s:Nat×Nat)(sel:eY->Int)(h:Nat)(w:Int):Int:=sel (ofB b (s.1,s.2) h (DA plan h s.1) w)
theorem BBG(hb:Valid b)(hp:FL b plan)(hsel:∀n x,AY bh kn (AE bh ann kn (n+50)) ff [.agg (F9 x)]=some (i (sel x)))(hs1:(s.1:Int)<b.rows)(hs2:(s.2:Int)<b.places)(out:Int×Int)(h:Nat)(hh:h<plan.length)(xs:List Int)(hx:∀x∈xs,0<=x/\x<=3)(hxl:xs.length<=100)(γ:Nat):∀(d j c:Nat),j+d=xs.length->γ<c->∃c',c<=c'/\∀n k,d<k->BA (AE bh ann kn (n+1400) 66) TQ (ann 66 (BU TQ)) k ⟨c,[(1,true,.ref (EI b ws)),(2,true,FO plan),(4,true,.ptr 0 4 0 0),(7,true,.ptr 0 7 1 0),(8,true,.ptr 0 8 2 0),(9,true,i h),(11,true,.ptr 0 11 γ 0),(17,true,FO ws),(18,true,i ws.length),(19,true,i h),(25,true,li xs),(26,true,i xs.length),(27,true,i j)],⟨[],[(4,0,.box [.fn ff [] []]),(7,1,.box [i s.1,i s.2]),(8,2,.box (F0 out)),(11,γ,.box (F0 (DN (1,0) ((xs.take j).map (H8 b plan s sel h)))))]⟩⟩ =
  some (.exit 2,⟨c',[(28,true,.bool false),(1,true,.ref (EI b ws)),(2,true,FO plan),(4,true,.ptr 0 4 0 0),(7,true,.ptr 0 7 1 0),(8,true,.ptr 0 8 2 0),(9,true,i h),(11,true,.ptr 0 11 γ 0),(17,true,FO ws),(18,true,i ws.length),(19,true,i h),(25,true,li xs),(26,true,i xs.length),(27,true,i xs.length)],⟨[],[(4,0,.box [.fn ff [] []]),(7,1,.box [i s.1,i s.2]),(8,2,.box (F0 out)),(11,γ,.box (F0 (DN (1,0) (xs.map (H8 b plan s sel h)))))]⟩⟩)
 |0,j,c,hd,hc=>by
  have:j=xs.length:=by omega
  subst this;refine⟨c,Nat.le_refl _,fun n k hk=>?_⟩;obtain⟨k,rfl⟩:∃k',k=k'+1:=⟨k-1,by omega⟩;rw[AB,List.take_length];simp[F0]
 |d+1,j,c,hd,hc=>by
  have hj:j<xs.length:=by omega
  have hla:=hb.la;have hro:=hb.ro;have hpl:=hb.pl;have hsu:=hb.su;have hlen:=hp.len;have hwj:=BJ (k:=j) (by omega);obtain⟨c',hc',ih⟩:=BBG hb hp hsel hs1 hs2 out h hh xs hx hxl γ d (j+1) (c+1) (by omega) (by omega);refine⟨c',by omega,fun n k hk=>?_⟩;obtain⟨k,rfl⟩:∃k',k=k'+1:=⟨k-1,by omega⟩;have ih:=ih n k (by omega);have hxj:=hx _ (bw hj);have e1:(xs.take (j+1)).map (H8 b plan s sel h)=(xs.take j).map (H8 b plan s sel h)++[H8 b plan s sel h xs[j]]:=by rw[List.take_succ_eq_append_getElem hj,List.map_append,List.map_cons,bq]
  have e2:DN (1,0) ((xs.take (j+1)).map (H8 b plan s sel h))=(min (DN (1,0) ((xs.take j).map (H8 b plan s sel h))).1 (H8 b plan s sel h xs[j]),max (DN (1,0) ((xs.take j).map (H8 b plan s sel h))).2 (H8 b plan s sel h xs[j])):=by rw[e1];unfold DN;rw[List.foldl_append];rfl
  rw[e2]at ih;have qw:=fun n=>AYC n (DN (1,0) ((xs.take j).map (H8 b plan s sel h))) (H8 b plan s sel h xs[j]);obtain⟨r1,r2,r3⟩:=AAO hb hp hh;have hsr:s.1<plan[h].length:=by omega
  have hpa:DA plan h s.1=plan[h][s.1]:=by unfold DA;rw[show plan.getD h []=plan[h] by rw[bk,bj hh];rfl,bk,bj hsr];rfl
  have qo:=fun n=>kOf n b hb (s.1,s.2) (by simp only;omega) h (by omega) (DA plan h s.1) xs[j] hxj;have qs:=fun n=>hsel n (ofB b (s.1,s.2) h (DA plan h s.1) xs[j]);have es:H8 b plan s sel h xs[j]=sel (ofB b (s.1,s.2) h (DA plan h s.1) xs[j]):=rfl;rw[es]at ih qw;rw[hpa]at qo qs ih qw;generalize DN (1,0) (xs.map (H8 b plan s sel h))=RR at ih|-;generalize DN (1,0) ((xs.take j).map (H8 b plan s sel h))=R at ih qw|-;generalize sel (ofB b (s.1,s.2) h plan[h][s.1] xs[j])=y at qs ih qw;generalize ofB b (s.1,s.2) h plan[h][s.1] xs[j]=O at qs qo;have hc1:γ<c+1:=by omega
  rw[AB];simp only[AC,EI,F0,AJ,F9]at qo qs ih qw|-;simp at ih;simp[hj,hwj,hh,hsr,AX,AZ,qo,qs,qw,hc1,ih]
def P4(b:AL)(ws plan:List (List Int))(s:Nat×Nat)(sel:eY->Int)(n:Nat):Int×Int:=AMP (1,0) ws (H8 b plan s sel) n
theorem AJ8{l:List Int}(h:∀x∈l,0<=x/\x<=1):0<=(DN (1,0) l).1/\(DN (1,0) l).1<=1/\0<=(DN (1,0) l).2/\(DN (1,0) l).2<=1:=by have:=xS l (1,0) 0 1 h (by simp) (by simp);simp only at this;omega
theorem BBH(hb:Valid b)(hp:FL b plan)(hsel:∀n x,AY bh kn (AE bh ann kn (n+50)) ff [.agg (F9 x)]=some (i (sel x)))(hse:∀h w,0<=H8 b plan s sel h w/\H8 b plan s sel h w<=1)(hs1:(s.1:Int)<b.rows)(hs2:(s.2:Int)<b.places)(hwl:ws.length=b.winds.length)(hok:DM ws):∀(d h c:Nat),h+d=ws.length->3<=c->∃c',3<=c'/\∀n k,d<k->BA (AE bh ann kn (n+1600) 66) TR (ann 66 (BU TR)) k ⟨c,[(1,true,.ref (EI b ws)),(2,true,FO plan),(4,true,.ptr 0 4 0 0),(7,true,.ptr 0 7 1 0),(8,true,.ptr 0 8 2 0),(17,true,FO ws),(18,true,i ws.length),(19,true,i h)],⟨[],[(4,0,.box [.fn ff [] []]),(7,1,.box [i s.1,i s.2]),(8,2,.box (F0 (P4 b ws plan s sel h)))]⟩⟩ =
  some (.exit 0,⟨c',[(20,true,.bool false),(1,true,.ref (EI b ws)),(2,true,FO plan),(4,true,.ptr 0 4 0 0),(7,true,.ptr 0 7 1 0),(8,true,.ptr 0 8 2 0),(17,true,FO ws),(18,true,i ws.length),(19,true,i ws.length)],⟨[],[(4,0,.box [.fn ff [] []]),(7,1,.box [i s.1,i s.2]),(8,2,.box (F0 (P4 b ws plan s sel ws.length)))]⟩⟩)
 |0,h,c,hd,hc=>by
  have:h=ws.length:=by omega
  subst this;refine⟨c,hc,fun n k hk=>?_⟩;obtain⟨k,rfl⟩:∃k',k=k'+1:=⟨k-1,by omega⟩;rw[AB];simp[F0]
 |d+1,h,c,hd,hc=>by
  have hh:h<ws.length:=by omega
  have hh5:=hb.hl;have hwi:=hb.wi;have hlen:=hp.len;have hwh:=BJ (k:=h) (by omega);have hwd:ws.getD h []=ws[h]:=by rw[bk,bj hh];rfl
  have hw4:=hok.len _ (bw hh);obtain⟨c1,hc1,q⟩:=BBG (ws:=ws) hb hp hsel hs1 hs2 (P4 b ws plan s sel h) h (by omega) ws[h] (hok.lo _ (bw hh)) (by omega) c ws[h].length 0 (c+1) (by omega) (by omega);obtain⟨c',hc',ih⟩:=BBH hb hp hsel hse hs1 hs2 hwl hok d (h+1) c1 (by omega) (by omega);refine⟨c',hc',fun n k hk=>?_⟩;obtain⟨k,rfl⟩:∃k',k=k'+1:=⟨k-1,by omega⟩;have ih:=ih n k (by omega);have q:=fun n k=>q n (k+100) (by omega);have e1:P4 b ws plan s sel (h+1)=((P4 b ws plan s sel h).1+(DN (1,0) (ws[h].map (H8 b plan s sel h))).1,(P4 b ws plan s sel h).2+(DN (1,0) (ws[h].map (H8 b plan s sel h))).2):=by rw[<-hwd];rfl
  have hr:=AJ8 (l:=ws[h].map (H8 b plan s sel h)) fun x hx=>by obtain⟨w,_,rfl⟩:=bc.1 hx;exact hse h w
  have hb1:=M9 (n:=h) (c:=1) (f:=fun h=>(DN (1,0) ((ws.getD h []).map (H8 b plan s sel h))).1) fun j _=>by
   have:=AJ8 (l:=(ws.getD j []).map (H8 b plan s sel j)) fun x hx=>by obtain⟨w,_,rfl⟩:=bc.1 hx;exact hse j w
   omega
  have hb2:=M9 (n:=h) (c:=1) (f:=fun h=>(DN (1,0) ((ws.getD h []).map (H8 b plan s sel h))).2) fun j _=>by
   have:=AJ8 (l:=(ws.getD j []).map (H8 b plan s sel j)) fun x hx=>by obtain⟨w,_,rfl⟩:=bc.1 hx;exact hse j w
   omega
  change 0<=(P4 b ws plan s sel h).1/\(P4 b ws plan s sel h).1<=h*1 at hb1;change 0<=(P4 b ws plan s sel h).2/\(P4 b ws plan s sel h).2<=h*1 at hb2;rw[e1]at ih;rw[List.take_zero,bq]at q;have e0:DN (1,0) []=(1,0):=rfl;rw[e0]at q;generalize P4 b ws plan s sel ws.length=TT at ih|-;generalize P4 b ws plan s sel h=T at ih q hb1 hb2|-;generalize DN (1,0) (ws[h].map (H8 b plan s sel h))=R at ih q hr;have w1:IntKind.i64.wrap (T.1+R.1)=T.1+R.1:=AW (by omega) (by omega);have w2:IntKind.i64.wrap (T.2+R.2)=T.2+R.2:=AW (by omega) (by omega);have hc2:2<c1:=by omega
  have hcc:c<c+1:=by omega
  rw[AB];simp only[EI,F0]at q ih|-;simp at q ih;simp[hh,hwh,AZ,q,w1,w2,hc2,hcc,ih]
theorem sC(n:Nat)(hb:Valid b)(hp:FL b plan)(hsel:∀n x,AY bh kn (AE bh ann kn (n+50)) ff [.agg (F9 x)]=some (i (sel x)))(hse:∀h w,0<=H8 b plan s sel h w/\H8 b plan s sel h w<=1)(hs1:(s.1:Int)<b.rows)(hs2:(s.2:Int)<b.places)(hwl:ws.length=b.winds.length)(hok:DM ws):AY bh kn (AE bh ann kn (n+1800)) 157 [.agg [.fn ff [] []],.ref (EI b ws),FO plan,.agg [i s.1,i s.2]]=some (.agg (F0 (P4 b ws plan s sel ws.length))):=by
 rw[AN rfl,AO Tryz.func157 BFC rfl (by simp[EI])];obtain⟨c',hc',q⟩:=BBH (s:=s) hb hp hsel hse hs1 hs2 hwl hok ws.length 0 3 (by omega) (Nat.le_refl _);have h5:=hb.hl;have q:=fun n k=>q n (k+150) (by omega);have e0:P4 b ws plan s sel 0=(0,0):=rfl;rw[e0]at q;generalize P4 b ws plan s sel ws.length=T at q|-;have hc2:2<c':=by omega
 simp only[EI,F0]at q|-;simp at q;simp[A4Z,AF,q,hc2]
end
end Go.Proofs.Tryz.Op
namespace Go.Wind
structure sP where
 sun:Int
 calm:Int×Int
 good:Int×Int
end Go.Wind
namespace Go.Proofs.Tryz.Op
@[simp] theorem A2O(T:TypeId)(x:Operand)(k:Nat)(f:Operand->Option V):H2 bh (.oth (.field T x k)) f=[]:=rfl
@[simp] theorem A2P(f:FuncId):weakC (.fn f [] [])=.fn f [] []:=rfl
def Q8(x:sP):List V:=[i x.sun,i x.calm.1,i x.calm.2,i x.good.1,i x.good.2]
section
variable {b:AL}{ws plan:List (List Int)}
def sD(b:AL)(ws plan:List (List Int))(r p:Nat):sP:=⟨MJ b plan r plan.length,nR b ws plan r p,XQ b ws plan r p⟩
theorem ADM(b:AL)(plan:List (List Int))(r n:Nat):MJ b plan r (n+1)=MJ b plan r n+(if NA b plan r n=true then 1 else 0):=by unfold MJ;simp only[mE];split<;>simp
theorem AJ9(hb:Valid b)(hp:FL b plan)(r p:Nat)(hr:(r:Int)<b.rows)(hp2:(p:Int)<b.places)(A:List (List V))(γ8 γ12:Nat):∀(d h c γ:Nat) (rs:List sP),h+d=plan.length->(rs.length:Int)=b.places->rs[p]? = some ⟨MJ b plan r h,(0,0),(0,0)⟩->γ<c->∀n k,d<k->BA (AE bh ann kn (n+1400) 90) O1 (ann 90 (BU O1)) k ⟨c,[(2,true,.ptr 0 2 0 0),(3,true,.ptr 0 3 1 0),(6,true,.ref (EI b ws)),(8,true,pv 87 γ8 A),(9,true,i r),(10,true,.vec 0 30 γ rs.length),(11,true,i p),(12,true,.ptr 0 12 γ12 0),(24,true,i b.rows),(25,true,i r),(32,true,i rs.length),(33,true,i p),(40,true,i plan.length),(41,true,i h)],⟨[],(2,0,.box (AC b))::(3,1,.box [FO plan])::(12,γ12,.box [i r,i p])::(30,γ,.vec 209 (rs.map Q8))::pl 87 γ8 204 A⟩⟩ =
  some (.exit 4,⟨c,(42,true,.bool false)::[(2,true,.ptr 0 2 0 0),(3,true,.ptr 0 3 1 0),(6,true,.ref (EI b ws)),(8,true,pv 87 γ8 A),(9,true,i r),(10,true,.vec 0 30 γ rs.length),(11,true,i p),(12,true,.ptr 0 12 γ12 0),(24,true,i b.rows),(25,true,i r),(32,true,i rs.length),(33,true,i p),(40,true,i plan.length),(41,true,i plan.length)],⟨[],(2,0,.box (AC b))::(3,1,.box [FO plan])::(12,γ12,.box [i r,i p])::(30,γ,.vec 209 ((rs.set p ⟨MJ b plan r plan.length,(0,0),(0,0)⟩).map Q8))::pl 87 γ8 204 A⟩⟩)
 |0,h,c,γ,rs,hd,hl,e,hγ,n,k+1,hk=>by
  have:h=plan.length:=by omega
  subst this;have:rs.set p ⟨MJ b plan r plan.length,(0,0),(0,0)⟩=rs:=by
   have hpl:p<rs.length:=by omega
   rw[bj hpl,Option.some.injEq]at e;rw[<-e];exact List.set_getElem_self hpl
  rw[this,AB];simp
 |d+1,h,c,γ,rs,hd,hl,e,hγ,n,k+1,hk=>by
  have hh:h<plan.length:=by omega
  have hla:=hb.la;have hro:=hb.ro;have hpc:=hb.pl;have hsu:=hb.su;have hlen:=hp.len;have hwh:=BJ (k:=h) (by omega);obtain⟨r1,r2,r3⟩:=AAO hb hp hh;have hr2:r<plan[h].length:=by omega
  have hpa:DA plan h r=plan[h][r]:=by unfold DA;rw[show plan.getD h []=plan[h] by rw[bk,bj hh];rfl,bk,bj hr2];rfl
  have q:=fun n=>kOf n b hb (r,p) (by simp only;omega) h (by omega) (DA plan h r) 0 (by omega);rw[hpa]at q;have hpl:p<rs.length:=by omega
  have ih:=AJ9 hb hp r p hr hp2 A γ8 γ12 d (h+1) c γ (rs.set p ⟨MJ b plan r (h+1),(0,0),(0,0)⟩) (by omega) (by simpa using hl) (by rw[List.getElem?_set_self hpl]) hγ n k (by omega);rw[List.set_set,List.length_set]at ih;rw[bj hpl,Option.some.injEq]at e;have hs:=O8 (NA b plan r) h;have hsb:0<=MJ b plan r h/\MJ b plan r h<=h:=by unfold MJ;omega
  have hof:(ofB b (r,p) h plan[h][r] 0).sun=if NA b plan r h=true then 1 else 0:=by
   have:NA b plan r h=decide (b.sun.getD h 0=plan[h][r]):=by unfold NA;rw[hpa];congr 1;exact propext eq_comm
   rw[this];rfl
  have hst:MJ b plan r (h+1)=MJ b plan r h+(ofB b (r,p) h plan[h][r] 0).sun:=by rw[ADM,hof]
  have hw:IntKind.i64.wrap (MJ b plan r h+(ofB b (r,p) h plan[h][r] 0).sun)=MJ b plan r h+(ofB b (r,p) h plan[h][r] 0).sun:=AW (by rw[hof];split<;>omega) (by rw[hof];split<;>omega);rw[hst]at ih;generalize rs.set p ⟨MJ b plan r plan.length,(0,0),(0,0)⟩=F at ih|-;generalize MJ b plan r h=S at *;generalize ofB b (r,p) h plan[h][r] 0=O at *;rw[List.map_set]at ih;have heg:(rs.map Q8)[p]'(by simpa using hpl)=[i S,i 0,i 0,i 0,i 0]:=by rw[bx,e];rfl
  rw[AB];simp only[AC,AJ,F9,Q8,EI]at q ih heg|-;simp at ih;simp[hh,hr2,hwh,AX,AZ,q,hpl,heg,hw,hγ,MO,ih]
def M0(b:AL)(ws plan:List (List Int))(r p:Nat):List sP:=(bf b.places.toNat).map fun j=>if j<p then sD b ws plan r j else⟨0,(0,0),(0,0)⟩
def N5(b:AL)(ws plan:List (List Int))(r:Nat):List sP:=(bf b.places.toNat).map (sD b ws plan r)
theorem eH(b:AL)(ws plan:List (List Int))(r p:Nat):(M0 b ws plan r p).length=b.places.toNat:=by simp[M0]
theorem AKA{r p:Nat}(h:p<b.places.toNat):(M0 b ws plan r p)[p]? = some ⟨0,(0,0),(0,0)⟩:=by simp[M0,h]
theorem AKB{r p:Nat}:(M0 b ws plan r p).set p (sD b ws plan r p)=M0 b ws plan r (p+1):=by
 apply bz (by simp[M0]);intro j h1 h2;simp only[M0,List.getElem_set,bx,bb];by_cases e:p=j
 ·subst e;simp
 ·rw[if_neg e];have:(j<p)=(j<p+1):=propext ⟨fun h=>by omega,fun h=>by omega⟩;simp only[this]
theorem ADN(b:AL)(ws plan:List (List Int))(r:Nat):M0 b ws plan r b.places.toNat=N5 b ws plan r:=by
 apply bz (by simp[M0,N5]);intro j h1 h2;have:j<b.places.toNat:=by simpa [M0]using h1
 simp only[M0,N5,bx,bb,if_pos this]
theorem ADO(b:AL)(ws plan:List (List Int))(r:Nat):M0 b ws plan r 0=List.replicate b.places.toNat ⟨0,(0,0),(0,0)⟩:=by apply bz (by simp[M0]);intro j h1 h2;simp[M0]
theorem AKC(hb:Valid b)(hp:FL b plan)(hwl:ws.length=b.winds.length)(hok:DM ws)(r:Nat)(hr:(r:Int)<b.rows)(A:List (List V))(γ8 γ:Nat):∀(d p c:Nat),p+d=b.places.toNat->γ<c->∃c',γ<c'/\∀n k,d<k->BA (AE bh ann kn (n+2000) 90) O2 (ann 90 (BU O2)) k ⟨c,[(2,true,.ptr 0 2 0 0),(3,true,.ptr 0 3 1 0),(6,true,.ref (EI b ws)),(8,true,pv 87 γ8 A),(9,true,i r),(10,true,.vec 0 30 γ b.places.toNat),(24,true,i b.rows),(25,true,i r),(32,true,i b.places.toNat),(33,true,i p)],⟨[],(2,0,.box (AC b))::(3,1,.box [FO plan])::(30,γ,.vec 209 ((M0 b ws plan r p).map Q8))::pl 87 γ8 204 A⟩⟩ =
  some (.exit 2,⟨c',(34,true,.bool false)::[(2,true,.ptr 0 2 0 0),(3,true,.ptr 0 3 1 0),(6,true,.ref (EI b ws)),(8,true,pv 87 γ8 A),(9,true,i r),(10,true,.vec 0 30 γ b.places.toNat),(24,true,i b.rows),(25,true,i r),(32,true,i b.places.toNat),(33,true,i b.places.toNat)],⟨[],(2,0,.box (AC b))::(3,1,.box [FO plan])::(30,γ,.vec 209 ((N5 b ws plan r).map Q8))::pl 87 γ8 204 A⟩⟩)
 |0,p,c,hd,hγ=>by
  have:p=b.places.toNat:=by omega
  subst this;refine⟨c,hγ,fun n k hk=>?_⟩;obtain⟨k,rfl⟩:∃k',k=k'+1:=⟨k-1,by omega⟩;rw[ADN,AB];simp
 |d+1,p,c,hd,hγ=>by
  have hpc:=hb.pl;have hla:=hb.la;have hlen:=hp.len;have hw:=BJ (k:=p) (by omega);have hp':p<b.places.toNat:=by omega
  obtain⟨c',h1,ih⟩:=AKC hb hp hwl hok r hr A γ8 γ d (p+1) (c+3) (by omega) (by omega);have q:=AJ9 (ws:=ws) hb hp r p hr (by omega) A γ8 c plan.length 0 (c+1) γ (M0 b ws plan r p) (by omega) (by rw[eH];omega) (AKA hp') (by omega);rw[eH]at q;have q:=fun n m=>q n (m+100) (by omega);have qc:=fun n=>sC (ws:=ws) (ff:=156) (sel:=eY.calm) (s:=(r,p)) n hb hp AYD (fun h w=>aQ _) hr (by simp only;omega) hwl hok;have qg:=fun n=>sC (ws:=ws) (ff:=158) (sel:=eY.good) (s:=(r,p)) n hb hp AYE (fun h w=>aQ _) hr (by simp only;omega) hwl hok;have ec:P4 b ws plan (r,p) eY.calm ws.length=nR b ws plan r p:=rfl;have eg:P4 b ws plan (r,p) eY.good ws.length=XQ b ws plan r p:=rfl;rw[ec]at qc;rw[eg]at qg;have hst:((M0 b ws plan r p).set p ⟨MJ b plan r plan.length,(0,0),(0,0)⟩).set p (sD b ws plan r p)=M0 b ws plan r (p+1):=by rw[List.set_set,AKB]
  have hl:=eH b ws plan r p;have hbp:Q8 (sD b ws plan r p)=[i (MJ b plan r plan.length),i (nR b ws plan r p).1,i (nR b ws plan r p).2,i (XQ b ws plan r p).1,i (XQ b ws plan r p).2]:=rfl;rw[<-hst,List.map_set,hbp]at ih;generalize M0 b ws plan r p=R0 at q ih hl|-;generalize sD b ws plan r p=BP at *;generalize nR b ws plan r p=C at *;generalize XQ b ws plan r p=G at *;generalize N5 b ws plan r=RR at ih|-;generalize MJ b plan r plan.length=S at *;generalize b.places.toNat=PP at hp' hl ih q|-;have hpl:p<R0.length:=by omega
  have heg:((R0.set p ⟨S,(0,0),(0,0)⟩).map Q8)[p]? = some [i S,i 0,i 0,i 0,i 0]:=by simp[Q8,hpl]
  have hle:PP<=R0.length:=by omega
  refine⟨c',h1,fun n k hk=>?_⟩;obtain⟨k,rfl⟩:∃k',k=k'+1:=⟨k-1,by omega⟩;have ih:=ih n k (by omega);rw[AB];generalize hRR:R0.set p ⟨S,(0,0),(0,0)⟩=R1 at *;have hl1:R1.length=PP:=by rw[<-hRR];simpa using hl
  have hpl1:p<R1.length:=by omega
  rw[bj (by simpa using hpl1),Option.some.injEq]at heg;simp only[AC,EI,F0]at q qc qg ih|-;simp at q ih;simp[hp',hw,q,qc,qg,heg,MO,MP,JO,GF,CI,B7,show Nat.beq 2 1=false from rfl,hl1,show γ<c+1+1+1 by omega,ih]
def FA(b:AL)(ws plan:List (List Int))(n:Nat):List (List sP):=(bf n).map (N5 b ws plan)
theorem vZ(b:AL)(ws plan:List (List Int))(n:Nat):FA b ws plan (n+1)=FA b ws plan n++[N5 b ws plan n]:=by simp[FA,List.range_succ]
def H5(l:List sP):List V:=[.list false (l.map Q8)]
theorem BBI{k:Nat}{x:List sP}(h:k<=10000):B5 bh 204 k [H5 x]=true:=by rw[BZ (by simp) (by simp)];simp[maxLen,H5];omega
theorem ASL(hb:Valid b)(hp:FL b plan)(hwl:ws.length=b.winds.length)(hok:DM ws):∀(d r c γ8:Nat),r+d=b.rows.toNat->1<c->∃fr c' γ',BD fr 8=some (true,pv 87 γ' ((FA b ws plan b.rows.toNat).map H5))/\∀n k,d<k->BA (AE bh ann kn (n+2200) 90) TS (ann 90 (BU TS)) k ⟨c,[(2,true,.ptr 0 2 0 0),(3,true,.ptr 0 3 1 0),(6,true,.ref (EI b ws)),(8,true,pv 87 γ8 ((FA b ws plan r).map H5)),(24,true,i b.rows),(25,true,i r)],⟨[],(2,0,.box (AC b))::(3,1,.box [FO plan])::pl 87 γ8 204 ((FA b ws plan r).map H5)⟩⟩ =
  some (.exit 0,⟨c',fr,⟨[],(2,0,.box (AC b))::(3,1,.box [FO plan])::pl 87 γ' 204 ((FA b ws plan b.rows.toNat).map H5)⟩⟩)
 |0,r,c,γ8,hd,hc=>by
  have hr:r=b.rows.toNat:=by omega
  have hro:=hb.ro;have hr':b.rows=(r:Int):=by omega
  rw[<-hr];refine⟨?fr,c,γ8,?g1,fun n k hk=>?g2⟩;case g2=>
   obtain⟨k,rfl⟩:∃k',k=k'+1:=⟨k-1,by omega⟩
   rw[AB]
   simp[AC,hr']
   rfl
  case g1=>simp
 |d+1,r,c,γ8,hd,hc=>by
  have hro:=hb.ro;have hpc:=hb.pl;have hw:=BJ (k:=r) (by omega);have hr':(r:Int)<b.rows:=by omega
  obtain⟨c1,h1,q⟩:=AKC (ws:=ws) hb hp hwl hok r hr' ((FA b ws plan r).map H5) γ8 c b.places.toNat 0 (c+1) (by omega) (by omega);have q:=fun n m=>q n (m+100) (by omega);obtain⟨fr,c',γ',e1,ih⟩:=ASL hb hp hwl hok d (r+1) (c1+1) c1 (by omega) (by omega);have happ:=BBI (k:=(FA b ws plan r).length) (x:=N5 b ws plan r) (by simp[FA];omega);rw[ADO]at q;rw[vZ]at ih;refine⟨fr,c',γ',e1,fun n k hk=>?_⟩;obtain⟨k,rfl⟩:∃k',k=k'+1:=⟨k-1,by omega⟩;have ih:=ih n k (by omega);generalize FA b ws plan b.rows.toNat=FF at ih|-;have hRl:(N5 b ws plan r).length=b.places.toNat:=by simp[N5]
  generalize N5 b ws plan r=RR at ih q happ hRl;obtain⟨PP,hPP⟩:∃P:Nat,b.places=P:=⟨b.places.toNat,by omega⟩;have hP2:b.places.toNat=PP:=by omega
  rw[hP2]at q hRl;subst hRl;rw[AB];simp only[AC,EI,hPP]at q ih|-;simp[H5]at ih q happ;simp[Q8]at q;have m1:RR.length*40<=140737488355328:=by omega
  have m2:RR.length<=maxLen:=by simp[maxLen];omega
  have htl:∀o,E8 0 30 o (pl 87 γ8 204 ((FA b ws plan r).map H5))=pl 87 γ8 204 ((FA b ws plan r).map H5):=fun o=>W8 (by decide) _ _ _ (by simp[H5,Q8]);simp[hr',hw,H5,q,ih,happ,m1,m2,htl]
def lvB(b:AL)(plan:List (List Int)):AA:=[(2,0,.box (AC b)),(3,1,.box [FO plan])]
theorem wA(hb:Valid b)(plan:List (List Int)):jS b (lvB b plan) 155 [.ptr 0 2 0 0,.ptr 0 3 1 0] 2 (ES b plan):=by intro n d fr;rw[A9 Tryz.func155 b155 rfl (by simp)];have q:=fun n=>AO1 n b hb plan;generalize ES b plan=z at q|-;simp only[AC,lvB]at q|-;simp[A42,AF,q]
def H6(b:AL)(plan:List (List Int)):List (List sP)×Int:=if D2 b=0 then(if ES b plan=true then(if (FM b [] b.winds []).isEmpty=true then([],11) else(FA b (FC b) plan b.rows.toNat,0)) else([],2)) else([],D2 b)
theorem sE(n:Nat)(b:AL)(h40:∀l∈b.winds,l.length<=40)(plan:List (List Int)):AY bh kn (AE bh ann kn (n+6200)) 117 [.agg (AC b),FO plan]=some (.tup [sl ((H6 b plan).1.map H5),i (H6 b plan).2]):=by
 rw[AN rfl,AO Tryz.func117 BFF rfl (by simp[AC])];have hB:∀t:St,1<=t.up.length->AH t (lvB b plan)=lvB b plan:=fun t ht=>by simp[lvB,AC]
 have slnil:sl ([]:List (List V))=.nil:=rfl;unfold H6;by_cases h:D2 b=0
 ·have hb:=UJ h;have hf:=wA hb plan;rw[if_pos h];cases hz:ES b plan with
  |false=>
   rw[hz]at hf
   rw[if_neg (by decide)]
   have q:=fun n=>tC (ff:=155) (cap:=[.ptr 0 2 0 0,.ptr 0 3 1 0]) hb hB (by simp) (by simp) 2 17 hf [(16,true,.fn 155 [] [.ptr 0 2 0 0,.ptr 0 3 1 0]),(15,true,.agg (AC b)),(2,true,.ptr 0 2 0 0),(3,true,.ptr 0 3 1 0)] (n+190)
   simp only[AC,lvB,bq,slnil]at q|-
   simp[AE4,AF,q]
  |true=>
   rw[hz]at hf
   rw[if_pos rfl]
   by_cases hT:FM b [] b.winds []=[]
   ·obtain⟨c',hc',q⟩:=tE (ff:=155) (cap:=[.ptr 0 2 0 0,.ptr 0 3 1 0]) hb hB (by simp) (by simp) 2 17 hf hT [(16,true,.fn 155 [] [.ptr 0 2 0 0,.ptr 0 3 1 0]),(15,true,.agg (AC b)),(2,true,.ptr 0 2 0 0),(3,true,.ptr 0 3 1 0)];rw[if_pos (by rw[hT];rfl)];have q:=fun n=>q (n+190);simp only[AC,lvB,bq,slnil]at q|-;simp[AE4,AF,q]
   ·obtain⟨c',hc',q⟩:=AF4 (ff:=155) (cap:=[.ptr 0 2 0 0,.ptr 0 3 1 0]) hb hB (by simp) (by simp) 2 17 hf hT [(16,true,.fn 155 [] [.ptr 0 2 0 0,.ptr 0 3 1 0]),(15,true,.agg (AC b)),(2,true,.ptr 0 2 0 0),(3,true,.ptr 0 3 1 0)];rw[if_neg (by simpa using hT)];have q:=fun n=>q (n+190);have hro:=hb.ro;obtain⟨fr,c2,γ',e1,q6⟩:=ASL (ws:=FC b) hb (xY hz) (nN _ _) (ADL hb) b.rows.toNat 0 c' 0 (by omega) (by omega);have q6:=fun n k=>q6 n (k+100) (by omega);have e0:FA b (FC b) plan 0=[]:=rfl;rw[e0]at q6;generalize FA b (FC b) plan b.rows.toNat=FF at *;simp only[AC,EI,lvB,List.cons_append,List.nil_append]at q q6|-;simp at q q6;simp[AE4,AF,q,q6,e1];simp[H5,Q8]
 ·rw[if_neg h];have q:=fun n=>nJ (ff:=155) (cap:=[.ptr 0 2 0 0,.ptr 0 3 1 0]) h40 hB (by simp) h 2 17 [(16,true,.fn 155 [] [.ptr 0 2 0 0,.ptr 0 3 1 0]),(15,true,.agg (AC b)),(2,true,.ptr 0 2 0 0),(3,true,.ptr 0 3 1 0)] (n+190);simp only[AC,lvB,bq,slnil]at q|-;simp[AE4,AF,q,h]
end
end Go.Proofs.Tryz.Op
