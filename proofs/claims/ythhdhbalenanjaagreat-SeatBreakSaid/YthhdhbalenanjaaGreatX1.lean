/- Contracts: Min of two, minimum, wider, facing, turn, the directions as an array. No condition. -/
import Derived.Test.YthhdhbalenanjaaGreatH1
import Derived.Test.YthhdhbalenanjaaGreatW4
open Go.Proofs.Tryz renaming prog->bh
open List renaming getElem?_eq_getElem->bj,getD_eq_getElem?_getD->bk,map_nil->bq,getElem_mem->bw,getElem_map->bx,ext_getElem->bz,getElem_range->bb,mem_map->bc,range->bf
set_option maxRecDepth 100000
set_option linter.unusedSimpArgs false
open Go Go.Pg Go.Proofs Go.Wind
namespace Go.Proofs.Tryz.Op
theorem ATS(a b:Int):(if b<a then b else a)=min a b:=by split<;>omega
theorem ATT(a b:Int):(if a<b then b else a)=max a b:=by split<;>omega
theorem A5P(n:Nat)(a b:Int):A3 bh kn (AF bh ann kn (n+100)) 165 [.list false [[i a],[i b]]]=some (i (min a b)):=by
 rw[AQ rfl,AR Tryz.func165 A9M rfl (by simp)];have hw:IntKind.i64.wrap (1+1)=2:=by decide
 simp[AZI,AD];rw[AB];simp[ATS];rw[AB];simp
theorem AGQ(n:Nat)(a b:Int):A3 bh kn (AF bh ann kn (n+200)) 198 [.list false [[i a],[i b]]]=some (i (min a b)):=by rw[AQ rfl,AR Tryz.func198 A9N rfl (by simp)];have q:=fun n=>A5P n a b;simp[AZJ,AD,q]
def M3(r:Int×Int):List V:=[i r.1,i r.2]
theorem ATU(n:Nat)(r:Int×Int)(x:Int):A3 bh kn (AF bh ann kn (n+300)) 186 [.agg (M3 r),i x]=some (.agg (M3 (min r.1 x,max r.2 x))):=by rw[AQ rfl,AR Tryz.func186 A9O rfl (by simp[M3])];have q:=fun n=>AGQ n r.1 x;simp[AZK,AD,M3,q,ATT]
theorem A5Q{α:Type}(l:List α)(h:l.length=3):∃x y z,l=[x,y,z]:=by
 match l,h with
 |[x,y,z],_=>exact⟨x,y,z,rfl⟩
@[simp] theorem AXS(cs:List V):N7 (.ref cs)=some (.ref cs):=rfl
theorem PM(L:AA)(k γ:Nat)(r:AV):AA.put L k γ r=(k,γ,r)::L:=rfl
@[simp] theorem A5R:JA bh 186=false:=by kernel_rfl
def D8(b:AK)(ws:List (List Int)):List V:=[i b.last,i b.rows,i b.places,i b.reach,li b.face,li b.sun,I1 b.winds,.list false (b.breaks.map AL),.list false (b.notes.map AL),I1 ws,.any,.any]
section
variable {b:AK}{ws:List (List Int)}{g0 g1 g2:Int}{h:Nat}
end
section
variable {b:AK}{ws plan:List (List Int)}
theorem XT(b:AK)(t:List Int):t∈E6 b [] b.winds []↔C3 b t=true:=by rw[fW];simp only[List.nil_append,List.map_id',List.mem_filter,O6,C3,Bool.and_eq_true,List.all_eq_true];refine and_congr_right fun _=>?_;rw[WU,List.all_eq_true]
theorem AAA(hb:Valid b):DC (EZ b):=DC.ask _ _ fun t ht=>KM hb (by
 have:=(XT b t).1 ht;simp only[C3,Bool.and_eq_true]at this;exact this.1)
theorem VW(hb:Valid b)(hT:E6 b [] b.winds []≠[]):SU b (EZ b):=AC1 hb (XT b) hT
end
theorem PN{n:Int}(h:-1000<=n/\n<=1000):GQ n:=⟨by omega,by omega⟩
@[simp] theorem clI(f:Nat)(l:List Int):(l.all ((fun e=>e.all (AG (f+1)))∘AM))=true:=by simp[AM]
@[simp] theorem clP(f:Nat)(l:List (Int×Int)):(l.all ((fun e=>e.all (AG (f+1)))∘AL))=true:=by simp[AL]
@[simp] theorem clL(f:Nat)(l:List (List Int)):(l.all ((fun e=>e.all (AG (f+2)))∘AW))=true:=by simp[AW]
theorem slX{α:Type}{f:α->List V}{l:List α}(h:l≠[]):sl (l.map f)=.list false (l.map f):=by
 cases l with
 |nil=>exact absurd rfl h
 |cons x l=>rfl
theorem wD{b:AK}{plan:List (List Int)}(hb:Valid b)(hp:N3 b plan){h:Nat}(hh:h<plan.length):plan[h].length<=3/\(plan[h].length:Int)=b.rows/\∀x∈plan[h],0<=x/\x<=3:=by
 have hro:=hb.ro;have e:plan.getD h []=plan[h]:=by rw[bk,bj hh];rfl
 have hr:=hp.row h hh;have hd:=hp.dir h;rw[e]at hr;refine⟨by omega,hr,fun x hx=>?_⟩;obtain⟨r,h1,rfl⟩:=List.getElem_of_mem hx;have:=hd r hh (by rw[e];exact h1);unfold E0 at this;rw[e,bk,bj h1]at this;exact DT.1 this
section
variable {b:AK}{x0 x1 x2 y0 y1 y2:Int}
end
section
variable {b:AK}{plan:List (List Int)}
end
@[simp] theorem AXT:JA bh 157=false:=by kernel_rfl
theorem ATV(n:Nat)(x:xA):A3 bh kn (AF bh ann kn (n+50)) 156 [.agg (VU x)]=some (i x.calm):=by rw[AQ rfl,AR Tryz.func156 A9S rfl (by simp[VU])];simp[AZO,AD,VU]
theorem ATW(n:Nat)(x:xA):A3 bh kn (AF bh ann kn (n+50)) 158 [.agg (VU x)]=some (i x.good):=by rw[AQ rfl,AR Tryz.func158 A9T rfl (by simp[VU])];simp[AZP,AD,VU]
section
variable {b:AK}{ws plan:List (List Int)}{ff:FuncId}{sel:xA->Int}{s:Nat×Nat}
def HY(b:AK)(plan:List (List Int))(s:Nat×Nat)(sel:xA->Int)(h:Nat)(w:Int):Int:=sel (ofB b (s.1,s.2) h (E0 plan h s.1) w)
theorem A5S(hb:Valid b)(hp:N3 b plan)(hsel:∀n x,A3 bh kn (AF bh ann kn (n+50)) ff [.agg (VU x)]=some (i (sel x)))(hs1:(s.1:Int)<b.rows)(hs2:(s.2:Int)<b.places)(out:Int×Int)(h:Nat)(hh:h<plan.length)(xs:List Int)(hx:∀x∈xs,0<=x/\x<=3)(hxl:xs.length<=100)(γ:Nat):∀(d j c:Nat),j+d=xs.length->γ<c->∃c',c<=c'/\∀n k,d<k->BM (AF bh ann kn (n+1400) 66) R6 (ann 66 (CG R6)) k ⟨c,[(1,true,.ref (D8 b ws)),(2,true,I1 plan),(4,true,.ptr 0 4 0 0),(7,true,.ptr 0 7 1 0),(8,true,.ptr 0 8 2 0),(9,true,i h),(11,true,.ptr 0 11 γ 0),(17,true,I1 ws),(18,true,i ws.length),(19,true,i h),(25,true,li xs),(26,true,i xs.length),(27,true,i j)],⟨[],[(4,0,.box [.fn ff [] []]),(7,1,.box [i s.1,i s.2]),(8,2,.box (M3 out)),(11,γ,.box (M3 (F2 (1,0) ((xs.take j).map (HY b plan s sel h)))))]⟩⟩ =
  some (.exit 2,⟨c',[(28,true,.bool false),(1,true,.ref (D8 b ws)),(2,true,I1 plan),(4,true,.ptr 0 4 0 0),(7,true,.ptr 0 7 1 0),(8,true,.ptr 0 8 2 0),(9,true,i h),(11,true,.ptr 0 11 γ 0),(17,true,I1 ws),(18,true,i ws.length),(19,true,i h),(25,true,li xs),(26,true,i xs.length),(27,true,i xs.length)],⟨[],[(4,0,.box [.fn ff [] []]),(7,1,.box [i s.1,i s.2]),(8,2,.box (M3 out)),(11,γ,.box (M3 (F2 (1,0) (xs.map (HY b plan s sel h)))))]⟩⟩)
 |0,j,c,hd,hc=>by
  have:j=xs.length:=by omega
  subst this;refine⟨c,Nat.le_refl _,fun n k hk=>?_⟩;obtain⟨k,rfl⟩:∃k',k=k'+1:=⟨k-1,by omega⟩;rw[AB,List.take_length];simp[M3]
 |d+1,j,c,hd,hc=>by
  have hj:j<xs.length:=by omega
  have hla:=hb.la;have hro:=hb.ro;have hpl:=hb.pl;have hsu:=hb.su;have hlen:=hp.len;have hwj:=B7 (k:=j) (by omega);obtain⟨c',hc',ih⟩:=A5S hb hp hsel hs1 hs2 out h hh xs hx hxl γ d (j+1) (c+1) (by omega) (by omega);refine⟨c',by omega,fun n k hk=>?_⟩;obtain⟨k,rfl⟩:∃k',k=k'+1:=⟨k-1,by omega⟩;have ih:=ih n k (by omega);have hxj:=hx _ (bw hj);have e1:(xs.take (j+1)).map (HY b plan s sel h)=(xs.take j).map (HY b plan s sel h)++[HY b plan s sel h xs[j]]:=by rw[List.take_succ_eq_append_getElem hj,List.map_append,List.map_cons,bq]
  have e2:F2 (1,0) ((xs.take (j+1)).map (HY b plan s sel h))=(min (F2 (1,0) ((xs.take j).map (HY b plan s sel h))).1 (HY b plan s sel h xs[j]),max (F2 (1,0) ((xs.take j).map (HY b plan s sel h))).2 (HY b plan s sel h xs[j])):=by rw[e1];unfold F2;rw[List.foldl_append];rfl
  rw[e2]at ih;have qw:=fun n=>ATU n (F2 (1,0) ((xs.take j).map (HY b plan s sel h))) (HY b plan s sel h xs[j]);obtain⟨r1,r2,r3⟩:=wD hb hp hh;have hsr:s.1<plan[h].length:=by omega
  have hpa:E0 plan h s.1=plan[h][s.1]:=by unfold E0;rw[show plan.getD h []=plan[h] by rw[bk,bj hh];rfl,bk,bj hsr];rfl
  have qo:=fun n=>kOf n b hb (s.1,s.2) (by simp only;omega) h (by omega) (E0 plan h s.1) xs[j] hxj;have qs:=fun n=>hsel n (ofB b (s.1,s.2) h (E0 plan h s.1) xs[j]);have es:HY b plan s sel h xs[j]=sel (ofB b (s.1,s.2) h (E0 plan h s.1) xs[j]):=rfl;rw[es]at ih qw;rw[hpa]at qo qs ih qw;generalize F2 (1,0) (xs.map (HY b plan s sel h))=RR at ih|-;generalize F2 (1,0) ((xs.take j).map (HY b plan s sel h))=R at ih qw|-;generalize sel (ofB b (s.1,s.2) h plan[h][s.1] xs[j])=y at qs ih qw;generalize ofB b (s.1,s.2) h plan[h][s.1] xs[j]=O at qs qo;have hc1:γ<c+1:=by omega
  rw[AB];simp only[AC,D8,M3,AL,VU]at qo qs ih qw|-;simp at ih;simp[hj,hwj,hh,hsr,AM,AW,qo,qs,qw,hc1,ih]
def OY(b:AK)(ws plan:List (List Int))(s:Nat×Nat)(sel:xA->Int)(n:Nat):Int×Int:=AI2 (1,0) ws (HY b plan s sel) n
theorem AGR{l:List Int}(h:∀x∈l,0<=x/\x<=1):0<=(F2 (1,0) l).1/\(F2 (1,0) l).1<=1/\0<=(F2 (1,0) l).2/\(F2 (1,0) l).2<=1:=by have:=tQ l (1,0) 0 1 h (by simp) (by simp);simp only at this;omega
theorem A5T(hb:Valid b)(hp:N3 b plan)(hsel:∀n x,A3 bh kn (AF bh ann kn (n+50)) ff [.agg (VU x)]=some (i (sel x)))(hse:∀h w,0<=HY b plan s sel h w/\HY b plan s sel h w<=1)(hs1:(s.1:Int)<b.rows)(hs2:(s.2:Int)<b.places)(hwl:ws.length=b.winds.length)(hok:DC ws):∀(d h c:Nat),h+d=ws.length->3<=c->∃c',3<=c'/\∀n k,d<k->BM (AF bh ann kn (n+1600) 66) R7 (ann 66 (CG R7)) k ⟨c,[(1,true,.ref (D8 b ws)),(2,true,I1 plan),(4,true,.ptr 0 4 0 0),(7,true,.ptr 0 7 1 0),(8,true,.ptr 0 8 2 0),(17,true,I1 ws),(18,true,i ws.length),(19,true,i h)],⟨[],[(4,0,.box [.fn ff [] []]),(7,1,.box [i s.1,i s.2]),(8,2,.box (M3 (OY b ws plan s sel h)))]⟩⟩ =
  some (.exit 0,⟨c',[(20,true,.bool false),(1,true,.ref (D8 b ws)),(2,true,I1 plan),(4,true,.ptr 0 4 0 0),(7,true,.ptr 0 7 1 0),(8,true,.ptr 0 8 2 0),(17,true,I1 ws),(18,true,i ws.length),(19,true,i ws.length)],⟨[],[(4,0,.box [.fn ff [] []]),(7,1,.box [i s.1,i s.2]),(8,2,.box (M3 (OY b ws plan s sel ws.length)))]⟩⟩)
 |0,h,c,hd,hc=>by
  have:h=ws.length:=by omega
  subst this;refine⟨c,hc,fun n k hk=>?_⟩;obtain⟨k,rfl⟩:∃k',k=k'+1:=⟨k-1,by omega⟩;rw[AB];simp[M3]
 |d+1,h,c,hd,hc=>by
  have hh:h<ws.length:=by omega
  have hh5:=hb.hl;have hwi:=hb.wi;have hlen:=hp.len;have hwh:=B7 (k:=h) (by omega);have hwd:ws.getD h []=ws[h]:=by rw[bk,bj hh];rfl
  have hw4:=hok.len _ (bw hh);obtain⟨c1,hc1,q⟩:=A5S (ws:=ws) hb hp hsel hs1 hs2 (OY b ws plan s sel h) h (by omega) ws[h] (hok.lo _ (bw hh)) (by omega) c ws[h].length 0 (c+1) (by omega) (by omega);obtain⟨c',hc',ih⟩:=A5T hb hp hsel hse hs1 hs2 hwl hok d (h+1) c1 (by omega) (by omega);refine⟨c',hc',fun n k hk=>?_⟩;obtain⟨k,rfl⟩:∃k',k=k'+1:=⟨k-1,by omega⟩;have ih:=ih n k (by omega);have q:=fun n k=>q n (k+100) (by omega);have e1:OY b ws plan s sel (h+1)=((OY b ws plan s sel h).1+(F2 (1,0) (ws[h].map (HY b plan s sel h))).1,(OY b ws plan s sel h).2+(F2 (1,0) (ws[h].map (HY b plan s sel h))).2):=by rw[<-hwd];rfl
  have hr:=AGR (l:=ws[h].map (HY b plan s sel h)) fun x hx=>by obtain⟨w,_,rfl⟩:=bc.1 hx;exact hse h w
  have hb1:=fT (n:=h) (c:=1) (f:=fun h=>(F2 (1,0) ((ws.getD h []).map (HY b plan s sel h))).1) fun j _=>by
   have:=AGR (l:=(ws.getD j []).map (HY b plan s sel j)) fun x hx=>by obtain⟨w,_,rfl⟩:=bc.1 hx;exact hse j w
   omega
  have hb2:=fT (n:=h) (c:=1) (f:=fun h=>(F2 (1,0) ((ws.getD h []).map (HY b plan s sel h))).2) fun j _=>by
   have:=AGR (l:=(ws.getD j []).map (HY b plan s sel j)) fun x hx=>by obtain⟨w,_,rfl⟩:=bc.1 hx;exact hse j w
   omega
  change 0<=(OY b ws plan s sel h).1/\(OY b ws plan s sel h).1<=h*1 at hb1;change 0<=(OY b ws plan s sel h).2/\(OY b ws plan s sel h).2<=h*1 at hb2;rw[e1]at ih;rw[List.take_zero,bq]at q;have e0:F2 (1,0) []=(1,0):=rfl;rw[e0]at q;generalize OY b ws plan s sel ws.length=TT at ih|-;generalize OY b ws plan s sel h=T at ih q hb1 hb2|-;generalize F2 (1,0) (ws[h].map (HY b plan s sel h))=R at ih q hr;have w1:IntKind.i64.wrap (T.1+R.1)=T.1+R.1:=AX (by omega) (by omega);have w2:IntKind.i64.wrap (T.2+R.2)=T.2+R.2:=AX (by omega) (by omega);have hc2:2<c1:=by omega
  have hcc:c<c+1:=by omega
  rw[AB];simp only[D8,M3]at q ih|-;simp at q ih;simp[hh,hwh,AW,q,w1,w2,hc2,hcc,ih]
theorem nV(n:Nat)(hb:Valid b)(hp:N3 b plan)(hsel:∀n x,A3 bh kn (AF bh ann kn (n+50)) ff [.agg (VU x)]=some (i (sel x)))(hse:∀h w,0<=HY b plan s sel h w/\HY b plan s sel h w<=1)(hs1:(s.1:Int)<b.rows)(hs2:(s.2:Int)<b.places)(hwl:ws.length=b.winds.length)(hok:DC ws):A3 bh kn (AF bh ann kn (n+1800)) 157 [.agg [.fn ff [] []],.ref (D8 b ws),I1 plan,.agg [i s.1,i s.2]]=some (.agg (M3 (OY b ws plan s sel ws.length))):=by
 rw[AQ rfl,AR Tryz.func157 A9R rfl (by simp[D8])];obtain⟨c',hc',q⟩:=A5T (s:=s) hb hp hsel hse hs1 hs2 hwl hok ws.length 0 3 (by omega) (Nat.le_refl _);have h5:=hb.hl;have q:=fun n k=>q n (k+150) (by omega);have e0:OY b ws plan s sel 0=(0,0):=rfl;rw[e0]at q;generalize OY b ws plan s sel ws.length=T at q|-;have hc2:2<c':=by omega
 simp only[D8,M3]at q|-;simp at q;simp[AZN,AD,q,hc2]
end
end Go.Proofs.Tryz.Op
namespace Go.Wind
structure oJ where
 sun:Int
 calm:Int×Int
 good:Int×Int
end Go.Wind
namespace Go.Proofs.Tryz.Op
@[simp] theorem AXU(T:TypeId)(x:Operand)(k:Nat)(f:Operand->Option V):HX bh (.oth (.field T x k)) f=[]:=rfl
@[simp] theorem AXV(f:FuncId):weakC (.fn f [] [])=.fn f [] []:=rfl
def P3(x:oJ):List V:=[i x.sun,i x.calm.1,i x.calm.2,i x.good.1,i x.good.2]
section
variable {b:AK}{ws plan:List (List Int)}
def nW(b:AK)(ws plan:List (List Int))(r p:Nat):oJ:=⟨LI b plan r plan.length,jT b ws plan r p,V8 b ws plan r p⟩
theorem AAB(b:AK)(plan:List (List Int))(r n:Nat):LI b plan r (n+1)=LI b plan r n+(if QR b plan r n=true then 1 else 0):=by unfold LI;simp only[jV];split<;>simp
theorem AGS(hb:Valid b)(hp:N3 b plan)(r p:Nat)(hr:(r:Int)<b.rows)(hp2:(p:Int)<b.places)(A:List (List V))(γ8 γ12:Nat):∀(d h c γ:Nat) (rs:List oJ),h+d=plan.length->(rs.length:Int)=b.places->rs[p]? = some ⟨LI b plan r h,(0,0),(0,0)⟩->γ<c->∀n k,d<k->BM (AF bh ann kn (n+1400) 90) NT (ann 90 (CG NT)) k ⟨c,[(2,true,.ptr 0 2 0 0),(3,true,.ptr 0 3 1 0),(6,true,.ref (D8 b ws)),(8,true,pv 87 γ8 A),(9,true,i r),(10,true,.vec 0 30 γ rs.length),(11,true,i p),(12,true,.ptr 0 12 γ12 0),(24,true,i b.rows),(25,true,i r),(32,true,i rs.length),(33,true,i p),(40,true,i plan.length),(41,true,i h)],⟨[],(2,0,.box (AC b))::(3,1,.box [I1 plan])::(12,γ12,.box [i r,i p])::(30,γ,.vec 209 (rs.map P3))::pl 87 γ8 204 A⟩⟩ =
  some (.exit 4,⟨c,(42,true,.bool false)::[(2,true,.ptr 0 2 0 0),(3,true,.ptr 0 3 1 0),(6,true,.ref (D8 b ws)),(8,true,pv 87 γ8 A),(9,true,i r),(10,true,.vec 0 30 γ rs.length),(11,true,i p),(12,true,.ptr 0 12 γ12 0),(24,true,i b.rows),(25,true,i r),(32,true,i rs.length),(33,true,i p),(40,true,i plan.length),(41,true,i plan.length)],⟨[],(2,0,.box (AC b))::(3,1,.box [I1 plan])::(12,γ12,.box [i r,i p])::(30,γ,.vec 209 ((rs.set p ⟨LI b plan r plan.length,(0,0),(0,0)⟩).map P3))::pl 87 γ8 204 A⟩⟩)
 |0,h,c,γ,rs,hd,hl,e,hγ,n,k+1,hk=>by
  have:h=plan.length:=by omega
  subst this;have:rs.set p ⟨LI b plan r plan.length,(0,0),(0,0)⟩=rs:=by
   have hpl:p<rs.length:=by omega
   rw[bj hpl,Option.some.injEq]at e;rw[<-e];exact List.set_getElem_self hpl
  rw[this,AB];simp
 |d+1,h,c,γ,rs,hd,hl,e,hγ,n,k+1,hk=>by
  have hh:h<plan.length:=by omega
  have hla:=hb.la;have hro:=hb.ro;have hpc:=hb.pl;have hsu:=hb.su;have hlen:=hp.len;have hwh:=B7 (k:=h) (by omega);obtain⟨r1,r2,r3⟩:=wD hb hp hh;have hr2:r<plan[h].length:=by omega
  have hpa:E0 plan h r=plan[h][r]:=by unfold E0;rw[show plan.getD h []=plan[h] by rw[bk,bj hh];rfl,bk,bj hr2];rfl
  have q:=fun n=>kOf n b hb (r,p) (by simp only;omega) h (by omega) (E0 plan h r) 0 (by omega);rw[hpa]at q;have hpl:p<rs.length:=by omega
  have ih:=AGS hb hp r p hr hp2 A γ8 γ12 d (h+1) c γ (rs.set p ⟨LI b plan r (h+1),(0,0),(0,0)⟩) (by omega) (by simpa using hl) (by rw[List.getElem?_set_self hpl]) hγ n k (by omega);rw[List.set_set,List.length_set]at ih;rw[bj hpl,Option.some.injEq]at e;have hs:=Y1 (QR b plan r) h;have hsb:0<=LI b plan r h/\LI b plan r h<=h:=by unfold LI;omega
  have hof:(ofB b (r,p) h plan[h][r] 0).sun=if QR b plan r h=true then 1 else 0:=by
   have:QR b plan r h=decide (b.sun.getD h 0=plan[h][r]):=by unfold QR;rw[hpa];congr 1;exact propext eq_comm
   rw[this];rfl
  have hst:LI b plan r (h+1)=LI b plan r h+(ofB b (r,p) h plan[h][r] 0).sun:=by rw[AAB,hof]
  have hw:IntKind.i64.wrap (LI b plan r h+(ofB b (r,p) h plan[h][r] 0).sun)=LI b plan r h+(ofB b (r,p) h plan[h][r] 0).sun:=AX (by rw[hof];split<;>omega) (by rw[hof];split<;>omega);rw[hst]at ih;generalize rs.set p ⟨LI b plan r plan.length,(0,0),(0,0)⟩=F at ih|-;generalize LI b plan r h=S at *;generalize ofB b (r,p) h plan[h][r] 0=O at *;rw[List.map_set]at ih;have heg:(rs.map P3)[p]'(by simpa using hpl)=[i S,i 0,i 0,i 0,i 0]:=by rw[bx,e];rfl
  rw[AB];simp only[AC,AL,VU,P3,D8]at q ih heg|-;simp at ih;simp[hh,hr2,hwh,AM,AW,q,hpl,heg,hw,hγ,IE,ih]
def L5(b:AK)(ws plan:List (List Int))(r p:Nat):List oJ:=(bf b.places.toNat).map fun j=>if j<p then nW b ws plan r j else⟨0,(0,0),(0,0)⟩
def M4(b:AK)(ws plan:List (List Int))(r:Nat):List oJ:=(bf b.places.toNat).map (nW b ws plan r)
theorem bM(b:AK)(ws plan:List (List Int))(r p:Nat):(L5 b ws plan r p).length=b.places.toNat:=by simp[L5]
theorem AGT{r p:Nat}(h:p<b.places.toNat):(L5 b ws plan r p)[p]? = some ⟨0,(0,0),(0,0)⟩:=by simp[L5,h]
theorem AGU{r p:Nat}:(L5 b ws plan r p).set p (nW b ws plan r p)=L5 b ws plan r (p+1):=by
 apply bz (by simp[L5]);intro j h1 h2;simp only[L5,List.getElem_set,bx,bb];by_cases e:p=j
 ·subst e;simp
 ·rw[if_neg e];have:(j<p)=(j<p+1):=propext ⟨fun h=>by omega,fun h=>by omega⟩;simp only[this]
theorem AAC(b:AK)(ws plan:List (List Int))(r:Nat):L5 b ws plan r b.places.toNat=M4 b ws plan r:=by
 apply bz (by simp[L5,M4]);intro j h1 h2;have:j<b.places.toNat:=by simpa [L5]using h1
 simp only[L5,M4,bx,bb,if_pos this]
theorem AAD(b:AK)(ws plan:List (List Int))(r:Nat):L5 b ws plan r 0=List.replicate b.places.toNat ⟨0,(0,0),(0,0)⟩:=by apply bz (by simp[L5]);intro j h1 h2;simp[L5]
theorem AGV(hb:Valid b)(hp:N3 b plan)(hwl:ws.length=b.winds.length)(hok:DC ws)(r:Nat)(hr:(r:Int)<b.rows)(A:List (List V))(γ8 γ:Nat):∀(d p c:Nat),p+d=b.places.toNat->γ<c->∃c',γ<c'/\∀n k,d<k->BM (AF bh ann kn (n+2000) 90) NU (ann 90 (CG NU)) k ⟨c,[(2,true,.ptr 0 2 0 0),(3,true,.ptr 0 3 1 0),(6,true,.ref (D8 b ws)),(8,true,pv 87 γ8 A),(9,true,i r),(10,true,.vec 0 30 γ b.places.toNat),(24,true,i b.rows),(25,true,i r),(32,true,i b.places.toNat),(33,true,i p)],⟨[],(2,0,.box (AC b))::(3,1,.box [I1 plan])::(30,γ,.vec 209 ((L5 b ws plan r p).map P3))::pl 87 γ8 204 A⟩⟩ =
  some (.exit 2,⟨c',(34,true,.bool false)::[(2,true,.ptr 0 2 0 0),(3,true,.ptr 0 3 1 0),(6,true,.ref (D8 b ws)),(8,true,pv 87 γ8 A),(9,true,i r),(10,true,.vec 0 30 γ b.places.toNat),(24,true,i b.rows),(25,true,i r),(32,true,i b.places.toNat),(33,true,i b.places.toNat)],⟨[],(2,0,.box (AC b))::(3,1,.box [I1 plan])::(30,γ,.vec 209 ((M4 b ws plan r).map P3))::pl 87 γ8 204 A⟩⟩)
 |0,p,c,hd,hγ=>by
  have:p=b.places.toNat:=by omega
  subst this;refine⟨c,hγ,fun n k hk=>?_⟩;obtain⟨k,rfl⟩:∃k',k=k'+1:=⟨k-1,by omega⟩;rw[AAC,AB];simp
 |d+1,p,c,hd,hγ=>by
  have hpc:=hb.pl;have hla:=hb.la;have hlen:=hp.len;have hw:=B7 (k:=p) (by omega);have hp':p<b.places.toNat:=by omega
  obtain⟨c',h1,ih⟩:=AGV hb hp hwl hok r hr A γ8 γ d (p+1) (c+3) (by omega) (by omega);have q:=AGS (ws:=ws) hb hp r p hr (by omega) A γ8 c plan.length 0 (c+1) γ (L5 b ws plan r p) (by omega) (by rw[bM];omega) (AGT hp') (by omega);rw[bM]at q;have q:=fun n m=>q n (m+100) (by omega);have qc:=fun n=>nV (ws:=ws) (ff:=156) (sel:=xA.calm) (s:=(r,p)) n hb hp ATV (fun h w=>YZ _) hr (by simp only;omega) hwl hok;have qg:=fun n=>nV (ws:=ws) (ff:=158) (sel:=xA.good) (s:=(r,p)) n hb hp ATW (fun h w=>YZ _) hr (by simp only;omega) hwl hok;have ec:OY b ws plan (r,p) xA.calm ws.length=jT b ws plan r p:=rfl;have eg:OY b ws plan (r,p) xA.good ws.length=V8 b ws plan r p:=rfl;rw[ec]at qc;rw[eg]at qg;have hst:((L5 b ws plan r p).set p ⟨LI b plan r plan.length,(0,0),(0,0)⟩).set p (nW b ws plan r p)=L5 b ws plan r (p+1):=by rw[List.set_set,AGU]
  have hl:=bM b ws plan r p;have hbp:P3 (nW b ws plan r p)=[i (LI b plan r plan.length),i (jT b ws plan r p).1,i (jT b ws plan r p).2,i (V8 b ws plan r p).1,i (V8 b ws plan r p).2]:=rfl;rw[<-hst,List.map_set,hbp]at ih;generalize L5 b ws plan r p=R0 at q ih hl|-;generalize nW b ws plan r p=BP at *;generalize jT b ws plan r p=C at *;generalize V8 b ws plan r p=G at *;generalize M4 b ws plan r=RR at ih|-;generalize LI b plan r plan.length=S at *;generalize b.places.toNat=PP at hp' hl ih q|-;have hpl:p<R0.length:=by omega
  have heg:((R0.set p ⟨S,(0,0),(0,0)⟩).map P3)[p]? = some [i S,i 0,i 0,i 0,i 0]:=by simp[P3,hpl]
  have hle:PP<=R0.length:=by omega
  refine⟨c',h1,fun n k hk=>?_⟩;obtain⟨k,rfl⟩:∃k',k=k'+1:=⟨k-1,by omega⟩;have ih:=ih n k (by omega);rw[AB];generalize hRR:R0.set p ⟨S,(0,0),(0,0)⟩=R1 at *;have hl1:R1.length=PP:=by rw[<-hRR];simpa using hl
  have hpl1:p<R1.length:=by omega
  rw[bj (by simpa using hpl1),Option.some.injEq]at heg;simp only[AC,D8,M3]at q qc qg ih|-;simp at q ih;simp[hp',hw,q,qc,qg,heg,IE,GN,E7,DF,B8,BO,show Nat.beq 2 1=false from rfl,hl1,show γ<c+1+1+1 by omega,ih]
def EY(b:AK)(ws plan:List (List Int))(n:Nat):List (List oJ):=(bf n).map (M4 b ws plan)
theorem sE(b:AK)(ws plan:List (List Int))(n:Nat):EY b ws plan (n+1)=EY b ws plan n++[M4 b ws plan n]:=by simp[EY,List.range_succ]
def HS(l:List oJ):List V:=[.list false (l.map P3)]
theorem A5U{k:Nat}{x:List oJ}(h:k<=10000):B0 bh 204 k [HS x]=true:=by rw[CC (by simp) (by simp)];simp[maxLen,HS];omega
theorem AN9(hb:Valid b)(hp:N3 b plan)(hwl:ws.length=b.winds.length)(hok:DC ws):∀(d r c γ8:Nat),r+d=b.rows.toNat->1<c->∃fr c' γ',BL fr 8=some (true,pv 87 γ' ((EY b ws plan b.rows.toNat).map HS))/\∀n k,d<k->BM (AF bh ann kn (n+2200) 90) R8 (ann 90 (CG R8)) k ⟨c,[(2,true,.ptr 0 2 0 0),(3,true,.ptr 0 3 1 0),(6,true,.ref (D8 b ws)),(8,true,pv 87 γ8 ((EY b ws plan r).map HS)),(24,true,i b.rows),(25,true,i r)],⟨[],(2,0,.box (AC b))::(3,1,.box [I1 plan])::pl 87 γ8 204 ((EY b ws plan r).map HS)⟩⟩ =
  some (.exit 0,⟨c',fr,⟨[],(2,0,.box (AC b))::(3,1,.box [I1 plan])::pl 87 γ' 204 ((EY b ws plan b.rows.toNat).map HS)⟩⟩)
 |0,r,c,γ8,hd,hc=>by
  have hr:r=b.rows.toNat:=by omega
  have hro:=hb.ro;have hr':b.rows=(r:Int):=by omega
  rw[<-hr];refine⟨?fr,c,γ8,?g1,fun n k hk=>?g2⟩;case g2=>
   obtain⟨k,rfl⟩:∃k',k=k'+1:=⟨k-1,by omega⟩
   rw[AB]
   simp[AC,hr']
   rfl
  case g1=>simp
 |d+1,r,c,γ8,hd,hc=>by
  have hro:=hb.ro;have hpc:=hb.pl;have hw:=B7 (k:=r) (by omega);have hr':(r:Int)<b.rows:=by omega
  obtain⟨c1,h1,q⟩:=AGV (ws:=ws) hb hp hwl hok r hr' ((EY b ws plan r).map HS) γ8 c b.places.toNat 0 (c+1) (by omega) (by omega);have q:=fun n m=>q n (m+100) (by omega);obtain⟨fr,c',γ',e1,ih⟩:=AN9 hb hp hwl hok d (r+1) (c1+1) c1 (by omega) (by omega);have happ:=A5U (k:=(EY b ws plan r).length) (x:=M4 b ws plan r) (by simp[EY];omega);rw[AAD]at q;rw[sE]at ih;refine⟨fr,c',γ',e1,fun n k hk=>?_⟩;obtain⟨k,rfl⟩:∃k',k=k'+1:=⟨k-1,by omega⟩;have ih:=ih n k (by omega);generalize EY b ws plan b.rows.toNat=FF at ih|-;have hRl:(M4 b ws plan r).length=b.places.toNat:=by simp[M4]
  generalize M4 b ws plan r=RR at ih q happ hRl;obtain⟨PP,hPP⟩:∃P:Nat,b.places=P:=⟨b.places.toNat,by omega⟩;have hP2:b.places.toNat=PP:=by omega
  rw[hP2]at q hRl;subst hRl;rw[AB];simp only[AC,D8,hPP]at q ih|-;simp[HS]at ih q happ;simp[P3]at q;have m1:RR.length*40<=140737488355328:=by omega
  have m2:RR.length<=maxLen:=by simp[maxLen];omega
  have htl:∀o,F9 0 30 o (pl 87 γ8 204 ((EY b ws plan r).map HS))=pl 87 γ8 204 ((EY b ws plan r).map HS):=fun o=>zE (by decide) _ _ _ (by simp[HS,P3]);simp[hr',hw,HS,q,ih,happ,m1,m2,htl]
def lvB(b:AK)(plan:List (List Int)):AA:=[(2,0,.box (AC b)),(3,1,.box [I1 plan])]
theorem sF(hb:Valid b)(plan:List (List Int)):fR b (lvB b plan) 155 [.ptr 0 2 0 0,.ptr 0 3 1 0] 2 (DV b plan):=by intro n d fr;rw[A2 Tryz.func155 b155 rfl (by simp)];have q:=fun n=>ALC n b hb plan;generalize DV b plan=z at q|-;simp only[AC,lvB]at q|-;simp[AZQ,AD,q]
def HT(b:AK)(plan:List (List Int)):List (List oJ)×Int:=if DJ b=0 then(if DV b plan=true then(if (E6 b [] b.winds []).isEmpty=true then([],11) else(EY b (EZ b) plan b.rows.toNat,0)) else([],2)) else([],DJ b)
theorem nX(n:Nat)(b:AK)(h40:∀l∈b.winds,l.length<=40)(plan:List (List Int)):A3 bh kn (AF bh ann kn (n+6200)) 117 [.agg (AC b),I1 plan]=some (.tup [sl ((HT b plan).1.map HS),i (HT b plan).2]):=by
 rw[AQ rfl,AR Tryz.func117 A9U rfl (by simp[AC])];have hB:∀t:St,1<=t.up.length->AH t (lvB b plan)=lvB b plan:=fun t ht=>by simp[lvB,AC]
 have slnil:sl ([]:List (List V))=.nil:=rfl;unfold HT;by_cases h:DJ b=0
 ·have hb:=SV h;have hf:=sF hb plan;rw[if_pos h];cases hz:DV b plan with
  |false=>
   rw[hz]at hf
   rw[if_neg (by decide)]
   have q:=fun n=>oT (ff:=155) (cap:=[.ptr 0 2 0 0,.ptr 0 3 1 0]) hb hB (by simp) (by simp) 2 17 hf [(16,true,.fn 155 [] [.ptr 0 2 0 0,.ptr 0 3 1 0]),(15,true,.agg (AC b)),(2,true,.ptr 0 2 0 0),(3,true,.ptr 0 3 1 0)] (n+190)
   simp only[AC,lvB,bq,slnil]at q|-
   simp[ABX,AD,q]
  |true=>
   rw[hz]at hf
   rw[if_pos rfl]
   by_cases hT:E6 b [] b.winds []=[]
   ·obtain⟨c',hc',q⟩:=oV (ff:=155) (cap:=[.ptr 0 2 0 0,.ptr 0 3 1 0]) hb hB (by simp) (by simp) 2 17 hf hT [(16,true,.fn 155 [] [.ptr 0 2 0 0,.ptr 0 3 1 0]),(15,true,.agg (AC b)),(2,true,.ptr 0 2 0 0),(3,true,.ptr 0 3 1 0)];rw[if_pos (by rw[hT];rfl)];have q:=fun n=>q (n+190);simp only[AC,lvB,bq,slnil]at q|-;simp[ABX,AD,q]
   ·obtain⟨c',hc',q⟩:=ACX (ff:=155) (cap:=[.ptr 0 2 0 0,.ptr 0 3 1 0]) hb hB (by simp) (by simp) 2 17 hf hT [(16,true,.fn 155 [] [.ptr 0 2 0 0,.ptr 0 3 1 0]),(15,true,.agg (AC b)),(2,true,.ptr 0 2 0 0),(3,true,.ptr 0 3 1 0)];rw[if_neg (by simpa using hT)];have q:=fun n=>q (n+190);have hro:=hb.ro;obtain⟨fr,c2,γ',e1,q6⟩:=AN9 (ws:=EZ b) hb (AI4 hz) (jQ _ _) (AAA hb) b.rows.toNat 0 c' 0 (by omega) (by omega);have q6:=fun n k=>q6 n (k+100) (by omega);have e0:EY b (EZ b) plan 0=[]:=rfl;rw[e0]at q6;generalize EY b (EZ b) plan b.rows.toNat=FF at *;simp only[AC,D8,lvB,List.cons_append,List.nil_append]at q q6|-;simp at q q6;simp[ABX,AD,q,q6,e1];simp[HS,P3]
 ·rw[if_neg h];have q:=fun n=>jM (ff:=155) (cap:=[.ptr 0 2 0 0,.ptr 0 3 1 0]) h40 hB (by simp) h 2 17 [(16,true,.fn 155 [] [.ptr 0 2 0 0,.ptr 0 3 1 0]),(15,true,.agg (AC b)),(2,true,.ptr 0 2 0 0),(3,true,.ptr 0 3 1 0)] (n+190);simp only[AC,lvB,bq,slnil]at q|-;simp[ABX,AD,q,h]
end
end Go.Proofs.Tryz.Op
