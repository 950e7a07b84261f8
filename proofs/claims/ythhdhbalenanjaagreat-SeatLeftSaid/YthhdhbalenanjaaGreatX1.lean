/- Contracts: Min of two, minimum, wider, facing, turn, the directions as an array. No condition. -/
import Derived.Test.YthhdhbalenanjaaGreatH1
import Derived.Test.YthhdhbalenanjaaGreatW4
open Go.Proofs.Tryz renaming prog->bh
open List renaming getElem?_eq_getElem->bj,getD_eq_getElem?_getD->bk,map_nil->bq,getElem_mem->bw,getElem_map->bx,ext_getElem->bz,getElem_range->bb,mem_map->bc,range->bf
set_option maxRecDepth 100000
set_option linter.unusedSimpArgs false
open Go Go.Pg Go.Proofs Go.Wind
namespace Go.Proofs.Tryz.Op
theorem AUK(a b:Int):(if b<a then b else a)=min a b:=by split<;>omega
theorem AUL(a b:Int):(if a<b then b else a)=max a b:=by split<;>omega
theorem A7X(n:Nat)(a b:Int):A3 bh kn (AE bh ann kn (n+100)) 165 [.list false [[i a],[i b]]]=some (i (min a b)):=by
 rw[AP rfl,AQ Tryz.func165 BB7 rfl (by simp)];have hw:IntKind.i64.wrap (1+1)=2:=by decide
 simp[A08,AD];rw[AB];simp[hw,AUK];rw[AB];simp
theorem AGK(n:Nat)(a b:Int):A3 bh kn (AE bh ann kn (n+200)) 198 [.list false [[i a],[i b]]]=some (i (min a b)):=by rw[AP rfl,AQ Tryz.func198 BB8 rfl (by simp)];have q:=fun n=>A7X n a b;simp[A09,AD,q]
def M7(r:Int×Int):List V:=[i r.1,i r.2]
theorem AUM(n:Nat)(r:Int×Int)(x:Int):A3 bh kn (AE bh ann kn (n+300)) 186 [.agg (M7 r),i x]=some (.agg (M7 (min r.1 x,max r.2 x))):=by rw[AP rfl,AQ Tryz.func186 BB9 rfl (by simp[M7])];have q:=fun n=>AGK n r.1 x;simp[A1A,AD,M7,q,AUL]
theorem A7Y{α:Type}(l:List α)(h:l.length=3):∃x y z,l=[x,y,z]:=by
 match l,h with
 |[x,y,z],_=>exact⟨x,y,z,rfl⟩
@[simp] theorem AZK(cs:List V):M8 (.ref cs)=some (.ref cs):=rfl
theorem BA(L:AA)(k γ:Nat)(r:AX):AA.put L k γ r=(k,γ,r)::L:=rfl
@[simp] theorem A7Z:F3 bh 186=false:=by kernel_rfl
def D7(b:AN)(ws:List (List Int)):List V:=[i b.last,i b.rows,i b.places,i b.reach,li b.face,li b.sun,JF b.winds,.list false (b.breaks.map AL),.list false (b.notes.map AL),JF ws,.any,.any]
section
variable {b:AN}{ws:List (List Int)}{g0 g1 g2:Int}{h:Nat}
end
section
variable {b:AN}{ws plan:List (List Int)}
theorem XJ(b:AN)(t:List Int):t∈E4 b [] b.winds []↔C4 b t=true:=by rw[fP];simp only[List.nil_append,List.map_id',List.mem_filter,PB,C4,Bool.and_eq_true,List.all_eq_true];refine and_congr_right fun _=>?_;rw[WS,List.all_eq_true]
theorem zV(hb:Valid b):DD (E3 b):=DD.ask _ _ fun t ht=>KN hb (by
 have:=(XJ b t).1 ht;simp only[C4,Bool.and_eq_true]at this;exact this.1)
theorem eY(hb:Valid b)(hT:E4 b [] b.winds []≠[]):SY b (E3 b):=ACV hb (XJ b) hT
end
theorem PR{n:Int}(h:-1000<=n/\n<=1000):M6 n:=⟨by omega,by omega⟩
@[simp] theorem clI(f:Nat)(l:List Int):(l.all ((fun e=>e.all (AF (f+1)))∘AG))=true:=by simp[AG]
@[simp] theorem clP(f:Nat)(l:List (Int×Int)):(l.all ((fun e=>e.all (AF (f+1)))∘AL))=true:=by simp[AL]
@[simp] theorem clL(f:Nat)(l:List (List Int)):(l.all ((fun e=>e.all (AF (f+2)))∘AM))=true:=by simp[AM,AG]
theorem slX{α:Type}{f:α->List V}{l:List α}(h:l≠[]):sl (l.map f)=.list false (l.map f):=by
 cases l with
 |nil=>exact absurd rfl h
 |cons x l=>rfl
theorem vU{b:AN}{plan:List (List Int)}(hb:Valid b)(hp:N6 b plan){h:Nat}(hh:h<plan.length):plan[h].length<=3/\(plan[h].length:Int)=b.rows/\∀x∈plan[h],0<=x/\x<=3:=by
 have hro:=hb.ro;have e:plan.getD h []=plan[h]:=by rw[bk,bj hh];rfl
 have hr:=hp.row h hh;have hd:=hp.dir h;rw[e]at hr;refine⟨by omega,hr,fun x hx=>?_⟩;obtain⟨r,h1,rfl⟩:=List.getElem_of_mem hx;have:=hd r hh (by rw[e];exact h1);unfold EW at this;rw[e,bk,bj h1]at this;exact EL.1 this
section
variable {b:AN}{x0 x1 x2 y0 y1 y2:Int}
end
section
variable {b:AN}{plan:List (List Int)}
end
@[simp] theorem AZL:F3 bh 157=false:=by kernel_rfl
theorem AUN(n:Nat)(x:wP):A3 bh kn (AE bh ann kn (n+50)) 156 [.agg (VV x)]=some (i x.calm):=by rw[AP rfl,AQ Tryz.func156 BCD rfl (by simp[VV])];simp[A1E,AD,VV]
theorem AUO(n:Nat)(x:wP):A3 bh kn (AE bh ann kn (n+50)) 158 [.agg (VV x)]=some (i x.good):=by rw[AP rfl,AQ Tryz.func158 BCE rfl (by simp[VV])];simp[A1F,AD,VV]
section
variable {b:AN}{ws plan:List (List Int)}{ff:FuncId}{sel:wP->Int}{s:Nat×Nat}
def HX(b:AN)(plan:List (List Int))(s:Nat×Nat)(sel:wP->Int)(h:Nat)(w:Int):Int:=sel (ofB b (s.1,s.2) h (EW plan h s.1) w)
theorem A70(hb:Valid b)(hp:N6 b plan)(hsel:∀n x,A3 bh kn (AE bh ann kn (n+50)) ff [.agg (VV x)]=some (i (sel x)))(hs1:(s.1:Int)<b.rows)(hs2:(s.2:Int)<b.places)(out:Int×Int)(h:Nat)(hh:h<plan.length)(xs:List Int)(hx:∀x∈xs,0<=x/\x<=3)(hxl:xs.length<=100)(γ:Nat):∀(d j c:Nat),j+d=xs.length->γ<c->∃c',c<=c'/\∀n k,d<k->BK (AE bh ann kn (n+1400) 66) R9 (ann 66 (BU R9)) k ⟨c,[(1,true,.ref (D7 b ws)),(2,true,JF plan),(4,true,.ptr 0 4 0 0),(7,true,.ptr 0 7 1 0),(8,true,.ptr 0 8 2 0),(9,true,i h),(11,true,.ptr 0 11 γ 0),(17,true,JF ws),(18,true,i ws.length),(19,true,i h),(25,true,li xs),(26,true,i xs.length),(27,true,i j)],⟨[],[(4,0,.box [.fn ff [] []]),(7,1,.box [i s.1,i s.2]),(8,2,.box (M7 out)),(11,γ,.box (M7 (F7 (1,0) ((xs.take j).map (HX b plan s sel h)))))]⟩⟩ =
  some (.exit 2,⟨c',[(28,true,.bool false),(1,true,.ref (D7 b ws)),(2,true,JF plan),(4,true,.ptr 0 4 0 0),(7,true,.ptr 0 7 1 0),(8,true,.ptr 0 8 2 0),(9,true,i h),(11,true,.ptr 0 11 γ 0),(17,true,JF ws),(18,true,i ws.length),(19,true,i h),(25,true,li xs),(26,true,i xs.length),(27,true,i xs.length)],⟨[],[(4,0,.box [.fn ff [] []]),(7,1,.box [i s.1,i s.2]),(8,2,.box (M7 out)),(11,γ,.box (M7 (F7 (1,0) (xs.map (HX b plan s sel h)))))]⟩⟩)
 |0,j,c,hd,hc=>by
  have:j=xs.length:=by omega
  subst this;refine⟨c,Nat.le_refl _,fun n k hk=>?_⟩;obtain⟨k,rfl⟩:∃k',k=k'+1:=⟨k-1,by omega⟩;rw[AB,List.take_length];simp[M7]
 |d+1,j,c,hd,hc=>by
  have hj:j<xs.length:=by omega
  have hla:=hb.la;have hro:=hb.ro;have hpl:=hb.pl;have hsu:=hb.su;have hlen:=hp.len;have hwj:=BZ (k:=j) (by omega);obtain⟨c',hc',ih⟩:=A70 hb hp hsel hs1 hs2 out h hh xs hx hxl γ d (j+1) (c+1) (by omega) (by omega);refine⟨c',by omega,fun n k hk=>?_⟩;obtain⟨k,rfl⟩:∃k',k=k'+1:=⟨k-1,by omega⟩;have ih:=ih n k (by omega);have hxj:=hx _ (bw hj);have e1:(xs.take (j+1)).map (HX b plan s sel h)=(xs.take j).map (HX b plan s sel h)++[HX b plan s sel h xs[j]]:=by rw[List.take_succ_eq_append_getElem hj,List.map_append,List.map_cons,bq]
  have e2:F7 (1,0) ((xs.take (j+1)).map (HX b plan s sel h))=(min (F7 (1,0) ((xs.take j).map (HX b plan s sel h))).1 (HX b plan s sel h xs[j]),max (F7 (1,0) ((xs.take j).map (HX b plan s sel h))).2 (HX b plan s sel h xs[j])):=by rw[e1];unfold F7;rw[List.foldl_append];rfl
  rw[e2]at ih;have qw:=fun n=>AUM n (F7 (1,0) ((xs.take j).map (HX b plan s sel h))) (HX b plan s sel h xs[j]);obtain⟨r1,r2,r3⟩:=vU hb hp hh;have hsr:s.1<plan[h].length:=by omega
  have hpa:EW plan h s.1=plan[h][s.1]:=by unfold EW;rw[show plan.getD h []=plan[h] by rw[bk,bj hh];rfl,bk,bj hsr];rfl
  have qo:=fun n=>kOf n b hb (s.1,s.2) (by simp only;omega) h (by omega) (EW plan h s.1) xs[j] hxj;have qs:=fun n=>hsel n (ofB b (s.1,s.2) h (EW plan h s.1) xs[j]);have es:HX b plan s sel h xs[j]=sel (ofB b (s.1,s.2) h (EW plan h s.1) xs[j]):=rfl;rw[es]at ih qw;rw[hpa]at qo qs ih qw;generalize F7 (1,0) (xs.map (HX b plan s sel h))=RR at ih|-;generalize F7 (1,0) ((xs.take j).map (HX b plan s sel h))=R at ih qw|-;generalize sel (ofB b (s.1,s.2) h plan[h][s.1] xs[j])=y at qs ih qw;generalize ofB b (s.1,s.2) h plan[h][s.1] xs[j]=O at qs qo;have hc1:γ<c+1:=by omega
  rw[AB];simp only[AC,D7,M7,AL,VV]at qo qs ih qw|-;simp at ih;simp[hj,hwj,hh,hsr,AG,AM,AL,qo,qs,qw,hc1,BA,ih]
def O3(b:AN)(ws plan:List (List Int))(s:Nat×Nat)(sel:wP->Int)(n:Nat):Int×Int:=AIS (1,0) ws (HX b plan s sel) n
theorem AGL{l:List Int}(h:∀x∈l,0<=x/\x<=1):0<=(F7 (1,0) l).1/\(F7 (1,0) l).1<=1/\0<=(F7 (1,0) l).2/\(F7 (1,0) l).2<=1:=by have:=tD l (1,0) 0 1 h (by simp) (by simp);simp only at this;omega
theorem A71(hb:Valid b)(hp:N6 b plan)(hsel:∀n x,A3 bh kn (AE bh ann kn (n+50)) ff [.agg (VV x)]=some (i (sel x)))(hse:∀h w,0<=HX b plan s sel h w/\HX b plan s sel h w<=1)(hs1:(s.1:Int)<b.rows)(hs2:(s.2:Int)<b.places)(hwl:ws.length=b.winds.length)(hok:DD ws):∀(d h c:Nat),h+d=ws.length->3<=c->∃c',3<=c'/\∀n k,d<k->BK (AE bh ann kn (n+1600) 66) SA (ann 66 (BU SA)) k ⟨c,[(1,true,.ref (D7 b ws)),(2,true,JF plan),(4,true,.ptr 0 4 0 0),(7,true,.ptr 0 7 1 0),(8,true,.ptr 0 8 2 0),(17,true,JF ws),(18,true,i ws.length),(19,true,i h)],⟨[],[(4,0,.box [.fn ff [] []]),(7,1,.box [i s.1,i s.2]),(8,2,.box (M7 (O3 b ws plan s sel h)))]⟩⟩ =
  some (.exit 0,⟨c',[(20,true,.bool false),(1,true,.ref (D7 b ws)),(2,true,JF plan),(4,true,.ptr 0 4 0 0),(7,true,.ptr 0 7 1 0),(8,true,.ptr 0 8 2 0),(17,true,JF ws),(18,true,i ws.length),(19,true,i ws.length)],⟨[],[(4,0,.box [.fn ff [] []]),(7,1,.box [i s.1,i s.2]),(8,2,.box (M7 (O3 b ws plan s sel ws.length)))]⟩⟩)
 |0,h,c,hd,hc=>by
  have:h=ws.length:=by omega
  subst this;refine⟨c,hc,fun n k hk=>?_⟩;obtain⟨k,rfl⟩:∃k',k=k'+1:=⟨k-1,by omega⟩;rw[AB];simp[M7]
 |d+1,h,c,hd,hc=>by
  have hh:h<ws.length:=by omega
  have hh5:=hb.hl;have hwi:=hb.wi;have hlen:=hp.len;have hwh:=BZ (k:=h) (by omega);have hwd:ws.getD h []=ws[h]:=by rw[bk,bj hh];rfl
  have hw4:=hok.len _ (bw hh);obtain⟨c1,hc1,q⟩:=A70 (ws:=ws) hb hp hsel hs1 hs2 (O3 b ws plan s sel h) h (by omega) ws[h] (hok.lo _ (bw hh)) (by omega) c ws[h].length 0 (c+1) (by omega) (by omega);obtain⟨c',hc',ih⟩:=A71 hb hp hsel hse hs1 hs2 hwl hok d (h+1) c1 (by omega) (by omega);refine⟨c',hc',fun n k hk=>?_⟩;obtain⟨k,rfl⟩:∃k',k=k'+1:=⟨k-1,by omega⟩;have ih:=ih n k (by omega);have q:=fun n k=>q n (k+100) (by omega);have e1:O3 b ws plan s sel (h+1)=((O3 b ws plan s sel h).1+(F7 (1,0) (ws[h].map (HX b plan s sel h))).1,(O3 b ws plan s sel h).2+(F7 (1,0) (ws[h].map (HX b plan s sel h))).2):=by rw[<-hwd];rfl
  have hr:=AGL (l:=ws[h].map (HX b plan s sel h)) fun x hx=>by obtain⟨w,_,rfl⟩:=bc.1 hx;exact hse h w
  have hb1:=fL (n:=h) (c:=1) (f:=fun h=>(F7 (1,0) ((ws.getD h []).map (HX b plan s sel h))).1) fun j _=>by
   have:=AGL (l:=(ws.getD j []).map (HX b plan s sel j)) fun x hx=>by obtain⟨w,_,rfl⟩:=bc.1 hx;exact hse j w
   omega
  have hb2:=fL (n:=h) (c:=1) (f:=fun h=>(F7 (1,0) ((ws.getD h []).map (HX b plan s sel h))).2) fun j _=>by
   have:=AGL (l:=(ws.getD j []).map (HX b plan s sel j)) fun x hx=>by obtain⟨w,_,rfl⟩:=bc.1 hx;exact hse j w
   omega
  change 0<=(O3 b ws plan s sel h).1/\(O3 b ws plan s sel h).1<=h*1 at hb1;change 0<=(O3 b ws plan s sel h).2/\(O3 b ws plan s sel h).2<=h*1 at hb2;rw[e1]at ih;rw[List.take_zero,bq]at q;have e0:F7 (1,0) []=(1,0):=rfl;rw[e0]at q;generalize O3 b ws plan s sel ws.length=TT at ih|-;generalize O3 b ws plan s sel h=T at ih q hb1 hb2|-;generalize F7 (1,0) (ws[h].map (HX b plan s sel h))=R at ih q hr;have w1:IntKind.i64.wrap (T.1+R.1)=T.1+R.1:=AV (by omega) (by omega);have w2:IntKind.i64.wrap (T.2+R.2)=T.2+R.2:=AV (by omega) (by omega);have hc2:2<c1:=by omega
  have hcc:c<c+1:=by omega
  rw[AB];simp only[D7,M7]at q ih|-;simp at q ih;simp[hh,hwh,AG,AM,q,w1,w2,hc2,hcc,BA,ih]
theorem nP(n:Nat)(hb:Valid b)(hp:N6 b plan)(hsel:∀n x,A3 bh kn (AE bh ann kn (n+50)) ff [.agg (VV x)]=some (i (sel x)))(hse:∀h w,0<=HX b plan s sel h w/\HX b plan s sel h w<=1)(hs1:(s.1:Int)<b.rows)(hs2:(s.2:Int)<b.places)(hwl:ws.length=b.winds.length)(hok:DD ws):A3 bh kn (AE bh ann kn (n+1800)) 157 [.agg [.fn ff [] []],.ref (D7 b ws),JF plan,.agg [i s.1,i s.2]]=some (.agg (M7 (O3 b ws plan s sel ws.length))):=by
 rw[AP rfl,AQ Tryz.func157 BCC rfl (by simp[D7,AG,AM,AL])];obtain⟨c',hc',q⟩:=A71 (s:=s) hb hp hsel hse hs1 hs2 hwl hok ws.length 0 3 (by omega) (Nat.le_refl _);have h5:=hb.hl;have q:=fun n k=>q n (k+150) (by omega);have e0:O3 b ws plan s sel 0=(0,0):=rfl;rw[e0]at q;generalize O3 b ws plan s sel ws.length=T at q|-;have hc2:2<c':=by omega
 simp only[D7,M7]at q|-;simp at q;simp[A1D,AD,AM,q,hc2,BA]
end
end Go.Proofs.Tryz.Op
namespace Go.Wind
structure nY where
 sun:Int
 calm:Int×Int
 good:Int×Int
end Go.Wind
namespace Go.Proofs.Tryz.Op
@[simp] theorem AZM(T:TypeId)(x:Operand)(k:Nat)(f:Operand->Option V):HW bh (.oth (.field T x k)) f=[]:=rfl
@[simp] theorem AZN(f:FuncId):weakC (.fn f [] [])=.fn f [] []:=rfl
@[simp] theorem AZO(f:FuncId):weakM (.fn f [] [])=.fn f [] []:=rfl
@[simp] theorem AUP(k:Nat)(f:FuncId):AF (k+1) (.fn f [] [])=true:=rfl
def O4(x:nY):List V:=[i x.sun,i x.calm.1,i x.calm.2,i x.good.1,i x.good.2]
section
variable {b:AN}{ws plan:List (List Int)}
def rQ(b:AN)(ws plan:List (List Int))(r p:Nat):nY:=⟨LH b plan r plan.length,jO b ws plan r p,V6 b ws plan r p⟩
theorem zW(b:AN)(plan:List (List Int))(r n:Nat):LH b plan r (n+1)=LH b plan r n+(if YM b plan r n=true then 1 else 0):=by unfold LH;simp only[cnt];split<;>simp
theorem AGM(hb:Valid b)(hp:N6 b plan)(r p:Nat)(hr:(r:Int)<b.rows)(hp2:(p:Int)<b.places)(A:List (List V))(γ8 γ12:Nat):∀(d h c γ:Nat) (rs:List nY),h+d=plan.length->(rs.length:Int)=b.places->rs[p]? = some ⟨LH b plan r h,(0,0),(0,0)⟩->γ<c->∀n k,d<k->BK (AE bh ann kn (n+1400) 90) NX (ann 90 (BU NX)) k ⟨c,[(2,true,.ptr 0 2 0 0),(3,true,.ptr 0 3 1 0),(6,true,.ref (D7 b ws)),(8,true,pv 87 γ8 A),(9,true,i r),(10,true,.vec 0 30 γ rs.length),(11,true,i p),(12,true,.ptr 0 12 γ12 0),(24,true,i b.rows),(25,true,i r),(32,true,i rs.length),(33,true,i p),(40,true,i plan.length),(41,true,i h)],⟨[],(2,0,.box (AC b))::(3,1,.box [JF plan])::(12,γ12,.box [i r,i p])::(30,γ,.vec 209 (rs.map O4))::pl 87 γ8 204 A⟩⟩ =
  some (.exit 4,⟨c,(42,true,.bool false)::[(2,true,.ptr 0 2 0 0),(3,true,.ptr 0 3 1 0),(6,true,.ref (D7 b ws)),(8,true,pv 87 γ8 A),(9,true,i r),(10,true,.vec 0 30 γ rs.length),(11,true,i p),(12,true,.ptr 0 12 γ12 0),(24,true,i b.rows),(25,true,i r),(32,true,i rs.length),(33,true,i p),(40,true,i plan.length),(41,true,i plan.length)],⟨[],(2,0,.box (AC b))::(3,1,.box [JF plan])::(12,γ12,.box [i r,i p])::(30,γ,.vec 209 ((rs.set p ⟨LH b plan r plan.length,(0,0),(0,0)⟩).map O4))::pl 87 γ8 204 A⟩⟩)
 |0,h,c,γ,rs,hd,hl,e,hγ,n,k+1,hk=>by
  have:h=plan.length:=by omega
  subst this;have:rs.set p ⟨LH b plan r plan.length,(0,0),(0,0)⟩=rs:=by
   have hpl:p<rs.length:=by omega
   rw[bj hpl,Option.some.injEq]at e;rw[<-e];exact List.set_getElem_self hpl
  rw[this,AB];simp
 |d+1,h,c,γ,rs,hd,hl,e,hγ,n,k+1,hk=>by
  have hh:h<plan.length:=by omega
  have hla:=hb.la;have hro:=hb.ro;have hpc:=hb.pl;have hsu:=hb.su;have hlen:=hp.len;have hwh:=BZ (k:=h) (by omega);obtain⟨r1,r2,r3⟩:=vU hb hp hh;have hr2:r<plan[h].length:=by omega
  have hpa:EW plan h r=plan[h][r]:=by unfold EW;rw[show plan.getD h []=plan[h] by rw[bk,bj hh];rfl,bk,bj hr2];rfl
  have q:=fun n=>kOf n b hb (r,p) (by simp only;omega) h (by omega) (EW plan h r) 0 (by omega);rw[hpa]at q;have hpl:p<rs.length:=by omega
  have ih:=AGM hb hp r p hr hp2 A γ8 γ12 d (h+1) c γ (rs.set p ⟨LH b plan r (h+1),(0,0),(0,0)⟩) (by omega) (by simpa using hl) (by rw[List.getElem?_set_self hpl]) hγ n k (by omega);rw[List.set_set,List.length_set]at ih;rw[bj hpl,Option.some.injEq]at e;have hs:=YL (YM b plan r) h;have hsb:0<=LH b plan r h/\LH b plan r h<=h:=by unfold LH;omega
  have hof:(ofB b (r,p) h plan[h][r] 0).sun=if YM b plan r h=true then 1 else 0:=by
   have:YM b plan r h=decide (b.sun.getD h 0=plan[h][r]):=by unfold YM;rw[hpa];congr 1;exact propext eq_comm
   rw[this];rfl
  have hst:LH b plan r (h+1)=LH b plan r h+(ofB b (r,p) h plan[h][r] 0).sun:=by rw[zW,hof]
  have hw:IntKind.i64.wrap (LH b plan r h+(ofB b (r,p) h plan[h][r] 0).sun)=LH b plan r h+(ofB b (r,p) h plan[h][r] 0).sun:=AV (by rw[hof];split<;>omega) (by rw[hof];split<;>omega);rw[hst]at ih;generalize rs.set p ⟨LH b plan r plan.length,(0,0),(0,0)⟩=F at ih|-;generalize LH b plan r h=S at *;generalize ofB b (r,p) h plan[h][r] 0=O at *;rw[List.map_set]at ih;have heg:(rs.map O4)[p]'(by simpa using hpl)=[i S,i 0,i 0,i 0,i 0]:=by rw[bx,e];rfl
  rw[AB];simp only[AC,AL,VV,O4,D7]at q ih heg|-;simp at ih;simp[hh,hr2,hwh,AG,AM,AL,q,hpl,heg,hw,hγ,BA,ID,ih]
def L7(b:AN)(ws plan:List (List Int))(r p:Nat):List nY:=(bf b.places.toNat).map fun j=>if j<p then rQ b ws plan r j else⟨0,(0,0),(0,0)⟩
def P6(b:AN)(ws plan:List (List Int))(r:Nat):List nY:=(bf b.places.toNat).map (rQ b ws plan r)
theorem bH(b:AN)(ws plan:List (List Int))(r p:Nat):(L7 b ws plan r p).length=b.places.toNat:=by simp[L7]
theorem AGN{r p:Nat}(h:p<b.places.toNat):(L7 b ws plan r p)[p]? = some ⟨0,(0,0),(0,0)⟩:=by simp[L7,h]
theorem AGO{r p:Nat}:(L7 b ws plan r p).set p (rQ b ws plan r p)=L7 b ws plan r (p+1):=by
 apply bz (by simp[L7]);intro j h1 h2;simp only[L7,List.getElem_set,bx,bb];by_cases e:p=j
 ·subst e;simp
 ·rw[if_neg e];have:(j<p)=(j<p+1):=propext ⟨fun h=>by omega,fun h=>by omega⟩;simp only[this]
theorem zX(b:AN)(ws plan:List (List Int))(r:Nat):L7 b ws plan r b.places.toNat=P6 b ws plan r:=by
 apply bz (by simp[L7,P6]);intro j h1 h2;have:j<b.places.toNat:=by simpa [L7]using h1
 simp only[L7,P6,bx,bb,if_pos this]
theorem zY(b:AN)(ws plan:List (List Int))(r:Nat):L7 b ws plan r 0=List.replicate b.places.toNat ⟨0,(0,0),(0,0)⟩:=by apply bz (by simp[L7]);intro j h1 h2;simp[L7]
theorem AGP(hb:Valid b)(hp:N6 b plan)(hwl:ws.length=b.winds.length)(hok:DD ws)(r:Nat)(hr:(r:Int)<b.rows)(A:List (List V))(γ8 γ:Nat):∀(d p c:Nat),p+d=b.places.toNat->γ<c->∃c',γ<c'/\∀n k,d<k->BK (AE bh ann kn (n+2000) 90) NY (ann 90 (BU NY)) k ⟨c,[(2,true,.ptr 0 2 0 0),(3,true,.ptr 0 3 1 0),(6,true,.ref (D7 b ws)),(8,true,pv 87 γ8 A),(9,true,i r),(10,true,.vec 0 30 γ b.places.toNat),(24,true,i b.rows),(25,true,i r),(32,true,i b.places.toNat),(33,true,i p)],⟨[],(2,0,.box (AC b))::(3,1,.box [JF plan])::(30,γ,.vec 209 ((L7 b ws plan r p).map O4))::pl 87 γ8 204 A⟩⟩ =
  some (.exit 2,⟨c',(34,true,.bool false)::[(2,true,.ptr 0 2 0 0),(3,true,.ptr 0 3 1 0),(6,true,.ref (D7 b ws)),(8,true,pv 87 γ8 A),(9,true,i r),(10,true,.vec 0 30 γ b.places.toNat),(24,true,i b.rows),(25,true,i r),(32,true,i b.places.toNat),(33,true,i b.places.toNat)],⟨[],(2,0,.box (AC b))::(3,1,.box [JF plan])::(30,γ,.vec 209 ((P6 b ws plan r).map O4))::pl 87 γ8 204 A⟩⟩)
 |0,p,c,hd,hγ=>by
  have:p=b.places.toNat:=by omega
  subst this;refine⟨c,hγ,fun n k hk=>?_⟩;obtain⟨k,rfl⟩:∃k',k=k'+1:=⟨k-1,by omega⟩;rw[zX,AB];simp
 |d+1,p,c,hd,hγ=>by
  have hpc:=hb.pl;have hla:=hb.la;have hlen:=hp.len;have hw:=BZ (k:=p) (by omega);have hp':p<b.places.toNat:=by omega
  obtain⟨c',h1,ih⟩:=AGP hb hp hwl hok r hr A γ8 γ d (p+1) (c+3) (by omega) (by omega);have q:=AGM (ws:=ws) hb hp r p hr (by omega) A γ8 c plan.length 0 (c+1) γ (L7 b ws plan r p) (by omega) (by rw[bH];omega) (AGN hp') (by omega);rw[bH]at q;have q:=fun n m=>q n (m+100) (by omega);have qc:=fun n=>nP (ws:=ws) (ff:=156) (sel:=wP.calm) (s:=(r,p)) n hb hp AUN (fun h w=>YH _) hr (by simp only;omega) hwl hok;have qg:=fun n=>nP (ws:=ws) (ff:=158) (sel:=wP.good) (s:=(r,p)) n hb hp AUO (fun h w=>YH _) hr (by simp only;omega) hwl hok;have ec:O3 b ws plan (r,p) wP.calm ws.length=jO b ws plan r p:=rfl;have eg:O3 b ws plan (r,p) wP.good ws.length=V6 b ws plan r p:=rfl;rw[ec]at qc;rw[eg]at qg;have hst:((L7 b ws plan r p).set p ⟨LH b plan r plan.length,(0,0),(0,0)⟩).set p (rQ b ws plan r p)=L7 b ws plan r (p+1):=by rw[List.set_set,AGO]
  have hl:=bH b ws plan r p;have hbp:O4 (rQ b ws plan r p)=[i (LH b plan r plan.length),i (jO b ws plan r p).1,i (jO b ws plan r p).2,i (V6 b ws plan r p).1,i (V6 b ws plan r p).2]:=rfl;rw[<-hst,List.map_set,hbp]at ih;generalize L7 b ws plan r p=R0 at q ih hl|-;generalize rQ b ws plan r p=BP at *;generalize jO b ws plan r p=C at *;generalize V6 b ws plan r p=G at *;generalize P6 b ws plan r=RR at ih|-;generalize LH b plan r plan.length=S at *;generalize b.places.toNat=PP at hp' hl ih q|-;have hpl:p<R0.length:=by omega
  have heg:((R0.set p ⟨S,(0,0),(0,0)⟩).map O4)[p]? = some [i S,i 0,i 0,i 0,i 0]:=by simp[O4,hpl]
  have hle:PP<=R0.length:=by omega
  refine⟨c',h1,fun n k hk=>?_⟩;obtain⟨k,rfl⟩:∃k',k=k'+1:=⟨k-1,by omega⟩;have ih:=ih n k (by omega);rw[AB];generalize hRR:R0.set p ⟨S,(0,0),(0,0)⟩=R1 at *;have hl1:R1.length=PP:=by rw[<-hRR];simpa using hl
  have hpl1:p<R1.length:=by omega
  rw[bj (by simpa using hpl1),Option.some.injEq]at heg;simp only[AC,D7,M7]at q qc qg ih|-;simp at q ih;simp[hp',hw,AG,AM,AL,q,qc,qg,hpl1,heg,BA,ID,HV,GB,CQ,CA,BN,show Nat.beq 2 1=false from rfl,hl1,show γ<c+1+1+1 by omega,ih]
def E0(b:AN)(ws plan:List (List Int))(n:Nat):List (List nY):=(bf n).map (P6 b ws plan)
theorem rR(b:AN)(ws plan:List (List Int))(n:Nat):E0 b ws plan (n+1)=E0 b ws plan n++[P6 b ws plan n]:=by simp[E0,List.range_succ]
def G5(l:List nY):List V:=[.list false (l.map O4)]
theorem A72{k:Nat}{x:List nY}(h:k<=10000):B8 bh 204 k [G5 x]=true:=by rw[CE (by simp[G5]) (by simp)];simp[maxLen,G5];omega
theorem AOL(hb:Valid b)(hp:N6 b plan)(hwl:ws.length=b.winds.length)(hok:DD ws):∀(d r c γ8:Nat),r+d=b.rows.toNat->1<c->∃fr c' γ',BR fr 8=some (true,pv 87 γ' ((E0 b ws plan b.rows.toNat).map G5))/\∀n k,d<k->BK (AE bh ann kn (n+2200) 90) SB (ann 90 (BU SB)) k ⟨c,[(2,true,.ptr 0 2 0 0),(3,true,.ptr 0 3 1 0),(6,true,.ref (D7 b ws)),(8,true,pv 87 γ8 ((E0 b ws plan r).map G5)),(24,true,i b.rows),(25,true,i r)],⟨[],(2,0,.box (AC b))::(3,1,.box [JF plan])::pl 87 γ8 204 ((E0 b ws plan r).map G5)⟩⟩ =
  some (.exit 0,⟨c',fr,⟨[],(2,0,.box (AC b))::(3,1,.box [JF plan])::pl 87 γ' 204 ((E0 b ws plan b.rows.toNat).map G5)⟩⟩)
 |0,r,c,γ8,hd,hc=>by
  have hr:r=b.rows.toNat:=by omega
  have hro:=hb.ro;have hr':b.rows=(r:Int):=by omega
  rw[<-hr];refine⟨?fr,c,γ8,?g1,fun n k hk=>?g2⟩;case g2=>
   obtain⟨k,rfl⟩:∃k',k=k'+1:=⟨k-1,by omega⟩
   rw[AB]
   simp[AC,hr']
   rfl
  case g1=>simp
 |d+1,r,c,γ8,hd,hc=>by
  have hro:=hb.ro;have hpc:=hb.pl;have hw:=BZ (k:=r) (by omega);have hr':(r:Int)<b.rows:=by omega
  obtain⟨c1,h1,q⟩:=AGP (ws:=ws) hb hp hwl hok r hr' ((E0 b ws plan r).map G5) γ8 c b.places.toNat 0 (c+1) (by omega) (by omega);have q:=fun n m=>q n (m+100) (by omega);obtain⟨fr,c',γ',e1,ih⟩:=AOL hb hp hwl hok d (r+1) (c1+1) c1 (by omega) (by omega);have happ:=A72 (k:=(E0 b ws plan r).length) (x:=P6 b ws plan r) (by simp[E0];omega);rw[zY]at q;rw[rR]at ih;refine⟨fr,c',γ',e1,fun n k hk=>?_⟩;obtain⟨k,rfl⟩:∃k',k=k'+1:=⟨k-1,by omega⟩;have ih:=ih n k (by omega);generalize E0 b ws plan b.rows.toNat=FF at ih|-;have hRl:(P6 b ws plan r).length=b.places.toNat:=by simp[P6]
  generalize P6 b ws plan r=RR at ih q happ hRl;obtain⟨PP,hPP⟩:∃P:Nat,b.places=P:=⟨b.places.toNat,by omega⟩;have hP2:b.places.toNat=PP:=by omega
  rw[hP2]at q hRl;subst hRl;rw[AB];simp only[AC,D7,hPP]at q ih|-;simp[G5]at ih q happ;simp[O4]at q;have m1:RR.length*40<=140737488355328:=by omega
  have m2:RR.length<=maxLen:=by simp[maxLen];omega
  have htl:∀o,FV 0 30 o (pl 87 γ8 204 ((E0 b ws plan r).map G5))=pl 87 γ8 204 ((E0 b ws plan r).map G5):=fun o=>yT (by decide) _ _ _ (by simp[G5,O4]);simp[hr',hw,G5,q,ih,happ,m1,m2,htl]
def lvB(b:AN)(plan:List (List Int)):AA:=[(2,0,.box (AC b)),(3,1,.box [JF plan])]
theorem rS(hb:Valid b)(plan:List (List Int)):fJ b (lvB b plan) 155 [.ptr 0 2 0 0,.ptr 0 3 1 0] 2 (DV b plan):=by intro n d fr;rw[A2 Tryz.func155 b155 rfl (by simp)];have q:=fun n=>AK8 n b hb plan;generalize DV b plan=z at q|-;simp only[AC,lvB]at q|-;simp[A1G,AD,q,AG,AM,AL]
def HS(b:AN)(plan:List (List Int)):List (List nY)×Int:=if DK b=0 then(if DV b plan=true then(if (E4 b [] b.winds []).isEmpty=true then([],11) else(E0 b (E3 b) plan b.rows.toNat,0)) else([],2)) else([],DK b)
theorem nQ(n:Nat)(b:AN)(h40:∀l∈b.winds,l.length<=40)(plan:List (List Int)):A3 bh kn (AE bh ann kn (n+6200)) 117 [.agg (AC b),JF plan]=some (.tup [sl ((HS b plan).1.map G5),i (HS b plan).2]):=by
 rw[AP rfl,AQ Tryz.func117 BCF rfl (by simp[AC,AG,AM,AL])];have hB:∀t:St,1<=t.up.length->AH t (lvB b plan)=lvB b plan:=fun t ht=>by simp[lvB,AC,AG,AM,AL]
 have slnil:sl ([]:List (List V))=.nil:=rfl;unfold HS;by_cases h:DK b=0
 ·have hb:=SZ h;have hf:=rS hb plan;rw[if_pos h];cases hz:DV b plan with
  |false=>
   rw[hz]at hf
   rw[if_neg (by decide)]
   have q:=fun n=>oF (ff:=155) (cap:=[.ptr 0 2 0 0,.ptr 0 3 1 0]) hb hB (by simp) (by simp) 2 17 hf [(16,true,.fn 155 [] [.ptr 0 2 0 0,.ptr 0 3 1 0]),(15,true,.agg (AC b)),(2,true,.ptr 0 2 0 0),(3,true,.ptr 0 3 1 0)] (n+190)
   simp only[AC,lvB,bq,slnil]at q|-
   simp[ABU,AD,AG,AM,AL,q]
  |true=>
   rw[hz]at hf
   rw[if_pos rfl]
   by_cases hT:E4 b [] b.winds []=[]
   ·obtain⟨c',hc',q⟩:=oH (ff:=155) (cap:=[.ptr 0 2 0 0,.ptr 0 3 1 0]) hb hB (by simp) (by simp) 2 17 hf hT [(16,true,.fn 155 [] [.ptr 0 2 0 0,.ptr 0 3 1 0]),(15,true,.agg (AC b)),(2,true,.ptr 0 2 0 0),(3,true,.ptr 0 3 1 0)];rw[if_pos (by rw[hT];rfl)];have q:=fun n=>q (n+190);simp only[AC,lvB,bq,slnil]at q|-;simp[ABU,AD,AG,AM,AL,q]
   ·obtain⟨c',hc',q⟩:=ACR (ff:=155) (cap:=[.ptr 0 2 0 0,.ptr 0 3 1 0]) hb hB (by simp) (by simp) 2 17 hf hT [(16,true,.fn 155 [] [.ptr 0 2 0 0,.ptr 0 3 1 0]),(15,true,.agg (AC b)),(2,true,.ptr 0 2 0 0),(3,true,.ptr 0 3 1 0)];rw[if_neg (by simpa using hT)];have q:=fun n=>q (n+190);have hro:=hb.ro;obtain⟨fr,c2,γ',e1,q6⟩:=AOL (ws:=E3 b) hb (AIU hz) (jL _ _) (zV hb) b.rows.toNat 0 c' 0 (by omega) (by omega);have q6:=fun n k=>q6 n (k+100) (by omega);have e0:E0 b (E3 b) plan 0=[]:=rfl;rw[e0]at q6;generalize E0 b (E3 b) plan b.rows.toNat=FF at *;simp only[AC,D7,lvB,List.cons_append,List.nil_append]at q q6|-;simp at q q6;simp[ABU,AD,AG,AM,AL,q,q6,e1];simp[G5,O4]
 ·rw[if_neg h];have q:=fun n=>jH (ff:=155) (cap:=[.ptr 0 2 0 0,.ptr 0 3 1 0]) h40 hB (by simp) h 2 17 [(16,true,.fn 155 [] [.ptr 0 2 0 0,.ptr 0 3 1 0]),(15,true,.agg (AC b)),(2,true,.ptr 0 2 0 0),(3,true,.ptr 0 3 1 0)] (n+190);simp only[AC,lvB,bq,slnil]at q|-;simp[ABU,AD,AG,AM,AL,q,h]
end
end Go.Proofs.Tryz.Op
