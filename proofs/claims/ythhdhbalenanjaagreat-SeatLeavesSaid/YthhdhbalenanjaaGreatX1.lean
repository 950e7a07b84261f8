/- Contracts: Min of two, minimum, wider, facing, turn, the directions as an array. No condition. -/
import Derived.Test.YthhdhbalenanjaaGreatH1
import Derived.Test.YthhdhbalenanjaaGreatW4
open Go.Proofs.Tryz renaming prog->bh
open List renaming getElem?_eq_getElem->bj,getD_eq_getElem?_getD->bk,map_nil->bq,getElem_mem->bw,getElem_map->bx,ext_getElem->bz,getElem_range->bb,mem_map->bc,range->bf
set_option maxRecDepth 100000
set_option linter.unusedSimpArgs false
open Go Go.Pg Go.Proofs Go.Wind
namespace Go.Proofs.Tryz.Op
theorem AJB(a b:Int):(if b<a then b else a)=min a b:=by split<;>omega
theorem AJC(a b:Int):(if a<b then b else a)=max a b:=by split<;>omega
theorem A9W(n:Nat)(a b:Int):AY bh kn (AE bh ann kn (n+100)) 165 [.list false [[i a],[i b]]]=some (i (min a b)):=by
 rw[AN rfl,AM Tryz.func165 BDY rfl (by simp)];have hw:IntKind.i64.wrap (1+1)=2:=by decide
 simp[A3G,AF];rw[AB];simp[AJB];rw[AB];simp
theorem AJD(n:Nat)(a b:Int):AY bh kn (AE bh ann kn (n+200)) 198 [.list false [[i a],[i b]]]=some (i (min a b)):=by rw[AN rfl,AM Tryz.func198 BDZ rfl (by simp)];have q:=fun n=>A9W n a b;simp[A3H,AF,q]
def FU(r:Int×Int):List V:=[i r.1,i r.2]
theorem AXE(n:Nat)(r:Int×Int)(x:Int):AY bh kn (AE bh ann kn (n+300)) 186 [.agg (FU r),i x]=some (.agg (FU (min r.1 x,max r.2 x))):=by rw[AN rfl,AM Tryz.func186 BD0 rfl (by simp[FU])];have q:=fun n=>AJD n r.1 x;simp[A3I,AF,FU,q,AJC]
theorem A9X{α:Type}(l:List α)(h:l.length=3):∃x y z,l=[x,y,z]:=by
 match l,h with
 |[x,y,z],_=>exact⟨x,y,z,rfl⟩
@[simp] theorem A1L(cs:List V):OM (.ref cs)=some (.ref cs):=rfl
theorem P1(L:AA)(k γ:Nat)(r:AX):AA.put L k γ r=(k,γ,r)::L:=rfl
@[simp] theorem A9Y:IF bh 186=false:=by kernel_rfl
def D8(b:AK)(ws:List (List Int)):List V:=[i b.last,i b.rows,i b.places,i b.reach,li b.face,li b.sun,FV b.winds,.list false (b.breaks.map AQ),.list false (b.notes.map AQ),FV ws,.any,.any]
section
variable {b:AK}{ws:List (List Int)}{g0 g1 g2:Int}{h:Nat}
end
section
variable {b:AK}{ws plan:List (List Int)}
theorem Y0(b:AK)(t:List Int):t∈FD b [] b.winds []↔C0 b t=true:=by rw[jF];simp only[List.nil_append,List.map_id',List.mem_filter,PK,C0,Bool.and_eq_true,List.all_eq_true];refine and_congr_right fun _=>?_;rw[XY,List.all_eq_true]
theorem ACK(hb:Valid b):DB (E4 b):=DB.ask _ _ fun t ht=>KV hb (by
 have:=(Y0 b t).1 ht;simp only[C0,Bool.and_eq_true]at this;exact this.1)
theorem WV(hb:Valid b)(hT:FD b [] b.winds []≠[]):TM b (E4 b):=AFG hb (Y0 b) hT
end
theorem P2{n:Int}(h:-1000<=n/\n<=1000):KN n:=⟨by omega,by omega⟩
@[simp] theorem clI(f:Nat)(l:List Int):(l.all ((fun e=>e.all (AG (f+1)))∘AJ))=true:=by simp[AJ]
@[simp] theorem clP(f:Nat)(l:List (Int×Int)):(l.all ((fun e=>e.all (AG (f+1)))∘AQ))=true:=by simp[AQ]
@[simp] theorem clL(f:Nat)(l:List (List Int)):(l.all ((fun e=>e.all (AG (f+2)))∘AV))=true:=by simp[AV]
theorem slX{α:Type}{f:α->List V}{l:List α}(h:l≠[]):sl (l.map f)=.list false (l.map f):=by
 cases l with
 |nil=>exact absurd rfl h
 |cons x l=>rfl
theorem zD{b:AK}{plan:List (List Int)}(hb:Valid b)(hp:FC b plan){h:Nat}(hh:h<plan.length):plan[h].length<=3/\(plan[h].length:Int)=b.rows/\∀x∈plan[h],0<=x/\x<=3:=by
 have hro:=hb.ro;have e:plan.getD h []=plan[h]:=by rw[bk,bj hh];rfl
 have hr:=hp.row h hh;have hd:=hp.dir h;rw[e]at hr;refine⟨by omega,hr,fun x hx=>?_⟩;obtain⟨r,h1,rfl⟩:=List.getElem_of_mem hx;have:=hd r hh (by rw[e];exact h1);unfold CW at this;rw[e,bk,bj h1]at this;exact DI.1 this
section
variable {b:AK}{x0 x1 x2 y0 y1 y2:Int}
end
section
variable {b:AK}{plan:List (List Int)}
end
@[simp] theorem A1M:IF bh 157=false:=by kernel_rfl
theorem AXF(n:Nat)(x:eL):AY bh kn (AE bh ann kn (n+50)) 156 [.agg (F6 x)]=some (i x.calm):=by rw[AN rfl,AM Tryz.func156 BD4 rfl (by simp[F6])];simp[A3M,AF,F6]
theorem AXG(n:Nat)(x:eL):AY bh kn (AE bh ann kn (n+50)) 158 [.agg (F6 x)]=some (i x.good):=by rw[AN rfl,AM Tryz.func158 BD5 rfl (by simp[F6])];simp[A3N,AF,F6]
section
variable {b:AK}{ws plan:List (List Int)}{ff:FuncId}{sel:eL->Int}{s:Nat×Nat}
def HY(b:AK)(plan:List (List Int))(s:Nat×Nat)(sel:eL->Int)(h:Nat)(w:Int):Int:=sel (ofB b (s.1,s.2) h (CW plan h s.1) w)
theorem A9Z(hb:Valid b)(hp:FC b plan)(hsel:∀n x,AY bh kn (AE bh ann kn (n+50)) ff [.agg (F6 x)]=some (i (sel x)))(hs1:(s.1:Int)<b.rows)(hs2:(s.2:Int)<b.places)(out:Int×Int)(h:Nat)(hh:h<plan.length)(xs:List Int)(hx:∀x∈xs,0<=x/\x<=3)(hxl:xs.length<=100)(γ:Nat):∀(d j c:Nat),j+d=xs.length->γ<c->∃c',c<=c'/\∀n k,d<k->A8 (AE bh ann kn (n+1400) 66) SO (ann 66 (BU SO)) k ⟨c,[(1,true,.ref (D8 b ws)),(2,true,FV plan),(4,true,.ptr 0 4 0 0),(7,true,.ptr 0 7 1 0),(8,true,.ptr 0 8 2 0),(9,true,i h),(11,true,.ptr 0 11 γ 0),(17,true,FV ws),(18,true,i ws.length),(19,true,i h),(25,true,li xs),(26,true,i xs.length),(27,true,i j)],⟨[],[(4,0,.box [.fn ff [] []]),(7,1,.box [i s.1,i s.2]),(8,2,.box (FU out)),(11,γ,.box (FU (DC (1,0) ((xs.take j).map (HY b plan s sel h)))))]⟩⟩ =
  some (.exit 2,⟨c',[(28,true,.bool false),(1,true,.ref (D8 b ws)),(2,true,FV plan),(4,true,.ptr 0 4 0 0),(7,true,.ptr 0 7 1 0),(8,true,.ptr 0 8 2 0),(9,true,i h),(11,true,.ptr 0 11 γ 0),(17,true,FV ws),(18,true,i ws.length),(19,true,i h),(25,true,li xs),(26,true,i xs.length),(27,true,i xs.length)],⟨[],[(4,0,.box [.fn ff [] []]),(7,1,.box [i s.1,i s.2]),(8,2,.box (FU out)),(11,γ,.box (FU (DC (1,0) (xs.map (HY b plan s sel h)))))]⟩⟩)
 |0,j,c,hd,hc=>by
  have:j=xs.length:=by omega
  subst this;refine⟨c,Nat.le_refl _,fun n k hk=>?_⟩;obtain⟨k,rfl⟩:∃k',k=k'+1:=⟨k-1,by omega⟩;rw[AB,List.take_length];simp[FU]
 |d+1,j,c,hd,hc=>by
  have hj:j<xs.length:=by omega
  have hla:=hb.la;have hro:=hb.ro;have hpl:=hb.pl;have hsu:=hb.su;have hlen:=hp.len;have hwj:=BM (k:=j) (by omega);obtain⟨c',hc',ih⟩:=A9Z hb hp hsel hs1 hs2 out h hh xs hx hxl γ d (j+1) (c+1) (by omega) (by omega);refine⟨c',by omega,fun n k hk=>?_⟩;obtain⟨k,rfl⟩:∃k',k=k'+1:=⟨k-1,by omega⟩;have ih:=ih n k (by omega);have hxj:=hx _ (bw hj);have e1:(xs.take (j+1)).map (HY b plan s sel h)=(xs.take j).map (HY b plan s sel h)++[HY b plan s sel h xs[j]]:=by rw[List.take_succ_eq_append_getElem hj,List.map_append,List.map_cons,bq]
  have e2:DC (1,0) ((xs.take (j+1)).map (HY b plan s sel h))=(min (DC (1,0) ((xs.take j).map (HY b plan s sel h))).1 (HY b plan s sel h xs[j]),max (DC (1,0) ((xs.take j).map (HY b plan s sel h))).2 (HY b plan s sel h xs[j])):=by rw[e1];unfold DC;rw[List.foldl_append];rfl
  rw[e2]at ih;have qw:=fun n=>AXE n (DC (1,0) ((xs.take j).map (HY b plan s sel h))) (HY b plan s sel h xs[j]);obtain⟨r1,r2,r3⟩:=zD hb hp hh;have hsr:s.1<plan[h].length:=by omega
  have hpa:CW plan h s.1=plan[h][s.1]:=by unfold CW;rw[show plan.getD h []=plan[h] by rw[bk,bj hh];rfl,bk,bj hsr];rfl
  have qo:=fun n=>kOf n b hb (s.1,s.2) (by simp only;omega) h (by omega) (CW plan h s.1) xs[j] hxj;have qs:=fun n=>hsel n (ofB b (s.1,s.2) h (CW plan h s.1) xs[j]);have es:HY b plan s sel h xs[j]=sel (ofB b (s.1,s.2) h (CW plan h s.1) xs[j]):=rfl;rw[es]at ih qw;rw[hpa]at qo qs ih qw;generalize DC (1,0) (xs.map (HY b plan s sel h))=RR at ih|-;generalize DC (1,0) ((xs.take j).map (HY b plan s sel h))=R at ih qw|-;generalize sel (ofB b (s.1,s.2) h plan[h][s.1] xs[j])=y at qs ih qw;generalize ofB b (s.1,s.2) h plan[h][s.1] xs[j]=O at qs qo;have hc1:γ<c+1:=by omega
  rw[AB];simp only[AC,D8,FU,AQ,F6]at qo qs ih qw|-;simp at ih;simp[hj,hwj,hh,hsr,AJ,AV,qo,qs,qw,hc1,ih]
def PE(b:AK)(ws plan:List (List Int))(s:Nat×Nat)(sel:eL->Int)(n:Nat):Int×Int:=ALY (1,0) ws (HY b plan s sel) n
theorem AJE{l:List Int}(h:∀x∈l,0<=x/\x<=1):0<=(DC (1,0) l).1/\(DC (1,0) l).1<=1/\0<=(DC (1,0) l).2/\(DC (1,0) l).2<=1:=by have:=wJ l (1,0) 0 1 h (by simp) (by simp);simp only at this;omega
theorem A90(hb:Valid b)(hp:FC b plan)(hsel:∀n x,AY bh kn (AE bh ann kn (n+50)) ff [.agg (F6 x)]=some (i (sel x)))(hse:∀h w,0<=HY b plan s sel h w/\HY b plan s sel h w<=1)(hs1:(s.1:Int)<b.rows)(hs2:(s.2:Int)<b.places)(hwl:ws.length=b.winds.length)(hok:DB ws):∀(d h c:Nat),h+d=ws.length->3<=c->∃c',3<=c'/\∀n k,d<k->A8 (AE bh ann kn (n+1600) 66) SP (ann 66 (BU SP)) k ⟨c,[(1,true,.ref (D8 b ws)),(2,true,FV plan),(4,true,.ptr 0 4 0 0),(7,true,.ptr 0 7 1 0),(8,true,.ptr 0 8 2 0),(17,true,FV ws),(18,true,i ws.length),(19,true,i h)],⟨[],[(4,0,.box [.fn ff [] []]),(7,1,.box [i s.1,i s.2]),(8,2,.box (FU (PE b ws plan s sel h)))]⟩⟩ =
  some (.exit 0,⟨c',[(20,true,.bool false),(1,true,.ref (D8 b ws)),(2,true,FV plan),(4,true,.ptr 0 4 0 0),(7,true,.ptr 0 7 1 0),(8,true,.ptr 0 8 2 0),(17,true,FV ws),(18,true,i ws.length),(19,true,i ws.length)],⟨[],[(4,0,.box [.fn ff [] []]),(7,1,.box [i s.1,i s.2]),(8,2,.box (FU (PE b ws plan s sel ws.length)))]⟩⟩)
 |0,h,c,hd,hc=>by
  have:h=ws.length:=by omega
  subst this;refine⟨c,hc,fun n k hk=>?_⟩;obtain⟨k,rfl⟩:∃k',k=k'+1:=⟨k-1,by omega⟩;rw[AB];simp[FU]
 |d+1,h,c,hd,hc=>by
  have hh:h<ws.length:=by omega
  have hh5:=hb.hl;have hwi:=hb.wi;have hlen:=hp.len;have hwh:=BM (k:=h) (by omega);have hwd:ws.getD h []=ws[h]:=by rw[bk,bj hh];rfl
  have hw4:=hok.len _ (bw hh);obtain⟨c1,hc1,q⟩:=A9Z (ws:=ws) hb hp hsel hs1 hs2 (PE b ws plan s sel h) h (by omega) ws[h] (hok.lo _ (bw hh)) (by omega) c ws[h].length 0 (c+1) (by omega) (by omega);obtain⟨c',hc',ih⟩:=A90 hb hp hsel hse hs1 hs2 hwl hok d (h+1) c1 (by omega) (by omega);refine⟨c',hc',fun n k hk=>?_⟩;obtain⟨k,rfl⟩:∃k',k=k'+1:=⟨k-1,by omega⟩;have ih:=ih n k (by omega);have q:=fun n k=>q n (k+100) (by omega);have e1:PE b ws plan s sel (h+1)=((PE b ws plan s sel h).1+(DC (1,0) (ws[h].map (HY b plan s sel h))).1,(PE b ws plan s sel h).2+(DC (1,0) (ws[h].map (HY b plan s sel h))).2):=by rw[<-hwd];rfl
  have hr:=AJE (l:=ws[h].map (HY b plan s sel h)) fun x hx=>by obtain⟨w,_,rfl⟩:=bc.1 hx;exact hse h w
  have hb1:=jC (n:=h) (c:=1) (f:=fun h=>(DC (1,0) ((ws.getD h []).map (HY b plan s sel h))).1) fun j _=>by
   have:=AJE (l:=(ws.getD j []).map (HY b plan s sel j)) fun x hx=>by obtain⟨w,_,rfl⟩:=bc.1 hx;exact hse j w
   omega
  have hb2:=jC (n:=h) (c:=1) (f:=fun h=>(DC (1,0) ((ws.getD h []).map (HY b plan s sel h))).2) fun j _=>by
   have:=AJE (l:=(ws.getD j []).map (HY b plan s sel j)) fun x hx=>by obtain⟨w,_,rfl⟩:=bc.1 hx;exact hse j w
   omega
  change 0<=(PE b ws plan s sel h).1/\(PE b ws plan s sel h).1<=h*1 at hb1;change 0<=(PE b ws plan s sel h).2/\(PE b ws plan s sel h).2<=h*1 at hb2;rw[e1]at ih;rw[List.take_zero,bq]at q;have e0:DC (1,0) []=(1,0):=rfl;rw[e0]at q;generalize PE b ws plan s sel ws.length=TT at ih|-;generalize PE b ws plan s sel h=T at ih q hb1 hb2|-;generalize DC (1,0) (ws[h].map (HY b plan s sel h))=R at ih q hr;have w1:IntKind.i64.wrap (T.1+R.1)=T.1+R.1:=AO (by omega) (by omega);have w2:IntKind.i64.wrap (T.2+R.2)=T.2+R.2:=AO (by omega) (by omega);have hc2:2<c1:=by omega
  have hcc:c<c+1:=by omega
  rw[AB];simp only[D8,FU]at q ih|-;simp at q ih;simp[hh,hwh,AV,q,w1,w2,hc2,hcc,ih]
theorem rD(n:Nat)(hb:Valid b)(hp:FC b plan)(hsel:∀n x,AY bh kn (AE bh ann kn (n+50)) ff [.agg (F6 x)]=some (i (sel x)))(hse:∀h w,0<=HY b plan s sel h w/\HY b plan s sel h w<=1)(hs1:(s.1:Int)<b.rows)(hs2:(s.2:Int)<b.places)(hwl:ws.length=b.winds.length)(hok:DB ws):AY bh kn (AE bh ann kn (n+1800)) 157 [.agg [.fn ff [] []],.ref (D8 b ws),FV plan,.agg [i s.1,i s.2]]=some (.agg (FU (PE b ws plan s sel ws.length))):=by
 rw[AN rfl,AM Tryz.func157 BD3 rfl (by simp[D8])];obtain⟨c',hc',q⟩:=A90 (s:=s) hb hp hsel hse hs1 hs2 hwl hok ws.length 0 3 (by omega) (Nat.le_refl _);have h5:=hb.hl;have q:=fun n k=>q n (k+150) (by omega);have e0:PE b ws plan s sel 0=(0,0):=rfl;rw[e0]at q;generalize PE b ws plan s sel ws.length=T at q|-;have hc2:2<c':=by omega
 simp only[D8,FU]at q|-;simp at q;simp[A3L,AF,q,hc2]
end
end Go.Proofs.Tryz.Op
namespace Go.Wind
structure rS where
 sun:Int
 calm:Int×Int
 good:Int×Int
end Go.Wind
namespace Go.Proofs.Tryz.Op
@[simp] theorem A1N(T:TypeId)(x:Operand)(k:Nat)(f:Operand->Option V):HT bh (.oth (.field T x k)) f=[]:=rfl
@[simp] theorem A1O(f:FuncId):weakC (.fn f [] [])=.fn f [] []:=rfl
def QH(x:rS):List V:=[i x.sun,i x.calm.1,i x.calm.2,i x.good.1,i x.good.2]
section
variable {b:AK}{ws plan:List (List Int)}
def rF(b:AK)(ws plan:List (List Int))(r p:Nat):rS:=⟨LW b plan r plan.length,mS b ws plan r p,W8 b ws plan r p⟩
theorem ACL(b:AK)(plan:List (List Int))(r n:Nat):LW b plan r (n+1)=LW b plan r n+(if MO b plan r n=true then 1 else 0):=by unfold LW;simp only[lN];split<;>simp
theorem AJF(hb:Valid b)(hp:FC b plan)(r p:Nat)(hr:(r:Int)<b.rows)(hp2:(p:Int)<b.places)(A:List (List V))(γ8 γ12:Nat):∀(d h c γ:Nat) (rs:List rS),h+d=plan.length->(rs.length:Int)=b.places->rs[p]? = some ⟨LW b plan r h,(0,0),(0,0)⟩->γ<c->∀n k,d<k->A8 (AE bh ann kn (n+1400) 90) N9 (ann 90 (BU N9)) k ⟨c,[(2,true,.ptr 0 2 0 0),(3,true,.ptr 0 3 1 0),(6,true,.ref (D8 b ws)),(8,true,pv 87 γ8 A),(9,true,i r),(10,true,.vec 0 30 γ rs.length),(11,true,i p),(12,true,.ptr 0 12 γ12 0),(24,true,i b.rows),(25,true,i r),(32,true,i rs.length),(33,true,i p),(40,true,i plan.length),(41,true,i h)],⟨[],(2,0,.box (AC b))::(3,1,.box [FV plan])::(12,γ12,.box [i r,i p])::(30,γ,.vec 209 (rs.map QH))::pl 87 γ8 204 A⟩⟩ =
  some (.exit 4,⟨c,(42,true,.bool false)::[(2,true,.ptr 0 2 0 0),(3,true,.ptr 0 3 1 0),(6,true,.ref (D8 b ws)),(8,true,pv 87 γ8 A),(9,true,i r),(10,true,.vec 0 30 γ rs.length),(11,true,i p),(12,true,.ptr 0 12 γ12 0),(24,true,i b.rows),(25,true,i r),(32,true,i rs.length),(33,true,i p),(40,true,i plan.length),(41,true,i plan.length)],⟨[],(2,0,.box (AC b))::(3,1,.box [FV plan])::(12,γ12,.box [i r,i p])::(30,γ,.vec 209 ((rs.set p ⟨LW b plan r plan.length,(0,0),(0,0)⟩).map QH))::pl 87 γ8 204 A⟩⟩)
 |0,h,c,γ,rs,hd,hl,e,hγ,n,k+1,hk=>by
  have:h=plan.length:=by omega
  subst this;have:rs.set p ⟨LW b plan r plan.length,(0,0),(0,0)⟩=rs:=by
   have hpl:p<rs.length:=by omega
   rw[bj hpl,Option.some.injEq]at e;rw[<-e];exact List.set_getElem_self hpl
  rw[this,AB];simp
 |d+1,h,c,γ,rs,hd,hl,e,hγ,n,k+1,hk=>by
  have hh:h<plan.length:=by omega
  have hla:=hb.la;have hro:=hb.ro;have hpc:=hb.pl;have hsu:=hb.su;have hlen:=hp.len;have hwh:=BM (k:=h) (by omega);obtain⟨r1,r2,r3⟩:=zD hb hp hh;have hr2:r<plan[h].length:=by omega
  have hpa:CW plan h r=plan[h][r]:=by unfold CW;rw[show plan.getD h []=plan[h] by rw[bk,bj hh];rfl,bk,bj hr2];rfl
  have q:=fun n=>kOf n b hb (r,p) (by simp only;omega) h (by omega) (CW plan h r) 0 (by omega);rw[hpa]at q;have hpl:p<rs.length:=by omega
  have ih:=AJF hb hp r p hr hp2 A γ8 γ12 d (h+1) c γ (rs.set p ⟨LW b plan r (h+1),(0,0),(0,0)⟩) (by omega) (by simpa using hl) (by rw[List.getElem?_set_self hpl]) hγ n k (by omega);rw[List.set_set,List.length_set]at ih;rw[bj hpl,Option.some.injEq]at e;have hs:=OI (MO b plan r) h;have hsb:0<=LW b plan r h/\LW b plan r h<=h:=by unfold LW;omega
  have hof:(ofB b (r,p) h plan[h][r] 0).sun=if MO b plan r h=true then 1 else 0:=by
   have:MO b plan r h=decide (b.sun.getD h 0=plan[h][r]):=by unfold MO;rw[hpa];congr 1;exact propext eq_comm
   rw[this];rfl
  have hst:LW b plan r (h+1)=LW b plan r h+(ofB b (r,p) h plan[h][r] 0).sun:=by rw[ACL,hof]
  have hw:IntKind.i64.wrap (LW b plan r h+(ofB b (r,p) h plan[h][r] 0).sun)=LW b plan r h+(ofB b (r,p) h plan[h][r] 0).sun:=AO (by rw[hof];split<;>omega) (by rw[hof];split<;>omega);rw[hst]at ih;generalize rs.set p ⟨LW b plan r plan.length,(0,0),(0,0)⟩=F at ih|-;generalize LW b plan r h=S at *;generalize ofB b (r,p) h plan[h][r] 0=O at *;rw[List.map_set]at ih;have heg:(rs.map QH)[p]'(by simpa using hpl)=[i S,i 0,i 0,i 0,i 0]:=by rw[bx,e];rfl
  rw[AB];simp only[AC,AQ,F6,QH,D8]at q ih heg|-;simp at ih;simp[hh,hr2,hwh,AJ,AV,q,hpl,heg,hw,hγ,J4,ih]
def MI(b:AK)(ws plan:List (List Int))(r p:Nat):List rS:=(bf b.places.toNat).map fun j=>if j<p then rF b ws plan r j else⟨0,(0,0),(0,0)⟩
def NH(b:AK)(ws plan:List (List Int))(r:Nat):List rS:=(bf b.places.toNat).map (rF b ws plan r)
theorem dV(b:AK)(ws plan:List (List Int))(r p:Nat):(MI b ws plan r p).length=b.places.toNat:=by simp[MI]
theorem AJG{r p:Nat}(h:p<b.places.toNat):(MI b ws plan r p)[p]? = some ⟨0,(0,0),(0,0)⟩:=by simp[MI,h]
theorem AJH{r p:Nat}:(MI b ws plan r p).set p (rF b ws plan r p)=MI b ws plan r (p+1):=by
 apply bz (by simp[MI]);intro j h1 h2;simp only[MI,List.getElem_set,bx,bb];by_cases e:p=j
 ·subst e;simp
 ·rw[if_neg e];have:(j<p)=(j<p+1):=propext ⟨fun h=>by omega,fun h=>by omega⟩;simp only[this]
theorem ACM(b:AK)(ws plan:List (List Int))(r:Nat):MI b ws plan r b.places.toNat=NH b ws plan r:=by
 apply bz (by simp[MI,NH]);intro j h1 h2;have:j<b.places.toNat:=by simpa [MI]using h1
 simp only[MI,NH,bx,bb,if_pos this]
theorem ACN(b:AK)(ws plan:List (List Int))(r:Nat):MI b ws plan r 0=List.replicate b.places.toNat ⟨0,(0,0),(0,0)⟩:=by apply bz (by simp[MI]);intro j h1 h2;simp[MI]
theorem AJI(hb:Valid b)(hp:FC b plan)(hwl:ws.length=b.winds.length)(hok:DB ws)(r:Nat)(hr:(r:Int)<b.rows)(A:List (List V))(γ8 γ:Nat):∀(d p c:Nat),p+d=b.places.toNat->γ<c->∃c',γ<c'/\∀n k,d<k->A8 (AE bh ann kn (n+2000) 90) OA (ann 90 (BU OA)) k ⟨c,[(2,true,.ptr 0 2 0 0),(3,true,.ptr 0 3 1 0),(6,true,.ref (D8 b ws)),(8,true,pv 87 γ8 A),(9,true,i r),(10,true,.vec 0 30 γ b.places.toNat),(24,true,i b.rows),(25,true,i r),(32,true,i b.places.toNat),(33,true,i p)],⟨[],(2,0,.box (AC b))::(3,1,.box [FV plan])::(30,γ,.vec 209 ((MI b ws plan r p).map QH))::pl 87 γ8 204 A⟩⟩ =
  some (.exit 2,⟨c',(34,true,.bool false)::[(2,true,.ptr 0 2 0 0),(3,true,.ptr 0 3 1 0),(6,true,.ref (D8 b ws)),(8,true,pv 87 γ8 A),(9,true,i r),(10,true,.vec 0 30 γ b.places.toNat),(24,true,i b.rows),(25,true,i r),(32,true,i b.places.toNat),(33,true,i b.places.toNat)],⟨[],(2,0,.box (AC b))::(3,1,.box [FV plan])::(30,γ,.vec 209 ((NH b ws plan r).map QH))::pl 87 γ8 204 A⟩⟩)
 |0,p,c,hd,hγ=>by
  have:p=b.places.toNat:=by omega
  subst this;refine⟨c,hγ,fun n k hk=>?_⟩;obtain⟨k,rfl⟩:∃k',k=k'+1:=⟨k-1,by omega⟩;rw[ACM,AB];simp
 |d+1,p,c,hd,hγ=>by
  have hpc:=hb.pl;have hla:=hb.la;have hlen:=hp.len;have hw:=BM (k:=p) (by omega);have hp':p<b.places.toNat:=by omega
  obtain⟨c',h1,ih⟩:=AJI hb hp hwl hok r hr A γ8 γ d (p+1) (c+3) (by omega) (by omega);have q:=AJF (ws:=ws) hb hp r p hr (by omega) A γ8 c plan.length 0 (c+1) γ (MI b ws plan r p) (by omega) (by rw[dV];omega) (AJG hp') (by omega);rw[dV]at q;have q:=fun n m=>q n (m+100) (by omega);have qc:=fun n=>rD (ws:=ws) (ff:=156) (sel:=eL.calm) (s:=(r,p)) n hb hp AXF (fun h w=>aH _) hr (by simp only;omega) hwl hok;have qg:=fun n=>rD (ws:=ws) (ff:=158) (sel:=eL.good) (s:=(r,p)) n hb hp AXG (fun h w=>aH _) hr (by simp only;omega) hwl hok;have ec:PE b ws plan (r,p) eL.calm ws.length=mS b ws plan r p:=rfl;have eg:PE b ws plan (r,p) eL.good ws.length=W8 b ws plan r p:=rfl;rw[ec]at qc;rw[eg]at qg;have hst:((MI b ws plan r p).set p ⟨LW b plan r plan.length,(0,0),(0,0)⟩).set p (rF b ws plan r p)=MI b ws plan r (p+1):=by rw[List.set_set,AJH]
  have hl:=dV b ws plan r p;have hbp:QH (rF b ws plan r p)=[i (LW b plan r plan.length),i (mS b ws plan r p).1,i (mS b ws plan r p).2,i (W8 b ws plan r p).1,i (W8 b ws plan r p).2]:=rfl;rw[<-hst,List.map_set,hbp]at ih;generalize MI b ws plan r p=R0 at q ih hl|-;generalize rF b ws plan r p=BP at *;generalize mS b ws plan r p=C at *;generalize W8 b ws plan r p=G at *;generalize NH b ws plan r=RR at ih|-;generalize LW b plan r plan.length=S at *;generalize b.places.toNat=PP at hp' hl ih q|-;have hpl:p<R0.length:=by omega
  have heg:((R0.set p ⟨S,(0,0),(0,0)⟩).map QH)[p]? = some [i S,i 0,i 0,i 0,i 0]:=by simp[QH,hpl]
  have hle:PP<=R0.length:=by omega
  refine⟨c',h1,fun n k hk=>?_⟩;obtain⟨k,rfl⟩:∃k',k=k'+1:=⟨k-1,by omega⟩;have ih:=ih n k (by omega);rw[AB];generalize hRR:R0.set p ⟨S,(0,0),(0,0)⟩=R1 at *;have hl1:R1.length=PP:=by rw[<-hRR];simpa using hl
  have hpl1:p<R1.length:=by omega
  rw[bj (by simpa using hpl1),Option.some.injEq]at heg;simp only[AC,D8,FU]at q qc qg ih|-;simp at q ih;simp[hp',hw,q,qc,qg,heg,J4,KK,ID,EY,CD,B6,show Nat.beq 2 1=false from rfl,hl1,show γ<c+1+1+1 by omega,ih]
def E2(b:AK)(ws plan:List (List Int))(n:Nat):List (List rS):=(bf n).map (NH b ws plan)
theorem vE(b:AK)(ws plan:List (List Int))(n:Nat):E2 b ws plan (n+1)=E2 b ws plan n++[NH b ws plan n]:=by simp[E2,List.range_succ]
def HV(l:List rS):List V:=[.list false (l.map QH)]
theorem A91{k:Nat}{x:List rS}(h:k<=10000):BW bh 204 k [HV x]=true:=by rw[BQ (by simp) (by simp)];simp[maxLen,HV];omega
theorem ARP(hb:Valid b)(hp:FC b plan)(hwl:ws.length=b.winds.length)(hok:DB ws):∀(d r c γ8:Nat),r+d=b.rows.toNat->1<c->∃fr c' γ',BG fr 8=some (true,pv 87 γ' ((E2 b ws plan b.rows.toNat).map HV))/\∀n k,d<k->A8 (AE bh ann kn (n+2200) 90) SQ (ann 90 (BU SQ)) k ⟨c,[(2,true,.ptr 0 2 0 0),(3,true,.ptr 0 3 1 0),(6,true,.ref (D8 b ws)),(8,true,pv 87 γ8 ((E2 b ws plan r).map HV)),(24,true,i b.rows),(25,true,i r)],⟨[],(2,0,.box (AC b))::(3,1,.box [FV plan])::pl 87 γ8 204 ((E2 b ws plan r).map HV)⟩⟩ =
  some (.exit 0,⟨c',fr,⟨[],(2,0,.box (AC b))::(3,1,.box [FV plan])::pl 87 γ' 204 ((E2 b ws plan b.rows.toNat).map HV)⟩⟩)
 |0,r,c,γ8,hd,hc=>by
  have hr:r=b.rows.toNat:=by omega
  have hro:=hb.ro;have hr':b.rows=(r:Int):=by omega
  rw[<-hr];refine⟨?fr,c,γ8,?g1,fun n k hk=>?g2⟩;case g2=>
   obtain⟨k,rfl⟩:∃k',k=k'+1:=⟨k-1,by omega⟩
   rw[AB]
   simp[AC,hr']
   rfl
  case g1=>simp
 |d+1,r,c,γ8,hd,hc=>by
  have hro:=hb.ro;have hpc:=hb.pl;have hw:=BM (k:=r) (by omega);have hr':(r:Int)<b.rows:=by omega
  obtain⟨c1,h1,q⟩:=AJI (ws:=ws) hb hp hwl hok r hr' ((E2 b ws plan r).map HV) γ8 c b.places.toNat 0 (c+1) (by omega) (by omega);have q:=fun n m=>q n (m+100) (by omega);obtain⟨fr,c',γ',e1,ih⟩:=ARP hb hp hwl hok d (r+1) (c1+1) c1 (by omega) (by omega);have happ:=A91 (k:=(E2 b ws plan r).length) (x:=NH b ws plan r) (by simp[E2];omega);rw[ACN]at q;rw[vE]at ih;refine⟨fr,c',γ',e1,fun n k hk=>?_⟩;obtain⟨k,rfl⟩:∃k',k=k'+1:=⟨k-1,by omega⟩;have ih:=ih n k (by omega);generalize E2 b ws plan b.rows.toNat=FF at ih|-;have hRl:(NH b ws plan r).length=b.places.toNat:=by simp[NH]
  generalize NH b ws plan r=RR at ih q happ hRl;obtain⟨PP,hPP⟩:∃P:Nat,b.places=P:=⟨b.places.toNat,by omega⟩;have hP2:b.places.toNat=PP:=by omega
  rw[hP2]at q hRl;subst hRl;rw[AB];simp only[AC,D8,hPP]at q ih|-;simp[HV]at ih q happ;simp[QH]at q;have m1:RR.length*40<=140737488355328:=by omega
  have m2:RR.length<=maxLen:=by simp[maxLen];omega
  have htl:∀o,E9 0 30 o (pl 87 γ8 204 ((E2 b ws plan r).map HV))=pl 87 γ8 204 ((E2 b ws plan r).map HV):=fun o=>WK (by decide) _ _ _ (by simp[HV,QH]);simp[hr',hw,HV,q,ih,happ,m1,m2,htl]
def lvB(b:AK)(plan:List (List Int)):AA:=[(2,0,.box (AC b)),(3,1,.box [FV plan])]
theorem vF(hb:Valid b)(plan:List (List Int)):jA b (lvB b plan) 155 [.ptr 0 2 0 0,.ptr 0 3 1 0] 2 (EG b plan):=by intro n d fr;rw[A5 Tryz.func155 b155 rfl (by simp)];have q:=fun n=>AOB n b hb plan;generalize EG b plan=z at q|-;simp only[AC,lvB]at q|-;simp[A3O,AF,q]
def HW(b:AK)(plan:List (List Int)):List (List rS)×Int:=if DU b=0 then(if EG b plan=true then(if (FD b [] b.winds []).isEmpty=true then([],11) else(E2 b (E4 b) plan b.rows.toNat,0)) else([],2)) else([],DU b)
theorem rG(n:Nat)(b:AK)(h40:∀l∈b.winds,l.length<=40)(plan:List (List Int)):AY bh kn (AE bh ann kn (n+6200)) 117 [.agg (AC b),FV plan]=some (.tup [sl ((HW b plan).1.map HV),i (HW b plan).2]):=by
 rw[AN rfl,AM Tryz.func117 BD6 rfl (by simp[AC])];have hB:∀t:St,1<=t.up.length->AH t (lvB b plan)=lvB b plan:=fun t ht=>by simp[lvB,AC]
 have slnil:sl ([]:List (List V))=.nil:=rfl;unfold HW;by_cases h:DU b=0
 ·have hb:=TO h;have hf:=vF hb plan;rw[if_pos h];cases hz:EG b plan with
  |false=>
   rw[hz]at hf
   rw[if_neg (by decide)]
   have q:=fun n=>sF (ff:=155) (cap:=[.ptr 0 2 0 0,.ptr 0 3 1 0]) hb hB (by simp) (by simp) 2 17 hf [(16,true,.fn 155 [] [.ptr 0 2 0 0,.ptr 0 3 1 0]),(15,true,.agg (AC b)),(2,true,.ptr 0 2 0 0),(3,true,.ptr 0 3 1 0)] (n+190)
   simp only[AC,lvB,bq,slnil]at q|-
   simp[AD9,AF,q]
  |true=>
   rw[hz]at hf
   rw[if_pos rfl]
   by_cases hT:FD b [] b.winds []=[]
   ·obtain⟨c',hc',q⟩:=sH (ff:=155) (cap:=[.ptr 0 2 0 0,.ptr 0 3 1 0]) hb hB (by simp) (by simp) 2 17 hf hT [(16,true,.fn 155 [] [.ptr 0 2 0 0,.ptr 0 3 1 0]),(15,true,.agg (AC b)),(2,true,.ptr 0 2 0 0),(3,true,.ptr 0 3 1 0)];rw[if_pos (by rw[hT];rfl)];have q:=fun n=>q (n+190);simp only[AC,lvB,bq,slnil]at q|-;simp[AD9,AF,q]
   ·obtain⟨c',hc',q⟩:=AFC (ff:=155) (cap:=[.ptr 0 2 0 0,.ptr 0 3 1 0]) hb hB (by simp) (by simp) 2 17 hf hT [(16,true,.fn 155 [] [.ptr 0 2 0 0,.ptr 0 3 1 0]),(15,true,.agg (AC b)),(2,true,.ptr 0 2 0 0),(3,true,.ptr 0 3 1 0)];rw[if_neg (by simpa using hT)];have q:=fun n=>q (n+190);have hro:=hb.ro;obtain⟨fr,c2,γ',e1,q6⟩:=ARP (ws:=E4 b) hb (wP hz) (mO _ _) (ACK hb) b.rows.toNat 0 c' 0 (by omega) (by omega);have q6:=fun n k=>q6 n (k+100) (by omega);have e0:E2 b (E4 b) plan 0=[]:=rfl;rw[e0]at q6;generalize E2 b (E4 b) plan b.rows.toNat=FF at *;simp only[AC,D8,lvB,List.cons_append,List.nil_append]at q q6|-;simp at q q6;simp[AD9,AF,q,q6,e1];simp[HV,QH]
 ·rw[if_neg h];have q:=fun n=>mK (ff:=155) (cap:=[.ptr 0 2 0 0,.ptr 0 3 1 0]) h40 hB (by simp) h 2 17 [(16,true,.fn 155 [] [.ptr 0 2 0 0,.ptr 0 3 1 0]),(15,true,.agg (AC b)),(2,true,.ptr 0 2 0 0),(3,true,.ptr 0 3 1 0)] (n+190);simp only[AC,lvB,bq,slnil]at q|-;simp[AD9,AF,q,h]
end
end Go.Proofs.Tryz.Op
