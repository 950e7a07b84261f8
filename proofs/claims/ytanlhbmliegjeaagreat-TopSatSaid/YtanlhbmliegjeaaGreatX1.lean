/- Contracts: Min of two, minimum, wider, facing, turn, the directions as an array. No condition. -/
import Derived.Test.YtanlhbmliegjeaaGreatH1
import Derived.Test.YtanlhbmliegjeaaGreatW4
open Go.Proofs.Tryz renaming prog->ck
open List renaming getElem?_eq_getElem->bj,getD_eq_getElem?_getD->bk,getElem_mem->bq,map_nil->bw,take_succ_eq_append_getElem->bx,getElem_map->bz,ext_getElem->bb,nil_append->bc,mem_map->bg,getElem_range->bh,map_cons->bm,foldl_append->bn,range->bp
set_option maxRecDepth 100000
set_option linter.unusedSimpArgs false
open Go Go.Pg Go.Proofs Go.Wind
namespace Go.Proofs.Tryz.Op
theorem AUI(a b:Int):(if b<a then b else a)=min a b:=by split<;>omega
theorem max_lt(a b:Int):(if a<b then b else a)=max a b:=by split<;>omega
theorem A61(n:Nat)(a b:Int):AZ ck kn (AE ck ann kn (n+100)) 115 [.list false [[i a],[i b]]]=some (i (min a b)):=by
 rw[AP rfl,AQ Tryz.func115 BBW rfl (by simp)];have hw:IntKind.i64.wrap (1+1)=2:=by decide
 simp[AZ9,AD];rw[AC];simp[hw,AUI];rw[AC];simp
theorem AGG(n:Nat)(a b:Int):AZ ck kn (AE ck ann kn (n+200)) 109 [.list false [[i a],[i b]]]=some (i (min a b)):=by rw[AP rfl,AQ Tryz.func109 BBX rfl (by simp)];have q:=fun n=>A61 n a b;simp[A0A,AD,q]
def FP(r:Int×Int):List V:=[i r.1,i r.2]
theorem AGH(n:Nat)(r:Int×Int)(x:Int):AZ ck kn (AE ck ann kn (n+300)) 92 [.agg (FP r),i x]=some (.agg (FP (min r.1 x,max r.2 x))):=by rw[AP rfl,AQ Tryz.func92 b92 rfl (by simp[FP])];have q:=fun n=>AGG n r.1 x;simp[c92,AD,FP,q,max_lt]
def sW(g:List Int):List V:=g.map fun x=>i x
theorem AKJ(a b c:V):B0 ck ⟨[],[(2,0,.box [a,b,c])]⟩ 142 (.ptr 0 2 0 0) none none none=some (.vtl 0 2 0 0 3):=by kernel_rfl
theorem AAU(r:Operand->Option V)(hr:r (tq 2)=some (.ptr 0 2 0 0))(a b c:V):IA ck (cQ (.slice 142 (tq 2) none none none)) ⟨[],[(2,0,.box [a,b,c])]⟩ r=some (.vtl 0 2 0 0 3):=by
 have e:IA ck (cQ (.slice 142 (tq 2) none none none)) ⟨[],[(2,0,.box [a,b,c])]⟩ r=(r (tq 2)).bind fun p=>B0 ck ⟨[],[(2,0,.box [a,b,c])]⟩ 142 p none none none:=by simp only[IA,cQ];cases r (tq 2)<;>rfl
 rw[e,hr];exact AKJ a b c
theorem AAV(E:XE)(fr:Fr):stepK ck E (some 5) (.cpy [tq 3,tq 4] [22,22]) ⟨1,(4,true,.list false [])::(3,true,.vtl 0 2 0 0 3)::fr,⟨[],[(2,0,.box [i 0,i 0,i 0])]⟩⟩ =
  some ⟨1,(5,true,i 0)::(4,true,.list false [])::(3,true,.vtl 0 2 0 0 3)::fr,⟨[],[(2,0,.box [i 0,i 0,i 0]),(2,0,.box [i 0,i 0,i 0])]⟩⟩:=by kernel_rfl
theorem AAW(E:XE)(a:Int)(fr:Fr):stepK ck E (some 5) (.cpy [tq 3,tq 4] [22,22]) ⟨1,(4,true,.list false [[i a]])::(3,true,.vtl 0 2 0 0 3)::fr,⟨[],[(2,0,.box [i 0,i 0,i 0])]⟩⟩ =
  some ⟨1,(5,true,i 1)::(4,true,.list false [[i a]])::(3,true,.vtl 0 2 0 0 3)::fr,⟨[],[(2,0,.box [i a,i 0,i 0]),(2,0,.box [i 0,i 0,i 0])]⟩⟩:=by kernel_rfl
theorem AAX(E:XE)(a b:Int)(fr:Fr):stepK ck E (some 5) (.cpy [tq 3,tq 4] [22,22]) ⟨1,(4,true,.list false [[i a],[i b]])::(3,true,.vtl 0 2 0 0 3)::fr,⟨[],[(2,0,.box [i 0,i 0,i 0])]⟩⟩ =
  some ⟨1,(5,true,i 2)::(4,true,.list false [[i a],[i b]])::(3,true,.vtl 0 2 0 0 3)::fr,⟨[],[(2,0,.box [i a,i b,i 0]),(2,0,.box [i 0,i 0,i 0])]⟩⟩:=by kernel_rfl
theorem AAY(E:XE)(a b c:Int)(fr:Fr):stepK ck E (some 5) (.cpy [tq 3,tq 4] [22,22]) ⟨1,(4,true,.list false [[i a],[i b],[i c]])::(3,true,.vtl 0 2 0 0 3)::fr,⟨[],[(2,0,.box [i 0,i 0,i 0])]⟩⟩ =
  some ⟨1,(5,true,i 3)::(4,true,.list false [[i a],[i b],[i c]])::(3,true,.vtl 0 2 0 0 3)::fr,⟨[],[(2,0,.box [i a,i b,i c]),(2,0,.box [i 0,i 0,i 0])]⟩⟩:=by kernel_rfl
theorem AGI(E:XE)(l:List Int)(hl:l.length<=3)(fr:Fr):stepK ck E (some 5) (.cpy [tq 3,tq 4] [22,22]) ⟨1,(4,true,li l)::(3,true,.vtl 0 2 0 0 3)::fr,⟨[],[(2,0,.box [i 0,i 0,i 0])]⟩⟩ =
  some ⟨1,(5,true,i (l.length:Int))::(4,true,li l)::(3,true,.vtl 0 2 0 0 3)::fr,⟨[],[(2,0,.box (sW (fQ l))),(2,0,.box [i 0,i 0,i 0])]⟩⟩:=by
 match l,hl with
 |[],_=>exact AAV E fr
 |[a],_=>exact AAW E a fr
 |[a,b],_=>exact AAX E a b fr
 |[a,b,c],_=>exact AAY E a b c fr
theorem AGJ{α:Type}(l:List α)(h:l.length=3):∃x y z,l=[x,y,z]:=by
 match l,h with
 |[x,y,z],_=>exact⟨x,y,z,rfl⟩
theorem AKK(n:Nat)(l:List Int)(hl:l.length<=3):AZ ck kn (AE ck ann kn (n+100)) 56 [li l]=some (.agg (sW (fQ l))):=by rw[AP rfl,AQ Tryz.func56 b56 rfl (by simp[AH])];have q:=fun E=>AGI E l hl [(0,true,li l),(2,true,.ptr 0 2 0 0)];obtain⟨x,y,z,hF⟩:=AGJ (fQ l) (by simp[fQ];omega);rw[hF]at q|-;simp[c56,AD,AAU,q,sW]
@[simp] theorem AY8(cs:List V):ND (.ref cs)=some (.ref cs):=rfl
theorem A2(L:AA)(k γ:Nat)(r:AX):AA.put L k γ r=(k,γ,r)::L:=rfl
@[simp] theorem A62:HS ck 92=false:=by kernel_rfl
def BW(b:AL)(ws:List (List Int)):List V:=[i b.last,i b.rows,i b.places,i b.reach,li b.face,li b.sun,H6 b.winds,.list false (b.breaks.map AM),.list false (b.notes.map AM),H6 ws,.any,.any]
section
variable {b:AL}{ws:List (List Int)}{g0 g1 g2:Int}{h:Nat}
theorem wU(hb:Valid b)(hh:h<b.sun.length)(w:Int)(hw:0<=w/\w<=3)(xs:List Int)(j:Nat)(r:Nat)(hr:(r:Int)<b.rows)(lo hi:Int)(m:Int)(hm:0<=m/\m<=1000)(c:Nat)(hg:∀r,r<b.rows.toNat->0<=CU [g0,g1,g2] r/\CU [g0,g1,g2] r<=3):∀(d p:Nat),p+d=b.places.toNat->∀n k,d<k->BG (AE ck ann kn (n+1400) 76) RJ (ann 76 (BX RJ)) k ⟨c,[(0,true,.ref (BW b ws)),(1,true,i h),(5,true,.ptr 0 5 0 0),(6,true,.ptr 0 6 1 0),(7,true,.ptr 0 7 2 0),(9,true,i w),(10,true,i (m+BZ (fun p=>EP b (r,p) h (CU [g0,g1,g2] r) w) p)),(11,true,i r),(31,true,li xs),(32,true,i xs.length),(33,true,i j),(41,true,i b.rows),(42,true,i r),(49,true,i b.places),(50,true,i p)],⟨[],[(5,0,.box [i g0,i g1,i g2]),(6,1,.box [i 0,i 0]),(7,2,.box [i lo,i hi])]⟩⟩ =
  some (.exit 4,⟨c,[(51,true,.bool false),(0,true,.ref (BW b ws)),(1,true,i h),(5,true,.ptr 0 5 0 0),(6,true,.ptr 0 6 1 0),(7,true,.ptr 0 7 2 0),(9,true,i w),(10,true,i (m+BZ (fun p=>EP b (r,p) h (CU [g0,g1,g2] r) w) b.places.toNat)),(11,true,i r),(31,true,li xs),(32,true,i xs.length),(33,true,i j),(41,true,i b.rows),(42,true,i r),(49,true,i b.places),(50,true,i b.places)],⟨[],[(5,0,.box [i g0,i g1,i g2]),(6,1,.box [i 0,i 0]),(7,2,.box [i lo,i hi])]⟩⟩)
 |0,p,hd,n,k+1,hk=>by
  have hpl:=hb.pl;have:p=b.places.toNat:=by omega
  subst this;have hc:((b.places.toNat:Nat):Int)=b.places:=by omega
  rw[AC];simp[hc]
 |d+1,p,hd,n,k+1,hk=>by
  have hpl:=hb.pl;have hro:=hb.ro;have hp:(p:Int)<b.places:=by omega
  have hwp:=BS (k:=p) (by omega);have ih:=wU hb hh w hw xs j r hr lo hi m hm c hg d (p+1) (by omega) n k (by omega);have hr3:r<3:=by omega
  have q:=fun n=>kOf n b hb (r,p) (by simp only;omega) h hh (CU [g0,g1,g2] r) w hw;have hs:=HA (n:=p) (c:=1) fun p _=>J0 (decide (b.sun.getD h 0=CU [g0,g1,g2] r)&&LR b (r,p) (CU [g0,g1,g2] r) w);have hg1:=J0 (decide (b.sun.getD h 0=CU [g0,g1,g2] r)&&LR b (r,p) (CU [g0,g1,g2] r) w);have e1:BZ (fun p=>EP b (r,p) h (CU [g0,g1,g2] r) w) (p+1)=BZ (fun p=>EP b (r,p) h (CU [g0,g1,g2] r) w) p+EP b (r,p) h (CU [g0,g1,g2] r) w:=rfl;have hwt:IntKind.i64.wrap (m+BZ (fun p=>EP b (r,p) h (CU [g0,g1,g2] r) w) p+EP b (r,p) h (CU [g0,g1,g2] r) w)=m+BZ (fun p=>EP b (r,p) h (CU [g0,g1,g2] r) w) p+EP b (r,p) h (CU [g0,g1,g2] r) w:=AW (by unfold EP;omega) (by unfold EP;omega);rw[e1,<-Int.add_assoc]at ih;have e2:DS (U3 b (r,p) h (CU [g0,g1,g2] r) w)=[i (U3 b (r,p) h (CU [g0,g1,g2] r) w).sun,i (U3 b (r,p) h (CU [g0,g1,g2] r) w).calm,i (EP b (r,p) h (CU [g0,g1,g2] r) w)]:=rfl;rw[e2]at q;generalize BZ (fun p=>EP b (r,p) h (CU [g0,g1,g2] r) w) b.places.toNat=TT at ih|-;generalize BZ (fun p=>EP b (r,p) h (CU [g0,g1,g2] r) w) p=S at ih hwt|-;generalize (U3 b (r,p) h (CU [g0,g1,g2] r) w).sun=y1 at q;generalize (U3 b (r,p) h (CU [g0,g1,g2] r) w).calm=y2 at q;generalize EP b (r,p) h (CU [g0,g1,g2] r) w=y3 at q ih hwt;rw[AC];simp only[AB,AM,BW]at q ih|-;have h3:r=0\/r=1\/r=2:=by omega
  rcases h3 with rfl|rfl|rfl;all_goals
   simp[CU]at q ih
   simp[hp,hwp,hwt,AH,AN,AM,q,ih,hr3]
def QC(b:AL)(h:Nat)(f:Nat->Int)(w:Int)(r:Nat):Int:=BZ (fun r=>BZ (fun p=>EP b (r,p) h (f r) w) b.places.toNat) r
theorem AGK(hb:Valid b)(h:Nat)(f:Nat->Int)(w:Int){r:Nat}(hr:(r:Int)<=b.rows):0<=QC b h f w r/\QC b h f w r<=15:=by
 have hpl:=hb.pl;have hro:=hb.ro;have h1:=HA (n:=r) (c:=5) (f:=fun r=>BZ (fun p=>EP b (r,p) h (f r) w) b.places.toNat) fun r _=>by have:=HA (n:=b.places.toNat) (c:=1) fun p _=>J0 (decide (b.sun.getD h 0=f r)&&LR b (r,p) (f r) w);simp only[EP];omega
 unfold QC;omega
theorem AGL(hb:Valid b)(hh:h<b.sun.length)(w:Int)(hw:0<=w/\w<=3)(xs:List Int)(j:Nat)(lo hi:Int)(c:Nat)(hg:∀r,r<b.rows.toNat->0<=CU [g0,g1,g2] r/\CU [g0,g1,g2] r<=3):∀(d r:Nat),r+d=b.rows.toNat->∀n k,d<k->BG (AE ck ann kn (n+1500) 76) XI (ann 76 (BX XI)) k ⟨c,[(0,true,.ref (BW b ws)),(1,true,i h),(5,true,.ptr 0 5 0 0),(6,true,.ptr 0 6 1 0),(7,true,.ptr 0 7 2 0),(9,true,i w),(10,true,i (QC b h (CU [g0,g1,g2]) w r)),(31,true,li xs),(32,true,i xs.length),(33,true,i j),(41,true,i b.rows),(42,true,i r)],⟨[],[(5,0,.box [i g0,i g1,i g2]),(6,1,.box [i 0,i 0]),(7,2,.box [i lo,i hi])]⟩⟩ =
  some (.exit 2,⟨c,[(43,true,.bool false),(0,true,.ref (BW b ws)),(1,true,i h),(5,true,.ptr 0 5 0 0),(6,true,.ptr 0 6 1 0),(7,true,.ptr 0 7 2 0),(9,true,i w),(10,true,i (D9 b h (CU [g0,g1,g2]) w)),(31,true,li xs),(32,true,i xs.length),(33,true,i j),(41,true,i b.rows),(42,true,i b.rows)],⟨[],[(5,0,.box [i g0,i g1,i g2]),(6,1,.box [i 0,i 0]),(7,2,.box [i lo,i hi])]⟩⟩)
 |0,r,hd,n,k+1,hk=>by
  have hro:=hb.ro;have:r=b.rows.toNat:=by omega
  subst this;have hc:((b.rows.toNat:Nat):Int)=b.rows:=by omega
  have e:QC b h (CU [g0,g1,g2]) w b.rows.toNat=D9 b h (CU [g0,g1,g2]) w:=rfl;rw[AC,e];simp[hc]
 |d+1,r,hd,n,k+1,hk=>by
  have hpl:=hb.pl;have hro:=hb.ro;have hr:(r:Int)<b.rows:=by omega
  have hwr:=BS (k:=r) (by omega);have ih:=AGL hb hh w hw xs j lo hi c hg d (r+1) (by omega) n k (by omega);have hm:=AGK hb h (CU [g0,g1,g2]) w (r:=r) (by omega);have q:=wU (ws:=ws) hb hh w hw xs j r hr lo hi (QC b h (CU [g0,g1,g2]) w r) (by omega) c hg b.places.toNat 0 (by omega);have e0:BZ (fun p=>EP b (r,p) h (CU [g0,g1,g2] r) w) 0=0:=rfl;have e1:QC b h (CU [g0,g1,g2]) w (r+1)=QC b h (CU [g0,g1,g2]) w r+BZ (fun p=>EP b (r,p) h (CU [g0,g1,g2] r) w) b.places.toNat:=rfl;rw[e0,Int.add_zero]at q;rw[e1]at ih;have q:=fun n k=>q n (k+200) (by omega);generalize BZ (fun p=>EP b (r,p) h (CU [g0,g1,g2] r) w) b.places.toNat=S at q ih;generalize QC b h (CU [g0,g1,g2]) w r=M at q ih|-;generalize D9 b h (CU [g0,g1,g2]) w=G at ih|-;rw[AC];simp only[BW]at q ih|-;simp at q ih;simp[hr,hwr,q,ih]
theorem AGM(hb:Valid b)(hh:h<b.sun.length)(xs:List Int)(hx:∀x∈xs,0<=x/\x<=3)(hxl:xs.length<=100)(z:Int×Int)(hg:∀r,r<b.rows.toNat->0<=CU [g0,g1,g2] r/\CU [g0,g1,g2] r<=3):∀(d j c:Nat),j+d=xs.length->3<=c->∃c',3<=c'/\∀n k,d<k->BG (AE ck ann kn (n+1800) 76) XJ (ann 76 (BX XJ)) k ⟨c,[(0,true,.ref (BW b ws)),(1,true,i h),(5,true,.ptr 0 5 0 0),(6,true,.ptr 0 6 1 0),(7,true,.ptr 0 7 2 0),(31,true,li xs),(32,true,i xs.length),(33,true,i j)],⟨[],[(5,0,.box [i g0,i g1,i g2]),(6,1,.box [i 0,i 0]),(7,2,.box (FP (EE z ((xs.take j).map (D9 b h (CU [g0,g1,g2]))))))]⟩⟩ =
  some (.exit 0,⟨c',[(34,true,.bool false),(0,true,.ref (BW b ws)),(1,true,i h),(5,true,.ptr 0 5 0 0),(6,true,.ptr 0 6 1 0),(7,true,.ptr 0 7 2 0),(31,true,li xs),(32,true,i xs.length),(33,true,i xs.length)],⟨[],[(5,0,.box [i g0,i g1,i g2]),(6,1,.box [i 0,i 0]),(7,2,.box (FP (EE z (xs.map (D9 b h (CU [g0,g1,g2]))))))]⟩⟩)
 |0,j,c,hd,hc=>by
  have:j=xs.length:=by omega
  subst this;refine⟨c,hc,fun n k hk=>?_⟩;obtain⟨k,rfl⟩:∃k',k=k'+1:=⟨k-1,by omega⟩;rw[AC,List.take_length];simp[FP]
 |d+1,j,c,hd,hc=>by
  have hpl:=hb.pl;have hro:=hb.ro;have hj:j<xs.length:=by omega
  have hwj:=BS (k:=j) (by omega);obtain⟨c',hc',ih⟩:=AGM hb hh xs hx hxl z hg d (j+1) (c+1) (by omega) (by omega);refine⟨c',hc',fun n k hk=>?_⟩;obtain⟨k,rfl⟩:∃k',k=k'+1:=⟨k-1,by omega⟩;have ih:=ih n k (by omega);have hxj:=hx _ (bq hj);have e1:(xs.take (j+1)).map (D9 b h (CU [g0,g1,g2]))=(xs.take j).map (D9 b h (CU [g0,g1,g2]))++[D9 b h (CU [g0,g1,g2]) xs[j]]:=by rw[bx hj,List.map_append,bm,bw]
  have e2:EE z ((xs.take (j+1)).map (D9 b h (CU [g0,g1,g2])))=(min (EE z ((xs.take j).map (D9 b h (CU [g0,g1,g2])))).1 (D9 b h (CU [g0,g1,g2]) xs[j]),max (EE z ((xs.take j).map (D9 b h (CU [g0,g1,g2])))).2 (D9 b h (CU [g0,g1,g2]) xs[j])):=by rw[e1];unfold EE;rw[bn];rfl
  rw[e2]at ih;have qw:=fun n=>AGH n (EE z ((xs.take j).map (D9 b h (CU [g0,g1,g2])))) (D9 b h (CU [g0,g1,g2]) xs[j]);have q:=AGL (ws:=ws) hb hh xs[j] hxj xs j (EE z ((xs.take j).map (D9 b h (CU [g0,g1,g2])))).1 (EE z ((xs.take j).map (D9 b h (CU [g0,g1,g2])))).2 c hg b.rows.toNat 0 (by omega);have e0:QC b h (CU [g0,g1,g2]) xs[j] 0=0:=rfl;rw[e0]at q;have q:=fun n k=>q n (k+200) (by omega);have hc2:2<c+1:=by omega
  generalize EE z (xs.map (D9 b h (CU [g0,g1,g2])))=RR at ih|-;generalize EE z ((xs.take j).map (D9 b h (CU [g0,g1,g2])))=R at q ih qw|-;generalize D9 b h (CU [g0,g1,g2]) xs[j]=G at q ih qw;rw[AC];simp only[BW,FP]at q ih qw|-;simp at q ih;simp[hj,hwj,q,qw,AH,hc2,A2,ih]
theorem A63(n:Nat)(hb:Valid b)(hh:h<b.sun.length)(hhw:h<ws.length)(hx:∀x∈ws.getD h [],0<=x/\x<=3)(hxl:(ws.getD h []).length<=100)(hg:∀r,r<b.rows.toNat->0<=CU [g0,g1,g2] r/\CU [g0,g1,g2] r<=3):AZ ck kn (AE ck ann kn (n+2000)) 55 [.ref (BW b ws),i h,.agg (sW [g0,g1,g2])]=some (.agg (FP (IW b ws h (CU [g0,g1,g2])))):=by
 rw[AP rfl,AQ Tryz.func55 b55 rfl (by simp[BW,AH,AN,AM,sW])];have hpl:=hb.pl;have hro:=hb.ro;have h15:b.rows*b.places<=3*5:=Int.mul_le_mul (by omega) (by omega) (by omega) (by omega);have h0:0<=b.rows*b.places:=Int.mul_nonneg (by omega) (by omega);have hw:IntKind.i64.wrap (b.rows*b.places)=b.rows*b.places:=AW (by omega) (by omega);obtain⟨c',hc',q⟩:=AGM (ws:=ws) hb hh (ws.getD h []) hx hxl (b.rows*b.places,0) hg (ws.getD h []).length 0 3 (by omega) (Nat.le_refl _);have e:IW b ws h (CU [g0,g1,g2])=EE (b.rows*b.places,0) ((ws.getD h []).map (D9 b h (CU [g0,g1,g2]))):=rfl;rw[<-e]at q;have q:=fun n k=>q n (k+150) (by omega);generalize IW b ws h (CU [g0,g1,g2])=R at q|-;have hgd:ws.getD h []=ws[h]:=by rw[bk,bj hhw];rfl
 rw[hgd]at q;rw[List.take_zero,bw]at q;simp only[BW,FP,sW,EE,List.foldl_nil]at q|-;simp at q;simp[c55,AD,AH,AN,AM,hw,hhw,q,show 1<c' by omega]
end
@[simp] theorem BBE:HS ck 55=false:=by kernel_rfl
@[simp] theorem A64:HS ck 27=false:=by kernel_rfl
section
variable {b:AL}{ws plan:List (List Int)}
def Q5(b:AL)(ws plan:List (List Int))(n:Nat):Int×Int:=(BZ (fun h=>(IW b ws h (BR plan h)).1) n,BZ (fun h=>(IW b ws h (BR plan h)).2) n)
theorem bH(hb:Valid b)(ws:List (List Int))(h:Nat)(f:Nat->Int):0<=(IW b ws h f).1/\(IW b ws h f).1<=15/\0<=(IW b ws h f).2/\(IW b ws h f).2<=15:=by
 have hro:=hb.ro;have hpl:=hb.pl;have e1:((b.rows.toNat:Nat):Int)=b.rows:=by omega
 have e2:((b.places.toNat:Nat):Int)=b.places:=by omega
 have h0:0<=b.rows*b.places:=Int.mul_nonneg (by omega) (by omega);have h15:b.rows*b.places<=3*5:=Int.mul_le_mul (by omega) (by omega) (by omega) (by omega);unfold IW;have:=fO ((ws.getD h []).map (D9 b h f)) (b.rows*b.places,0) 0 (b.rows*b.places) (fun x hx=>by
  obtain⟨w,_,rfl⟩:=bg.1 hx;have:=YP b h f w;rwa [e1,e2]at this) h0 h0
 simp only at this;omega
theorem AKL(hb:Valid b)(ws plan:List (List Int)){n:Nat}(hn:n<=5):0<=(Q5 b ws plan n).1/\(Q5 b ws plan n).1<=75/\0<=(Q5 b ws plan n).2/\(Q5 b ws plan n).2<=75:=by
 have h1:=HA (n:=n) (c:=15) (f:=fun h=>(IW b ws h (BR plan h)).1) fun h _=>by have:=bH hb ws h (BR plan h);omega
 have h2:=HA (n:=n) (c:=15) (f:=fun h=>(IW b ws h (BR plan h)).2) fun h _=>by have:=bH hb ws h (BR plan h);omega
 simp only[Q5];omega
theorem sX{h:Nat}(hh:h<plan.length):CU (fQ plan[h])=BR plan h:=by
 funext r;rw[ACK];unfold BR;have:plan.getD h []=plan[h]:=by rw[bk,bj hh];rfl
 rw[this]
theorem AOO(hb:Valid b)(hp:F2 b plan)(hwl:ws.length=b.winds.length)(hok:DD ws):∀(d h c:Nat),h+d=plan.length->1<=c->∃c',1<=c'/\∀n k,d<k->BG (AE ck ann kn (n+2100) 33) XL (ann 33 (BX XL)) k ⟨c,[(0,true,.ref (BW b ws)),(4,true,.ptr 0 4 0 0),(8,true,H6 plan),(9,true,i plan.length),(10,true,i h)],⟨[],[(4,0,.box (FP (Q5 b ws plan h)))]⟩⟩ =
  some (.exit 0,⟨c',[(11,true,.bool false),(0,true,.ref (BW b ws)),(4,true,.ptr 0 4 0 0),(8,true,H6 plan),(9,true,i plan.length),(10,true,i plan.length)],⟨[],[(4,0,.box (FP (Q5 b ws plan plan.length)))]⟩⟩)
 |0,h,c,hd,hc=>by
  have:h=plan.length:=by omega
  subst this;refine⟨c,hc,fun n k hk=>?_⟩;obtain⟨k,rfl⟩:∃k',k=k'+1:=⟨k-1,by omega⟩;rw[AC];simp[FP]
 |d+1,h,c,hd,hc=>by
  have hh:h<plan.length:=by omega
  have hpl:=hp.len;have hwi:=hb.wi;have hsu:=hb.su;have hla:=hb.la;have hro:=hb.ro;have hwh:=BS (k:=h) (by omega);obtain⟨c',hc',ih⟩:=AOO hb hp hwl hok d (h+1) (c+2) (by omega) (by omega);refine⟨c',hc',fun n k hk=>?_⟩;obtain⟨k,rfl⟩:∃k',k=k'+1:=⟨k-1,by omega⟩;have ih:=ih n k (by omega);have hlen:(plan[h].length:Int)=b.rows:=by have:=hp.row h hh;rwa [bk,bj hh]at this
  have qf:=fun n=>AKK n plan[h] (by omega);obtain⟨x,y,z,hF⟩:=AGJ (fQ plan[h]) (by simp[fQ];omega);have hdir:=sX hh;rw[hF]at qf hdir;have hws:h<ws.length:=by omega
  have hwd:ws.getD h []=ws[h]:=by rw[bk,bj hws];rfl
  have qg:=fun n=>A63 (ws:=ws) (g0:=x) (g1:=y) (g2:=z) n hb (h:=h) (by omega) hws (by rw[hwd];exact hok.lo _ (bq hws)) (by rw[hwd];have:=hok.len _ (bq hws);omega) (fun r hr=>by rw[hdir];exact ACJ hp hh hr);rw[hdir]at qg;have hle:=bH hb ws h (BR plan h);have htu:=AKL hb ws plan (n:=h) (by omega);have e1:Q5 b ws plan (h+1)=((Q5 b ws plan h).1+(IW b ws h (BR plan h)).1,(Q5 b ws plan h).2+(IW b ws h (BR plan h)).2):=rfl;rw[e1]at ih;generalize Q5 b ws plan plan.length=TT at ih|-;generalize Q5 b ws plan h=T at ih htu|-;generalize IW b ws h (BR plan h)=G at ih hle qg;have w1:IntKind.i64.wrap (T.1+G.1)=T.1+G.1:=AW (by omega) (by omega);have w2:IntKind.i64.wrap (T.2+G.2)=T.2+G.2:=AW (by omega) (by omega);have hc0:0<c+1+1:=by omega
  rw[AC];simp only[BW,FP,sW,bm,bw]at qf qg ih|-;simp at ih;simp[hh,hwh,AH,AN,qf,qg,w1,w2,hc0,A2,ih,AM]
theorem AKM(n:Nat)(hb:Valid b)(hp:F2 b plan)(hwl:ws.length=b.winds.length)(hok:DD ws):AZ ck kn (AE ck ann kn (n+2300)) 27 [.ref (BW b ws),H6 plan]=some (.agg (FP (MJ b ws plan))):=by rw[AP rfl,AQ Tryz.func27 b27 rfl (by simp[BW,AH,AN,AM])];obtain⟨c',hc',q⟩:=AOO hb hp hwl hok plan.length 0 1 (by omega) (Nat.le_refl _);have hpl:=hp.len;have hla:=hb.la;have q:=fun n k=>q n (k+150) (by omega);have e:MJ b ws plan=Q5 b ws plan plan.length:=rfl;rw[e];generalize Q5 b ws plan plan.length=T at q|-;have e0:Q5 b ws plan 0=(0,0):=rfl;rw[e0]at q;simp only[BW,FP]at q|-;simp at q;simp[c27,AD,AN,q,show 0<c' by omega,A2]
theorem WR(b:AL)(t:List Int):t∈EU b [] b.winds []↔DE b t=true:=by rw[fS];simp only[bc,List.map_id',List.mem_filter,O6,DE,Bool.and_eq_true,List.all_eq_true];refine and_congr_right fun _=>?_;rw[V0,List.all_eq_true]
theorem fB(hb:Valid b):DD (DZ b):=DD.ask _ _ fun t ht=>KT hb (by
 have:=(WR b t).1 ht;simp only[DE,Bool.and_eq_true]at this;exact this.1)
theorem PO(hb:Valid b)(hT:EU b [] b.winds []≠[]):P2 b (DZ b):=ACI hb (WR b) hT
def lvP(b:AL)(plan:List (List Int))(r:AX):AA:=[(2,0,.box (AB b)),(3,1,.box [H6 plan]),(4,2,r)]
theorem AAZ(hb:Valid b)(plan:List (List Int)):YJ b (lvP b plan (.box [i 0,i 0])) 25 [.ptr 0 2 0 0,.ptr 0 3 1 0] 3 (C5 b plan):=by intro n d fr;rw[A3 Tryz.func25 b25 rfl (by simp)];have q:=fun n=>iM n b hb plan;generalize C5 b plan=z at q|-;simp only[AB,lvP]at q|-;simp[c25,AD,q,AH,AN,AM]
def iQ(b:AL)(plan:List (List Int)):(Int×Int)×Int:=if C6 b=0 then(if C5 b plan=true then(if (EU b [] b.winds []).isEmpty=true then((0,0),11) else(MJ b (DZ b) plan,0)) else((0,0),2)) else((0,0),C6 b)
theorem AUJ(n:Nat)(b:AL)(h40:∀l∈b.winds,l.length<=40)(plan:List (List Int)):AZ ck kn (AE ck ann kn (n+6200)) 10 [.agg (AB b),H6 plan]=some (.tup [.agg (FP (iQ b plan).1),i (iQ b plan).2]):=by
 rw[AP rfl,AQ Tryz.func10 b10 rfl (by simp[AB,AH,AN,AM])];have hB:∀t:St,1<=t.up.length->AJ t (lvP b plan (.box [i 0,i 0]))=lvP b plan (.box [i 0,i 0]):=fun t ht=>by simp[lvP,AB,AH,AN,AM]
 unfold iQ;by_cases h:C6 b=0
 ·have hb:=LP h;have hf:=AAZ hb plan;rw[if_pos h];cases hz:C5 b plan with
  |false=>
   rw[hz]at hf
   rw[if_neg (by decide)]
   have q:=fun n=>YK (ff:=25) (cap:=[.ptr 0 2 0 0,.ptr 0 3 1 0]) hb hB (by simp) (by simp) 3 11 hf [(10,true,.fn 25 [] [.ptr 0 2 0 0,.ptr 0 3 1 0]),(9,true,.agg (AB b)),(2,true,.ptr 0 2 0 0),(3,true,.ptr 0 3 1 0),(4,true,.ptr 0 4 2 0)] (n+190)
   simp only[AB,lvP]at q|-
   simp[c10,AD,AH,AN,AM,FP,q]
  |true=>
   rw[hz]at hf
   rw[if_pos rfl]
   by_cases hT:EU b [] b.winds []=[]
   ·obtain⟨c',hc',q⟩:=YL (ff:=25) (cap:=[.ptr 0 2 0 0,.ptr 0 3 1 0]) hb hB (by simp) (by simp) 3 11 hf hT [(10,true,.fn 25 [] [.ptr 0 2 0 0,.ptr 0 3 1 0]),(9,true,.agg (AB b)),(2,true,.ptr 0 2 0 0),(3,true,.ptr 0 3 1 0),(4,true,.ptr 0 4 2 0)];rw[if_pos (by rw[hT];rfl)];have q:=fun n=>q (n+190);simp only[AB,lvP]at q|-;simp[c10,AD,AH,AN,AM,FP,q,show 2<c' by omega]
   ·obtain⟨c',hc',q⟩:=jZ (ff:=25) (cap:=[.ptr 0 2 0 0,.ptr 0 3 1 0]) hb hB (by simp) (by simp) 3 11 hf hT [(10,true,.fn 25 [] [.ptr 0 2 0 0,.ptr 0 3 1 0]),(9,true,.agg (AB b)),(2,true,.ptr 0 2 0 0),(3,true,.ptr 0 3 1 0),(4,true,.ptr 0 4 2 0)];rw[if_neg (by simpa using hT)];have q:=fun n=>q (n+190);have qt:=fun n=>AKM (plan:=plan) (ws:=DZ b) n hb (WF hz) (YN _ _) (fB hb);have hc2:2<c'+1:=by omega
    simp only[AB,BW,lvP,FP,List.cons_append,bc]at q qt|-;simp at q;simp[c10,AD,AH,AN,AM,q,qt,hc2,A2]
 ·rw[if_neg h];have q:=fun n=>VB (ff:=25) (cap:=[.ptr 0 2 0 0,.ptr 0 3 1 0]) h40 hB (by simp) h 3 11 [(10,true,.fn 25 [] [.ptr 0 2 0 0,.ptr 0 3 1 0]),(9,true,.agg (AB b)),(2,true,.ptr 0 2 0 0),(3,true,.ptr 0 3 1 0),(4,true,.ptr 0 4 2 0)] (n+190);simp only[AB,lvP]at q|-;simp at q;simp[c10,AD,AH,AN,AM,FP,q,h]
end
theorem PQ{n:Int}(h:-1000<=n/\n<=1000):NB n:=⟨by omega,by omega⟩
@[simp] theorem clI(f:Nat)(l:List Int):(l.all ((fun e=>e.all (AG (f+1)))∘AH))=true:=by simp[AH]
@[simp] theorem clP(f:Nat)(l:List (Int×Int)):(l.all ((fun e=>e.all (AG (f+1)))∘AM))=true:=by simp[AM]
@[simp] theorem clL(f:Nat)(l:List (List Int)):(l.all ((fun e=>e.all (AG (f+2)))∘AN))=true:=by simp[AN,AH]
theorem slX{α:Type}{f:α->List V}{l:List α}(h:l≠[]):sl (l.map f)=.list false (l.map f):=by
 cases l with
 |nil=>exact absurd rfl h
 |cons x l=>rfl
theorem AKO(n:Nat){b:AL}(hb:Valid b):AZ ck kn (AE ck ann kn (n+600)) 11 [.agg (AB b)]=some (.agg (IG b)):=by have h1:=hb.la;have h2:=hb.ro;have h3:=hb.br;have h4:=hb.no;have h5:=hb.fa;have h6:=hb.su;have h7:=hb.hl;exact AGF n b (by omega) (by omega) (by omega) (fun l hl=>by have:=hb.wl l hl;omega) (by omega) (by omega)
theorem wV{b:AL}{plan:List (List Int)}(hb:Valid b)(hp:F2 b plan){h:Nat}(hh:h<plan.length):plan[h].length<=3/\(plan[h].length:Int)=b.rows/\∀x∈plan[h],0<=x/\x<=3:=by
 have hro:=hb.ro;have e:plan.getD h []=plan[h]:=by rw[bk,bj hh];rfl
 have hr:=hp.row h hh;have hd:=hp.dir h;rw[e]at hr;refine⟨by omega,hr,fun x hx=>?_⟩;obtain⟨r,h1,rfl⟩:=List.getElem_of_mem hx;have:=hd r hh (by rw[e];exact h1);unfold BR at this;rw[e,bk,bj h1]at this;exact DV.1 this
@[simp] theorem AY9:HS ck 56=false:=by kernel_rfl
section
variable {b:AL}{x0 x1 x2 y0 y1 y2:Int}
end
section
variable {b:AL}{plan:List (List Int)}
end
@[simp] theorem AZA:HS ck 69=false:=by kernel_rfl
theorem AUL(n:Nat)(x:IY):AZ ck kn (AE ck ann kn (n+50)) 68 [.agg (DS x)]=some (i x.calm):=by rw[AP rfl,AQ Tryz.func68 b68 rfl (by simp[DS])];simp[c68,AD,DS]
theorem AUM(n:Nat)(x:IY):AZ ck kn (AE ck ann kn (n+50)) 70 [.agg (DS x)]=some (i x.good):=by rw[AP rfl,AQ Tryz.func70 b70 rfl (by simp[DS])];simp[c70,AD,DS]
section
variable {b:AL}{ws plan:List (List Int)}{ff:FuncId}{sel:IY->Int}{s:Nat×Nat}
def HX(b:AL)(plan:List (List Int))(s:Nat×Nat)(sel:IY->Int)(h:Nat)(w:Int):Int:=sel (U3 b (s.1,s.2) h (BR plan h s.1) w)
theorem A65(hb:Valid b)(hp:F2 b plan)(hsel:∀n x,AZ ck kn (AE ck ann kn (n+50)) ff [.agg (DS x)]=some (i (sel x)))(hs1:(s.1:Int)<b.rows)(hs2:(s.2:Int)<b.places)(out:Int×Int)(h:Nat)(hh:h<plan.length)(xs:List Int)(hx:∀x∈xs,0<=x/\x<=3)(hxl:xs.length<=100)(γ:Nat):∀(d j c:Nat),j+d=xs.length->γ<c->∃c',c<=c'/\∀n k,d<k->BG (AE ck ann kn (n+1400) 66) XT (ann 66 (BX XT)) k ⟨c,[(1,true,.ref (BW b ws)),(2,true,H6 plan),(4,true,.ptr 0 4 0 0),(7,true,.ptr 0 7 1 0),(8,true,.ptr 0 8 2 0),(9,true,i h),(11,true,.ptr 0 11 γ 0),(17,true,H6 ws),(18,true,i ws.length),(19,true,i h),(25,true,li xs),(26,true,i xs.length),(27,true,i j)],⟨[],[(4,0,.box [.fn ff [] []]),(7,1,.box [i s.1,i s.2]),(8,2,.box (FP out)),(11,γ,.box (FP (EE (1,0) ((xs.take j).map (HX b plan s sel h)))))]⟩⟩ =
  some (.exit 2,⟨c',[(28,true,.bool false),(1,true,.ref (BW b ws)),(2,true,H6 plan),(4,true,.ptr 0 4 0 0),(7,true,.ptr 0 7 1 0),(8,true,.ptr 0 8 2 0),(9,true,i h),(11,true,.ptr 0 11 γ 0),(17,true,H6 ws),(18,true,i ws.length),(19,true,i h),(25,true,li xs),(26,true,i xs.length),(27,true,i xs.length)],⟨[],[(4,0,.box [.fn ff [] []]),(7,1,.box [i s.1,i s.2]),(8,2,.box (FP out)),(11,γ,.box (FP (EE (1,0) (xs.map (HX b plan s sel h)))))]⟩⟩)
 |0,j,c,hd,hc=>by
  have:j=xs.length:=by omega
  subst this;refine⟨c,Nat.le_refl _,fun n k hk=>?_⟩;obtain⟨k,rfl⟩:∃k',k=k'+1:=⟨k-1,by omega⟩;rw[AC,List.take_length];simp[FP]
 |d+1,j,c,hd,hc=>by
  have hj:j<xs.length:=by omega
  have hla:=hb.la;have hro:=hb.ro;have hpl:=hb.pl;have hsu:=hb.su;have hlen:=hp.len;have hwj:=BS (k:=j) (by omega);obtain⟨c',hc',ih⟩:=A65 hb hp hsel hs1 hs2 out h hh xs hx hxl γ d (j+1) (c+1) (by omega) (by omega);refine⟨c',by omega,fun n k hk=>?_⟩;obtain⟨k,rfl⟩:∃k',k=k'+1:=⟨k-1,by omega⟩;have ih:=ih n k (by omega);have hxj:=hx _ (bq hj);have e1:(xs.take (j+1)).map (HX b plan s sel h)=(xs.take j).map (HX b plan s sel h)++[HX b plan s sel h xs[j]]:=by rw[bx hj,List.map_append,bm,bw]
  have e2:EE (1,0) ((xs.take (j+1)).map (HX b plan s sel h))=(min (EE (1,0) ((xs.take j).map (HX b plan s sel h))).1 (HX b plan s sel h xs[j]),max (EE (1,0) ((xs.take j).map (HX b plan s sel h))).2 (HX b plan s sel h xs[j])):=by rw[e1];unfold EE;rw[bn];rfl
  rw[e2]at ih;have qw:=fun n=>AGH n (EE (1,0) ((xs.take j).map (HX b plan s sel h))) (HX b plan s sel h xs[j]);obtain⟨r1,r2,r3⟩:=wV hb hp hh;have hsr:s.1<plan[h].length:=by omega
  have hpa:BR plan h s.1=plan[h][s.1]:=by unfold BR;rw[show plan.getD h []=plan[h] by rw[bk,bj hh];rfl,bk,bj hsr];rfl
  have qo:=fun n=>kOf n b hb (s.1,s.2) (by simp only;omega) h (by omega) (BR plan h s.1) xs[j] hxj;have qs:=fun n=>hsel n (U3 b (s.1,s.2) h (BR plan h s.1) xs[j]);have es:HX b plan s sel h xs[j]=sel (U3 b (s.1,s.2) h (BR plan h s.1) xs[j]):=rfl;rw[es]at ih qw;rw[hpa]at qo qs ih qw;generalize EE (1,0) (xs.map (HX b plan s sel h))=RR at ih|-;generalize EE (1,0) ((xs.take j).map (HX b plan s sel h))=R at ih qw|-;generalize sel (U3 b (s.1,s.2) h plan[h][s.1] xs[j])=y at qs ih qw;generalize U3 b (s.1,s.2) h plan[h][s.1] xs[j]=O at qs qo;have hc1:γ<c+1:=by omega
  rw[AC];simp only[AB,BW,FP,AM,DS]at qo qs ih qw|-;simp at ih;simp[hj,hwj,hh,hsr,AH,AN,AM,qo,qs,qw,hc1,A2,ih]
def OY(b:AL)(ws plan:List (List Int))(s:Nat×Nat)(sel:IY->Int)(n:Nat):Int×Int:=AHZ (1,0) ws (HX b plan s sel) n
theorem AGN{l:List Int}(h:∀x∈l,0<=x/\x<=1):0<=(EE (1,0) l).1/\(EE (1,0) l).1<=1/\0<=(EE (1,0) l).2/\(EE (1,0) l).2<=1:=by have:=fO l (1,0) 0 1 h (by simp) (by simp);simp only at this;omega
theorem A66(hb:Valid b)(hp:F2 b plan)(hsel:∀n x,AZ ck kn (AE ck ann kn (n+50)) ff [.agg (DS x)]=some (i (sel x)))(hse:∀h w,0<=HX b plan s sel h w/\HX b plan s sel h w<=1)(hs1:(s.1:Int)<b.rows)(hs2:(s.2:Int)<b.places)(hwl:ws.length=b.winds.length)(hok:DD ws):∀(d h c:Nat),h+d=ws.length->3<=c->∃c',3<=c'/\∀n k,d<k->BG (AE ck ann kn (n+1600) 66) XU (ann 66 (BX XU)) k ⟨c,[(1,true,.ref (BW b ws)),(2,true,H6 plan),(4,true,.ptr 0 4 0 0),(7,true,.ptr 0 7 1 0),(8,true,.ptr 0 8 2 0),(17,true,H6 ws),(18,true,i ws.length),(19,true,i h)],⟨[],[(4,0,.box [.fn ff [] []]),(7,1,.box [i s.1,i s.2]),(8,2,.box (FP (OY b ws plan s sel h)))]⟩⟩ =
  some (.exit 0,⟨c',[(20,true,.bool false),(1,true,.ref (BW b ws)),(2,true,H6 plan),(4,true,.ptr 0 4 0 0),(7,true,.ptr 0 7 1 0),(8,true,.ptr 0 8 2 0),(17,true,H6 ws),(18,true,i ws.length),(19,true,i ws.length)],⟨[],[(4,0,.box [.fn ff [] []]),(7,1,.box [i s.1,i s.2]),(8,2,.box (FP (OY b ws plan s sel ws.length)))]⟩⟩)
 |0,h,c,hd,hc=>by
  have:h=ws.length:=by omega
  subst this;refine⟨c,hc,fun n k hk=>?_⟩;obtain⟨k,rfl⟩:∃k',k=k'+1:=⟨k-1,by omega⟩;rw[AC];simp[FP]
 |d+1,h,c,hd,hc=>by
  have hh:h<ws.length:=by omega
  have hh5:=hb.hl;have hwi:=hb.wi;have hlen:=hp.len;have hwh:=BS (k:=h) (by omega);have hwd:ws.getD h []=ws[h]:=by rw[bk,bj hh];rfl
  have hw4:=hok.len _ (bq hh);obtain⟨c1,hc1,q⟩:=A65 (ws:=ws) hb hp hsel hs1 hs2 (OY b ws plan s sel h) h (by omega) ws[h] (hok.lo _ (bq hh)) (by omega) c ws[h].length 0 (c+1) (by omega) (by omega);obtain⟨c',hc',ih⟩:=A66 hb hp hsel hse hs1 hs2 hwl hok d (h+1) c1 (by omega) (by omega);refine⟨c',hc',fun n k hk=>?_⟩;obtain⟨k,rfl⟩:∃k',k=k'+1:=⟨k-1,by omega⟩;have ih:=ih n k (by omega);have q:=fun n k=>q n (k+100) (by omega);have e1:OY b ws plan s sel (h+1)=((OY b ws plan s sel h).1+(EE (1,0) (ws[h].map (HX b plan s sel h))).1,(OY b ws plan s sel h).2+(EE (1,0) (ws[h].map (HX b plan s sel h))).2):=by rw[<-hwd];rfl
  have hr:=AGN (l:=ws[h].map (HX b plan s sel h)) fun x hx=>by obtain⟨w,_,rfl⟩:=bg.1 hx;exact hse h w
  have hb1:=HA (n:=h) (c:=1) (f:=fun h=>(EE (1,0) ((ws.getD h []).map (HX b plan s sel h))).1) fun j _=>by
   have:=AGN (l:=(ws.getD j []).map (HX b plan s sel j)) fun x hx=>by obtain⟨w,_,rfl⟩:=bg.1 hx;exact hse j w
   omega
  have hb2:=HA (n:=h) (c:=1) (f:=fun h=>(EE (1,0) ((ws.getD h []).map (HX b plan s sel h))).2) fun j _=>by
   have:=AGN (l:=(ws.getD j []).map (HX b plan s sel j)) fun x hx=>by obtain⟨w,_,rfl⟩:=bg.1 hx;exact hse j w
   omega
  change 0<=(OY b ws plan s sel h).1/\(OY b ws plan s sel h).1<=h*1 at hb1;change 0<=(OY b ws plan s sel h).2/\(OY b ws plan s sel h).2<=h*1 at hb2;rw[e1]at ih;rw[List.take_zero,bw]at q;have e0:EE (1,0) []=(1,0):=rfl;rw[e0]at q;generalize OY b ws plan s sel ws.length=TT at ih|-;generalize OY b ws plan s sel h=T at ih q hb1 hb2|-;generalize EE (1,0) (ws[h].map (HX b plan s sel h))=R at ih q hr;have w1:IntKind.i64.wrap (T.1+R.1)=T.1+R.1:=AW (by omega) (by omega);have w2:IntKind.i64.wrap (T.2+R.2)=T.2+R.2:=AW (by omega) (by omega);have hc2:2<c1:=by omega
  have hcc:c<c+1:=by omega
  rw[AC];simp only[BW,FP]at q ih|-;simp at q ih;simp[hh,hwh,AH,AN,q,w1,w2,hc2,hcc,A2,ih]
theorem oI(n:Nat)(hb:Valid b)(hp:F2 b plan)(hsel:∀n x,AZ ck kn (AE ck ann kn (n+50)) ff [.agg (DS x)]=some (i (sel x)))(hse:∀h w,0<=HX b plan s sel h w/\HX b plan s sel h w<=1)(hs1:(s.1:Int)<b.rows)(hs2:(s.2:Int)<b.places)(hwl:ws.length=b.winds.length)(hok:DD ws):AZ ck kn (AE ck ann kn (n+1800)) 69 [.agg [.fn ff [] []],.ref (BW b ws),H6 plan,.agg [i s.1,i s.2]]=some (.agg (FP (OY b ws plan s sel ws.length))):=by
 rw[AP rfl,AQ Tryz.func69 b69 rfl (by simp[BW,AH,AN,AM])];obtain⟨c',hc',q⟩:=A66 (s:=s) hb hp hsel hse hs1 hs2 hwl hok ws.length 0 3 (by omega) (Nat.le_refl _);have h5:=hb.hl;have q:=fun n k=>q n (k+150) (by omega);have e0:OY b ws plan s sel 0=(0,0):=rfl;rw[e0]at q;generalize OY b ws plan s sel ws.length=T at q|-;have hc2:2<c':=by omega
 simp only[BW,FP]at q|-;simp at q;simp[c69,AD,AN,q,hc2,A2]
end
end Go.Proofs.Tryz.Op
namespace Go.Wind
structure oU where
 sun:Int
 calm:Int×Int
 good:Int×Int
end Go.Wind
namespace Go.Proofs.Tryz.Op
@[simp] theorem AZB(T:TypeId)(x:Operand)(k:Nat)(f:Operand->Option V):GN ck (.oth (.field T x k)) f=[]:=rfl
@[simp] theorem AZC(f:FuncId):weakC (.fn f [] [])=.fn f [] []:=rfl
@[simp] theorem AZD(f:FuncId):weakM (.fn f [] [])=.fn f [] []:=rfl
@[simp] theorem AUN(k:Nat)(f:FuncId):AG (k+1) (.fn f [] [])=true:=rfl
def OZ(x:oU):List V:=[i x.sun,i x.calm.1,i x.calm.2,i x.good.1,i x.good.2]
section
variable {b:AL}{ws plan:List (List Int)}
def oJ(b:AL)(ws plan:List (List Int))(r p:Nat):oU:=⟨LO b plan r plan.length,kI b ws plan r p,VE b ws plan r p⟩
theorem AA0(b:AL)(plan:List (List Int))(r n:Nat):LO b plan r (n+1)=LO b plan r n+(if K3 b plan r n=true then 1 else 0):=by unfold LO;simp only[xN];split<;>simp
theorem AGO(hb:Valid b)(hp:F2 b plan)(r p:Nat)(hr:(r:Int)<b.rows)(hp2:(p:Int)<b.places)(A:List (List V))(γ8 γ12:Nat):∀(d h c γ:Nat) (rs:List oU),h+d=plan.length->(rs.length:Int)=b.places->rs[p]? = some ⟨LO b plan r h,(0,0),(0,0)⟩->γ<c->∀n k,d<k->BG (AE ck ann kn (n+1400) 90) RK (ann 90 (BX RK)) k ⟨c,[(2,true,.ptr 0 2 0 0),(3,true,.ptr 0 3 1 0),(6,true,.ref (BW b ws)),(8,true,pv 87 γ8 A),(9,true,i r),(10,true,.vec 0 30 γ rs.length),(11,true,i p),(12,true,.ptr 0 12 γ12 0),(24,true,i b.rows),(25,true,i r),(32,true,i rs.length),(33,true,i p),(40,true,i plan.length),(41,true,i h)],⟨[],(2,0,.box (AB b))::(3,1,.box [H6 plan])::(12,γ12,.box [i r,i p])::(30,γ,.vec 119 (rs.map OZ))::pl 87 γ8 115 A⟩⟩ =
  some (.exit 4,⟨c,(42,true,.bool false)::[(2,true,.ptr 0 2 0 0),(3,true,.ptr 0 3 1 0),(6,true,.ref (BW b ws)),(8,true,pv 87 γ8 A),(9,true,i r),(10,true,.vec 0 30 γ rs.length),(11,true,i p),(12,true,.ptr 0 12 γ12 0),(24,true,i b.rows),(25,true,i r),(32,true,i rs.length),(33,true,i p),(40,true,i plan.length),(41,true,i plan.length)],⟨[],(2,0,.box (AB b))::(3,1,.box [H6 plan])::(12,γ12,.box [i r,i p])::(30,γ,.vec 119 ((rs.set p ⟨LO b plan r plan.length,(0,0),(0,0)⟩).map OZ))::pl 87 γ8 115 A⟩⟩)
 |0,h,c,γ,rs,hd,hl,e,hγ,n,k+1,hk=>by
  have:h=plan.length:=by omega
  subst this;have:rs.set p ⟨LO b plan r plan.length,(0,0),(0,0)⟩=rs:=by
   have hpl:p<rs.length:=by omega
   rw[bj hpl,Option.some.injEq]at e;rw[<-e];exact List.set_getElem_self hpl
  rw[this,AC];simp
 |d+1,h,c,γ,rs,hd,hl,e,hγ,n,k+1,hk=>by
  have hh:h<plan.length:=by omega
  have hla:=hb.la;have hro:=hb.ro;have hpc:=hb.pl;have hsu:=hb.su;have hlen:=hp.len;have hwh:=BS (k:=h) (by omega);obtain⟨r1,r2,r3⟩:=wV hb hp hh;have hr2:r<plan[h].length:=by omega
  have hpa:BR plan h r=plan[h][r]:=by unfold BR;rw[show plan.getD h []=plan[h] by rw[bk,bj hh];rfl,bk,bj hr2];rfl
  have q:=fun n=>kOf n b hb (r,p) (by simp only;omega) h (by omega) (BR plan h r) 0 (by omega);rw[hpa]at q;have hpl:p<rs.length:=by omega
  have ih:=AGO hb hp r p hr hp2 A γ8 γ12 d (h+1) c γ (rs.set p ⟨LO b plan r (h+1),(0,0),(0,0)⟩) (by omega) (by simpa using hl) (by rw[List.getElem?_set_self hpl]) hγ n k (by omega);rw[List.set_set,List.length_set]at ih;rw[bj hpl,Option.some.injEq]at e;have hs:=N4 (K3 b plan r) h;have hsb:0<=LO b plan r h/\LO b plan r h<=h:=by unfold LO;omega
  have hof:(U3 b (r,p) h plan[h][r] 0).sun=if K3 b plan r h=true then 1 else 0:=by
   have:K3 b plan r h=decide (b.sun.getD h 0=plan[h][r]):=by unfold K3;rw[hpa];congr 1;exact propext eq_comm
   rw[this];rfl
  have hst:LO b plan r (h+1)=LO b plan r h+(U3 b (r,p) h plan[h][r] 0).sun:=by rw[AA0,hof]
  have hw:IntKind.i64.wrap (LO b plan r h+(U3 b (r,p) h plan[h][r] 0).sun)=LO b plan r h+(U3 b (r,p) h plan[h][r] 0).sun:=AW (by rw[hof];split<;>omega) (by rw[hof];split<;>omega);rw[hst]at ih;generalize rs.set p ⟨LO b plan r plan.length,(0,0),(0,0)⟩=F at ih|-;generalize LO b plan r h=S at *;generalize U3 b (r,p) h plan[h][r] 0=O at *;rw[List.map_set]at ih;have heg:(rs.map OZ)[p]'(by simpa using hpl)=[i S,i 0,i 0,i 0,i 0]:=by rw[bz,e];rfl
  rw[AC];simp only[AB,AM,DS,OZ,BW]at q ih heg|-;simp at ih;simp[hh,hr2,hwh,AH,AN,AM,q,hpl,heg,hw,hγ,A2,IL,ih]
def MD(b:AL)(ws plan:List (List Int))(r p:Nat):List oU:=(bp b.places.toNat).map fun j=>if j<p then oJ b ws plan r j else⟨0,(0,0),(0,0)⟩
def NC(b:AL)(ws plan:List (List Int))(r:Nat):List oU:=(bp b.places.toNat).map (oJ b ws plan r)
theorem bI(b:AL)(ws plan:List (List Int))(r p:Nat):(MD b ws plan r p).length=b.places.toNat:=by simp[MD]
theorem AGP{r p:Nat}(h:p<b.places.toNat):(MD b ws plan r p)[p]? = some ⟨0,(0,0),(0,0)⟩:=by simp[MD,h]
theorem AGQ{r p:Nat}:(MD b ws plan r p).set p (oJ b ws plan r p)=MD b ws plan r (p+1):=by
 apply bb (by simp[MD]);intro j h1 h2;simp only[MD,List.getElem_set,bz,bh];by_cases e:p=j
 ·subst e;simp
 ·rw[if_neg e];have:(j<p)=(j<p+1):=propext ⟨fun h=>by omega,fun h=>by omega⟩;simp only[this]
theorem AA1(b:AL)(ws plan:List (List Int))(r:Nat):MD b ws plan r b.places.toNat=NC b ws plan r:=by
 apply bb (by simp[MD,NC]);intro j h1 h2;have:j<b.places.toNat:=by simpa [MD]using h1
 simp only[MD,NC,bz,bh,if_pos this]
theorem AA2(b:AL)(ws plan:List (List Int))(r:Nat):MD b ws plan r 0=List.replicate b.places.toNat ⟨0,(0,0),(0,0)⟩:=by apply bb (by simp[MD]);intro j h1 h2;simp[MD]
theorem AGR(hb:Valid b)(hp:F2 b plan)(hwl:ws.length=b.winds.length)(hok:DD ws)(r:Nat)(hr:(r:Int)<b.rows)(A:List (List V))(γ8 γ:Nat):∀(d p c:Nat),p+d=b.places.toNat->γ<c->∃c',γ<c'/\∀n k,d<k->BG (AE ck ann kn (n+2000) 90) RL (ann 90 (BX RL)) k ⟨c,[(2,true,.ptr 0 2 0 0),(3,true,.ptr 0 3 1 0),(6,true,.ref (BW b ws)),(8,true,pv 87 γ8 A),(9,true,i r),(10,true,.vec 0 30 γ b.places.toNat),(24,true,i b.rows),(25,true,i r),(32,true,i b.places.toNat),(33,true,i p)],⟨[],(2,0,.box (AB b))::(3,1,.box [H6 plan])::(30,γ,.vec 119 ((MD b ws plan r p).map OZ))::pl 87 γ8 115 A⟩⟩ =
  some (.exit 2,⟨c',(34,true,.bool false)::[(2,true,.ptr 0 2 0 0),(3,true,.ptr 0 3 1 0),(6,true,.ref (BW b ws)),(8,true,pv 87 γ8 A),(9,true,i r),(10,true,.vec 0 30 γ b.places.toNat),(24,true,i b.rows),(25,true,i r),(32,true,i b.places.toNat),(33,true,i b.places.toNat)],⟨[],(2,0,.box (AB b))::(3,1,.box [H6 plan])::(30,γ,.vec 119 ((NC b ws plan r).map OZ))::pl 87 γ8 115 A⟩⟩)
 |0,p,c,hd,hγ=>by
  have:p=b.places.toNat:=by omega
  subst this;refine⟨c,hγ,fun n k hk=>?_⟩;obtain⟨k,rfl⟩:∃k',k=k'+1:=⟨k-1,by omega⟩;rw[AA1,AC];simp
 |d+1,p,c,hd,hγ=>by
  have hpc:=hb.pl;have hla:=hb.la;have hlen:=hp.len;have hw:=BS (k:=p) (by omega);have hp':p<b.places.toNat:=by omega
  obtain⟨c',h1,ih⟩:=AGR hb hp hwl hok r hr A γ8 γ d (p+1) (c+3) (by omega) (by omega);have q:=AGO (ws:=ws) hb hp r p hr (by omega) A γ8 c plan.length 0 (c+1) γ (MD b ws plan r p) (by omega) (by rw[bI];omega) (AGP hp') (by omega);rw[bI]at q;have q:=fun n m=>q n (m+100) (by omega);have qc:=fun n=>oI (ws:=ws) (ff:=68) (sel:=IY.calm) (s:=(r,p)) n hb hp AUL (fun h w=>J0 _) hr (by simp only;omega) hwl hok;have qg:=fun n=>oI (ws:=ws) (ff:=70) (sel:=IY.good) (s:=(r,p)) n hb hp AUM (fun h w=>J0 _) hr (by simp only;omega) hwl hok;have ec:OY b ws plan (r,p) IY.calm ws.length=kI b ws plan r p:=rfl;have eg:OY b ws plan (r,p) IY.good ws.length=VE b ws plan r p:=rfl;rw[ec]at qc;rw[eg]at qg;have hst:((MD b ws plan r p).set p ⟨LO b plan r plan.length,(0,0),(0,0)⟩).set p (oJ b ws plan r p)=MD b ws plan r (p+1):=by rw[List.set_set,AGQ]
  have hl:=bI b ws plan r p;have hbp:OZ (oJ b ws plan r p)=[i (LO b plan r plan.length),i (kI b ws plan r p).1,i (kI b ws plan r p).2,i (VE b ws plan r p).1,i (VE b ws plan r p).2]:=rfl;rw[<-hst,List.map_set,hbp]at ih;generalize MD b ws plan r p=R0 at q ih hl|-;generalize oJ b ws plan r p=BP at *;generalize kI b ws plan r p=C at *;generalize VE b ws plan r p=G at *;generalize NC b ws plan r=RR at ih|-;generalize LO b plan r plan.length=S at *;generalize b.places.toNat=PP at hp' hl ih q|-;have hpl:p<R0.length:=by omega
  have heg:((R0.set p ⟨S,(0,0),(0,0)⟩).map OZ)[p]? = some [i S,i 0,i 0,i 0,i 0]:=by simp[OZ,hpl]
  have hle:PP<=R0.length:=by omega
  refine⟨c',h1,fun n k hk=>?_⟩;obtain⟨k,rfl⟩:∃k',k=k'+1:=⟨k-1,by omega⟩;have ih:=ih n k (by omega);rw[AC];generalize hRR:R0.set p ⟨S,(0,0),(0,0)⟩=R1 at *;have hl1:R1.length=PP:=by rw[<-hRR];simpa using hl
  have hpl1:p<R1.length:=by omega
  rw[bj (by simpa using hpl1),Option.some.injEq]at heg;simp only[AB,BW,FP]at q qc qg ih|-;simp at q ih;simp[hp',hw,AH,AN,AM,q,qc,qg,hpl1,heg,A2,IL,F3,FD,CL,B8,BM,show Nat.beq 2 1=false from rfl,hl1,show γ<c+1+1+1 by omega,ih]
def E0(b:AL)(ws plan:List (List Int))(n:Nat):List (List oU):=(bp n).map (NC b ws plan)
theorem sZ(b:AL)(ws plan:List (List Int))(n:Nat):E0 b ws plan (n+1)=E0 b ws plan n++[NC b ws plan n]:=by simp[E0,List.range_succ]
def GY(l:List oU):List V:=[.list false (l.map OZ)]
theorem A67{k:Nat}{x:List oU}(h:k<=10000):CG ck 115 k [GY x]=true:=by rw[C3 (by simp[GY]) (by simp)];simp[maxLen,GY];omega
theorem AOP(hb:Valid b)(hp:F2 b plan)(hwl:ws.length=b.winds.length)(hok:DD ws):∀(d r c γ8:Nat),r+d=b.rows.toNat->1<c->∃fr c' γ',BQ fr 8=some (true,pv 87 γ' ((E0 b ws plan b.rows.toNat).map GY))/\∀n k,d<k->BG (AE ck ann kn (n+2200) 90) XV (ann 90 (BX XV)) k ⟨c,[(2,true,.ptr 0 2 0 0),(3,true,.ptr 0 3 1 0),(6,true,.ref (BW b ws)),(8,true,pv 87 γ8 ((E0 b ws plan r).map GY)),(24,true,i b.rows),(25,true,i r)],⟨[],(2,0,.box (AB b))::(3,1,.box [H6 plan])::pl 87 γ8 115 ((E0 b ws plan r).map GY)⟩⟩ =
  some (.exit 0,⟨c',fr,⟨[],(2,0,.box (AB b))::(3,1,.box [H6 plan])::pl 87 γ' 115 ((E0 b ws plan b.rows.toNat).map GY)⟩⟩)
 |0,r,c,γ8,hd,hc=>by
  have hr:r=b.rows.toNat:=by omega
  have hro:=hb.ro;have hr':b.rows=(r:Int):=by omega
  rw[<-hr];refine⟨?fr,c,γ8,?g1,fun n k hk=>?g2⟩;case g2=>
   obtain⟨k,rfl⟩:∃k',k=k'+1:=⟨k-1,by omega⟩
   rw[AC]
   simp[AB,hr']
   rfl
  case g1=>simp
 |d+1,r,c,γ8,hd,hc=>by
  have hro:=hb.ro;have hpc:=hb.pl;have hw:=BS (k:=r) (by omega);have hr':(r:Int)<b.rows:=by omega
  obtain⟨c1,h1,q⟩:=AGR (ws:=ws) hb hp hwl hok r hr' ((E0 b ws plan r).map GY) γ8 c b.places.toNat 0 (c+1) (by omega) (by omega);have q:=fun n m=>q n (m+100) (by omega);obtain⟨fr,c',γ',e1,ih⟩:=AOP hb hp hwl hok d (r+1) (c1+1) c1 (by omega) (by omega);have happ:=A67 (k:=(E0 b ws plan r).length) (x:=NC b ws plan r) (by simp[E0];omega);rw[AA2]at q;rw[sZ]at ih;refine⟨fr,c',γ',e1,fun n k hk=>?_⟩;obtain⟨k,rfl⟩:∃k',k=k'+1:=⟨k-1,by omega⟩;have ih:=ih n k (by omega);generalize E0 b ws plan b.rows.toNat=FF at ih|-;have hRl:(NC b ws plan r).length=b.places.toNat:=by simp[NC]
  generalize NC b ws plan r=RR at ih q happ hRl;obtain⟨PP,hPP⟩:∃P:Nat,b.places=P:=⟨b.places.toNat,by omega⟩;have hP2:b.places.toNat=PP:=by omega
  rw[hP2]at q hRl;subst hRl;rw[AC];simp only[AB,BW,hPP]at q ih|-;simp[GY]at ih q happ;simp[OZ]at q;have m1:RR.length*40<=140737488355328:=by omega
  have m2:RR.length<=maxLen:=by simp[maxLen];omega
  have htl:∀o,FI 0 30 o (pl 87 γ8 115 ((E0 b ws plan r).map GY))=pl 87 γ8 115 ((E0 b ws plan r).map GY):=fun o=>eR (by decide) _ _ _ (by simp[GY,OZ]);simp[hr',hw,GY,q,ih,happ,m1,m2,htl]
def lvB(b:AL)(plan:List (List Int)):AA:=[(2,0,.box (AB b)),(3,1,.box [H6 plan])]
theorem tA(hb:Valid b)(plan:List (List Int)):YJ b (lvB b plan) 67 [.ptr 0 2 0 0,.ptr 0 3 1 0] 2 (C5 b plan):=by intro n d fr;rw[A3 Tryz.func67 b67 rfl (by simp)];have q:=fun n=>iM n b hb plan;generalize C5 b plan=z at q|-;simp only[AB,lvB]at q|-;simp[c67,AD,q,AH,AN,AM]
def HW(b:AL)(plan:List (List Int)):List (List oU)×Int:=if C6 b=0 then(if C5 b plan=true then(if (EU b [] b.winds []).isEmpty=true then([],11) else(E0 b (DZ b) plan b.rows.toNat,0)) else([],2)) else([],C6 b)
theorem oK(n:Nat)(b:AL)(h40:∀l∈b.winds,l.length<=40)(plan:List (List Int)):AZ ck kn (AE ck ann kn (n+6200)) 40 [.agg (AB b),H6 plan]=some (.tup [sl ((HW b plan).1.map GY),i (HW b plan).2]):=by
 rw[AP rfl,AQ Tryz.func40 b40 rfl (by simp[AB,AH,AN,AM])];have hB:∀t:St,1<=t.up.length->AJ t (lvB b plan)=lvB b plan:=fun t ht=>by simp[lvB,AB,AH,AN,AM]
 have slnil:sl ([]:List (List V))=.nil:=rfl;unfold HW;by_cases h:C6 b=0
 ·have hb:=LP h;have hf:=tA hb plan;rw[if_pos h];cases hz:C5 b plan with
  |false=>
   rw[hz]at hf
   rw[if_neg (by decide)]
   have q:=fun n=>YK (ff:=67) (cap:=[.ptr 0 2 0 0,.ptr 0 3 1 0]) hb hB (by simp) (by simp) 2 17 hf [(16,true,.fn 67 [] [.ptr 0 2 0 0,.ptr 0 3 1 0]),(15,true,.agg (AB b)),(2,true,.ptr 0 2 0 0),(3,true,.ptr 0 3 1 0)] (n+190)
   simp only[AB,lvB,bw,slnil]at q|-
   simp[c40,AD,AH,AN,AM,q]
  |true=>
   rw[hz]at hf
   rw[if_pos rfl]
   by_cases hT:EU b [] b.winds []=[]
   ·obtain⟨c',hc',q⟩:=YL (ff:=67) (cap:=[.ptr 0 2 0 0,.ptr 0 3 1 0]) hb hB (by simp) (by simp) 2 17 hf hT [(16,true,.fn 67 [] [.ptr 0 2 0 0,.ptr 0 3 1 0]),(15,true,.agg (AB b)),(2,true,.ptr 0 2 0 0),(3,true,.ptr 0 3 1 0)];rw[if_pos (by rw[hT];rfl)];have q:=fun n=>q (n+190);simp only[AB,lvB,bw,slnil]at q|-;simp[c40,AD,AH,AN,AM,q]
   ·obtain⟨c',hc',q⟩:=jZ (ff:=67) (cap:=[.ptr 0 2 0 0,.ptr 0 3 1 0]) hb hB (by simp) (by simp) 2 17 hf hT [(16,true,.fn 67 [] [.ptr 0 2 0 0,.ptr 0 3 1 0]),(15,true,.agg (AB b)),(2,true,.ptr 0 2 0 0),(3,true,.ptr 0 3 1 0)];rw[if_neg (by simpa using hT)];have q:=fun n=>q (n+190);have hro:=hb.ro;obtain⟨fr,c2,γ',e1,q6⟩:=AOP (ws:=DZ b) hb (WF hz) (YN _ _) (fB hb) b.rows.toNat 0 c' 0 (by omega) (by omega);have q6:=fun n k=>q6 n (k+100) (by omega);have e0:E0 b (DZ b) plan 0=[]:=rfl;rw[e0]at q6;generalize E0 b (DZ b) plan b.rows.toNat=FF at *;simp only[AB,BW,lvB,List.cons_append,bc]at q q6|-;simp at q q6;simp[c40,AD,AH,AN,AM,q,q6,e1];simp[GY,OZ]
 ·rw[if_neg h];have q:=fun n=>VB (ff:=67) (cap:=[.ptr 0 2 0 0,.ptr 0 3 1 0]) h40 hB (by simp) h 2 17 [(16,true,.fn 67 [] [.ptr 0 2 0 0,.ptr 0 3 1 0]),(15,true,.agg (AB b)),(2,true,.ptr 0 2 0 0),(3,true,.ptr 0 3 1 0)] (n+190);simp only[AB,lvB,bw,slnil]at q|-;simp[c40,AD,AH,AN,AM,q,h]
end
end Go.Proofs.Tryz.Op
