/- Contracts: Min of two, minimum, wider, facing, turn, the directions as an array. No condition. -/
import Derived.Test.YthhdhbalenanjaaGreatW3
import Derived.Test.YthhdhbalenanjaaGreatI1
import Derived.Test.YthhdhbalenanjaaGreatFz
import Derived.Test.YthhdhbalenanjaaGreatH1
import Derived.Test.YthhdhbalenanjaaGreatW1
import Derived.Test.YthhdhbalenanjaaGreatW4
set_option maxRecDepth 100000
set_option linter.unusedSimpArgs false
open Go Go.Pg Go.Proofs Go.Wind
namespace Go.Proofs.Tryz.Op
theorem ALR(a b:Int):(if b<a then b else a)=min a b:=by split<;>omega
theorem yC(a b:Int):(if a<b then b else a)=max a b:=by split<;>omega
theorem AU8(n:Nat)(a b:Int):A0 Tryz.prog kn (AE Tryz.prog ann kn (n+100)) 165 [.list false [[i a],[i b]]]=some (i (min a b)):=by
 rw[AP rfl,AR Tryz.func165 BKU rfl (by simp)];have hw:IntKind.i64.wrap (1+1)=2:=by decide
 simp[A82,AG];rw[AB];simp[hw,ALR];rw[AB];simp
theorem ALS(n:Nat)(a b:Int):A0 Tryz.prog kn (AE Tryz.prog ann kn (n+200)) 198 [.list false [[i a],[i b]]]=some (i (min a b)):=by rw[AP rfl,AR Tryz.func198 BKV rfl (by simp)];have q:=fun n=>AU8 n a b;simp[A83,AG,q]
def DK(r:Int×Int):List V:=[i r.1,i r.2]
theorem A1N(n:Nat)(r:Int×Int)(x:Int):A0 Tryz.prog kn (AE Tryz.prog ann kn (n+300)) 186 [.agg (DK r),i x]=some (.agg (DK (min r.1 x,max r.2 x))):=by rw[AP rfl,AR Tryz.func186 BKW rfl (by simp[DK])];have q:=fun n=>ALS n r.1 x;simp[A84,AG,DK,q,yC]
def BXV(g:List Int):List V:=g.map fun x=>i x
theorem BGB{α:Type}(l:List α)(h:l.length=3):∃x y z,l=[x,y,z]:=by
 match l,h with
 |[x,y,z],_=>exact⟨x,y,z,rfl⟩
@[simp] theorem A6S(cs:List V):OQ (.ref cs)=some (.ref cs):=rfl
theorem AZ(L:AA)(k γ:Nat)(r:A6):AA.put L k γ r=(k,γ,r)::L:=rfl
@[simp] theorem BGC:IF Tryz.prog 186=false:=by kernel_rfl
def EX(b:AK)(ws:List (List Int)):List V:=[i b.last,i b.rows,i b.places,i b.reach,li b.face,li b.sun,G5 b.winds,.list false (b.breaks.map AF),.list false (b.notes.map AF),G5 ws,.any,.any]
section
variable {b:AK}{ws:List (List Int)}{g0 g1 g2:Int}{h:Nat}
def BST(b:AK)(h:Nat)(f:Nat→Int)(w:Int)(r:Nat):Int:=DJ (fun r=>DJ (fun p=>pA b (r,p) h (f r) w) b.places.toNat) r
end
section
variable {b:AK}{ws plan:List (List Int)}
def BXW(b:AK)(ws plan:List (List Int))(n:Nat):Int×Int:=(DJ (fun h=>(YL b ws h (CP plan h)).1) n,DJ (fun h=>(YL b ws h (CP plan h)).2) n)
theorem ZY(b:AK)(t:List Int):t∈FE b [] b.winds []↔DA b t=true:=by rw[lL];simp only[List.nil_append,List.map_id',List.mem_filter,QZ,DA,Bool.and_eq_true,List.all_eq_true];refine and_congr_right fun _=>?_;rw[Y6,List.all_eq_true]
theorem AE7(hb:Valid b):D1 (FD b):=D1.ask _ _ fun t ht=>L6 hb (by
 have:=(ZY b t).1 ht;simp only[DA,Bool.and_eq_true]at this;exact this.1)
theorem YC(hb:Valid b)(hT:FE b [] b.winds []≠[]):U7 b (FD b):=AHV hb (ZY b) hT
def lvP(b:AK)(plan:List (List Int))(r:A6):AA:=[(2,0,.box (AC b)),(3,1,.box [G5 plan]),(4,2,r)]
def BPG(b:AK)(plan:List (List Int)):(Int×Int)×Int:=if CV b=0 then(if EF b plan=true then(if (FE b [] b.winds []).isEmpty=true then((0,0),11) else(AHY b (FD b) plan,0)) else((0,0),2)) else((0,0),CV b)
end
theorem RH{n:Int}(h:-1000≤n∧n≤1000):LO n:=⟨by omega,by omega⟩
@[simp] theorem clI(f:Nat)(l:List Int):(l.all ((fun e=>e.all (AH (f+1)))∘AJ))=true:=by simp[AJ]
@[simp] theorem clP(f:Nat)(l:List (Int×Int)):(l.all ((fun e=>e.all (AH (f+1)))∘AF))=true:=by simp[AF]
@[simp] theorem clL(f:Nat)(l:List (List Int)):(l.all ((fun e=>e.all (AH (f+2)))∘AM))=true:=by simp[AM,AJ]
theorem slX{α:Type}{f:α→List V}{l:List α}(h:l≠[]):sl (l.map f)=.list false (l.map f):=by
 cases l with
 |nil=>exact absurd rfl h
 |cons x l=>rfl
theorem AB9{b:AK}{plan:List (List Int)}(hb:Valid b)(hp:FY b plan){h:Nat}(hh:h<plan.length):plan[h].length≤3∧(plan[h].length:Int)=b.rows∧∀x∈plan[h],0≤x∧x≤3:=by
 have hro:=hb.ro;have e:plan.getD h []=plan[h]:=by rw[List.getD_eq_getElem?_getD,List.getElem?_eq_getElem hh];rfl
 have hr:=hp.row h hh;have hd:=hp.dir h;rw[e]at hr;refine⟨by omega,hr,fun x hx=>?_⟩;obtain⟨r,h1,rfl⟩:=List.getElem_of_mem hx;have:=hd r hh (by rw[e];exact h1);unfold CP at this;rw[e,List.getD_eq_getElem?_getD,List.getElem?_eq_getElem h1]at this;exact DC.1 this
section
variable {b:AK}{x0 x1 x2 y0 y1 y2:Int}
end
section
variable {b:AK}{plan:List (List Int)}
def BSU(b:AK)(plan:List (List Int))(h:Nat):List Int:=if h=0 then AOG b.face else AOG (plan.getD (h-1) [])
def BSV(b:AK)(plan:List (List Int)):Int×Int:=if CV b=0 then(if EF b plan=true then(BA3 b plan,0) else(0,2)) else(0,CV b)
end
@[simp] theorem A6T:IF Tryz.prog 157=false:=by kernel_rfl
theorem A1O(n:Nat)(x:JO):A0 Tryz.prog kn (AE Tryz.prog ann kn (n+50)) 156 [.agg (EV x)]=some (i x.calm):=by rw[AP rfl,AR Tryz.func156 BK0 rfl (by simp[EV])];simp[A88,AG,EV]
theorem A1P(n:Nat)(x:JO):A0 Tryz.prog kn (AE Tryz.prog ann kn (n+50)) 158 [.agg (EV x)]=some (i x.good):=by rw[AP rfl,AR Tryz.func158 BK1 rfl (by simp[EV])];simp[A89,AG,EV]
section
variable {b:AK}{ws plan:List (List Int)}{ff:FuncId}{sel:JO→Int}{s:Nat×Nat}
def IV(b:AK)(plan:List (List Int))(s:Nat×Nat)(sel:JO→Int)(h:Nat)(w:Int):Int:=sel (ofB b (s.1,s.2) h (CP plan h s.1) w)
theorem BGD(hb:Valid b)(hp:FY b plan)(hsel:∀n x,A0 Tryz.prog kn (AE Tryz.prog ann kn (n+50)) ff [.agg (EV x)]=some (i (sel x)))(hs1:(s.1:Int)<b.rows)(hs2:(s.2:Int)<b.places)(out:Int×Int)(h:Nat)(hh:h<plan.length)(xs:List Int)(hx:∀x∈xs,0≤x∧x≤3)(hxl:xs.length≤100)(γ:Nat):∀(d j c:Nat),j+d=xs.length→γ<c→∃c',c≤c'∧∀n k,d<k→BF (AE Tryz.prog ann kn (n+1400) 66) UI (ann 66 (BW UI)) k ⟨c,[(1,true,.ref (EX b ws)),(2,true,G5 plan),(4,true,.ptr 0 4 0 0),(7,true,.ptr 0 7 1 0),(8,true,.ptr 0 8 2 0),(9,true,i h),(11,true,.ptr 0 11 γ 0),(17,true,G5 ws),(18,true,i ws.length),(19,true,i h),(25,true,li xs),(26,true,i xs.length),(27,true,i j)],⟨[],[(4,0,.box [.fn ff [] []]),(7,1,.box [i s.1,i s.2]),(8,2,.box (DK out)),(11,γ,.box (DK (DS (1,0) ((xs.take j).map (IV b plan s sel h)))))]⟩⟩ =
  some (.exit 2,⟨c',[(28,true,.bool false),(1,true,.ref (EX b ws)),(2,true,G5 plan),(4,true,.ptr 0 4 0 0),(7,true,.ptr 0 7 1 0),(8,true,.ptr 0 8 2 0),(9,true,i h),(11,true,.ptr 0 11 γ 0),(17,true,G5 ws),(18,true,i ws.length),(19,true,i h),(25,true,li xs),(26,true,i xs.length),(27,true,i xs.length)],⟨[],[(4,0,.box [.fn ff [] []]),(7,1,.box [i s.1,i s.2]),(8,2,.box (DK out)),(11,γ,.box (DK (DS (1,0) (xs.map (IV b plan s sel h)))))]⟩⟩)
 |0,j,c,hd,hc=>by
  have:j=xs.length:=by omega
  subst this;refine⟨c,Nat.le_refl _,fun n k hk=>?_⟩;obtain⟨k,rfl⟩:∃k',k=k'+1:=⟨k-1,by omega⟩;rw[AB,List.take_length];simp[DK]
 |d+1,j,c,hd,hc=>by
  have hj:j<xs.length:=by omega
  have hla:=hb.la;have hro:=hb.ro;have hpl:=hb.pl;have hsu:=hb.su;have hlen:=hp.len;have hwj:=BM (k:=j) (by omega);obtain⟨c',hc',ih⟩:=BGD hb hp hsel hs1 hs2 out h hh xs hx hxl γ d (j+1) (c+1) (by omega) (by omega);refine⟨c',by omega,fun n k hk=>?_⟩;obtain⟨k,rfl⟩:∃k',k=k'+1:=⟨k-1,by omega⟩;have ih:=ih n k (by omega);have hxj:=hx _ (List.getElem_mem hj);have e1:(xs.take (j+1)).map (IV b plan s sel h)=(xs.take j).map (IV b plan s sel h)++[IV b plan s sel h xs[j]]:=by rw[List.take_succ_eq_append_getElem hj,List.map_append,List.map_cons,List.map_nil]
  have e2:DS (1,0) ((xs.take (j+1)).map (IV b plan s sel h))=(min (DS (1,0) ((xs.take j).map (IV b plan s sel h))).1 (IV b plan s sel h xs[j]),max (DS (1,0) ((xs.take j).map (IV b plan s sel h))).2 (IV b plan s sel h xs[j])):=by rw[e1];unfold DS;rw[List.foldl_append];rfl
  rw[e2]at ih;have qw:=fun n=>A1N n (DS (1,0) ((xs.take j).map (IV b plan s sel h))) (IV b plan s sel h xs[j]);obtain⟨r1,r2,r3⟩:=AB9 hb hp hh;have hsr:s.1<plan[h].length:=by omega
  have hpa:CP plan h s.1=plan[h][s.1]:=by unfold CP;rw[show plan.getD h []=plan[h] by rw[List.getD_eq_getElem?_getD,List.getElem?_eq_getElem hh];rfl,List.getD_eq_getElem?_getD,List.getElem?_eq_getElem hsr];rfl
  have qo:=fun n=>kOf n b hb (s.1,s.2) (by simp only;omega) h (by omega) (CP plan h s.1) xs[j] hxj;have qs:=fun n=>hsel n (ofB b (s.1,s.2) h (CP plan h s.1) xs[j]);have es:IV b plan s sel h xs[j]=sel (ofB b (s.1,s.2) h (CP plan h s.1) xs[j]):=rfl;rw[es]at ih qw;rw[hpa]at qo qs ih qw;generalize DS (1,0) (xs.map (IV b plan s sel h))=RR at ih⊢;generalize DS (1,0) ((xs.take j).map (IV b plan s sel h))=R at ih qw⊢;generalize sel (ofB b (s.1,s.2) h plan[h][s.1] xs[j])=y at qs ih qw;generalize ofB b (s.1,s.2) h plan[h][s.1] xs[j]=O at qs qo;have hc1:γ<c+1:=by omega
  rw[AB];simp only[AC,EX,DK,AF,EV]at qo qs ih qw⊢;simp at ih;simp[hj,hwj,hh,hsr,AJ,AM,AF,qo,qs,qw,hc1,AZ,ih]
def QP(b:AK)(ws plan:List (List Int))(s:Nat×Nat)(sel:JO→Int)(n:Nat):Int×Int:=AOE (1,0) ws (IV b plan s sel) n
theorem ALT{l:List Int}(h:∀x∈l,0≤x∧x≤1):0≤(DS (1,0) l).1∧(DS (1,0) l).1≤1∧0≤(DS (1,0) l).2∧(DS (1,0) l).2≤1:=by have:=zT l (1,0) 0 1 h (by simp) (by simp);simp only at this;omega
theorem BGE(hb:Valid b)(hp:FY b plan)(hsel:∀n x,A0 Tryz.prog kn (AE Tryz.prog ann kn (n+50)) ff [.agg (EV x)]=some (i (sel x)))(hse:∀h w,0≤IV b plan s sel h w∧IV b plan s sel h w≤1)(hs1:(s.1:Int)<b.rows)(hs2:(s.2:Int)<b.places)(hwl:ws.length=b.winds.length)(hok:D1 ws):∀(d h c:Nat),h+d=ws.length→3≤c→∃c',3≤c'∧∀n k,d<k→BF (AE Tryz.prog ann kn (n+1600) 66) UJ (ann 66 (BW UJ)) k ⟨c,[(1,true,.ref (EX b ws)),(2,true,G5 plan),(4,true,.ptr 0 4 0 0),(7,true,.ptr 0 7 1 0),(8,true,.ptr 0 8 2 0),(17,true,G5 ws),(18,true,i ws.length),(19,true,i h)],⟨[],[(4,0,.box [.fn ff [] []]),(7,1,.box [i s.1,i s.2]),(8,2,.box (DK (QP b ws plan s sel h)))]⟩⟩ =
  some (.exit 0,⟨c',[(20,true,.bool false),(1,true,.ref (EX b ws)),(2,true,G5 plan),(4,true,.ptr 0 4 0 0),(7,true,.ptr 0 7 1 0),(8,true,.ptr 0 8 2 0),(17,true,G5 ws),(18,true,i ws.length),(19,true,i ws.length)],⟨[],[(4,0,.box [.fn ff [] []]),(7,1,.box [i s.1,i s.2]),(8,2,.box (DK (QP b ws plan s sel ws.length)))]⟩⟩)
 |0,h,c,hd,hc=>by
  have:h=ws.length:=by omega
  subst this;refine⟨c,hc,fun n k hk=>?_⟩;obtain⟨k,rfl⟩:∃k',k=k'+1:=⟨k-1,by omega⟩;rw[AB];simp[DK]
 |d+1,h,c,hd,hc=>by
  have hh:h<ws.length:=by omega
  have hh5:=hb.hl;have hwi:=hb.wi;have hlen:=hp.len;have hwh:=BM (k:=h) (by omega);have hwd:ws.getD h []=ws[h]:=by rw[List.getD_eq_getElem?_getD,List.getElem?_eq_getElem hh];rfl
  have hw4:=hok.len _ (List.getElem_mem hh);obtain⟨c1,hc1,q⟩:=BGD (ws:=ws) hb hp hsel hs1 hs2 (QP b ws plan s sel h) h (by omega) ws[h] (hok.lo _ (List.getElem_mem hh)) (by omega) c ws[h].length 0 (c+1) (by omega) (by omega);obtain⟨c',hc',ih⟩:=BGE hb hp hsel hse hs1 hs2 hwl hok d (h+1) c1 (by omega) (by omega);refine⟨c',hc',fun n k hk=>?_⟩;obtain⟨k,rfl⟩:∃k',k=k'+1:=⟨k-1,by omega⟩;have ih:=ih n k (by omega);have q:=fun n k=>q n (k+100) (by omega);have e1:QP b ws plan s sel (h+1)=((QP b ws plan s sel h).1+(DS (1,0) (ws[h].map (IV b plan s sel h))).1,(QP b ws plan s sel h).2+(DS (1,0) (ws[h].map (IV b plan s sel h))).2):=by rw[←hwd];rfl
  have hr:=ALT (l:=ws[h].map (IV b plan s sel h)) fun x hx=>by obtain⟨w,_,rfl⟩:=List.mem_map.1 hx;exact hse h w
  have hb1:=NO (n:=h) (c:=1) (f:=fun h=>(DS (1,0) ((ws.getD h []).map (IV b plan s sel h))).1) fun j _=>by
   have:=ALT (l:=(ws.getD j []).map (IV b plan s sel j)) fun x hx=>by obtain⟨w,_,rfl⟩:=List.mem_map.1 hx;exact hse j w
   omega
  have hb2:=NO (n:=h) (c:=1) (f:=fun h=>(DS (1,0) ((ws.getD h []).map (IV b plan s sel h))).2) fun j _=>by
   have:=ALT (l:=(ws.getD j []).map (IV b plan s sel j)) fun x hx=>by obtain⟨w,_,rfl⟩:=List.mem_map.1 hx;exact hse j w
   omega
  change 0≤(QP b ws plan s sel h).1∧(QP b ws plan s sel h).1≤h*1 at hb1;change 0≤(QP b ws plan s sel h).2∧(QP b ws plan s sel h).2≤h*1 at hb2;rw[e1]at ih;rw[List.take_zero,List.map_nil]at q;have e0:DS (1,0) []=(1,0):=rfl;rw[e0]at q;generalize QP b ws plan s sel ws.length=TT at ih⊢;generalize QP b ws plan s sel h=T at ih q hb1 hb2⊢;generalize DS (1,0) (ws[h].map (IV b plan s sel h))=R at ih q hr;have w1:IntKind.i64.wrap (T.1+R.1)=T.1+R.1:=AV (by omega) (by omega);have w2:IntKind.i64.wrap (T.2+R.2)=T.2+R.2:=AV (by omega) (by omega);have hc2:2<c1:=by omega
  have hcc:c<c+1:=by omega
  rw[AB];simp only[EX,DK]at q ih⊢;simp at q ih;simp[hh,hwh,AJ,AM,q,w1,w2,hc2,hcc,AZ,ih]
theorem tV(n:Nat)(hb:Valid b)(hp:FY b plan)(hsel:∀n x,A0 Tryz.prog kn (AE Tryz.prog ann kn (n+50)) ff [.agg (EV x)]=some (i (sel x)))(hse:∀h w,0≤IV b plan s sel h w∧IV b plan s sel h w≤1)(hs1:(s.1:Int)<b.rows)(hs2:(s.2:Int)<b.places)(hwl:ws.length=b.winds.length)(hok:D1 ws):A0 Tryz.prog kn (AE Tryz.prog ann kn (n+1800)) 157 [.agg [.fn ff [] []],.ref (EX b ws),G5 plan,.agg [i s.1,i s.2]]=some (.agg (DK (QP b ws plan s sel ws.length))):=by
 rw[AP rfl,AR Tryz.func157 BKZ rfl (by simp[EX,AJ,AM,AF])];obtain⟨c',hc',q⟩:=BGE (s:=s) hb hp hsel hse hs1 hs2 hwl hok ws.length 0 3 (by omega) (Nat.le_refl _);have h5:=hb.hl;have q:=fun n k=>q n (k+150) (by omega);have e0:QP b ws plan s sel 0=(0,0):=rfl;rw[e0]at q;generalize QP b ws plan s sel ws.length=T at q⊢;have hc2:2<c':=by omega
 simp only[EX,DK]at q⊢;simp at q;simp[A87,AG,AM,q,hc2,AZ]
end
end Go.Proofs.Tryz.Op
namespace Go.Wind
structure uF where
 sun:Int
 calm:Int×Int
 good:Int×Int
end Go.Wind
namespace Go.Proofs.Tryz.Op
@[simp] theorem A6U(T:TypeId)(x:Operand)(k:Nat)(f:Operand→Option V):II Tryz.prog (.oth (.field T x k)) f=[]:=rfl
@[simp] theorem A6V(f:FuncId):weakC (.fn f [] [])=.fn f [] []:=rfl
@[simp] theorem A6W(f:FuncId):weakM (.fn f [] [])=.fn f [] []:=rfl
@[simp] theorem A1Q(k:Nat)(f:FuncId):AH (k+1) (.fn f [] [])=true:=rfl
def QR(x:uF):List V:=[i x.sun,i x.calm.1,i x.calm.2,i x.good.1,i x.good.2]
section
variable {b:AK}{ws plan:List (List Int)}
def tW(b:AK)(ws plan:List (List Int))(r p:Nat):uF:=⟨M0 b plan r plan.length,pC b ws plan r p,YM b ws plan r p⟩
theorem AE8(b:AK)(plan:List (List Int))(r n:Nat):M0 b plan r (n+1)=M0 b plan r n+(if MK b plan r n=true then 1 else 0):=by unfold M0;simp only[nQ];split<;>simp
theorem ALU(hb:Valid b)(hp:FY b plan)(r p:Nat)(hr:(r:Int)<b.rows)(hp2:(p:Int)<b.places)(A:List (List V))(γ8 γ12:Nat):∀(d h c γ:Nat) (rs:List uF),h+d=plan.length→(rs.length:Int)=b.places→rs[p]? = some ⟨M0 b plan r h,(0,0),(0,0)⟩→γ<c→∀n k,d<k→BF (AE Tryz.prog ann kn (n+1400) 90) PM (ann 90 (BW PM)) k ⟨c,[(2,true,.ptr 0 2 0 0),(3,true,.ptr 0 3 1 0),(6,true,.ref (EX b ws)),(8,true,pv 87 γ8 A),(9,true,i r),(10,true,.vec 0 30 γ rs.length),(11,true,i p),(12,true,.ptr 0 12 γ12 0),(24,true,i b.rows),(25,true,i r),(32,true,i rs.length),(33,true,i p),(40,true,i plan.length),(41,true,i h)],⟨[],(2,0,.box (AC b))::(3,1,.box [G5 plan])::(12,γ12,.box [i r,i p])::(30,γ,.vec 209 (rs.map QR))::pl 87 γ8 204 A⟩⟩ =
  some (.exit 4,⟨c,(42,true,.bool false)::[(2,true,.ptr 0 2 0 0),(3,true,.ptr 0 3 1 0),(6,true,.ref (EX b ws)),(8,true,pv 87 γ8 A),(9,true,i r),(10,true,.vec 0 30 γ rs.length),(11,true,i p),(12,true,.ptr 0 12 γ12 0),(24,true,i b.rows),(25,true,i r),(32,true,i rs.length),(33,true,i p),(40,true,i plan.length),(41,true,i plan.length)],⟨[],(2,0,.box (AC b))::(3,1,.box [G5 plan])::(12,γ12,.box [i r,i p])::(30,γ,.vec 209 ((rs.set p ⟨M0 b plan r plan.length,(0,0),(0,0)⟩).map QR))::pl 87 γ8 204 A⟩⟩)
 |0,h,c,γ,rs,hd,hl,e,hγ,n,k+1,hk=>by
  have:h=plan.length:=by omega
  subst this;have:rs.set p ⟨M0 b plan r plan.length,(0,0),(0,0)⟩=rs:=by
   have hpl:p<rs.length:=by omega
   rw[List.getElem?_eq_getElem hpl,Option.some.injEq]at e;rw[←e];exact List.set_getElem_self hpl
  rw[this,AB];simp
 |d+1,h,c,γ,rs,hd,hl,e,hγ,n,k+1,hk=>by
  have hh:h<plan.length:=by omega
  have hla:=hb.la;have hro:=hb.ro;have hpc:=hb.pl;have hsu:=hb.su;have hlen:=hp.len;have hwh:=BM (k:=h) (by omega);obtain⟨r1,r2,r3⟩:=AB9 hb hp hh;have hr2:r<plan[h].length:=by omega
  have hpa:CP plan h r=plan[h][r]:=by unfold CP;rw[show plan.getD h []=plan[h] by rw[List.getD_eq_getElem?_getD,List.getElem?_eq_getElem hh];rfl,List.getD_eq_getElem?_getD,List.getElem?_eq_getElem hr2];rfl
  have q:=fun n=>kOf n b hb (r,p) (by simp only;omega) h (by omega) (CP plan h r) 0 (by omega);rw[hpa]at q;have hpl:p<rs.length:=by omega
  have ih:=ALU hb hp r p hr hp2 A γ8 γ12 d (h+1) c γ (rs.set p ⟨M0 b plan r (h+1),(0,0),(0,0)⟩) (by omega) (by simpa using hl) (by rw[List.getElem?_set_self hpl]) hγ n k (by omega);rw[List.set_set,List.length_set]at ih;rw[List.getElem?_eq_getElem hpl,Option.some.injEq]at e;have hs:=PU (MK b plan r) h;have hsb:0≤M0 b plan r h∧M0 b plan r h≤h:=by unfold M0;omega
  have hof:(ofB b (r,p) h plan[h][r] 0).sun=if MK b plan r h=true then 1 else 0:=by
   have:MK b plan r h=decide (b.sun.getD h 0=plan[h][r]):=by unfold MK;rw[hpa];congr 1;exact propext eq_comm
   rw[this];rfl
  have hst:M0 b plan r (h+1)=M0 b plan r h+(ofB b (r,p) h plan[h][r] 0).sun:=by rw[AE8,hof]
  have hw:IntKind.i64.wrap (M0 b plan r h+(ofB b (r,p) h plan[h][r] 0).sun)=M0 b plan r h+(ofB b (r,p) h plan[h][r] 0).sun:=AV (by rw[hof];split<;>omega) (by rw[hof];split<;>omega);rw[hst]at ih;generalize rs.set p ⟨M0 b plan r plan.length,(0,0),(0,0)⟩=F at ih⊢;generalize M0 b plan r h=S at *;generalize ofB b (r,p) h plan[h][r] 0=O at *;rw[List.map_set]at ih;have heg:(rs.map QR)[p]'(by simpa using hpl)=[i S,i 0,i 0,i 0,i 0]:=by rw[List.getElem_map,e];rfl
  rw[AB];simp only[AC,AF,EV,QR,EX]at q ih heg⊢;simp at ih;simp[hh,hr2,hwh,AJ,AM,AF,q,hpl,heg,hw,hγ,AZ,GD,ih]
def NE(b:AK)(ws plan:List (List Int))(r p:Nat):List uF:=(List.range b.places.toNat).map fun j=>if j<p then tW b ws plan r j else⟨0,(0,0),(0,0)⟩
def OM(b:AK)(ws plan:List (List Int))(r:Nat):List uF:=(List.range b.places.toNat).map (tW b ws plan r)
theorem fO(b:AK)(ws plan:List (List Int))(r p:Nat):(NE b ws plan r p).length=b.places.toNat:=by simp[NE]
theorem ALV{r p:Nat}(h:p<b.places.toNat):(NE b ws plan r p)[p]? = some ⟨0,(0,0),(0,0)⟩:=by simp[NE,h]
theorem ALW{r p:Nat}:(NE b ws plan r p).set p (tW b ws plan r p)=NE b ws plan r (p+1):=by
 apply List.ext_getElem (by simp[NE]);intro j h1 h2;simp only[NE,List.getElem_set,List.getElem_map,List.getElem_range];by_cases e:p=j
 ·subst e;simp
 ·rw[if_neg e];have:(j<p)=(j<p+1):=propext ⟨fun h=>by omega,fun h=>by omega⟩;simp only[this]
theorem AE9(b:AK)(ws plan:List (List Int))(r:Nat):NE b ws plan r b.places.toNat=OM b ws plan r:=by
 apply List.ext_getElem (by simp[NE,OM]);intro j h1 h2;have:j<b.places.toNat:=by simpa [NE]using h1
 simp only[NE,OM,List.getElem_map,List.getElem_range,if_pos this]
theorem AFA(b:AK)(ws plan:List (List Int))(r:Nat):NE b ws plan r 0=List.replicate b.places.toNat ⟨0,(0,0),(0,0)⟩:=by apply List.ext_getElem (by simp[NE]);intro j h1 h2;simp[NE]
theorem ALX(hb:Valid b)(hp:FY b plan)(hwl:ws.length=b.winds.length)(hok:D1 ws)(r:Nat)(hr:(r:Int)<b.rows)(A:List (List V))(γ8 γ:Nat):∀(d p c:Nat),p+d=b.places.toNat→γ<c→∃c',γ<c'∧∀n k,d<k→BF (AE Tryz.prog ann kn (n+2000) 90) PN (ann 90 (BW PN)) k ⟨c,[(2,true,.ptr 0 2 0 0),(3,true,.ptr 0 3 1 0),(6,true,.ref (EX b ws)),(8,true,pv 87 γ8 A),(9,true,i r),(10,true,.vec 0 30 γ b.places.toNat),(24,true,i b.rows),(25,true,i r),(32,true,i b.places.toNat),(33,true,i p)],⟨[],(2,0,.box (AC b))::(3,1,.box [G5 plan])::(30,γ,.vec 209 ((NE b ws plan r p).map QR))::pl 87 γ8 204 A⟩⟩ =
  some (.exit 2,⟨c',(34,true,.bool false)::[(2,true,.ptr 0 2 0 0),(3,true,.ptr 0 3 1 0),(6,true,.ref (EX b ws)),(8,true,pv 87 γ8 A),(9,true,i r),(10,true,.vec 0 30 γ b.places.toNat),(24,true,i b.rows),(25,true,i r),(32,true,i b.places.toNat),(33,true,i b.places.toNat)],⟨[],(2,0,.box (AC b))::(3,1,.box [G5 plan])::(30,γ,.vec 209 ((OM b ws plan r).map QR))::pl 87 γ8 204 A⟩⟩)
 |0,p,c,hd,hγ=>by
  have:p=b.places.toNat:=by omega
  subst this;refine⟨c,hγ,fun n k hk=>?_⟩;obtain⟨k,rfl⟩:∃k',k=k'+1:=⟨k-1,by omega⟩;rw[AE9,AB];simp
 |d+1,p,c,hd,hγ=>by
  have hpc:=hb.pl;have hla:=hb.la;have hlen:=hp.len;have hw:=BM (k:=p) (by omega);have hp':p<b.places.toNat:=by omega
  obtain⟨c',h1,ih⟩:=ALX hb hp hwl hok r hr A γ8 γ d (p+1) (c+3) (by omega) (by omega);have q:=ALU (ws:=ws) hb hp r p hr (by omega) A γ8 c plan.length 0 (c+1) γ (NE b ws plan r p) (by omega) (by rw[fO];omega) (ALV hp') (by omega);rw[fO]at q;have q:=fun n m=>q n (m+100) (by omega);have qc:=fun n=>tV (ws:=ws) (ff:=156) (sel:=JO.calm) (s:=(r,p)) n hb hp A1O (fun h w=>bV _) hr (by simp only;omega) hwl hok;have qg:=fun n=>tV (ws:=ws) (ff:=158) (sel:=JO.good) (s:=(r,p)) n hb hp A1P (fun h w=>bV _) hr (by simp only;omega) hwl hok;have ec:QP b ws plan (r,p) JO.calm ws.length=pC b ws plan r p:=rfl;have eg:QP b ws plan (r,p) JO.good ws.length=YM b ws plan r p:=rfl;rw[ec]at qc;rw[eg]at qg;have hst:((NE b ws plan r p).set p ⟨M0 b plan r plan.length,(0,0),(0,0)⟩).set p (tW b ws plan r p)=NE b ws plan r (p+1):=by rw[List.set_set,ALW]
  have hl:=fO b ws plan r p;have hbp:QR (tW b ws plan r p)=[i (M0 b plan r plan.length),i (pC b ws plan r p).1,i (pC b ws plan r p).2,i (YM b ws plan r p).1,i (YM b ws plan r p).2]:=rfl;rw[←hst,List.map_set,hbp]at ih;generalize NE b ws plan r p=R0 at q ih hl⊢;generalize tW b ws plan r p=BP at *;generalize pC b ws plan r p=C at *;generalize YM b ws plan r p=G at *;generalize OM b ws plan r=RR at ih⊢;generalize M0 b plan r plan.length=S at *;generalize b.places.toNat=PP at hp' hl ih q⊢;have hpl:p<R0.length:=by omega
  have heg:((R0.set p ⟨S,(0,0),(0,0)⟩).map QR)[p]? = some [i S,i 0,i 0,i 0,i 0]:=by simp[QR,hpl]
  have hle:PP≤R0.length:=by omega
  refine⟨c',h1,fun n k hk=>?_⟩;obtain⟨k,rfl⟩:∃k',k=k'+1:=⟨k-1,by omega⟩;have ih:=ih n k (by omega);rw[AB];generalize hRR:R0.set p ⟨S,(0,0),(0,0)⟩=R1 at *;have hl1:R1.length=PP:=by rw[←hRR];simpa using hl
  have hpl1:p<R1.length:=by omega
  rw[List.getElem?_eq_getElem (by simpa using hpl1),Option.some.injEq]at heg;simp only[AC,EX,DK]at q qc qg ih⊢;simp at q ih;simp[hp',hw,AJ,AM,AF,q,qc,qg,hpl1,heg,AZ,GD,EZ,EK,B5,BU,BD,show Nat.beq 2 1=false from rfl,hl1,show γ<c+1+1+1 by omega,ih]
def FO(b:AK)(ws plan:List (List Int))(n:Nat):List (List uF):=(List.range n).map (OM b ws plan)
theorem yD(b:AK)(ws plan:List (List Int))(n:Nat):FO b ws plan (n+1)=FO b ws plan n++[OM b ws plan n]:=by simp[FO,List.range_succ]
def HN(l:List uF):List V:=[.list false (l.map QR)]
theorem BGF{k:Nat}{x:List uF}(h:k≤10000):B9 Tryz.prog 204 k [HN x]=true:=by rw[CA (by simp[HN]) (by simp)];simp[maxLen,HN];omega
theorem AVA(hb:Valid b)(hp:FY b plan)(hwl:ws.length=b.winds.length)(hok:D1 ws):∀(d r c γ8:Nat),r+d=b.rows.toNat→1<c→∃fr c' γ',BE fr 8=some (true,pv 87 γ' ((FO b ws plan b.rows.toNat).map HN))∧∀n k,d<k→BF (AE Tryz.prog ann kn (n+2200) 90) UK (ann 90 (BW UK)) k ⟨c,[(2,true,.ptr 0 2 0 0),(3,true,.ptr 0 3 1 0),(6,true,.ref (EX b ws)),(8,true,pv 87 γ8 ((FO b ws plan r).map HN)),(24,true,i b.rows),(25,true,i r)],⟨[],(2,0,.box (AC b))::(3,1,.box [G5 plan])::pl 87 γ8 204 ((FO b ws plan r).map HN)⟩⟩ =
  some (.exit 0,⟨c',fr,⟨[],(2,0,.box (AC b))::(3,1,.box [G5 plan])::pl 87 γ' 204 ((FO b ws plan b.rows.toNat).map HN)⟩⟩)
 |0,r,c,γ8,hd,hc=>by
  have hr:r=b.rows.toNat:=by omega
  have hro:=hb.ro;have hr':b.rows=(r:Int):=by omega
  rw[←hr];refine⟨?fr,c,γ8,?g1,fun n k hk=>?g2⟩;case g2=>
   obtain⟨k,rfl⟩:∃k',k=k'+1:=⟨k-1,by omega⟩
   rw[AB]
   simp[AC,hr']
   rfl
  case g1=>simp
 |d+1,r,c,γ8,hd,hc=>by
  have hro:=hb.ro;have hpc:=hb.pl;have hw:=BM (k:=r) (by omega);have hr':(r:Int)<b.rows:=by omega
  obtain⟨c1,h1,q⟩:=ALX (ws:=ws) hb hp hwl hok r hr' ((FO b ws plan r).map HN) γ8 c b.places.toNat 0 (c+1) (by omega) (by omega);have q:=fun n m=>q n (m+100) (by omega);obtain⟨fr,c',γ',e1,ih⟩:=AVA hb hp hwl hok d (r+1) (c1+1) c1 (by omega) (by omega);have happ:=BGF (k:=(FO b ws plan r).length) (x:=OM b ws plan r) (by simp[FO];omega);rw[AFA]at q;rw[yD]at ih;refine⟨fr,c',γ',e1,fun n k hk=>?_⟩;obtain⟨k,rfl⟩:∃k',k=k'+1:=⟨k-1,by omega⟩;have ih:=ih n k (by omega);generalize FO b ws plan b.rows.toNat=FF at ih⊢;have hRl:(OM b ws plan r).length=b.places.toNat:=by simp[OM]
  generalize OM b ws plan r=RR at ih q happ hRl;obtain⟨PP,hPP⟩:∃P:Nat,b.places=P:=⟨b.places.toNat,by omega⟩;have hP2:b.places.toNat=PP:=by omega
  rw[hP2]at q hRl;subst hRl;rw[AB];simp only[AC,EX,hPP]at q ih⊢;simp[HN]at ih q happ;simp[QR]at q;have m1:RR.length*40≤140737488355328:=by omega
  have m2:RR.length≤maxLen:=by simp[maxLen];omega
  have htl:∀o,FL 0 30 o (pl 87 γ8 204 ((FO b ws plan r).map HN))=pl 87 γ8 204 ((FO b ws plan r).map HN):=fun o=>XX (by decide) _ _ _ (by simp[HN,QR]);simp[hr',hw,HN,q,ih,happ,m1,m2,htl]
def lvB(b:AK)(plan:List (List Int)):AA:=[(2,0,.box (AC b)),(3,1,.box [G5 plan])]
theorem yE(hb:Valid b)(plan:List (List Int)):lH b (lvB b plan) 155 [.ptr 0 2 0 0,.ptr 0 3 1 0] 2 (EF b plan):=by intro n d fr;rw[BA Tryz.func155 b155 rfl (by simp)];have q:=fun n=>AQ2 n b hb plan;generalize EF b plan=z at q⊢;simp only[AC,lvB]at q⊢;simp[A9A,AG,q,AJ,AM,AF]
def IM(b:AK)(plan:List (List Int)):List (List uF)×Int:=if CV b=0 then(if EF b plan=true then(if (FE b [] b.winds []).isEmpty=true then([],11) else(FO b (FD b) plan b.rows.toNat,0)) else([],2)) else([],CV b)
theorem tX(n:Nat)(b:AK)(h40:∀l∈b.winds,l.length≤40)(plan:List (List Int)):A0 Tryz.prog kn (AE Tryz.prog ann kn (n+6200)) 117 [.agg (AC b),G5 plan]=some (.tup [sl ((IM b plan).1.map HN),i (IM b plan).2]):=by
 rw[AP rfl,AR Tryz.func117 BK2 rfl (by simp[AC,AJ,AM,AF])];have hB:∀t:St,1≤t.up.length→AL t (lvB b plan)=lvB b plan:=fun t ht=>by simp[lvB,AC,AJ,AM,AF]
 have slnil:sl ([]:List (List V))=.nil:=rfl;unfold IM;by_cases h:CV b=0
 ·have hb:=U8 h;have hf:=yE hb plan;rw[if_pos h];cases hz:EF b plan with
  |false=>
   rw[hz]at hf
   rw[if_neg (by decide)]
   have q:=fun n=>uV (ff:=155) (cap:=[.ptr 0 2 0 0,.ptr 0 3 1 0]) hb hB (by simp) (by simp) 2 17 hf [(16,true,.fn 155 [] [.ptr 0 2 0 0,.ptr 0 3 1 0]),(15,true,.agg (AC b)),(2,true,.ptr 0 2 0 0),(3,true,.ptr 0 3 1 0)] (n+190)
   simp only[AC,lvB,List.map_nil,slnil]at q⊢
   simp[AGR,AG,AJ,AM,AF,q]
  |true=>
   rw[hz]at hf
   rw[if_pos rfl]
   by_cases hT:FE b [] b.winds []=[]
   ·obtain⟨c',hc',q⟩:=uX (ff:=155) (cap:=[.ptr 0 2 0 0,.ptr 0 3 1 0]) hb hB (by simp) (by simp) 2 17 hf hT [(16,true,.fn 155 [] [.ptr 0 2 0 0,.ptr 0 3 1 0]),(15,true,.agg (AC b)),(2,true,.ptr 0 2 0 0),(3,true,.ptr 0 3 1 0)];rw[if_pos (by rw[hT];rfl)];have q:=fun n=>q (n+190);simp only[AC,lvB,List.map_nil,slnil]at q⊢;simp[AGR,AG,AJ,AM,AF,q]
   ·obtain⟨c',hc',q⟩:=AHR (ff:=155) (cap:=[.ptr 0 2 0 0,.ptr 0 3 1 0]) hb hB (by simp) (by simp) 2 17 hf hT [(16,true,.fn 155 [] [.ptr 0 2 0 0,.ptr 0 3 1 0]),(15,true,.agg (AC b)),(2,true,.ptr 0 2 0 0),(3,true,.ptr 0 3 1 0)];rw[if_neg (by simpa using hT)];have q:=fun n=>q (n+190);have hro:=hb.ro;obtain⟨fr,c2,γ',e1,q6⟩:=AVA (ws:=FD b) hb (AAC hz) (oX _ _) (AE7 hb) b.rows.toNat 0 c' 0 (by omega) (by omega);have q6:=fun n k=>q6 n (k+100) (by omega);have e0:FO b (FD b) plan 0=[]:=rfl;rw[e0]at q6;generalize FO b (FD b) plan b.rows.toNat=FF at *;simp only[AC,EX,lvB,List.cons_append,List.nil_append]at q q6⊢;simp at q q6;simp[AGR,AG,AJ,AM,AF,q,q6,e1];simp[HN,QR]
 ·rw[if_neg h];have q:=fun n=>oT (ff:=155) (cap:=[.ptr 0 2 0 0,.ptr 0 3 1 0]) h40 hB (by simp) h 2 17 [(16,true,.fn 155 [] [.ptr 0 2 0 0,.ptr 0 3 1 0]),(15,true,.agg (AC b)),(2,true,.ptr 0 2 0 0),(3,true,.ptr 0 3 1 0)] (n+190);simp only[AC,lvB,List.map_nil,slnil]at q⊢;simp[AGR,AG,AJ,AM,AF,q,h]
end
end Go.Proofs.Tryz.Op
