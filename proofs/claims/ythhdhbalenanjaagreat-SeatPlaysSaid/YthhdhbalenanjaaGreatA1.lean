/- A case of families on a beach: what is valid, and what a seating is, by the program and by the reference. No program in sight. -/
import Derived.Test.YthhdhbalenanjaaGreatL
import Derived.Test.YthhdhbalenanjaaGreatI1
import Derived.Test.YthhdhbalenanjaaGreatX1
import Derived.Test.YthhdhbalenanjaaGreatW4
import Derived.Test.YthhdhbalenanjaaGreatW3
import Derived.Test.YthhdhbalenanjaaGreatW2
import Derived.Test.YthhdhbalenanjaaGreatFz
namespace Go.Wind
structure MZ where
 size:Int
 good:Int
 dog:Bool
 shy:Bool
deriving DecidableEq
structure BC where
 beach:AJ
 plan:List (List Int)
 chairs:List (List Bool)
 fams:List MZ
def JV(f:MZ):Bool:=FB f.size 1 4&&FB f.good 0 5
def GH(c:BC):Bool:=decide ((c.chairs.length:Int)=c.beach.rows)&&c.chairs.all (fun l=>decide ((l.length:Int)=c.beach.places))
def EU(c:BC):Int :=
 if 3<c.fams.length then 3
 else if CD c.beach≠0 then CD c.beach
 else if CV c.beach c.plan=false then 2
 else if DE c.beach=[] then 11
 else if GH c=false then 1
 else if c.fams.all JV=false then 1 else 0
structure HL(c:BC):Prop where
 be:Valid c.beach
 pl:CV c.beach c.plan=true
 tr:DE c.beach≠[]
 fl:c.fams.length≤3
 ch:(c.chairs.length:Int)=c.beach.rows
 cr:∀l∈c.chairs,(l.length:Int)=c.beach.places
 fo:∀f∈c.fams,(1≤f.size∧f.size≤4)∧0≤f.good∧f.good≤5
theorem TM{c:BC}(h:EU c=0):HL c:=by
 unfold EU at h
 split at h
 ·cases h
 rename_i h1
 split at h
 ·rename_i h2; exact absurd h h2
 rename_i h2
 split at h
 ·cases h
 rename_i h3
 split at h
 ·cases h
 rename_i h4
 split at h
 ·cases h
 rename_i h5
 split at h
 ·cases h
 rename_i h6
 have hb:CD c.beach=0:=Classical.byContradiction fun hh=>h2 hh
 have h5:GH c=true:=by simpa using h5
 have h6:c.fams.all JV=true:=by simpa using h6
 simp only[GH,Bool.and_eq_true,decide_eq_true_eq,List.all_eq_true]at h5
 refine⟨NG hb,by simpa using h3,h4,by omega,h5.1,h5.2,fun f hf=>?_⟩
 have:=List.all_eq_true.1 h6 f hf
 simp only[JV,Bool.and_eq_true,DM]at this
 exact this
structure Sp where
 fam:Nat
 size:Int
 row:Int
 place:Int
deriving DecidableEq
def M0(c:BC)(k:Nat):MZ:=c.fams.getD k ⟨0,0,false,false⟩
def JW(c:BC)(a b:Nat):Bool:=decide (a≠b)&&((M0 c a).shy&&(M0 c b).dog||(M0 c a).dog&&(M0 c b).shy)
def FN(c:BC)(x:Sp):Bool:=FB x.row 0 (c.beach.rows-1)&&FB x.place 0 (c.beach.places-x.size)
def dB(x y:Sp):Int:=max (x.place-y.place-y.size) (y.place-x.place-x.size)
def FV(c:BC)(x y:Sp):Bool:=decide (x.row≠y.row)||(decide (0<dB x y)||(decide (dB x y=0)&&!JW c x.fam y.fam))
def FT(c:BC):Nat:=(c.chairs.map fun l=>l.count true).sum
def EB(l:List Sp):Int:=(l.map Sp.size).sum
def D7(c:BC):List Sp→List Sp→Bool
 | _,[]=>true
 | before,x :: r=>FN c x&&before.all (FV c x)&&D7 c (before++[x]) r
def JX(c:BC)(l:List Sp):Bool:=D7 c [] l&&decide (EB l≤FT c)
def HW(k:Nat):List MZ→List (Int×Int)→List Sp
 | f :: fs,s :: ss=>⟨k,f.size,s.1,s.2⟩ :: HW (k+1) fs ss
 | _,_=>[]
def BA(c:BC)(HJ:List (Int×Int)):List Sp:=HW 0 c.fams HJ
def GI(c:BC)(HJ:List (Int×Int)):Bool:=decide (HJ.length=c.fams.length)&&JX c (BA c HJ)
def PZ(c:BC)(x y:Sp):Bool:=(List.range y.size.toNat).any fun a=>(List.range x.size.toNat).any fun b =>
 let d:=y.place+(a:Int)-x.place-(b:Int)
 decide (d=0)||((decide (d=1)||decide (d = -1))&&JW c y.fam x.fam)
def fM(c:BC)(before:List Sp)(x:Sp):Bool:=FN c x&&before.all fun y=>decide (y.row≠x.row)||!PZ c x y
def pF(c:BC):List Sp→List Sp→Bool
 | _,[]=>true
 | before,x :: r=>fM c before x&&pF c (before++[x]) r
theorem tC(c:BC)(a b:Nat):JW c a b=JW c b a:=by
 unfold JW
 have:decide (a≠b)=decide (b≠a):=decide_eq_decide.2 ⟨Ne.symm,Ne.symm⟩
 rw[this]
 cases (M0 c a).shy <;> cases (M0 c b).dog <;> cases (M0 c a).dog <;> cases (M0 c b).shy <;> simp
theorem tD{c:BC}{x y:Sp}(hx:1≤x.size)(hy:1≤y.size):PZ c x y=true↔dB x y<0∨(dB x y=0∧JW c x.fam y.fam=true):=by
 unfold PZ dB
 simp only[List.any_eq_true,List.mem_range,Bool.or_eq_true,Bool.and_eq_true,decide_eq_true_eq,tC c y.fam x.fam]
 constructor
 ·rintro ⟨a,ha,b,hb,h | ⟨h,hm⟩⟩
  ·left; omega
  ·by_cases h0:max (x.place-y.place-y.size) (y.place-x.place-x.size)=0
   ·exact .inr ⟨h0,hm⟩
   ·left; omega
 ·rintro (h | ⟨h,hm⟩)
  ·by_cases hp:x.place≤y.place
   ·exact⟨0,by omega,(y.place-x.place).toNat,by omega,.inl (by omega)⟩
   ·exact⟨(x.place-y.place).toNat,by omega,0,by omega,.inl (by omega)⟩
  ·by_cases hp:x.place≤y.place
   ·exact⟨0,by omega,(x.size-1).toNat,by omega,.inr ⟨.inl (by omega),hm⟩⟩
   ·exact⟨(y.size-1).toNat,by omega,0,by omega,.inr ⟨.inr (by omega),hm⟩⟩
theorem lW{c:BC}{before:List Sp}{x:Sp}(hx:1≤x.size)(hb:∀y∈before,1≤y.size):fM c before x=(FN c x&&before.all (FV c x)):=by
 unfold fM
 congr 1
 rw[Bool.eq_iff_iff,List.all_eq_true,List.all_eq_true]
 refine forall_congr' fun y=>forall_congr' fun hy=>?_
 have h:=tD (c:=c) hx (hb y hy)
 unfold FV
 simp only[Bool.or_eq_true,Bool.and_eq_true,decide_eq_true_eq,Bool.not_eq_true',← Bool.not_eq_true]
 rw[h]
 have e:(y.row≠x.row)↔(x.row≠y.row):=⟨Ne.symm,Ne.symm⟩
 rw[e]
 constructor
 ·rintro (h1 | h1)
  ·exact .inl h1
  ·refine .inr ?_
   by_cases h0:0<dB x y
   ·exact .inl h0
   ·exact .inr ⟨by omega,fun hm=>h1 (.inr ⟨by omega,hm⟩)⟩
 ·rintro (h1 | h1 | ⟨h1,h2⟩)
  ·exact .inl h1
  ·exact .inr fun h3=>by rcases h3 with h3 | ⟨h3,_⟩ <;> omega
  ·exact .inr fun h3=>by
    rcases h3 with h3 | ⟨_,h3⟩
    ·omega
    ·exact h2 h3
end Go.Wind
namespace Go.Wind
theorem D0:∀{k:Nat} {fs:List MZ} {ss:List (Int×Int)},ss.length=fs.length→(HW k fs ss).length=fs.length
 | _,[],_,_=>rfl
 | _,_ :: _,[],h=>by simp at h
 | k,f :: fs,s :: ss,h=>by simp only[HW,List.length_cons,D0 (k:=k+1) (fs:=fs) (ss:=ss) (by simpa using h)]
theorem QR:∀{k:Nat} {fs:List MZ} {ss:List (Int×Int)},ss.length=fs.length→EB (HW k fs ss)=(fs.map MZ.size).sum
 | _,[],_,_=>rfl
 | _,_ :: _,[],h=>by simp at h
 | k,f :: fs,s :: ss,h=>by
  have ih:=QR (k:=k+1) (fs:=fs) (ss:=ss) (by simpa using h)
  unfold EB at ih ⊢
  simp only[HW,List.map_cons,List.sum_cons,ih]
theorem M1:∀{k:Nat} {fs:List MZ} {ss:List (Int×Int)} (j:Nat) (h1:j<fs.length) (h2:j<ss.length) (h3:j<(HW k fs ss).length),(HW k fs ss)[j]=⟨k+j,fs[j].size,ss[j].1,ss[j].2⟩
 | _,[],_,_,h1,_,_=>by simp at h1
 | _,_ :: _,[],_,_,h2,_=>by simp at h2
 | k,f :: fs,s :: ss,0,_,_,_=>rfl
 | k,f :: fs,s :: ss,j+1,h1,h2,h3=>by
  simp only[HW,List.getElem_cons_succ]
  rw[M1 j (by simpa using h1) (by simpa using h2) (by simpa [HW]using h3),show k+1+j=k+(j+1) by omega]
def A5V(c:BC)(HJ:List (Int×Int)):Bool:=decide (HJ.length=c.fams.length)&&(decide ((c.fams.map MZ.size).sum≤(FT c:Int))&&pF c [] (BA c HJ))
def GJ(hours:List (List GD))(x:Sp):Int:=HO (fun p=>((hours.getD x.row.toNat []).getD (x.place.toNat+p) ⟨0,0,0⟩).good) x.size.toNat
end Go.Wind
namespace Go.Wind
structure fN where
 sun:Int
 carried:Int
 enough:Bool
deriving DecidableEq
def xA(sure:List (List Int))(r p:Int):Int:=(sure.getD r.toNat []).getD p.toNat 0
def AD0(c:BC)(r p:Int):Bool:=(c.chairs.getD r.toNat []).getD p.toNat false
def lX(c:BC)(sure:List (List Int))(x:Sp):fN :=
  ⟨HO (fun p=>xA sure x.row (x.place+(p:Int))) x.size.toNat,
   HO (fun p=>if AD0 c x.row (x.place+(p:Int))=true then 0 else 1) x.size.toNat,
   (List.range x.size.toNat).all fun p=>decide ((M0 c x.fam).good≤xA sure x.row (x.place+(p:Int)))⟩
def ALU(c:BC)(sure:List (List Int)):List (Nat×Int)→List Sp→List (List Sp)
 | [],out=>[out]
 | g :: gs,out=>(List.range c.beach.rows.toNat).flatMap fun (r:Nat)=>(List.range (c.beach.places-g.2+1).toNat).flatMap fun (p:Nat) =>
  if ((lX c sure ⟨g.1,g.2,(r:Int),(p:Int)⟩).enough&&out.all (FV c ⟨g.1,g.2,(r:Int),(p:Int)⟩))=true then ALU c sure gs (out++[⟨g.1,g.2,(r:Int),(p:Int)⟩]) else[]
def xB(c:BC)(sure:List (List Int)):List (Nat×Int)→List Sp→List (List Sp)
 | [],out=>[out]
 | g :: gs,out=>(List.range c.beach.rows.toNat).flatMap fun (r:Nat)=>(List.range c.beach.places.toNat).flatMap fun (p:Nat) =>
  if (fM c out ⟨g.1,g.2,(r:Int),(p:Int)⟩&&(lX c sure ⟨g.1,g.2,(r:Int),(p:Int)⟩).enough)=true then xB c sure gs (out++[⟨g.1,g.2,(r:Int),(p:Int)⟩]) else[]
def AWL(c:BC)(sure:List (List Int))(l:List Sp):fN:=l.foldl (fun t x=>let s:=lX c sure x; ⟨t.sun+s.sun,t.carried+s.carried,t.enough&&s.enough⟩) ⟨0,0,true⟩
def ALV(c:BC)(sure:List (List Int))(acc:Option (List Sp×fN))(l:List Sp):Option (List Sp×fN) :=
 let s:=AWL c sure l
 match acc with
 | some (b,t)=>if s.sun<t.sun∨(s.sun=t.sun∧t.carried≤s.carried) then some (b,t) else some (l,s)
 | none=>some (l,s)
def BEC(c:BC)(sure:List (List Int))(ls:List (List Sp)):Option (List Sp×fN):=ls.foldl (ALV c sure) none
def ALW(c:BC)(sure:List (List Int))(acc:Int×Int)(l:List Sp):Int×Int :=
 let s:=AWL c sure l
 if acc.1<s.sun∨(s.sun=acc.1∧s.carried<acc.2) then(s.sun,s.carried) else acc
def A8X(c:BC)(sure:List (List Int))(ls:List (List Sp)):Int×Int:=ls.foldl (ALW c sure) (-1,0)
end Go.Wind
open Go Go.Pg Go.Proofs Go.Wind
namespace Go.Proofs.Tryz.Op
set_option maxRecDepth 100000
set_option linter.unusedSimpArgs false
def A4(x:Bool):List V:=[.bool x]
abbrev lb(l:List Bool):V:=.list false (l.map A4)
def AS(l:List Bool):List V:=[lb l]
def AR(f:MZ):List V:=[i f.size,i f.good,.bool f.dog,.bool f.shy]
def A2(x:Sp):List V:=[i (x.fam:Int),i x.size,i x.row,i x.place]
def AD(c:BC):List V:=[i c.beach.last,i c.beach.rows,i c.beach.places,i c.beach.reach,li c.beach.face,li c.beach.sun,HB c.beach.winds,.list false (c.beach.breaks.map AG),.list false (c.beach.notes.map AG),HB c.plan,.list false (c.chairs.map AS),.list false (c.fams.map AR)]
def okF(f:MZ):Prop:=MY f.size∧MY f.good
structure okC(c:BC):Prop where
 b:okB c.beach
 p:∀l∈c.plan,∀n∈l,MY n
 f:∀f∈c.fams,okF f
end Go.Proofs.Tryz.Op
namespace Go.Wind
theorem K9(c:BC):∀(a before r:List Sp),D7 c before (a++r)=(D7 c before a&&D7 c (before++a) r)
 | [],before,r=>by simp[D7]
 | x :: a,before,r=>by
  simp only[List.cons_append,D7,K9 c a (before++[x]) r,List.append_assoc,Bool.and_assoc]
  rfl
theorem fO(c:BC)(l:List Sp){j:Nat}(hj:j<l.length):D7 c [] (l.take (j+1))=(D7 c [] (l.take j)&&(FN c l[j]&&(l.take j).all (FV c l[j]))):=by
 rw[List.take_succ_eq_append_getElem hj,K9]
 simp[D7]
theorem WD(c:BC)(l:List Sp)(j:Nat)(h:D7 c [] (l.take j)=false):D7 c [] l=false:=by
 have:=K9 c (l.take j) [] (l.drop j)
 rw[List.take_append_drop,h,Bool.false_and]at this
 exact this
theorem M2(c:BC):∀(a before:List Sp),D7 c before a=true→∀x∈a,FN c x=true
 | [],_,_,_,hx=>by cases hx
 | y :: a,before,h,x,hx=>by
  simp only[D7,Bool.and_eq_true]at h
  rcases List.mem_cons.1 hx with rfl | hx
  ·exact h.1.1
  ·exact M2 c a _ h.2 x hx
theorem fP(l:List Sp){j:Nat}(hj:j<l.length):EB (l.take (j+1))=EB (l.take j)+l[j].size:=by
 rw[List.take_succ_eq_append_getElem hj]
 simp only[EB,List.map_append,List.map_cons,List.map_nil,List.sum_append,List.sum_cons,List.sum_nil,Int.add_zero]
theorem TN:∀(l:List Sp),(∀x∈l,0≤x.size∧x.size≤4)→0≤EB l∧EB l≤4*l.length
 | [],_=>by simp[EB]
 | x :: l,h=>by
  have ih:=TN l fun y hy=>h y (by simp[hy])
  have:=h x (by simp)
  simp only[EB,List.map_cons,List.sum_cons,List.length_cons]at ih ⊢
  omega
end Go.Wind
open Go Go.Pg Go.Proofs Go.Wind
namespace Go.Proofs.Tryz.Op
set_option maxRecDepth 100000
set_option linter.unusedSimpArgs false
def pG{σ:Type}(U:σ→List AB)(I:σ→Prop)(K:Nat)(f:FuncId)(cap:List V)(p:σ→List Bool→Bool)(nx:σ→List Bool→σ)(xs:List (List Bool))(c0:Nat):Prop:=∀n c fr s x,c0≤c→I s→x∈xs→(p s x=false→I (nx s x))∧∃c',c≤c'∧IQ (BQ Tryz.prog ann kn (n+K)) (some 16) ⟨c,fr,⟨U s,[]⟩⟩ f (lb x :: cap)=some ⟨c',(16,true,.bool (p s x)) :: fr,⟨U (nx s x),[]⟩⟩
theorem pH{σ:Type}(n K:Nat)(U:σ→List AB)(I:σ→Prop)(f:FuncId)(cap:List V)(hcw:cap.map weakV=cap)(p:σ→List Bool→Bool)(nx:σ→List Bool→σ)(xs:List (List Bool))(c0:Nat)(hp:pG U I K f cap p nx xs c0)(hl:xs.length≤1000):∀(d k:Nat) (s:σ) (c m:Nat),k+d=xs.length→d<m→c0≤c→I s →
  ∃(c':Nat) (j:Int),c≤c'∧0≤j∧A9 (AE Tryz.prog ann kn (n+K+50) 19) RJ (ann 19 (BN RJ)) m ⟨c,[(0,true,.list false (xs.map AS)),(1,true,.fn f [] cap),(7,true,i xs.length),(8,true,i k)],⟨U s,[]⟩⟩ =
   bif (BE p nx s (xs.drop k)).1 then some (.ret,⟨c',[(4,true,i j),(17,true,i j),(5,true,i j)],⟨U (BE p nx s (xs.drop k)).2,[]⟩⟩)
   else some (.exit 0,⟨c',[(9,true,.bool false),(0,true,.list false (xs.map AS)),(1,true,.fn f [] cap),(7,true,i xs.length),(8,true,i xs.length)],⟨U (BE p nx s (xs.drop k)).2,[]⟩⟩)
 | 0,k,s,c,m+1,hd,hm,hc0,hi=>by
  have:k=xs.length:=by omega
  subst this
  refine⟨c,0,Nat.le_refl _,by omega,?_⟩
  simp[AC,BE]
 | d+1,k,s,c,m+1,hd,hm,hc0,hi=>by
  have hk:k<xs.length:=by omega
  have hw:=BH (k:=k) (by omega)
  have nrm:∀a:Nat,n+K+a=(n+a)+K:=fun a=>by omega
  rw[AC,List.drop_eq_getElem_cons hk]
  simp only[BE]
  obtain⟨hi',c1,hc1,q⟩:=hp (n+43) c [(15,true,lb xs[k]),(14,true,.ref (AS xs[k])),(13,true,i k),(12,true,.list false (xs.map AS)),(11,true,.fn f [] cap),(0,true,.list false (xs.map AS)),(1,true,.fn f [] cap),(5,true,i k),(7,true,i xs.length),(8,true,i k)] s xs[k] hc0 hi (List.getElem_mem hk)
  generalize e:p s xs[k]=b at q hi'
  cases b with
  | true =>
   refine⟨c1,k,hc1,by omega,?_⟩
   try simp only[AS]at q
   rw[← nrm]at q
   try simp at q
   simp[hk,hw,AS,q,hcw]
  | false =>
   obtain⟨c',j,h1,h2,ih⟩:=pH n K U I f cap hcw p nx xs c0 hp hl d (k+1) (nx s xs[k]) c1 m (by omega) (by omega) (by omega) (hi' rfl)
   refine⟨c',j,by omega,h2,?_⟩
   try simp only[AS]at q ih
   rw[← nrm]at q
   try simp at q
   simp at ih
   simp[hk,hw,AS,q,ih,hcw]
theorem AD1{σ:Type}(n K:Nat)(up:σ→List AB)(loc:σ→AB)(I:σ→Prop)(f:FuncId)(cap:List V)(hcw:cap.map weakV=cap)(hco:cap.all (AL 8)=false)(p:σ→List Bool→Bool)(nx:σ→List Bool→σ)(xs:List (List Bool))(c0:Nat)(hp:pG (fun s=>up s++[loc s]) I K f cap p nx xs c0)(hl:xs.length≤40)(hsh:∀s (t:St),(up s).length+1≤t.up.length→(up s++[loc s]).map (AQ t)=up s++[loc s])(c dd:Nat)(fr:Fr)(s:σ)(hc0:c0≤c)(hi:I s) :
  ∃(c':Nat) (j:Int),c≤c'∧decide (0≤j)=(BE p nx s xs).1∧IQ (BQ Tryz.prog ann kn (n+K+100)) (some dd) ⟨c,fr,⟨up s,loc s⟩⟩ 187 [.list false (xs.map AS),.fn f [] cap]=some ⟨c',(dd,true,i j) :: fr,⟨up (BE p nx s xs).2,loc (BE p nx s xs).2⟩⟩:=by
 obtain⟨c1,j,h1,h2,q⟩:=pH (n+45) K (fun s=>up s++[loc s]) I f cap hcw p nx xs c0 hp (by omega) xs.length 0 s c (n+K+95) (by omega) (by omega) hc0 hi
 have e:n+45+K+50=n+K+95:=by omega
 rw[e]at q
 have hcl:([V.list false (xs.map AS),V.fn f [] cap]).all (AL 9)=false:=by simp[hco]
 have hs:=fun s=>hsh s ⟨up s++[loc s],[]⟩ (by simp)
 simp at hs
 rw[BK Tryz.func187 b187 rfl hcl]
 simp only[List.drop_zero]at q
 generalize (BE p nx s xs).2=s' at q ⊢
 generalize e:(BE p nx s xs).1=b at q
 cases b with
 | true =>
  refine⟨c1,j,h1,by simpa using h2,?_⟩
  simp at q
  simp[AMN,AF,q,hs]
 | false =>
  refine⟨c1,-1,h1,by simp,?_⟩
  simp at q
  simp[AMN,AF,q,hs]
theorem AWM{σ:Type}(n K:Nat)(up:σ→List AB)(loc:σ→AB)(I:σ→Prop)(f:FuncId)(cap:List V)(hcw:cap.map weakV=cap)(hco:cap.all (AL 8)=false)(p:σ→List Bool→Bool)(nx:σ→List Bool→σ)(xs:List (List Bool))(c0:Nat)(hp:pG (fun s=>up s++[loc s]++[[]]) I K f cap p nx xs c0)(hl:xs.length≤40)(hsh:∀s (t:St),(up s).length+1≤t.up.length→(up s++[loc s]).map (AQ t)=up s++[loc s])(c dd:Nat)(fr:Fr)(s:σ)(hc0:c0≤c)(hi:I s) :
  ∃c':Nat,c≤c'∧IQ (BQ Tryz.prog ann kn (n+K+200)) (some dd) ⟨c,fr,⟨up s,loc s⟩⟩ 159 [.list false (xs.map AS),.fn f [] cap]=some ⟨c',(dd,true,.bool (BE p nx s xs).1) :: fr,⟨up (BE p nx s xs).2,loc (BE p nx s xs).2⟩⟩:=by
 have hcl:([V.list false (xs.map AS),V.fn f [] cap]).all (AL 9)=false:=by simp[hco]
 have hsh2:∀s (t:St),(up s++[loc s]).length+1≤t.up.length→(up s++[loc s]++[[]]).map (AQ t)=up s++[loc s]++[[]]:=fun s t h=>by
  have:=hsh s t (by simp at h; omega)
  simp only[List.map_append,List.map_cons,List.map_nil,EP]at this ⊢
  rw[this]
 obtain⟨c1,j,h1,h2,q⟩:=AD1 (n+97) K (fun s=>up s++[loc s]) (fun _=>[]) I f cap hcw hco p nx xs c0 hp hl hsh2 c 7 [(6,true,.fn f [] cap),(5,true,.list false (xs.map AS)),(0,true,.list false (xs.map AS)),(1,true,.fn f [] cap)] s hc0 hi
 refine⟨c1,h1,?_⟩
 have e:n+97+K+100=n+K+197:=by omega
 rw[e]at q
 have hs:=fun s=>hsh s ⟨up s++[loc s],[]⟩ (by simp)
 simp at hs
 rw[BK Tryz.func159 b159 rfl hcl]
 simp[AYQ,AF,hcw,q,h2,hs]
end Go.Proofs.Tryz.Op
open Go Go.Pg Go.Proofs Go.Wind
namespace Go.Proofs.Tryz.Op
set_option maxRecDepth 100000
set_option linter.unusedSimpArgs false
theorem AIN(n K:Nat)(b:BC)(f:FuncId)(p:List Bool→Bool)(xs:List (List Bool))(hl:xs.length≤40)(hf:∀n x,x∈xs→AY Tryz.prog kn (AE Tryz.prog ann kn (n+K)) f [.agg (AD b),lb x]=some (.bool (p x)))(hh:AK Tryz.prog f=false:=by simp) :
  AY Tryz.prog kn (AE Tryz.prog ann kn (n+K+300)) 119 [.list false (xs.map AS),.fn f [.agg (AD b)] []]=some (.bool (xs.all p)):=by
 rw[AP rfl,AO Tryz.func119 A94 rfl (by simp[AD,AH,AN,AG,AS,A4,AR])]
 have hp2:pG (fun (_:Unit)=>[]++[[(3,0,AX.box [V.fn f [.agg (AD b)] []])]]++[[]]) (fun _=>True) (K+20) 160 [.ptr 0 3 0 0] (fun _ x=>!p x) (fun _ _=>()) xs 0:=by
  intro n c1 fr s x hc0 hi hx
  refine⟨fun _=>trivial,c1,by omega,?_⟩
  have q:=fun n=>hf n x hx
  have q2:=q (n+17)
  have e:n+17+K=n+K+17:=by omega
  rw[e]at q2
  simp only[AD]at q2 ⊢
  rw[show n+(K+20)=n+K+20 from by omega,List.nil_append,BK Tryz.func160 b160 rfl (by simp)]
  simp[AYS,AF,AD,AH,AN,AG,AS,A4,AR,q2,hh]
  try simp[AD,AH,AN,AG,AS,A4,AR,q2,hh]
 obtain⟨c',h1,q⟩:=AWM (n+77) (K+20) (fun _=>[]) (fun _=>[(3,0,.box [.fn f [.agg (AD b)] []])]) (fun _=>True) 160 [.ptr 0 3 0 0] (by simp) (by simp) (fun _ x=>!p x) (fun _ _=>()) xs 0 hp2 hl (by simp[AD,AH,AN,AG,AS,A4,AR]) 1 7 [(6,true,.fn 160 [] [.ptr 0 3 0 0]),(5,true,.list false (xs.map AS)),(0,true,.list false (xs.map AS)),(1,true,.fn f [.agg (AD b)] []),(3,true,.ptr 0 3 0 0)] () (Nat.zero_le _) trivial
 have e:n+77+(K+20)+200=n+K+297:=by omega
 rw[e,ET]at q
 have:=I1 p xs
 simp only[AD]at q ⊢
 simp[AYR,AF,q]
 rw[← this,Bool.not_not]
end Go.Proofs.Tryz.Op
open Go Go.Pg Go.Proofs Go.Wind
namespace Go.Proofs.Tryz.Op
set_option maxRecDepth 100000
set_option linter.unusedSimpArgs false
def pI{σ:Type}(U:σ→List AB)(I:σ→Prop)(K:Nat)(f:FuncId)(cap:List V)(p:σ→MZ→Bool)(nx:σ→MZ→σ)(xs:List (MZ))(c0:Nat):Prop:=∀n c fr s x,c0≤c→I s→x∈xs→(p s x=false→I (nx s x))∧∃c',c≤c'∧IQ (BQ Tryz.prog ann kn (n+K)) (some 16) ⟨c,fr,⟨U s,[]⟩⟩ f (.agg (AR x) :: cap)=some ⟨c',(16,true,.bool (p s x)) :: fr,⟨U (nx s x),[]⟩⟩
theorem pJ{σ:Type}(n K:Nat)(U:σ→List AB)(I:σ→Prop)(f:FuncId)(cap:List V)(hcw:cap.map weakV=cap)(p:σ→MZ→Bool)(nx:σ→MZ→σ)(xs:List (MZ))(c0:Nat)(hp:pI U I K f cap p nx xs c0)(hl:xs.length≤1000):∀(d k:Nat) (s:σ) (c m:Nat),k+d=xs.length→d<m→c0≤c→I s →
  ∃(c':Nat) (j:Int),c≤c'∧0≤j∧A9 (AE Tryz.prog ann kn (n+K+50) 19) RK (ann 19 (BN RK)) m ⟨c,[(0,true,.list false (xs.map AR)),(1,true,.fn f [] cap),(7,true,i xs.length),(8,true,i k)],⟨U s,[]⟩⟩ =
   bif (BE p nx s (xs.drop k)).1 then some (.ret,⟨c',[(4,true,i j),(17,true,i j),(5,true,i j)],⟨U (BE p nx s (xs.drop k)).2,[]⟩⟩)
   else some (.exit 0,⟨c',[(9,true,.bool false),(0,true,.list false (xs.map AR)),(1,true,.fn f [] cap),(7,true,i xs.length),(8,true,i xs.length)],⟨U (BE p nx s (xs.drop k)).2,[]⟩⟩)
 | 0,k,s,c,m+1,hd,hm,hc0,hi=>by
  have:k=xs.length:=by omega
  subst this
  refine⟨c,0,Nat.le_refl _,by omega,?_⟩
  simp[AC,BE]
 | d+1,k,s,c,m+1,hd,hm,hc0,hi=>by
  have hk:k<xs.length:=by omega
  have hw:=BH (k:=k) (by omega)
  have nrm:∀a:Nat,n+K+a=(n+a)+K:=fun a=>by omega
  rw[AC,List.drop_eq_getElem_cons hk]
  simp only[BE]
  obtain⟨hi',c1,hc1,q⟩:=hp (n+43) c [(15,true,.agg (AR xs[k])),(14,true,.ref (AR xs[k])),(13,true,i k),(12,true,.list false (xs.map AR)),(11,true,.fn f [] cap),(0,true,.list false (xs.map AR)),(1,true,.fn f [] cap),(5,true,i k),(7,true,i xs.length),(8,true,i k)] s xs[k] hc0 hi (List.getElem_mem hk)
  generalize e:p s xs[k]=b at q hi'
  cases b with
  | true =>
   refine⟨c1,k,hc1,by omega,?_⟩
   try simp only[AR]at q
   rw[← nrm]at q
   try simp at q
   simp[hk,hw,AR,q,hcw]
  | false =>
   obtain⟨c',j,h1,h2,ih⟩:=pJ n K U I f cap hcw p nx xs c0 hp hl d (k+1) (nx s xs[k]) c1 m (by omega) (by omega) (by omega) (hi' rfl)
   refine⟨c',j,by omega,h2,?_⟩
   try simp only[AR]at q ih
   rw[← nrm]at q
   try simp at q
   simp at ih
   simp[hk,hw,AR,q,ih,hcw]
theorem AD2{σ:Type}(n K:Nat)(up:σ→List AB)(loc:σ→AB)(I:σ→Prop)(f:FuncId)(cap:List V)(hcw:cap.map weakV=cap)(hco:cap.all (AL 8)=false)(p:σ→MZ→Bool)(nx:σ→MZ→σ)(xs:List (MZ))(c0:Nat)(hp:pI (fun s=>up s++[loc s]) I K f cap p nx xs c0)(hl:xs.length≤40)(hsh:∀s (t:St),(up s).length+1≤t.up.length→(up s++[loc s]).map (AQ t)=up s++[loc s])(c dd:Nat)(fr:Fr)(s:σ)(hc0:c0≤c)(hi:I s) :
  ∃(c':Nat) (j:Int),c≤c'∧decide (0≤j)=(BE p nx s xs).1∧IQ (BQ Tryz.prog ann kn (n+K+100)) (some dd) ⟨c,fr,⟨up s,loc s⟩⟩ 188 [.list false (xs.map AR),.fn f [] cap]=some ⟨c',(dd,true,i j) :: fr,⟨up (BE p nx s xs).2,loc (BE p nx s xs).2⟩⟩:=by
 obtain⟨c1,j,h1,h2,q⟩:=pJ (n+45) K (fun s=>up s++[loc s]) I f cap hcw p nx xs c0 hp (by omega) xs.length 0 s c (n+K+95) (by omega) (by omega) hc0 hi
 have e:n+45+K+50=n+K+95:=by omega
 rw[e]at q
 have hcl:([V.list false (xs.map AR),V.fn f [] cap]).all (AL 9)=false:=by simp[hco]
 have hs:=fun s=>hsh s ⟨up s++[loc s],[]⟩ (by simp)
 simp at hs
 rw[BK Tryz.func188 b188 rfl hcl]
 simp only[List.drop_zero]at q
 generalize (BE p nx s xs).2=s' at q ⊢
 generalize e:(BE p nx s xs).1=b at q
 cases b with
 | true =>
  refine⟨c1,j,h1,by simpa using h2,?_⟩
  simp at q
  simp[AMO,AF,q,hs]
 | false =>
  refine⟨c1,-1,h1,by simp,?_⟩
  simp at q
  simp[AMO,AF,q,hs]
theorem AWN{σ:Type}(n K:Nat)(up:σ→List AB)(loc:σ→AB)(I:σ→Prop)(f:FuncId)(cap:List V)(hcw:cap.map weakV=cap)(hco:cap.all (AL 8)=false)(p:σ→MZ→Bool)(nx:σ→MZ→σ)(xs:List (MZ))(c0:Nat)(hp:pI (fun s=>up s++[loc s]++[[]]) I K f cap p nx xs c0)(hl:xs.length≤40)(hsh:∀s (t:St),(up s).length+1≤t.up.length→(up s++[loc s]).map (AQ t)=up s++[loc s])(c dd:Nat)(fr:Fr)(s:σ)(hc0:c0≤c)(hi:I s) :
  ∃c':Nat,c≤c'∧IQ (BQ Tryz.prog ann kn (n+K+200)) (some dd) ⟨c,fr,⟨up s,loc s⟩⟩ 161 [.list false (xs.map AR),.fn f [] cap]=some ⟨c',(dd,true,.bool (BE p nx s xs).1) :: fr,⟨up (BE p nx s xs).2,loc (BE p nx s xs).2⟩⟩:=by
 have hcl:([V.list false (xs.map AR),V.fn f [] cap]).all (AL 9)=false:=by simp[hco]
 have hsh2:∀s (t:St),(up s++[loc s]).length+1≤t.up.length→(up s++[loc s]++[[]]).map (AQ t)=up s++[loc s]++[[]]:=fun s t h=>by
  have:=hsh s t (by simp at h; omega)
  simp only[List.map_append,List.map_cons,List.map_nil,EP]at this ⊢
  rw[this]
 obtain⟨c1,j,h1,h2,q⟩:=AD2 (n+97) K (fun s=>up s++[loc s]) (fun _=>[]) I f cap hcw hco p nx xs c0 hp hl hsh2 c 7 [(6,true,.fn f [] cap),(5,true,.list false (xs.map AR)),(0,true,.list false (xs.map AR)),(1,true,.fn f [] cap)] s hc0 hi
 refine⟨c1,h1,?_⟩
 have e:n+97+K+100=n+K+197:=by omega
 rw[e]at q
 have hs:=fun s=>hsh s ⟨up s++[loc s],[]⟩ (by simp)
 simp at hs
 rw[BK Tryz.func161 b161 rfl hcl]
 simp[AYT,AF,hcw,q,h2,hs]
end Go.Proofs.Tryz.Op
open Go Go.Pg Go.Proofs Go.Wind
namespace Go.Proofs.Tryz.Op
set_option maxRecDepth 100000
set_option linter.unusedSimpArgs false
theorem AIO(n K:Nat)(f:FuncId)(p:MZ→Bool)(xs:List (MZ))(hl:xs.length≤40)(hf:∀n x,x∈xs→AY Tryz.prog kn (AE Tryz.prog ann kn (n+K)) f [.agg (AR x)]=some (.bool (p x)))(hh:AK Tryz.prog f=false:=by simp) :
  AY Tryz.prog kn (AE Tryz.prog ann kn (n+K+300)) 120 [.list false (xs.map AR),.fn f [] []]=some (.bool (xs.all p)):=by
 rw[AP rfl,AO Tryz.func120 A95 rfl (by simp[AA,AH,AN,AG,AS,A4,AR])]
 have hp2:pI (fun (_:Unit)=>[]++[[(3,0,AX.box [V.fn f [] []])]]++[[]]) (fun _=>True) (K+20) 162 [.ptr 0 3 0 0] (fun _ x=>!p x) (fun _ _=>()) xs 0:=by
  intro n c1 fr s x hc0 hi hx
  refine⟨fun _=>trivial,c1+1,by omega,?_⟩
  have q:=fun n=>hf n x hx
  have q2:=q (n+17)
  have e:n+17+K=n+K+17:=by omega
  rw[e]at q2
  simp only[AR]at q2 ⊢
  rw[show n+(K+20)=n+K+20 from by omega,List.nil_append,BK Tryz.func162 b162 rfl (by simp)]
  simp[AYV,AF,AH,q2,hh]
  try simp[AH,q2,hh]
 obtain⟨c',h1,q⟩:=AWN (n+77) (K+20) (fun _=>[]) (fun _=>[(3,0,.box [.fn f [] []])]) (fun _=>True) 162 [.ptr 0 3 0 0] (by simp) (by simp) (fun _ x=>!p x) (fun _ _=>()) xs 0 hp2 hl (by simp[AA,AH,AN,AG,AS,A4,AR]) 1 7 [(6,true,.fn 162 [] [.ptr 0 3 0 0]),(5,true,.list false (xs.map AR)),(0,true,.list false (xs.map AR)),(1,true,.fn f [] []),(3,true,.ptr 0 3 0 0)] () (Nat.zero_le _) trivial
 have e:n+77+(K+20)+200=n+K+297:=by omega
 rw[e,ET]at q
 have:=I1 p xs
 skip
 simp[AYU,AF,q]
 rw[← this,Bool.not_not]
end Go.Proofs.Tryz.Op
open Go Go.Pg Go.Proofs Go.Wind
namespace Go.Proofs.Tryz.Op
set_option maxRecDepth 100000
set_option linter.unusedSimpArgs false
def pK{σ:Type}(U:σ→List AB)(I:σ→Prop)(K:Nat)(f:FuncId)(cap:List V)(p:σ→Sp→Bool)(nx:σ→Sp→σ)(xs:List (Sp))(c0:Nat):Prop:=∀n c fr s x,c0≤c→I s→x∈xs→(p s x=false→I (nx s x))∧∃c',c≤c'∧IQ (BQ Tryz.prog ann kn (n+K)) (some 16) ⟨c,fr,⟨U s,[]⟩⟩ f (.agg (A2 x) :: cap)=some ⟨c',(16,true,.bool (p s x)) :: fr,⟨U (nx s x),[]⟩⟩
theorem pL{σ:Type}(n K:Nat)(U:σ→List AB)(I:σ→Prop)(f:FuncId)(cap:List V)(hcw:cap.map weakV=cap)(p:σ→Sp→Bool)(nx:σ→Sp→σ)(xs:List (Sp))(c0:Nat)(hp:pK U I K f cap p nx xs c0)(hl:xs.length≤1000):∀(d k:Nat) (s:σ) (c m:Nat),k+d=xs.length→d<m→c0≤c→I s →
  ∃(c':Nat) (j:Int),c≤c'∧0≤j∧A9 (AE Tryz.prog ann kn (n+K+50) 19) RN (ann 19 (BN RN)) m ⟨c,[(0,true,.list false (xs.map A2)),(1,true,.fn f [] cap),(7,true,i xs.length),(8,true,i k)],⟨U s,[]⟩⟩ =
   bif (BE p nx s (xs.drop k)).1 then some (.ret,⟨c',[(4,true,i j),(17,true,i j),(5,true,i j)],⟨U (BE p nx s (xs.drop k)).2,[]⟩⟩)
   else some (.exit 0,⟨c',[(9,true,.bool false),(0,true,.list false (xs.map A2)),(1,true,.fn f [] cap),(7,true,i xs.length),(8,true,i xs.length)],⟨U (BE p nx s (xs.drop k)).2,[]⟩⟩)
 | 0,k,s,c,m+1,hd,hm,hc0,hi=>by
  have:k=xs.length:=by omega
  subst this
  refine⟨c,0,Nat.le_refl _,by omega,?_⟩
  simp[AC,BE]
 | d+1,k,s,c,m+1,hd,hm,hc0,hi=>by
  have hk:k<xs.length:=by omega
  have hw:=BH (k:=k) (by omega)
  have nrm:∀a:Nat,n+K+a=(n+a)+K:=fun a=>by omega
  rw[AC,List.drop_eq_getElem_cons hk]
  simp only[BE]
  obtain⟨hi',c1,hc1,q⟩:=hp (n+43) c [(15,true,.agg (A2 xs[k])),(14,true,.ref (A2 xs[k])),(13,true,i k),(12,true,.list false (xs.map A2)),(11,true,.fn f [] cap),(0,true,.list false (xs.map A2)),(1,true,.fn f [] cap),(5,true,i k),(7,true,i xs.length),(8,true,i k)] s xs[k] hc0 hi (List.getElem_mem hk)
  generalize e:p s xs[k]=b at q hi'
  cases b with
  | true =>
   refine⟨c1,k,hc1,by omega,?_⟩
   try simp only[A2]at q
   rw[← nrm]at q
   try simp at q
   simp[hk,hw,A2,q,hcw]
  | false =>
   obtain⟨c',j,h1,h2,ih⟩:=pL n K U I f cap hcw p nx xs c0 hp hl d (k+1) (nx s xs[k]) c1 m (by omega) (by omega) (by omega) (hi' rfl)
   refine⟨c',j,by omega,h2,?_⟩
   try simp only[A2]at q ih
   rw[← nrm]at q
   try simp at q
   simp at ih
   simp[hk,hw,A2,q,ih,hcw]
theorem AD3{σ:Type}(n K:Nat)(up:σ→List AB)(loc:σ→AB)(I:σ→Prop)(f:FuncId)(cap:List V)(hcw:cap.map weakV=cap)(hco:cap.all (AL 8)=false)(p:σ→Sp→Bool)(nx:σ→Sp→σ)(xs:List (Sp))(c0:Nat)(hp:pK (fun s=>up s++[loc s]) I K f cap p nx xs c0)(hl:xs.length≤40)(hsh:∀s (t:St),(up s).length+1≤t.up.length→(up s++[loc s]).map (AQ t)=up s++[loc s])(c dd:Nat)(fr:Fr)(s:σ)(hc0:c0≤c)(hi:I s) :
  ∃(c':Nat) (j:Int),c≤c'∧decide (0≤j)=(BE p nx s xs).1∧IQ (BQ Tryz.prog ann kn (n+K+100)) (some dd) ⟨c,fr,⟨up s,loc s⟩⟩ 189 [.list false (xs.map A2),.fn f [] cap]=some ⟨c',(dd,true,i j) :: fr,⟨up (BE p nx s xs).2,loc (BE p nx s xs).2⟩⟩:=by
 obtain⟨c1,j,h1,h2,q⟩:=pL (n+45) K (fun s=>up s++[loc s]) I f cap hcw p nx xs c0 hp (by omega) xs.length 0 s c (n+K+95) (by omega) (by omega) hc0 hi
 have e:n+45+K+50=n+K+95:=by omega
 rw[e]at q
 have hcl:([V.list false (xs.map A2),V.fn f [] cap]).all (AL 9)=false:=by simp[hco]
 have hs:=fun s=>hsh s ⟨up s++[loc s],[]⟩ (by simp)
 simp at hs
 rw[BK Tryz.func189 b189 rfl hcl]
 simp only[List.drop_zero]at q
 generalize (BE p nx s xs).2=s' at q ⊢
 generalize e:(BE p nx s xs).1=b at q
 cases b with
 | true =>
  refine⟨c1,j,h1,by simpa using h2,?_⟩
  simp at q
  simp[AMP,AF,q,hs]
 | false =>
  refine⟨c1,-1,h1,by simp,?_⟩
  simp at q
  simp[AMP,AF,q,hs]
theorem AWO{σ:Type}(n K:Nat)(up:σ→List AB)(loc:σ→AB)(I:σ→Prop)(f:FuncId)(cap:List V)(hcw:cap.map weakV=cap)(hco:cap.all (AL 8)=false)(p:σ→Sp→Bool)(nx:σ→Sp→σ)(xs:List (Sp))(c0:Nat)(hp:pK (fun s=>up s++[loc s]++[[]]) I K f cap p nx xs c0)(hl:xs.length≤40)(hsh:∀s (t:St),(up s).length+1≤t.up.length→(up s++[loc s]).map (AQ t)=up s++[loc s])(c dd:Nat)(fr:Fr)(s:σ)(hc0:c0≤c)(hi:I s) :
  ∃c':Nat,c≤c'∧IQ (BQ Tryz.prog ann kn (n+K+200)) (some dd) ⟨c,fr,⟨up s,loc s⟩⟩ 171 [.list false (xs.map A2),.fn f [] cap]=some ⟨c',(dd,true,.bool (BE p nx s xs).1) :: fr,⟨up (BE p nx s xs).2,loc (BE p nx s xs).2⟩⟩:=by
 have hcl:([V.list false (xs.map A2),V.fn f [] cap]).all (AL 9)=false:=by simp[hco]
 have hsh2:∀s (t:St),(up s++[loc s]).length+1≤t.up.length→(up s++[loc s]++[[]]).map (AQ t)=up s++[loc s]++[[]]:=fun s t h=>by
  have:=hsh s t (by simp at h; omega)
  simp only[List.map_append,List.map_cons,List.map_nil,EP]at this ⊢
  rw[this]
 obtain⟨c1,j,h1,h2,q⟩:=AD3 (n+97) K (fun s=>up s++[loc s]) (fun _=>[]) I f cap hcw hco p nx xs c0 hp hl hsh2 c 7 [(6,true,.fn f [] cap),(5,true,.list false (xs.map A2)),(0,true,.list false (xs.map A2)),(1,true,.fn f [] cap)] s hc0 hi
 refine⟨c1,h1,?_⟩
 have e:n+97+K+100=n+K+197:=by omega
 rw[e]at q
 have hs:=fun s=>hsh s ⟨up s++[loc s],[]⟩ (by simp)
 simp at hs
 rw[BK Tryz.func171 b171 rfl hcl]
 simp[AYZ,AF,hcw,q,h2,hs]
end Go.Proofs.Tryz.Op
open Go Go.Pg Go.Proofs Go.Wind
namespace Go.Proofs.Tryz.Op
set_option maxRecDepth 100000
set_option linter.unusedSimpArgs false
theorem ALX{σ:Type}(n K L:Nat)(up:σ→List AB)(loc:σ→AB)(hL:∀s,(up s).length=L)(I:σ→Prop)(f:FuncId)(cap:List V)(hcw:cap.map weakV=cap)(hco:cap.all (AL 8)=false)(p:σ→Sp→Bool)(nx:σ→Sp→σ)(xs:List (Sp))(hl:xs.length≤40)
  (hsh:∀s (t:St),L+1≤t.up.length→(up s++[loc s]).map (AQ t)=up s++[loc s]) (hcap:∀(t:St) γ,L+1≤t.up.length→AQ t [(3,γ,AX.box [V.fn f [] cap])]=[(3,γ,AX.box [V.fn f [] cap])]) (c:Nat)
  (hp:∀n c1 γ fr s x,c<c1→I s→x∈xs→(p s x=true→I (nx s x))∧∃c',c1≤c'∧IQ (BQ Tryz.prog ann kn (n+K)) (some 6) ⟨c1,fr,⟨up s++[loc s]++[[(3,c,AX.box [V.fn f [] cap])]]++[[]]++[[]],[(2,γ,.box (A2 x))]⟩⟩ f (.agg (A2 x) :: cap)=some ⟨c',(6,true,.bool (p s x)) :: fr,⟨up (nx s x)++[loc (nx s x)]++[[(3,c,AX.box [V.fn f [] cap])]]++[[]]++[[]],[(2,γ,.box (A2 x))]⟩⟩) (dd:Nat) (fr:Fr) (s:σ) (hi:I s) :
  ∃c':Nat,c≤c'∧IQ (BQ Tryz.prog ann kn (n+K+300)) (some dd) ⟨c,fr,⟨up s,loc s⟩⟩ 137 [.list false (xs.map A2),.fn f [] cap]=some ⟨c',(dd,true,.bool (!(BE (fun s x=>!p s x) nx s xs).1)) :: fr,⟨up (BE (fun s x=>!p s x) nx s xs).2,loc (BE (fun s x=>!p s x) nx s xs).2⟩⟩:=by
 have hcl:([V.list false (xs.map A2),V.fn f [] cap]).all (AL 9)=false:=by simp[QN,hco]
 have hp2:pK (fun s=>up s++[loc s]++[[(3,c,AX.box [V.fn f [] cap])]]++[[]]) I (K+20) 172 [.ptr (L+1) 3 c 0] (fun s x=>!p s x) nx xs (c+1):=by
  have hcap':∀t:St,L+1≤t.up.length→AQ t [(3,c,AX.box [V.fn f [] cap])]=[(3,c,AX.box [V.fn f [] cap])]:=fun t h=>hcap t c h
  intro n c1 fr s x hc0 hi hx
  obtain⟨h1,c',h2,q⟩:=hp (n+17) (c1+1) c1 [(5,true,.agg (A2 x)),(4,true,.fn f [] cap),(0,true,.agg (A2 x)),(1,true,.ptr (L+1) 3 c 0),(2,true,.ptr (L+4) 2 c1 0)] s x (by omega) hi hx
  refine⟨fun h=>h1 (by simpa using h),c',by omega,?_⟩
  have e:n+17+K=n+K+17:=by omega
  rw[e]at q
  rw[show n+(K+20)=n+K+20 from by omega,BK Tryz.func172 b172 rfl (by simp)]
  generalize hB:[(3,c,AX.box [V.fn f [] cap])]=B at q hcap'
  have hB1:AB.get B 3=some (c,.box [.fn f [] cap]):=by rw[← hB]; rfl
  have hg:(up s++[loc s]++[B]++[[]])[L+1]? = some B:=by
   simp only[List.append_assoc]
   rw[List.getElem?_append_right (by rw[hL]; omega)]
   simp[hL]
  have hs1:∀s (t:St),L+1≤t.up.length→List.map (AQ t) (up s)=up s∧AQ t (loc s)=loc s:=fun s t h=>by simpa using hsh s t h
  have hu:∀(l:List AB) a b,DA (l++[a,b,[],[]])=some (l++[a,b,[]],[]):=fun l a b=>by
   have:=GA ([]:AB) (l++[a,b,[]])
   rwa [List.append_assoc]at this
  simp only[List.append_assoc,List.cons_append,List.nil_append,A2]at q hg ⊢
  simp[hu,AY1,AF,hcw,q,hg,hL,hB1,(hs1 _ _ _).1,(hs1 _ _ _).2,hcap']
 have hsh2:∀s (t:St),(up s++[loc s]).length+1≤t.up.length→(up s++[loc s]++[[(3,c,AX.box [V.fn f [] cap])]]).map (AQ t)=up s++[loc s]++[[(3,c,AX.box [V.fn f [] cap])]]:=fun s t h=>by
  have h':L+1≤t.up.length:=by simp[hL]at h; omega
  have:=hsh s t h'
  have h3:=hcap t c h'
  rw[List.map_append,this]
  simp only[List.map_cons,List.map_nil,h3]
 obtain⟨c',h1,q⟩:=AWO (n+77) (K+20) (fun s=>up s++[loc s]) (fun _=>[(3,c,AX.box [V.fn f [] cap])]) I 172 [.ptr (L+1) 3 c 0] (by simp) (by simp) (fun s x=>!p s x) nx xs (c+1) hp2 hl hsh2 (c+1) 7 [(6,true,.fn 172 [] [.ptr (L+1) 3 c 0]),(5,true,.list false (xs.map A2)),(0,true,.list false (xs.map A2)),(1,true,.fn f [] cap),(3,true,.ptr (L+1) 3 c 0)] s (Nat.le_refl _) hi
 refine⟨c',by omega,?_⟩
 have e:n+77+(K+20)+200=n+K+297:=by omega
 rw[e]at q
 have hs1:∀s (t:St),L+1≤t.up.length→List.map (AQ t) (up s)=up s∧AQ t (loc s)=loc s:=fun s t h=>by simpa using hsh s t h
 rw[BK Tryz.func137 b137 rfl hcl]
 try simp only[List.length_append,List.length_cons,List.length_nil]at q ⊢
 simp[AY0,AF,hcw,hL,q,(hs1 _ _ _).1,(hs1 _ _ _).2]
end Go.Proofs.Tryz.Op
