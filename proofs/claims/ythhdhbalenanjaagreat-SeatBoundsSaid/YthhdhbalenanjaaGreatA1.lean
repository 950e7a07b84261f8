/- A case of families on a beach: what is valid, and what a seating is, by the program and by the reference. No program in sight. -/
import Derived.Test.YthhdhbalenanjaaGreatL
import Derived.Test.YthhdhbalenanjaaGreatI1
import Derived.Test.YthhdhbalenanjaaGreatX1
import Derived.Test.YthhdhbalenanjaaGreatW4
import Derived.Test.YthhdhbalenanjaaGreatW3
import Derived.Test.YthhdhbalenanjaaGreatW2
import Derived.Test.YthhdhbalenanjaaGreatFz
set_option maxRecDepth 100000
set_option linter.unusedSimpArgs false
namespace Go.Wind
structure L9 where
 size:Int
 good:Int
 dog:Bool
 shy:Bool
deriving DecidableEq
structure A3 where
 beach:AJ
 plan:List (List Int)
 chairs:List (List Bool)
 fams:List L9
def KJ(f:L9):Bool:=FU f.size 1 4&&FU f.good 0 5
def G5(c:A3):Bool:=decide ((c.chairs.length:Int)=c.beach.rows)&&c.chairs.all (fun l=>decide ((l.length:Int)=c.beach.places))
def DM(c:A3):Int :=
 if 3<c.fams.length then 3
 else if CE c.beach≠0 then CE c.beach
 else if DJ c.beach c.plan=false then 2
 else if BJ c.beach=[] then 11
 else if G5 c=false then 1
 else if c.fams.all KJ=false then 1 else 0
structure DW(c:A3):Prop where
 be:Valid c.beach
 pl:DJ c.beach c.plan=true
 tr:BJ c.beach≠[]
 fl:c.fams.length≤3
 ch:(c.chairs.length:Int)=c.beach.rows
 cr:∀l∈c.chairs,(l.length:Int)=c.beach.places
 fo:∀f∈c.fams,(1≤f.size∧f.size≤4)∧0≤f.good∧f.good≤5
theorem K9{c:A3}(h:DM c=0):DW c:=by
 unfold DM at h;split at h
 ·cases h
 rename_i h1;split at h
 ·rename_i h2;exact absurd h h2
 rename_i h2;split at h
 ·cases h
 rename_i h3;split at h
 ·cases h
 rename_i h4;split at h
 ·cases h
 rename_i h5;split at h
 ·cases h
 rename_i h6;have hb:CE c.beach=0:=Classical.byContradiction fun hh=>h2 hh;have h5:G5 c=true:=by simpa using h5
 have h6:c.fams.all KJ=true:=by simpa using h6
 simp only[G5,Bool.and_eq_true,decide_eq_true_eq,List.all_eq_true]at h5;refine⟨OC hb,by simpa using h3,h4,by omega,h5.1,h5.2,fun f hf=>?_⟩;have:=List.all_eq_true.1 h6 f hf;simp only[KJ,Bool.and_eq_true,DV]at this;exact this
structure Sp where
 fam:Nat
 size:Int
 row:Int
 place:Int
deriving DecidableEq
def NO(c:A3)(k:Nat):L9:=c.fams.getD k ⟨0,0,false,false⟩
def KK(c:A3)(a b:Nat):Bool:=decide (a≠b)&&((NO c a).shy&&(NO c b).dog||(NO c a).dog&&(NO c b).shy)
def F8(c:A3)(x:Sp):Bool:=FU x.row 0 (c.beach.rows-1)&&FU x.place 0 (c.beach.places-x.size)
def fB(x y:Sp):Int:=max (x.place-y.place-y.size) (y.place-x.place-x.size)
def GH(c:A3)(x y:Sp):Bool:=decide (x.row≠y.row)||(decide (0<fB x y)||(decide (fB x y=0)&&!KK c x.fam y.fam))
def GF(c:A3):Nat:=(c.chairs.map fun l=>l.count true).sum
def EV(l:List Sp):Int:=(l.map Sp.size).sum
def EP(c:A3):List Sp→List Sp→Bool
 |_,[]=>true
 |before,x::r=>F8 c x&&before.all (GH c x)&&EP c (before++[x]) r
def KL(c:A3)(l:List Sp):Bool:=EP c [] l&&decide (EV l≤GF c)
def IC(k:Nat):List L9→List (Int×Int)→List Sp
 |f::fs,s::ss=>⟨k,f.size,s.1,s.2⟩::IC (k+1) fs ss
 |_,_=>[]
def AY(c:A3)(H3:List (Int×Int)):List Sp:=IC 0 c.fams H3
def DX(c:A3)(H3:List (Int×Int)):Bool:=decide (H3.length=c.fams.length)&&KL c (AY c H3)
def QV(c:A3)(x y:Sp):Bool:=(List.range y.size.toNat).any fun a=>(List.range x.size.toNat).any fun b=>
 let d:=y.place+(a:Int)-x.place-(b:Int)
 decide (d=0)||((decide (d=1)||decide (d = -1))&&KK c y.fam x.fam)
def iT(c:A3)(before:List Sp)(x:Sp):Bool:=F8 c x&&before.all fun y=>decide (y.row≠x.row)||!QV c x y
def sK(c:A3):List Sp→List Sp→Bool
 |_,[]=>true
 |before,x::r=>iT c before x&&sK c (before++[x]) r
theorem wJ(c:A3)(a b:Nat):KK c a b=KK c b a:=by unfold KK;have:decide (a≠b)=decide (b≠a):=decide_eq_decide.2 ⟨Ne.symm,Ne.symm⟩;rw[this];cases (NO c a).shy<;>cases (NO c b).dog<;>cases (NO c a).dog<;>cases (NO c b).shy<;>simp
theorem wK{c:A3}{x y:Sp}(hx:1≤x.size)(hy:1≤y.size):QV c x y=true↔fB x y<0∨(fB x y=0∧KK c x.fam y.fam=true):=by
 unfold QV fB;simp only[List.any_eq_true,List.mem_range,Bool.or_eq_true,Bool.and_eq_true,decide_eq_true_eq,wJ c y.fam x.fam];constructor
 ·rintro ⟨a,ha,b,hb,h|⟨h,hm⟩⟩
  ·left;omega
  ·by_cases h0:max (x.place-y.place-y.size) (y.place-x.place-x.size)=0
   ·exact .inr ⟨h0,hm⟩
   ·left;omega
 ·rintro (h|⟨h,hm⟩)
  ·by_cases hp:x.place≤y.place
   ·exact⟨0,by omega,(y.place-x.place).toNat,by omega,.inl (by omega)⟩
   ·exact⟨(x.place-y.place).toNat,by omega,0,by omega,.inl (by omega)⟩
  ·by_cases hp:x.place≤y.place
   ·exact⟨0,by omega,(x.size-1).toNat,by omega,.inr ⟨.inl (by omega),hm⟩⟩
   ·exact⟨(y.size-1).toNat,by omega,0,by omega,.inr ⟨.inr (by omega),hm⟩⟩
theorem oL{c:A3}{before:List Sp}{x:Sp}(hx:1≤x.size)(hb:∀y∈before,1≤y.size):iT c before x=(F8 c x&&before.all (GH c x)):=by
 unfold iT;congr 1;rw[Bool.eq_iff_iff,List.all_eq_true,List.all_eq_true];refine forall_congr' fun y=>forall_congr' fun hy=>?_;have h:=wK (c:=c) hx (hb y hy);unfold GH;simp only[Bool.or_eq_true,Bool.and_eq_true,decide_eq_true_eq,Bool.not_eq_true',←Bool.not_eq_true];rw[h];have e:(y.row≠x.row)↔(x.row≠y.row):=⟨Ne.symm,Ne.symm⟩;rw[e];constructor
 ·rintro (h1|h1)
  ·exact .inl h1
  ·refine .inr ?_;by_cases h0:0<fB x y
   ·exact .inl h0
   ·exact .inr ⟨by omega,fun hm=>h1 (.inr ⟨by omega,hm⟩)⟩
 ·rintro (h1|h1|⟨h1,h2⟩)
  ·exact .inl h1
  ·exact .inr fun h3=>by rcases h3 with h3|⟨h3,_⟩<;>omega
  ·exact .inr fun h3=>by
    rcases h3 with h3|⟨_,h3⟩
    ·omega
    ·exact h2 h3
theorem C6:∀{k:Nat} {fs:List L9} {ss:List (Int×Int)},ss.length=fs.length→(IC k fs ss).length=fs.length
 |_,[],_,_=>rfl
 |_,_::_,[],h=>by simp at h
 |k,f::fs,s::ss,h=>by simp only[IC,List.length_cons,C6 (k:=k+1) (fs:=fs) (ss:=ss) (by simpa using h)]
theorem RL:∀{k:Nat} {fs:List L9} {ss:List (Int×Int)},ss.length=fs.length→EV (IC k fs ss)=(fs.map L9.size).sum
 |_,[],_,_=>rfl
 |_,_::_,[],h=>by simp at h
 |k,f::fs,s::ss,h=>by have ih:=RL (k:=k+1) (fs:=fs) (ss:=ss) (by simpa using h);unfold EV at ih⊢;simp only[IC,List.map_cons,List.sum_cons,ih]
theorem NP:∀{k:Nat} {fs:List L9} {ss:List (Int×Int)} (j:Nat) (h1:j<fs.length) (h2:j<ss.length) (h3:j<(IC k fs ss).length),(IC k fs ss)[j]=⟨k+j,fs[j].size,ss[j].1,ss[j].2⟩
 |_,[],_,_,h1,_,_=>by simp at h1
 |_,_::_,[],_,_,h2,_=>by simp at h2
 |k,f::fs,s::ss,0,_,_,_=>rfl
 |k,f::fs,s::ss,j+1,h1,h2,h3=>by simp only[IC,List.getElem_cons_succ];rw[NP j (by simpa using h1) (by simpa using h2) (by simpa [IC]using h3),show k+1+j=k+(j+1) by omega]
def A9G(c:A3)(H3:List (Int×Int)):Bool:=decide (H3.length=c.fams.length)&&(decide ((c.fams.map L9.size).sum≤(GF c:Int))&&sK c [] (AY c H3))
def JM(hours:List (List EI))(x:Sp):Int:=H7 (fun p=>((hours.getD x.row.toNat []).getD (x.place.toNat+p) ⟨0,0,0⟩).good) x.size.toNat
structure iU where
 sun:Int
 carried:Int
 enough:Bool
deriving DecidableEq
def AAK(sure:List (List Int))(r p:Int):Int:=(sure.getD r.toNat []).getD p.toNat 0
def AGS(c:A3)(r p:Int):Bool:=(c.chairs.getD r.toNat []).getD p.toNat false
def oM(c:A3)(sure:List (List Int))(x:Sp):iU :=
  ⟨H7 (fun p=>AAK sure x.row (x.place+(p:Int))) x.size.toNat,
   H7 (fun p=>if AGS c x.row (x.place+(p:Int))=true then 0 else 1) x.size.toNat,
   (List.range x.size.toNat).all fun p=>decide ((NO c x.fam).good≤AAK sure x.row (x.place+(p:Int)))⟩
def AO5(c:A3)(sure:List (List Int)):List (Nat×Int)→List Sp→List (List Sp)
 |[],out=>[out]
 |g::gs,out=>(List.range c.beach.rows.toNat).flatMap fun (r:Nat)=>(List.range (c.beach.places-g.2+1).toNat).flatMap fun (p:Nat)=>
  if ((oM c sure ⟨g.1,g.2,(r:Int),(p:Int)⟩).enough&&out.all (GH c ⟨g.1,g.2,(r:Int),(p:Int)⟩))=true then AO5 c sure gs (out++[⟨g.1,g.2,(r:Int),(p:Int)⟩]) else[]
def AAL(c:A3)(sure:List (List Int)):List (Nat×Int)→List Sp→List (List Sp)
 |[],out=>[out]
 |g::gs,out=>(List.range c.beach.rows.toNat).flatMap fun (r:Nat)=>(List.range c.beach.places.toNat).flatMap fun (p:Nat)=>
  if (iT c out ⟨g.1,g.2,(r:Int),(p:Int)⟩&&(oM c sure ⟨g.1,g.2,(r:Int),(p:Int)⟩).enough)=true then AAL c sure gs (out++[⟨g.1,g.2,(r:Int),(p:Int)⟩]) else[]
def AZ0(c:A3)(sure:List (List Int))(l:List Sp):iU:=l.foldl (fun t x=>let s:=oM c sure x;⟨t.sun+s.sun,t.carried+s.carried,t.enough&&s.enough⟩) ⟨0,0,true⟩
def AO6(c:A3)(sure:List (List Int))(acc:Option (List Sp×iU))(l:List Sp):Option (List Sp×iU) :=
 let s:=AZ0 c sure l
 match acc with
 |some (b,t)=>if s.sun<t.sun∨(s.sun=t.sun∧t.carried≤s.carried) then some (b,t) else some (l,s)
 |none=>some (l,s)
def BIB(c:A3)(sure:List (List Int))(ls:List (List Sp)):Option (List Sp×iU):=ls.foldl (AO6 c sure) none
def AO7(c:A3)(sure:List (List Int))(acc:Int×Int)(l:List Sp):Int×Int :=
 let s:=AZ0 c sure l
 if acc.1<s.sun∨(s.sun=acc.1∧s.carried<acc.2) then(s.sun,s.carried) else acc
def BCP(c:A3)(sure:List (List Int))(ls:List (List Sp)):Int×Int:=ls.foldl (AO7 c sure) (-1,0)
end Go.Wind
open Go Go.Pg Go.Proofs Go.Wind
namespace Go.Proofs.Tryz.Op
def A0(x:Bool):List V:=[.bool x]
abbrev lb(l:List Bool):V:=.list false (l.map A0)
def AR(l:List Bool):List V:=[lb l]
def AO(f:L9):List V:=[i f.size,i f.good,.bool f.dog,.bool f.shy]
def AX(x:Sp):List V:=[i (x.fam:Int),i x.size,i x.row,i x.place]
def AD(c:A3):List V:=[i c.beach.last,i c.beach.rows,i c.beach.places,i c.beach.reach,li c.beach.face,li c.beach.sun,GN c.beach.winds,.list false (c.beach.breaks.map AG),.list false (c.beach.notes.map AG),GN c.plan,.list false (c.chairs.map AR),.list false (c.fams.map AO)]
def okF(f:L9):Prop:=K8 f.size∧K8 f.good
structure okC(c:A3):Prop where
 b:okB c.beach
 p:∀l∈c.plan,∀n∈l,K8 n
 f:∀f∈c.fams,okF f
end Go.Proofs.Tryz.Op
namespace Go.Wind
theorem MA(c:A3):∀(a before r:List Sp),EP c before (a++r)=(EP c before a&&EP c (before++a) r)
 |[],before,r=>by simp[EP]
 |x::a,before,r=>by simp only[List.cons_append,EP,MA c a (before++[x]) r,List.append_assoc,Bool.and_assoc];rfl
theorem iV(c:A3)(l:List Sp){j:Nat}(hj:j<l.length):EP c [] (l.take (j+1))=(EP c [] (l.take j)&&(F8 c l[j]&&(l.take j).all (GH c l[j]))):=by rw[List.take_succ_eq_append_getElem hj,MA];simp[EP]
theorem XD(c:A3)(l:List Sp)(j:Nat)(h:EP c [] (l.take j)=false):EP c [] l=false:=by have:=MA c (l.take j) [] (l.drop j);rw[List.take_append_drop,h,Bool.false_and]at this;exact this
theorem NQ(c:A3):∀(a before:List Sp),EP c before a=true→∀x∈a,F8 c x=true
 |[],_,_,_,hx=>by cases hx
 |y::a,before,h,x,hx=>by
  simp only[EP,Bool.and_eq_true]at h;rcases List.mem_cons.1 hx with rfl|hx
  ·exact h.1.1
  ·exact NQ c a _ h.2 x hx
theorem iW(l:List Sp){j:Nat}(hj:j<l.length):EV (l.take (j+1))=EV (l.take j)+l[j].size:=by rw[List.take_succ_eq_append_getElem hj];simp only[EV,List.map_append,List.map_cons,List.map_nil,List.sum_append,List.sum_cons,List.sum_nil,Int.add_zero]
theorem UN:∀(l:List Sp),(∀x∈l,0≤x.size∧x.size≤4)→0≤EV l∧EV l≤4*l.length
 |[],_=>by simp[EV]
 |x::l,h=>by have ih:=UN l fun y hy=>h y (by simp[hy]);have:=h x (by simp);simp only[EV,List.map_cons,List.sum_cons,List.length_cons]at ih⊢;omega
end Go.Wind
namespace Go.Proofs.Tryz.Op
def sL{σ:Type}(U:σ→List AA)(I:σ→Prop)(K:Nat)(f:FuncId)(cap:List V)(p:σ→List Bool→Bool)(nx:σ→List Bool→σ)(xs:List (List Bool))(c0:Nat):Prop:=∀n c fr s x,c0≤c→I s→x∈xs→(p s x=false→I (nx s x))∧∃c',c≤c'∧G4 (BN Tryz.prog ann kn (n+K)) (some 16) ⟨c,fr,⟨U s,[]⟩⟩ f (lb x::cap)=some ⟨c',(16,true,.bool (p s x))::fr,⟨U (nx s x),[]⟩⟩
theorem sM{σ:Type}(n K:Nat)(U:σ→List AA)(I:σ→Prop)(f:FuncId)(cap:List V)(hcw:cap.map weakV=cap)(p:σ→List Bool→Bool)(nx:σ→List Bool→σ)(xs:List (List Bool))(c0:Nat)(hp:sL U I K f cap p nx xs c0)(hl:xs.length≤1000):∀(d k:Nat) (s:σ) (c m:Nat),k+d=xs.length→d<m→c0≤c→I s →
  ∃(c':Nat) (j:Int),c≤c'∧0≤j∧BC (AE Tryz.prog ann kn (n+K+50) 19) SK (ann 19 (BR SK)) m ⟨c,[(0,true,.list false (xs.map AR)),(1,true,.fn f [] cap),(7,true,i xs.length),(8,true,i k)],⟨U s,[]⟩⟩ =
   bif (BB p nx s (xs.drop k)).1 then some (.ret,⟨c',[(4,true,i j),(17,true,i j),(5,true,i j)],⟨U (BB p nx s (xs.drop k)).2,[]⟩⟩)
   else some (.exit 0,⟨c',[(9,true,.bool false),(0,true,.list false (xs.map AR)),(1,true,.fn f [] cap),(7,true,i xs.length),(8,true,i xs.length)],⟨U (BB p nx s (xs.drop k)).2,[]⟩⟩)
 |0,k,s,c,m+1,hd,hm,hc0,hi=>by
  have:k=xs.length:=by omega
  subst this;refine⟨c,0,Nat.le_refl _,by omega,?_⟩;simp[AC,BB]
 |d+1,k,s,c,m+1,hd,hm,hc0,hi=>by
  have hk:k<xs.length:=by omega
  have hw:=BH (k:=k) (by omega);have nrm:∀a:Nat,n+K+a=(n+a)+K:=fun a=>by omega
  rw[AC,List.drop_eq_getElem_cons hk];simp only[BB];obtain⟨hi',c1,hc1,q⟩:=hp (n+43) c [(15,true,lb xs[k]),(14,true,.ref (AR xs[k])),(13,true,i k),(12,true,.list false (xs.map AR)),(11,true,.fn f [] cap),(0,true,.list false (xs.map AR)),(1,true,.fn f [] cap),(5,true,i k),(7,true,i xs.length),(8,true,i k)] s xs[k] hc0 hi (List.getElem_mem hk);generalize e:p s xs[k]=b at q hi';cases b with
  |true=>
   refine⟨c1,k,hc1,by omega,?_⟩
   try simp only[AR]at q
   rw[←nrm]at q
   try simp at q
   simp[hk,hw,AR,q,hcw]
  |false=>
   obtain⟨c',j,h1,h2,ih⟩:=sM n K U I f cap hcw p nx xs c0 hp hl d (k+1) (nx s xs[k]) c1 m (by omega) (by omega) (by omega) (hi' rfl)
   refine⟨c',j,by omega,h2,?_⟩
   try simp only[AR]at q ih
   rw[←nrm]at q
   try simp at q
   simp at ih
   simp[hk,hw,AR,q,ih,hcw]
theorem AGT{σ:Type}(n K:Nat)(up:σ→List AA)(loc:σ→AA)(I:σ→Prop)(f:FuncId)(cap:List V)(hcw:cap.map weakV=cap)(hco:cap.all (AK 8)=false)(p:σ→List Bool→Bool)(nx:σ→List Bool→σ)(xs:List (List Bool))(c0:Nat)(hp:sL (fun s=>up s++[loc s]) I K f cap p nx xs c0)(hl:xs.length≤40)(hsh:∀s (t:St),(up s).length+1≤t.up.length→(up s++[loc s]).map (AL t)=up s++[loc s])(c dd:Nat)(fr:Fr)(s:σ)(hc0:c0≤c)(hi:I s) :
  ∃(c':Nat) (j:Int),c≤c'∧decide (0≤j)=(BB p nx s xs).1∧G4 (BN Tryz.prog ann kn (n+K+100)) (some dd) ⟨c,fr,⟨up s,loc s⟩⟩ 187 [.list false (xs.map AR),.fn f [] cap]=some ⟨c',(dd,true,i j)::fr,⟨up (BB p nx s xs).2,loc (BB p nx s xs).2⟩⟩:=by
 obtain⟨c1,j,h1,h2,q⟩:=sM (n+45) K (fun s=>up s++[loc s]) I f cap hcw p nx xs c0 hp (by omega) xs.length 0 s c (n+K+95) (by omega) (by omega) hc0 hi
 have e:n+45+K+50=n+K+95:=by omega
 rw[e]at q
 have hcl:([V.list false (xs.map AR),V.fn f [] cap]).all (AK 9)=false:=by simp[hco]
 have hs:=fun s=>hsh s ⟨up s++[loc s],[]⟩ (by simp)
 simp at hs
 rw[A7 Tryz.func187 b187 rfl hcl]
 simp only[List.drop_zero]at q
 generalize (BB p nx s xs).2=s' at q⊢
 generalize e:(BB p nx s xs).1=b at q
 cases b with
 |true=>
  refine⟨c1,j,h1,by simpa using h2,?_⟩
  simp at q
  simp[APY,AF,q,hs]
 |false=>
  refine⟨c1,-1,h1,by simp,?_⟩
  simp at q
  simp[APY,AF,q,hs]
theorem AZ1{σ:Type}(n K:Nat)(up:σ→List AA)(loc:σ→AA)(I:σ→Prop)(f:FuncId)(cap:List V)(hcw:cap.map weakV=cap)(hco:cap.all (AK 8)=false)(p:σ→List Bool→Bool)(nx:σ→List Bool→σ)(xs:List (List Bool))(c0:Nat)(hp:sL (fun s=>up s++[loc s]++[[]]) I K f cap p nx xs c0)(hl:xs.length≤40)(hsh:∀s (t:St),(up s).length+1≤t.up.length→(up s++[loc s]).map (AL t)=up s++[loc s])(c dd:Nat)(fr:Fr)(s:σ)(hc0:c0≤c)(hi:I s) :
  ∃c':Nat,c≤c'∧G4 (BN Tryz.prog ann kn (n+K+200)) (some dd) ⟨c,fr,⟨up s,loc s⟩⟩ 159 [.list false (xs.map AR),.fn f [] cap]=some ⟨c',(dd,true,.bool (BB p nx s xs).1)::fr,⟨up (BB p nx s xs).2,loc (BB p nx s xs).2⟩⟩:=by
 have hcl:([V.list false (xs.map AR),V.fn f [] cap]).all (AK 9)=false:=by simp[hco]
 have hsh2:∀s (t:St),(up s++[loc s]).length+1≤t.up.length→(up s++[loc s]++[[]]).map (AL t)=up s++[loc s]++[[]]:=fun s t h=>by have:=hsh s t (by simp at h;omega);simp only[List.map_append,List.map_cons,List.map_nil,C5]at this⊢;rw[this]
 obtain⟨c1,j,h1,h2,q⟩:=AGT (n+97) K (fun s=>up s++[loc s]) (fun _=>[]) I f cap hcw hco p nx xs c0 hp hl hsh2 c 7 [(6,true,.fn f [] cap),(5,true,.list false (xs.map AR)),(0,true,.list false (xs.map AR)),(1,true,.fn f [] cap)] s hc0 hi
 refine⟨c1,h1,?_⟩
 have e:n+97+K+100=n+K+197:=by omega
 rw[e]at q
 have hs:=fun s=>hsh s ⟨up s++[loc s],[]⟩ (by simp)
 simp at hs
 rw[A7 Tryz.func159 b159 rfl hcl]
 simp[A13,AF,hcw,q,h2,hs]
theorem ALQ(n K:Nat)(b:A3)(f:FuncId)(p:List Bool→Bool)(xs:List (List Bool))(hl:xs.length≤40)(hf:∀n x,x∈xs→AW Tryz.prog kn (AE Tryz.prog ann kn (n+K)) f [.agg (AD b),lb x]=some (.bool (p x)))(hh:BE Tryz.prog f=false:=by simp) :
  AW Tryz.prog kn (AE Tryz.prog ann kn (n+K+300)) 119 [.list false (xs.map AR),.fn f [.agg (AD b)] []]=some (.bool (xs.all p)):=by
 rw[AQ rfl,AP Tryz.func119 BDW rfl (by simp[AD,AH,AM,AG,AR,A0,AO])]
 have hp2:sL (fun (_:Unit)=>[]++[[(3,0,AZ.box [V.fn f [.agg (AD b)] []])]]++[[]]) (fun _=>True) (K+20) 160 [.ptr 0 3 0 0] (fun _ x=>!p x) (fun _ _=>()) xs 0:=by
  intro n c1 fr s x hc0 hi hx;refine⟨fun _=>trivial,c1,by omega,?_⟩;have q:=fun n=>hf n x hx;have q2:=q (n+17);have e:n+17+K=n+K+17:=by omega
  rw[e]at q2;simp only[AD]at q2⊢;rw[show n+(K+20)=n+K+20 from by omega,List.nil_append,A7 Tryz.func160 b160 rfl (by simp)];simp[A15,AF,AD,AH,AM,AG,AR,A0,AO,q2,hh];try simp[AD,AH,AM,AG,AR,A0,AO,q2,hh]
 obtain⟨c',h1,q⟩:=AZ1 (n+77) (K+20) (fun _=>[]) (fun _=>[(3,0,.box [.fn f [.agg (AD b)] []])]) (fun _=>True) 160 [.ptr 0 3 0 0] (by simp) (by simp) (fun _ x=>!p x) (fun _ _=>()) xs 0 hp2 hl (by simp[AD,AH,AM,AG,AR,A0,AO]) 1 7 [(6,true,.fn 160 [] [.ptr 0 3 0 0]),(5,true,.list false (xs.map AR)),(0,true,.list false (xs.map AR)),(1,true,.fn f [.agg (AD b)] []),(3,true,.ptr 0 3 0 0)] () (Nat.zero_le _) trivial
 have e:n+77+(K+20)+200=n+K+297:=by omega
 rw[e,E2]at q
 have:=IG p xs
 simp only[AD]at q⊢
 simp[A14,AF,q]
 rw[←this,Bool.not_not]
def sN{σ:Type}(U:σ→List AA)(I:σ→Prop)(K:Nat)(f:FuncId)(cap:List V)(p:σ→L9→Bool)(nx:σ→L9→σ)(xs:List (L9))(c0:Nat):Prop:=∀n c fr s x,c0≤c→I s→x∈xs→(p s x=false→I (nx s x))∧∃c',c≤c'∧G4 (BN Tryz.prog ann kn (n+K)) (some 16) ⟨c,fr,⟨U s,[]⟩⟩ f (.agg (AO x)::cap)=some ⟨c',(16,true,.bool (p s x))::fr,⟨U (nx s x),[]⟩⟩
theorem sO{σ:Type}(n K:Nat)(U:σ→List AA)(I:σ→Prop)(f:FuncId)(cap:List V)(hcw:cap.map weakV=cap)(p:σ→L9→Bool)(nx:σ→L9→σ)(xs:List (L9))(c0:Nat)(hp:sN U I K f cap p nx xs c0)(hl:xs.length≤1000):∀(d k:Nat) (s:σ) (c m:Nat),k+d=xs.length→d<m→c0≤c→I s →
  ∃(c':Nat) (j:Int),c≤c'∧0≤j∧BC (AE Tryz.prog ann kn (n+K+50) 19) SL (ann 19 (BR SL)) m ⟨c,[(0,true,.list false (xs.map AO)),(1,true,.fn f [] cap),(7,true,i xs.length),(8,true,i k)],⟨U s,[]⟩⟩ =
   bif (BB p nx s (xs.drop k)).1 then some (.ret,⟨c',[(4,true,i j),(17,true,i j),(5,true,i j)],⟨U (BB p nx s (xs.drop k)).2,[]⟩⟩)
   else some (.exit 0,⟨c',[(9,true,.bool false),(0,true,.list false (xs.map AO)),(1,true,.fn f [] cap),(7,true,i xs.length),(8,true,i xs.length)],⟨U (BB p nx s (xs.drop k)).2,[]⟩⟩)
 |0,k,s,c,m+1,hd,hm,hc0,hi=>by
  have:k=xs.length:=by omega
  subst this;refine⟨c,0,Nat.le_refl _,by omega,?_⟩;simp[AC,BB]
 |d+1,k,s,c,m+1,hd,hm,hc0,hi=>by
  have hk:k<xs.length:=by omega
  have hw:=BH (k:=k) (by omega);have nrm:∀a:Nat,n+K+a=(n+a)+K:=fun a=>by omega
  rw[AC,List.drop_eq_getElem_cons hk];simp only[BB];obtain⟨hi',c1,hc1,q⟩:=hp (n+43) c [(15,true,.agg (AO xs[k])),(14,true,.ref (AO xs[k])),(13,true,i k),(12,true,.list false (xs.map AO)),(11,true,.fn f [] cap),(0,true,.list false (xs.map AO)),(1,true,.fn f [] cap),(5,true,i k),(7,true,i xs.length),(8,true,i k)] s xs[k] hc0 hi (List.getElem_mem hk);generalize e:p s xs[k]=b at q hi';cases b with
  |true=>
   refine⟨c1,k,hc1,by omega,?_⟩
   try simp only[AO]at q
   rw[←nrm]at q
   try simp at q
   simp[hk,hw,AO,q,hcw]
  |false=>
   obtain⟨c',j,h1,h2,ih⟩:=sO n K U I f cap hcw p nx xs c0 hp hl d (k+1) (nx s xs[k]) c1 m (by omega) (by omega) (by omega) (hi' rfl)
   refine⟨c',j,by omega,h2,?_⟩
   try simp only[AO]at q ih
   rw[←nrm]at q
   try simp at q
   simp at ih
   simp[hk,hw,AO,q,ih,hcw]
theorem AGU{σ:Type}(n K:Nat)(up:σ→List AA)(loc:σ→AA)(I:σ→Prop)(f:FuncId)(cap:List V)(hcw:cap.map weakV=cap)(hco:cap.all (AK 8)=false)(p:σ→L9→Bool)(nx:σ→L9→σ)(xs:List (L9))(c0:Nat)(hp:sN (fun s=>up s++[loc s]) I K f cap p nx xs c0)(hl:xs.length≤40)(hsh:∀s (t:St),(up s).length+1≤t.up.length→(up s++[loc s]).map (AL t)=up s++[loc s])(c dd:Nat)(fr:Fr)(s:σ)(hc0:c0≤c)(hi:I s) :
  ∃(c':Nat) (j:Int),c≤c'∧decide (0≤j)=(BB p nx s xs).1∧G4 (BN Tryz.prog ann kn (n+K+100)) (some dd) ⟨c,fr,⟨up s,loc s⟩⟩ 188 [.list false (xs.map AO),.fn f [] cap]=some ⟨c',(dd,true,i j)::fr,⟨up (BB p nx s xs).2,loc (BB p nx s xs).2⟩⟩:=by
 obtain⟨c1,j,h1,h2,q⟩:=sO (n+45) K (fun s=>up s++[loc s]) I f cap hcw p nx xs c0 hp (by omega) xs.length 0 s c (n+K+95) (by omega) (by omega) hc0 hi
 have e:n+45+K+50=n+K+95:=by omega
 rw[e]at q
 have hcl:([V.list false (xs.map AO),V.fn f [] cap]).all (AK 9)=false:=by simp[hco]
 have hs:=fun s=>hsh s ⟨up s++[loc s],[]⟩ (by simp)
 simp at hs
 rw[A7 Tryz.func188 b188 rfl hcl]
 simp only[List.drop_zero]at q
 generalize (BB p nx s xs).2=s' at q⊢
 generalize e:(BB p nx s xs).1=b at q
 cases b with
 |true=>
  refine⟨c1,j,h1,by simpa using h2,?_⟩
  simp at q
  simp[APZ,AF,q,hs]
 |false=>
  refine⟨c1,-1,h1,by simp,?_⟩
  simp at q
  simp[APZ,AF,q,hs]
theorem AZ2{σ:Type}(n K:Nat)(up:σ→List AA)(loc:σ→AA)(I:σ→Prop)(f:FuncId)(cap:List V)(hcw:cap.map weakV=cap)(hco:cap.all (AK 8)=false)(p:σ→L9→Bool)(nx:σ→L9→σ)(xs:List (L9))(c0:Nat)(hp:sN (fun s=>up s++[loc s]++[[]]) I K f cap p nx xs c0)(hl:xs.length≤40)(hsh:∀s (t:St),(up s).length+1≤t.up.length→(up s++[loc s]).map (AL t)=up s++[loc s])(c dd:Nat)(fr:Fr)(s:σ)(hc0:c0≤c)(hi:I s) :
  ∃c':Nat,c≤c'∧G4 (BN Tryz.prog ann kn (n+K+200)) (some dd) ⟨c,fr,⟨up s,loc s⟩⟩ 161 [.list false (xs.map AO),.fn f [] cap]=some ⟨c',(dd,true,.bool (BB p nx s xs).1)::fr,⟨up (BB p nx s xs).2,loc (BB p nx s xs).2⟩⟩:=by
 have hcl:([V.list false (xs.map AO),V.fn f [] cap]).all (AK 9)=false:=by simp[hco]
 have hsh2:∀s (t:St),(up s++[loc s]).length+1≤t.up.length→(up s++[loc s]++[[]]).map (AL t)=up s++[loc s]++[[]]:=fun s t h=>by have:=hsh s t (by simp at h;omega);simp only[List.map_append,List.map_cons,List.map_nil,C5]at this⊢;rw[this]
 obtain⟨c1,j,h1,h2,q⟩:=AGU (n+97) K (fun s=>up s++[loc s]) (fun _=>[]) I f cap hcw hco p nx xs c0 hp hl hsh2 c 7 [(6,true,.fn f [] cap),(5,true,.list false (xs.map AO)),(0,true,.list false (xs.map AO)),(1,true,.fn f [] cap)] s hc0 hi
 refine⟨c1,h1,?_⟩
 have e:n+97+K+100=n+K+197:=by omega
 rw[e]at q
 have hs:=fun s=>hsh s ⟨up s++[loc s],[]⟩ (by simp)
 simp at hs
 rw[A7 Tryz.func161 b161 rfl hcl]
 simp[A16,AF,hcw,q,h2,hs]
theorem ALR(n K:Nat)(f:FuncId)(p:L9→Bool)(xs:List (L9))(hl:xs.length≤40)(hf:∀n x,x∈xs→AW Tryz.prog kn (AE Tryz.prog ann kn (n+K)) f [.agg (AO x)]=some (.bool (p x)))(hh:BE Tryz.prog f=false:=by simp) :
  AW Tryz.prog kn (AE Tryz.prog ann kn (n+K+300)) 120 [.list false (xs.map AO),.fn f [] []]=some (.bool (xs.all p)):=by
 rw[AQ rfl,AP Tryz.func120 BDX rfl (by simp[AB,AH,AM,AG,AR,A0,AO])]
 have hp2:sN (fun (_:Unit)=>[]++[[(3,0,AZ.box [V.fn f [] []])]]++[[]]) (fun _=>True) (K+20) 162 [.ptr 0 3 0 0] (fun _ x=>!p x) (fun _ _=>()) xs 0:=by
  intro n c1 fr s x hc0 hi hx;refine⟨fun _=>trivial,c1+1,by omega,?_⟩;have q:=fun n=>hf n x hx;have q2:=q (n+17);have e:n+17+K=n+K+17:=by omega
  rw[e]at q2;simp only[AO]at q2⊢;rw[show n+(K+20)=n+K+20 from by omega,List.nil_append,A7 Tryz.func162 b162 rfl (by simp)];simp[A18,AF,AH,q2,hh];try simp[AH,q2,hh]
 obtain⟨c',h1,q⟩:=AZ2 (n+77) (K+20) (fun _=>[]) (fun _=>[(3,0,.box [.fn f [] []])]) (fun _=>True) 162 [.ptr 0 3 0 0] (by simp) (by simp) (fun _ x=>!p x) (fun _ _=>()) xs 0 hp2 hl (by simp[AB,AH,AM,AG,AR,A0,AO]) 1 7 [(6,true,.fn 162 [] [.ptr 0 3 0 0]),(5,true,.list false (xs.map AO)),(0,true,.list false (xs.map AO)),(1,true,.fn f [] []),(3,true,.ptr 0 3 0 0)] () (Nat.zero_le _) trivial
 have e:n+77+(K+20)+200=n+K+297:=by omega
 rw[e,E2]at q
 have:=IG p xs
 skip
 simp[A17,AF,q]
 rw[←this,Bool.not_not]
def sP{σ:Type}(U:σ→List AA)(I:σ→Prop)(K:Nat)(f:FuncId)(cap:List V)(p:σ→Sp→Bool)(nx:σ→Sp→σ)(xs:List (Sp))(c0:Nat):Prop:=∀n c fr s x,c0≤c→I s→x∈xs→(p s x=false→I (nx s x))∧∃c',c≤c'∧G4 (BN Tryz.prog ann kn (n+K)) (some 16) ⟨c,fr,⟨U s,[]⟩⟩ f (.agg (AX x)::cap)=some ⟨c',(16,true,.bool (p s x))::fr,⟨U (nx s x),[]⟩⟩
theorem sQ{σ:Type}(n K:Nat)(U:σ→List AA)(I:σ→Prop)(f:FuncId)(cap:List V)(hcw:cap.map weakV=cap)(p:σ→Sp→Bool)(nx:σ→Sp→σ)(xs:List (Sp))(c0:Nat)(hp:sP U I K f cap p nx xs c0)(hl:xs.length≤1000):∀(d k:Nat) (s:σ) (c m:Nat),k+d=xs.length→d<m→c0≤c→I s →
  ∃(c':Nat) (j:Int),c≤c'∧0≤j∧BC (AE Tryz.prog ann kn (n+K+50) 19) SP (ann 19 (BR SP)) m ⟨c,[(0,true,.list false (xs.map AX)),(1,true,.fn f [] cap),(7,true,i xs.length),(8,true,i k)],⟨U s,[]⟩⟩ =
   bif (BB p nx s (xs.drop k)).1 then some (.ret,⟨c',[(4,true,i j),(17,true,i j),(5,true,i j)],⟨U (BB p nx s (xs.drop k)).2,[]⟩⟩)
   else some (.exit 0,⟨c',[(9,true,.bool false),(0,true,.list false (xs.map AX)),(1,true,.fn f [] cap),(7,true,i xs.length),(8,true,i xs.length)],⟨U (BB p nx s (xs.drop k)).2,[]⟩⟩)
 |0,k,s,c,m+1,hd,hm,hc0,hi=>by
  have:k=xs.length:=by omega
  subst this;refine⟨c,0,Nat.le_refl _,by omega,?_⟩;simp[AC,BB]
 |d+1,k,s,c,m+1,hd,hm,hc0,hi=>by
  have hk:k<xs.length:=by omega
  have hw:=BH (k:=k) (by omega);have nrm:∀a:Nat,n+K+a=(n+a)+K:=fun a=>by omega
  rw[AC,List.drop_eq_getElem_cons hk];simp only[BB];obtain⟨hi',c1,hc1,q⟩:=hp (n+43) c [(15,true,.agg (AX xs[k])),(14,true,.ref (AX xs[k])),(13,true,i k),(12,true,.list false (xs.map AX)),(11,true,.fn f [] cap),(0,true,.list false (xs.map AX)),(1,true,.fn f [] cap),(5,true,i k),(7,true,i xs.length),(8,true,i k)] s xs[k] hc0 hi (List.getElem_mem hk);generalize e:p s xs[k]=b at q hi';cases b with
  |true=>
   refine⟨c1,k,hc1,by omega,?_⟩
   try simp only[AX]at q
   rw[←nrm]at q
   try simp at q
   simp[hk,hw,AX,q,hcw]
  |false=>
   obtain⟨c',j,h1,h2,ih⟩:=sQ n K U I f cap hcw p nx xs c0 hp hl d (k+1) (nx s xs[k]) c1 m (by omega) (by omega) (by omega) (hi' rfl)
   refine⟨c',j,by omega,h2,?_⟩
   try simp only[AX]at q ih
   rw[←nrm]at q
   try simp at q
   simp at ih
   simp[hk,hw,AX,q,ih,hcw]
theorem AGV{σ:Type}(n K:Nat)(up:σ→List AA)(loc:σ→AA)(I:σ→Prop)(f:FuncId)(cap:List V)(hcw:cap.map weakV=cap)(hco:cap.all (AK 8)=false)(p:σ→Sp→Bool)(nx:σ→Sp→σ)(xs:List (Sp))(c0:Nat)(hp:sP (fun s=>up s++[loc s]) I K f cap p nx xs c0)(hl:xs.length≤40)(hsh:∀s (t:St),(up s).length+1≤t.up.length→(up s++[loc s]).map (AL t)=up s++[loc s])(c dd:Nat)(fr:Fr)(s:σ)(hc0:c0≤c)(hi:I s) :
  ∃(c':Nat) (j:Int),c≤c'∧decide (0≤j)=(BB p nx s xs).1∧G4 (BN Tryz.prog ann kn (n+K+100)) (some dd) ⟨c,fr,⟨up s,loc s⟩⟩ 189 [.list false (xs.map AX),.fn f [] cap]=some ⟨c',(dd,true,i j)::fr,⟨up (BB p nx s xs).2,loc (BB p nx s xs).2⟩⟩:=by
 obtain⟨c1,j,h1,h2,q⟩:=sQ (n+45) K (fun s=>up s++[loc s]) I f cap hcw p nx xs c0 hp (by omega) xs.length 0 s c (n+K+95) (by omega) (by omega) hc0 hi
 have e:n+45+K+50=n+K+95:=by omega
 rw[e]at q
 have hcl:([V.list false (xs.map AX),V.fn f [] cap]).all (AK 9)=false:=by simp[hco]
 have hs:=fun s=>hsh s ⟨up s++[loc s],[]⟩ (by simp)
 simp at hs
 rw[A7 Tryz.func189 b189 rfl hcl]
 simp only[List.drop_zero]at q
 generalize (BB p nx s xs).2=s' at q⊢
 generalize e:(BB p nx s xs).1=b at q
 cases b with
 |true=>
  refine⟨c1,j,h1,by simpa using h2,?_⟩
  simp at q
  simp[AP0,AF,q,hs]
 |false=>
  refine⟨c1,-1,h1,by simp,?_⟩
  simp at q
  simp[AP0,AF,q,hs]
theorem AZ3{σ:Type}(n K:Nat)(up:σ→List AA)(loc:σ→AA)(I:σ→Prop)(f:FuncId)(cap:List V)(hcw:cap.map weakV=cap)(hco:cap.all (AK 8)=false)(p:σ→Sp→Bool)(nx:σ→Sp→σ)(xs:List (Sp))(c0:Nat)(hp:sP (fun s=>up s++[loc s]++[[]]) I K f cap p nx xs c0)(hl:xs.length≤40)(hsh:∀s (t:St),(up s).length+1≤t.up.length→(up s++[loc s]).map (AL t)=up s++[loc s])(c dd:Nat)(fr:Fr)(s:σ)(hc0:c0≤c)(hi:I s) :
  ∃c':Nat,c≤c'∧G4 (BN Tryz.prog ann kn (n+K+200)) (some dd) ⟨c,fr,⟨up s,loc s⟩⟩ 171 [.list false (xs.map AX),.fn f [] cap]=some ⟨c',(dd,true,.bool (BB p nx s xs).1)::fr,⟨up (BB p nx s xs).2,loc (BB p nx s xs).2⟩⟩:=by
 have hcl:([V.list false (xs.map AX),V.fn f [] cap]).all (AK 9)=false:=by simp[hco]
 have hsh2:∀s (t:St),(up s++[loc s]).length+1≤t.up.length→(up s++[loc s]++[[]]).map (AL t)=up s++[loc s]++[[]]:=fun s t h=>by have:=hsh s t (by simp at h;omega);simp only[List.map_append,List.map_cons,List.map_nil,C5]at this⊢;rw[this]
 obtain⟨c1,j,h1,h2,q⟩:=AGV (n+97) K (fun s=>up s++[loc s]) (fun _=>[]) I f cap hcw hco p nx xs c0 hp hl hsh2 c 7 [(6,true,.fn f [] cap),(5,true,.list false (xs.map AX)),(0,true,.list false (xs.map AX)),(1,true,.fn f [] cap)] s hc0 hi
 refine⟨c1,h1,?_⟩
 have e:n+97+K+100=n+K+197:=by omega
 rw[e]at q
 have hs:=fun s=>hsh s ⟨up s++[loc s],[]⟩ (by simp)
 simp at hs
 rw[A7 Tryz.func171 b171 rfl hcl]
 simp[A2C,AF,hcw,q,h2,hs]
theorem AO8{σ:Type}(n K L:Nat)(up:σ→List AA)(loc:σ→AA)(hL:∀s,(up s).length=L)(I:σ→Prop)(f:FuncId)(cap:List V)(hcw:cap.map weakV=cap)(hco:cap.all (AK 8)=false)(p:σ→Sp→Bool)(nx:σ→Sp→σ)(xs:List (Sp))(hl:xs.length≤40)
  (hsh:∀s (t:St),L+1≤t.up.length→(up s++[loc s]).map (AL t)=up s++[loc s]) (hcap:∀(t:St) γ,L+1≤t.up.length→AL t [(3,γ,AZ.box [V.fn f [] cap])]=[(3,γ,AZ.box [V.fn f [] cap])]) (c:Nat)
  (hp:∀n c1 γ fr s x,c<c1→I s→x∈xs→(p s x=true→I (nx s x))∧∃c',c1≤c'∧G4 (BN Tryz.prog ann kn (n+K)) (some 6) ⟨c1,fr,⟨up s++[loc s]++[[(3,c,AZ.box [V.fn f [] cap])]]++[[]]++[[]],[(2,γ,.box (AX x))]⟩⟩ f (.agg (AX x)::cap)=some ⟨c',(6,true,.bool (p s x))::fr,⟨up (nx s x)++[loc (nx s x)]++[[(3,c,AZ.box [V.fn f [] cap])]]++[[]]++[[]],[(2,γ,.box (AX x))]⟩⟩) (dd:Nat) (fr:Fr) (s:σ) (hi:I s) :
  ∃c':Nat,c≤c'∧G4 (BN Tryz.prog ann kn (n+K+300)) (some dd) ⟨c,fr,⟨up s,loc s⟩⟩ 137 [.list false (xs.map AX),.fn f [] cap]=some ⟨c',(dd,true,.bool (!(BB (fun s x=>!p s x) nx s xs).1))::fr,⟨up (BB (fun s x=>!p s x) nx s xs).2,loc (BB (fun s x=>!p s x) nx s xs).2⟩⟩:=by
 have hcl:([V.list false (xs.map AX),V.fn f [] cap]).all (AK 9)=false:=by simp[M6,hco]
 have hp2:sP (fun s=>up s++[loc s]++[[(3,c,AZ.box [V.fn f [] cap])]]++[[]]) I (K+20) 172 [.ptr (L+1) 3 c 0] (fun s x=>!p s x) nx xs (c+1):=by
  have hcap':∀t:St,L+1≤t.up.length→AL t [(3,c,AZ.box [V.fn f [] cap])]=[(3,c,AZ.box [V.fn f [] cap])]:=fun t h=>hcap t c h;intro n c1 fr s x hc0 hi hx;obtain⟨h1,c',h2,q⟩:=hp (n+17) (c1+1) c1 [(5,true,.agg (AX x)),(4,true,.fn f [] cap),(0,true,.agg (AX x)),(1,true,.ptr (L+1) 3 c 0),(2,true,.ptr (L+4) 2 c1 0)] s x (by omega) hi hx;refine⟨fun h=>h1 (by simpa using h),c',by omega,?_⟩;have e:n+17+K=n+K+17:=by omega
  rw[e]at q;rw[show n+(K+20)=n+K+20 from by omega,A7 Tryz.func172 b172 rfl (by simp)];generalize hB:[(3,c,AZ.box [V.fn f [] cap])]=B at q hcap';have hB1:AA.get B 3=some (c,.box [.fn f [] cap]):=by rw[←hB];rfl
  have hg:(up s++[loc s]++[B]++[[]])[L+1]? = some B:=by simp only[List.append_assoc];rw[List.getElem?_append_right (by rw[hL];omega)];simp[hL]
  have hs1:∀s (t:St),L+1≤t.up.length→List.map (AL t) (up s)=up s∧AL t (loc s)=loc s:=fun s t h=>by simpa using hsh s t h
  have hu:∀(l:List AA) a b,CX (l++[a,b,[],[]])=some (l++[a,b,[]],[]):=fun l a b=>by have:=D4 ([]:AA) (l++[a,b,[]]);rwa [List.append_assoc]at this
  simp only[List.append_assoc,List.cons_append,List.nil_append,AX]at q hg⊢;simp[hu,A2E,AF,hcw,q,hg,hL,hB1,(hs1 _ _ _).1,(hs1 _ _ _).2,hcap']
 have hsh2:∀s (t:St),(up s++[loc s]).length+1≤t.up.length→(up s++[loc s]++[[(3,c,AZ.box [V.fn f [] cap])]]).map (AL t)=up s++[loc s]++[[(3,c,AZ.box [V.fn f [] cap])]]:=fun s t h=>by
  have h':L+1≤t.up.length:=by simp[hL]at h;omega
  have:=hsh s t h';have h3:=hcap t c h';rw[List.map_append,this];simp only[List.map_cons,List.map_nil,h3]
 obtain⟨c',h1,q⟩:=AZ3 (n+77) (K+20) (fun s=>up s++[loc s]) (fun _=>[(3,c,AZ.box [V.fn f [] cap])]) I 172 [.ptr (L+1) 3 c 0] (by simp) (by simp) (fun s x=>!p s x) nx xs (c+1) hp2 hl hsh2 (c+1) 7 [(6,true,.fn 172 [] [.ptr (L+1) 3 c 0]),(5,true,.list false (xs.map AX)),(0,true,.list false (xs.map AX)),(1,true,.fn f [] cap),(3,true,.ptr (L+1) 3 c 0)] s (Nat.le_refl _) hi
 refine⟨c',by omega,?_⟩
 have e:n+77+(K+20)+200=n+K+297:=by omega
 rw[e]at q
 have hs1:∀s (t:St),L+1≤t.up.length→List.map (AL t) (up s)=up s∧AL t (loc s)=loc s:=fun s t h=>by simpa using hsh s t h
 rw[A7 Tryz.func137 b137 rfl hcl]
 try simp only[List.length_append,List.length_cons,List.length_nil]at q⊢
 simp[A2D,AF,hcw,hL,q,(hs1 _ _ _).1,(hs1 _ _ _).2]
def sR{σ:Type}(U:σ→List AA)(I:σ→Prop)(K:Nat)(f:FuncId)(cap:List V)(p:σ→EI→Bool)(nx:σ→EI→σ)(xs:List (EI))(c0:Nat):Prop:=∀c fr s x,c0≤c→I s→x∈xs→(p s x=false→I (nx s x))∧∃c',c≤c'∧∀n,G4 (BN Tryz.prog ann kn (n+K)) (some 16) ⟨c,fr,⟨U s,[]⟩⟩ f (.agg (BI x)::cap)=some ⟨c',(16,true,.bool (p s x))::fr,⟨U (nx s x),[]⟩⟩
theorem sS{σ:Type}(K:Nat)(U:σ→List AA)(I:σ→Prop)(f:FuncId)(cap:List V)(hcw:cap.map weakV=cap)(p:σ→EI→Bool)(nx:σ→EI→σ)(xs:List (EI))(c0:Nat)(hp:sR U I K f cap p nx xs c0)(hl:xs.length≤1000):∀(d k:Nat) (s:σ) (c:Nat),k+d=xs.length→c0≤c→I s →
  ∃(c':Nat) (j:Int),c≤c'∧0≤j∧∀n m,d<m→BC (AE Tryz.prog ann kn (n+K+50) 19) S6 (ann 19 (BR S6)) m ⟨c,[(0,true,.list false (xs.map BI)),(1,true,.fn f [] cap),(7,true,i xs.length),(8,true,i k)],⟨U s,[]⟩⟩ =
   bif (BB p nx s (xs.drop k)).1 then some (.ret,⟨c',[(4,true,i j),(17,true,i j),(5,true,i j)],⟨U (BB p nx s (xs.drop k)).2,[]⟩⟩)
   else some (.exit 0,⟨c',[(9,true,.bool false),(0,true,.list false (xs.map BI)),(1,true,.fn f [] cap),(7,true,i xs.length),(8,true,i xs.length)],⟨U (BB p nx s (xs.drop k)).2,[]⟩⟩)
 |0,k,s,c,hd,hc0,hi=>by
  have:k=xs.length:=by omega
  subst this;refine⟨c,0,Nat.le_refl _,by omega,fun n m hm=>?_⟩;obtain⟨m,rfl⟩:∃m',m=m'+1:=⟨m-1,by omega⟩;simp[AC,BB]
 |d+1,k,s,c,hd,hc0,hi=>by
  have hk:k<xs.length:=by omega
  have hw:=BH (k:=k) (by omega);have nrm:∀n a:Nat,n+K+a=(n+a)+K:=fun n a=>by omega
  rw[List.drop_eq_getElem_cons hk];simp only[BB];obtain⟨hi',c1,hc1,q⟩:=hp c [(15,true,.agg (BI xs[k])),(14,true,.ref (BI xs[k])),(13,true,i k),(12,true,.list false (xs.map BI)),(11,true,.fn f [] cap),(0,true,.list false (xs.map BI)),(1,true,.fn f [] cap),(5,true,i k),(7,true,i xs.length),(8,true,i k)] s xs[k] hc0 hi (List.getElem_mem hk);generalize e:p s xs[k]=b at q hi';cases b with
  |true=>
   refine⟨c1,k,hc1,by omega,fun n m hm=>?_⟩
   obtain⟨m,rfl⟩:∃m',m=m'+1:=⟨m-1,by omega⟩
   rw[AC]
   have q:=q (n+43)
   try simp only[BI]at q
   rw[←nrm]at q
   try simp at q
   simp[hk,hw,BI,q,hcw]
  |false=>
   obtain⟨c',j,h1,h2,ih⟩:=sS K U I f cap hcw p nx xs c0 hp hl d (k+1) (nx s xs[k]) c1 (by omega) (by omega) (hi' rfl)
   refine⟨c',j,by omega,h2,fun n m hm=>?_⟩
   obtain⟨m,rfl⟩:∃m',m=m'+1:=⟨m-1,by omega⟩
   rw[AC]
   have q:=q (n+43)
   have ih:=ih n m (by omega)
   try simp only[BI]at q ih
   rw[←nrm]at q
   try simp at q
   simp at ih
   simp[hk,hw,BI,q,ih,hcw]
theorem AGW{σ:Type}(K:Nat)(up:σ→List AA)(loc:σ→AA)(I:σ→Prop)(f:FuncId)(cap:List V)(hcw:cap.map weakV=cap)(hco:cap.all (AK 8)=false)(p:σ→EI→Bool)(nx:σ→EI→σ)(xs:List (EI))(c0:Nat)(hp:sR (fun s=>up s++[loc s]) I K f cap p nx xs c0)(hl:xs.length≤40)(hsh:∀s (t:St),(up s).length+1≤t.up.length→(up s++[loc s]).map (AL t)=up s++[loc s])(c dd:Nat)(fr:Fr)(s:σ)(hc0:c0≤c)(hi:I s) :
  ∃(c':Nat) (j:Int),c≤c'∧decide (0≤j)=(BB p nx s xs).1∧∀n,G4 (BN Tryz.prog ann kn (n+K+100)) (some dd) ⟨c,fr,⟨up s,loc s⟩⟩ 166 [.list false (xs.map BI),.fn f [] cap]=some ⟨c',(dd,true,i j)::fr,⟨up (BB p nx s xs).2,loc (BB p nx s xs).2⟩⟩:=by
 obtain⟨c1,j,h1,h2,q⟩:=sS K (fun s=>up s++[loc s]) I f cap hcw p nx xs c0 hp (by omega) xs.length 0 s c (by omega) hc0 hi
 have hcl:([V.list false (xs.map BI),V.fn f [] cap]).all (AK 9)=false:=by simp[hco]
 have hs:=fun s=>hsh s ⟨up s++[loc s],[]⟩ (by simp)
 simp at hs
 simp only[List.drop_zero]at q
 generalize (BB p nx s xs).2=s' at q⊢
 generalize e:(BB p nx s xs).1=b at q
 cases b with
 |true=>
  refine⟨c1,j,h1,by simpa using h2,fun n=>?_⟩
  have q:=q (n+45) (n+K+95) (by omega)
  rw[show n+45+K+50=n+K+95 by omega]at q
  rw[A7 Tryz.func166 b166 rfl hcl]
  simp at q
  simp[AP4,AF,q,hs]
 |false=>
  refine⟨c1,-1,h1,by simp,fun n=>?_⟩
  have q:=q (n+45) (n+K+95) (by omega)
  rw[show n+45+K+50=n+K+95 by omega]at q
  rw[A7 Tryz.func166 b166 rfl hcl]
  simp at q
  simp[AP4,AF,q,hs]
theorem AZ4{σ:Type}(K:Nat)(up:σ→List AA)(loc:σ→AA)(I:σ→Prop)(f:FuncId)(cap:List V)(hcw:cap.map weakV=cap)(hco:cap.all (AK 8)=false)(p:σ→EI→Bool)(nx:σ→EI→σ)(xs:List (EI))(c0:Nat)(hp:sR (fun s=>up s++[loc s]++[[]]) I K f cap p nx xs c0)(hl:xs.length≤40)(hsh:∀s (t:St),(up s).length+1≤t.up.length→(up s++[loc s]).map (AL t)=up s++[loc s])(c dd:Nat)(fr:Fr)(s:σ)(hc0:c0≤c)(hi:I s) :
  ∃c':Nat,c≤c'∧∀n,G4 (BN Tryz.prog ann kn (n+K+200)) (some dd) ⟨c,fr,⟨up s,loc s⟩⟩ 126 [.list false (xs.map BI),.fn f [] cap]=some ⟨c',(dd,true,.bool (BB p nx s xs).1)::fr,⟨up (BB p nx s xs).2,loc (BB p nx s xs).2⟩⟩:=by
 have hcl:([V.list false (xs.map BI),V.fn f [] cap]).all (AK 9)=false:=by simp[hco]
 have hsh2:∀s (t:St),(up s++[loc s]).length+1≤t.up.length→(up s++[loc s]++[[]]).map (AL t)=up s++[loc s]++[[]]:=fun s t h=>by have:=hsh s t (by simp at h;omega);simp only[List.map_append,List.map_cons,List.map_nil,C5]at this⊢;rw[this]
 obtain⟨c1,j,h1,h2,q⟩:=AGW K (fun s=>up s++[loc s]) (fun _=>[]) I f cap hcw hco p nx xs c0 hp hl hsh2 c 7 [(6,true,.fn f [] cap),(5,true,.list false (xs.map BI)),(0,true,.list false (xs.map BI)),(1,true,.fn f [] cap)] s hc0 hi
 refine⟨c1,h1,fun n=>?_⟩
 have q:=q (n+97)
 have e:n+97+K+100=n+K+197:=by omega
 rw[e]at q
 have hs:=fun s=>hsh s ⟨up s++[loc s],[]⟩ (by simp)
 simp at hs
 rw[A7 Tryz.func126 b126 rfl hcl]
 simp[A2N,AF,hcw,q,h2,hs]
theorem AO9{σ:Type}(K L:Nat)(up:σ→List AA)(loc:σ→AA)(hL:∀s,(up s).length=L)(I:σ→Prop)(f:FuncId)(cap:List V)(hcw:cap.map weakV=cap)(hco:cap.all (AK 8)=false)(p:σ→EI→Bool)(nx:σ→EI→σ)(xs:List (EI))(hl:xs.length≤40)
  (hsh:∀s (t:St),L+1≤t.up.length→(up s++[loc s]).map (AL t)=up s++[loc s]) (hcap:∀(t:St) γ,L+1≤t.up.length→AL t [(3,γ,AZ.box [V.fn f [] cap])]=[(3,γ,AZ.box [V.fn f [] cap])]) (c:Nat)
  (hp:∀c1 γ fr s x,c<c1→I s→x∈xs→(p s x=true→I (nx s x))∧∃c',c1≤c'∧∀n,G4 (BN Tryz.prog ann kn (n+K)) (some 6) ⟨c1,fr,⟨up s++[loc s]++[[(3,c,AZ.box [V.fn f [] cap])]]++[[]]++[[]],[(2,γ,.box (BI x))]⟩⟩ f (.agg (BI x)::cap)=some ⟨c',(6,true,.bool (p s x))::fr,⟨up (nx s x)++[loc (nx s x)]++[[(3,c,AZ.box [V.fn f [] cap])]]++[[]]++[[]],[(2,γ,.box (BI x))]⟩⟩) (dd:Nat) (fr:Fr) (s:σ) (hi:I s) :
  ∃c':Nat,c≤c'∧∀n,G4 (BN Tryz.prog ann kn (n+K+300)) (some dd) ⟨c,fr,⟨up s,loc s⟩⟩ 83 [.list false (xs.map BI),.fn f [] cap]=some ⟨c',(dd,true,.bool (!(BB (fun s x=>!p s x) nx s xs).1))::fr,⟨up (BB (fun s x=>!p s x) nx s xs).2,loc (BB (fun s x=>!p s x) nx s xs).2⟩⟩:=by
 have hcl:([V.list false (xs.map BI),V.fn f [] cap]).all (AK 9)=false:=by simp[M6,hco]
 have hp2:sR (fun s=>up s++[loc s]++[[(3,c,AZ.box [V.fn f [] cap])]]++[[]]) I (K+20) 127 [.ptr (L+1) 3 c 0] (fun s x=>!p s x) nx xs (c+1):=by
  have hcap':∀t:St,L+1≤t.up.length→AL t [(3,c,AZ.box [V.fn f [] cap])]=[(3,c,AZ.box [V.fn f [] cap])]:=fun t h=>hcap t c h;intro c1 fr s x hc0 hi hx;obtain⟨h1,c',h2,q⟩:=hp (c1+1) c1 [(5,true,.agg (BI x)),(4,true,.fn f [] cap),(0,true,.agg (BI x)),(1,true,.ptr (L+1) 3 c 0),(2,true,.ptr (L+4) 2 c1 0)] s x (by omega) hi hx;refine⟨fun h=>h1 (by simpa using h),c',by omega,fun n=>?_⟩;have q:=q (n+17);have e:n+17+K=n+K+17:=by omega
  rw[e]at q;rw[show n+(K+20)=n+K+20 from by omega,A7 Tryz.func127 b127 rfl (by simp)];generalize hB:[(3,c,AZ.box [V.fn f [] cap])]=B at q hcap';have hB1:AA.get B 3=some (c,.box [.fn f [] cap]):=by rw[←hB];rfl
  have hg:(up s++[loc s]++[B]++[[]])[L+1]? = some B:=by simp only[List.append_assoc];rw[List.getElem?_append_right (by rw[hL];omega)];simp[hL]
  have hs1:∀s (t:St),L+1≤t.up.length→List.map (AL t) (up s)=up s∧AL t (loc s)=loc s:=fun s t h=>by simpa using hsh s t h
  have hu:∀(l:List AA) a b,CX (l++[a,b,[],[]])=some (l++[a,b,[]],[]):=fun l a b=>by have:=D4 ([]:AA) (l++[a,b,[]]);rwa [List.append_assoc]at this
  simp only[List.append_assoc,List.cons_append,List.nil_append,BI]at q hg⊢;simp[hu,A2O,AF,hcw,q,hg,hL,hB1,(hs1 _ _ _).1,(hs1 _ _ _).2,hcap']
 have hsh2:∀s (t:St),(up s++[loc s]).length+1≤t.up.length→(up s++[loc s]++[[(3,c,AZ.box [V.fn f [] cap])]]).map (AL t)=up s++[loc s]++[[(3,c,AZ.box [V.fn f [] cap])]]:=fun s t h=>by
  have h':L+1≤t.up.length:=by simp[hL]at h;omega
  have:=hsh s t h';have h3:=hcap t c h';rw[List.map_append,this];simp only[List.map_cons,List.map_nil,h3]
 obtain⟨c',h1,q⟩:=AZ4 (K+20) (fun s=>up s++[loc s]) (fun _=>[(3,c,AZ.box [V.fn f [] cap])]) I 127 [.ptr (L+1) 3 c 0] (by simp) (by simp) (fun s x=>!p s x) nx xs (c+1) hp2 hl hsh2 (c+1) 7 [(6,true,.fn 127 [] [.ptr (L+1) 3 c 0]),(5,true,.list false (xs.map BI)),(0,true,.list false (xs.map BI)),(1,true,.fn f [] cap),(3,true,.ptr (L+1) 3 c 0)] s (Nat.le_refl _) hi
 refine⟨c',by omega,fun n=>?_⟩
 have q:=q (n+77)
 have e:n+77+(K+20)+200=n+K+297:=by omega
 rw[e]at q
 have hs1:∀s (t:St),L+1≤t.up.length→List.map (AL t) (up s)=up s∧AL t (loc s)=loc s:=fun s t h=>by simpa using hsh s t h
 rw[A7 Tryz.func83 b83 rfl hcl]
 try simp only[List.length_append,List.length_cons,List.length_nil]at q⊢
 simp[c83,AF,hcw,hL,q,(hs1 _ _ _).1,(hs1 _ _ _).2]
end Go.Proofs.Tryz.Op
