/- A case of families on a beach: what is valid, and what a seating is, by the program and by the reference. No program in sight. -/
import Derived.Test.YthhdhbalenanjaaGreatL
import Derived.Test.YthhdhbalenanjaaGreatI1
import Derived.Test.YthhdhbalenanjaaGreatX1
import Derived.Test.YthhdhbalenanjaaGreatW4
import Derived.Test.YthhdhbalenanjaaGreatW3
import Derived.Test.YthhdhbalenanjaaGreatW2
import Derived.Test.YthhdhbalenanjaaGreatFz
import Derived.Test.YthhdhbalenanjaaGreatRc
set_option maxRecDepth 100000
set_option linter.unusedSimpArgs false
namespace Go.Wind
structure RJ where
 size:Int
 good:Int
 dog:Bool
 shy:Bool
deriving DecidableEq
structure AO where
 beach:AK
 plan:List (List Int)
 chairs:List (List Bool)
 fams:List RJ
def LP(f:RJ):Bool:=GI f.size 1 4&&GI f.good 0 5
def HQ(c:AO):Bool:=decide ((c.chairs.length:Int)=c.beach.rows)&&c.chairs.all (fun l=>decide ((l.length:Int)=c.beach.places))
def DZ(c:AO):Int :=
 if 3<c.fams.length then 3
 else if CV c.beach≠0 then CV c.beach
 else if EF c.beach c.plan=false then 2
 else if BO c.beach=[] then 11
 else if HQ c=false then 1
 else if c.fams.all LP=false then 1 else 0
structure BZ(c:AO):Prop where
 be:Valid c.beach
 pl:EF c.beach c.plan=true
 tr:BO c.beach≠[]
 fl:c.fams.length≤3
 ch:(c.chairs.length:Int)=c.beach.rows
 cr:∀l∈c.chairs,(l.length:Int)=c.beach.places
 fo:∀f∈c.fams,(1≤f.size∧f.size≤4)∧0≤f.good∧f.good≤5
theorem KK{c:AO}(h:DZ c=0):BZ c:=by
 unfold DZ at h;split at h
 ·cases h
 rename_i h1;split at h
 ·rename_i h2;exact absurd h h2
 rename_i h2;split at h
 ·cases h
 rename_i h3;split at h
 ·cases h
 rename_i h4;split at h
 ·cases h
 rename_i h5;split at h
 ·cases h
 rename_i h6;have hb:CV c.beach=0:=Classical.byContradiction fun hh=>h2 hh;have h5:HQ c=true:=by simpa using h5
 have h6:c.fams.all LP=true:=by simpa using h6
 simp only[HQ,Bool.and_eq_true,decide_eq_true_eq,List.all_eq_true]at h5;refine⟨U8 hb,by simpa using h3,h4,by omega,h5.1,h5.2,fun f hf=>?_⟩;have:=List.all_eq_true.1 h6 f hf;simp only[LP,Bool.and_eq_true,DC]at this;exact this
structure Sp where
 fam:Nat
 size:Int
 row:Int
 place:Int
deriving DecidableEq
def EN(c:AO)(k:Nat):RJ:=c.fams.getD k ⟨0,0,false,false⟩
def JL(c:AO)(a b:Nat):Bool:=decide (a≠b)&&((EN c a).shy&&(EN c b).dog||(EN c a).dog&&(EN c b).shy)
def CQ(c:AO)(x:Sp):Bool:=GI x.row 0 (c.beach.rows-1)&&GI x.place 0 (c.beach.places-x.size)
def ZZ(x y:Sp):Int:=max (x.place-y.place-y.size) (y.place-x.place-x.size)
def D0(c:AO)(x y:Sp):Bool:=decide (x.row≠y.row)||(decide (0<ZZ x y)||(decide (ZZ x y=0)&&!JL c x.fam y.fam))
def D5(c:AO):Nat:=(c.chairs.map fun l=>l.count true).sum
def C7(l:List Sp):Int:=(l.map Sp.size).sum
def DR(c:AO):List Sp→List Sp→Bool
 |_,[]=>true
 |before,x::r=>CQ c x&&before.all (D0 c x)&&DR c (before++[x]) r
def JG(c:AO)(l:List Sp):Bool:=DR c [] l&&decide (C7 l≤D5 c)
def HR(k:Nat):List RJ→List (Int×Int)→List Sp
 |f::fs,s::ss=>⟨k,f.size,s.1,s.2⟩::HR (k+1) fs ss
 |_,_=>[]
def A2(c:AO)(I3:List (Int×Int)):List Sp:=HR 0 c.fams I3
def DL(c:AO)(I3:List (Int×Int)):Bool:=decide (I3.length=c.fams.length)&&JG c (A2 c I3)
def SH(c:AO)(x y:Sp):Bool:=(List.range y.size.toNat).any fun a=>(List.range x.size.toNat).any fun b=>
 let d:=y.place+(a:Int)-x.place-(b:Int)
 decide (d=0)||((decide (d=1)||decide (d = -1))&&JL c y.fam x.fam)
def nS(c:AO)(before:List Sp)(x:Sp):Bool:=CQ c x&&before.all fun y=>decide (y.row≠x.row)||!SH c x y
def yG(c:AO):List Sp→List Sp→Bool
 |_,[]=>true
 |before,x::r=>nS c before x&&yG c (before++[x]) r
theorem ACB(c:AO)(a b:Nat):JL c a b=JL c b a:=by unfold JL;have:decide (a≠b)=decide (b≠a):=decide_eq_decide.2 ⟨Ne.symm,Ne.symm⟩;rw[this];cases (EN c a).shy<;>cases (EN c b).dog<;>cases (EN c a).dog<;>cases (EN c b).shy<;>simp
theorem ACC{c:AO}{x y:Sp}(hx:1≤x.size)(hy:1≤y.size):SH c x y=true↔ZZ x y<0∨(ZZ x y=0∧JL c x.fam y.fam=true):=by
 unfold SH ZZ;simp only[List.any_eq_true,List.mem_range,Bool.or_eq_true,Bool.and_eq_true,decide_eq_true_eq,ACB c y.fam x.fam];constructor
 ·rintro ⟨a,ha,b,hb,h|⟨h,hm⟩⟩
  ·left;omega
  ·by_cases h0:max (x.place-y.place-y.size) (y.place-x.place-x.size)=0
   ·exact .inr ⟨h0,hm⟩
   ·left;omega
 ·rintro (h|⟨h,hm⟩)
  ·by_cases hp:x.place≤y.place
   ·exact⟨0,by omega,(y.place-x.place).toNat,by omega,.inl (by omega)⟩
   ·exact⟨(x.place-y.place).toNat,by omega,0,by omega,.inl (by omega)⟩
  ·by_cases hp:x.place≤y.place
   ·exact⟨0,by omega,(x.size-1).toNat,by omega,.inr ⟨.inl (by omega),hm⟩⟩
   ·exact⟨(y.size-1).toNat,by omega,0,by omega,.inr ⟨.inr (by omega),hm⟩⟩
theorem uG{c:AO}{before:List Sp}{x:Sp}(hx:1≤x.size)(hb:∀y∈before,1≤y.size):nS c before x=(CQ c x&&before.all (D0 c x)):=by
 unfold nS;congr 1;rw[Bool.eq_iff_iff,List.all_eq_true,List.all_eq_true];refine forall_congr' fun y=>forall_congr' fun hy=>?_;have h:=ACC (c:=c) hx (hb y hy);unfold D0;simp only[Bool.or_eq_true,Bool.and_eq_true,decide_eq_true_eq,Bool.not_eq_true',←Bool.not_eq_true];rw[h];have e:(y.row≠x.row)↔(x.row≠y.row):=⟨Ne.symm,Ne.symm⟩;rw[e];constructor
 ·rintro (h1|h1)
  ·exact .inl h1
  ·refine .inr ?_;by_cases h0:0<ZZ x y
   ·exact .inl h0
   ·exact .inr ⟨by omega,fun hm=>h1 (.inr ⟨by omega,hm⟩)⟩
 ·rintro (h1|h1|⟨h1,h2⟩)
  ·exact .inl h1
  ·exact .inr fun h3=>by rcases h3 with h3|⟨h3,_⟩<;>omega
  ·exact .inr fun h3=>by
    rcases h3 with h3|⟨_,h3⟩
    ·omega
    ·exact h2 h3
theorem DO:∀{k:Nat} {fs:List RJ} {ss:List (Int×Int)},ss.length=fs.length→(HR k fs ss).length=fs.length
 |_,[],_,_=>rfl
 |_,_::_,[],h=>by simp at h
 |k,f::fs,s::ss,h=>by simp only[HR,List.length_cons,DO (k:=k+1) (fs:=fs) (ss:=ss) (by simpa using h)]
theorem TP:∀{k:Nat} {fs:List RJ} {ss:List (Int×Int)},ss.length=fs.length→C7 (HR k fs ss)=(fs.map RJ.size).sum
 |_,[],_,_=>rfl
 |_,_::_,[],h=>by simp at h
 |k,f::fs,s::ss,h=>by have ih:=TP (k:=k+1) (fs:=fs) (ss:=ss) (by simpa using h);unfold C7 at ih⊢;simp only[HR,List.map_cons,List.sum_cons,ih]
theorem KO:∀{k:Nat} {fs:List RJ} {ss:List (Int×Int)} (j:Nat) (h1:j<fs.length) (h2:j<ss.length) (h3:j<(HR k fs ss).length),(HR k fs ss)[j]=⟨k+j,fs[j].size,ss[j].1,ss[j].2⟩
 |_,[],_,_,h1,_,_=>by simp at h1
 |_,_::_,[],_,_,h2,_=>by simp at h2
 |k,f::fs,s::ss,0,_,_,_=>rfl
 |k,f::fs,s::ss,j+1,h1,h2,h3=>by simp only[HR,List.getElem_cons_succ];rw[KO j (by simpa using h1) (by simpa using h2) (by simpa [HR]using h3),show k+1+j=k+(j+1) by omega]
def BGP(c:AO)(I3:List (Int×Int)):Bool:=decide (I3.length=c.fams.length)&&(decide ((c.fams.map RJ.size).sum≤(D5 c:Int))&&yG c [] (A2 c I3))
def LI(hours:List (List JO))(x:Sp):Int:=DJ (fun p=>((hours.getD x.row.toNat []).getD (x.place.toNat+p) ⟨0,0,0⟩).good) x.size.toNat
structure CE where
 sun:Int
 carried:Int
 enough:Bool
deriving DecidableEq
def C8(sure:List (List Int))(r p:Int):Int:=(sure.getD r.toNat []).getD p.toNat 0
def KA(c:AO)(r p:Int):Bool:=(c.chairs.getD r.toNat []).getD p.toNat false
def BG(c:AO)(sure:List (List Int))(x:Sp):CE :=
  ⟨DJ (fun p=>C8 sure x.row (x.place+(p:Int))) x.size.toNat,
   DJ (fun p=>if KA c x.row (x.place+(p:Int))=true then 0 else 1) x.size.toNat,
   (List.range x.size.toNat).all fun p=>decide ((EN c x.fam).good≤C8 sure x.row (x.place+(p:Int)))⟩
def FW(c:AO)(sure:List (List Int)):List (Nat×Int)→List Sp→List (List Sp)
 |[],out=>[out]
 |g::gs,out=>(List.range c.beach.rows.toNat).flatMap fun (r:Nat)=>(List.range (c.beach.places-g.2+1).toNat).flatMap fun (p:Nat)=>
  if ((BG c sure ⟨g.1,g.2,(r:Int),(p:Int)⟩).enough&&out.all (D0 c ⟨g.1,g.2,(r:Int),(p:Int)⟩))=true then FW c sure gs (out++[⟨g.1,g.2,(r:Int),(p:Int)⟩]) else[]
def AFL(c:AO)(sure:List (List Int)):List (Nat×Int)→List Sp→List (List Sp)
 |[],out=>[out]
 |g::gs,out=>(List.range c.beach.rows.toNat).flatMap fun (r:Nat)=>(List.range c.beach.places.toNat).flatMap fun (p:Nat)=>
  if (nS c out ⟨g.1,g.2,(r:Int),(p:Int)⟩&&(BG c sure ⟨g.1,g.2,(r:Int),(p:Int)⟩).enough)=true then AFL c sure gs (out++[⟨g.1,g.2,(r:Int),(p:Int)⟩]) else[]
def D6(c:AO)(sure:List (List Int))(l:List Sp):CE:=l.foldl (fun t x=>let s:=BG c sure x;⟨t.sun+s.sun,t.carried+s.carried,t.enough&&s.enough⟩) ⟨0,0,true⟩
def E0(c:AO)(sure:List (List Int))(acc:Option (List Sp×CE))(l:List Sp):Option (List Sp×CE) :=
 let s:=D6 c sure l
 match acc with
 |some (b,t)=>if s.sun<t.sun∨(s.sun=t.sun∧t.carried≤s.carried) then some (b,t) else some (l,s)
 |none=>some (l,s)
def iD(c:AO)(sure:List (List Int))(ls:List (List Sp)):Option (List Sp×CE):=ls.foldl (E0 c sure) none
def AVC(c:AO)(sure:List (List Int))(acc:Int×Int)(l:List Sp):Int×Int :=
 let s:=D6 c sure l
 if acc.1<s.sun∨(s.sun=acc.1∧s.carried<acc.2) then(s.sun,s.carried) else acc
def BJW(c:AO)(sure:List (List Int))(ls:List (List Sp)):Int×Int:=ls.foldl (AVC c sure) (-1,0)
theorem Z0{c:AO}{sure:List (List Int)}:∀(ls:List (List Sp)) (acc:Option (List Sp×CE)),(match ls.foldl (E0 c sure) acc with
  |some (b,t)=>(b∈ls∧t=D6 c sure b)∨acc=some (b,t)
  | none=>ls=[]∧acc=none)
 |[],acc=>by
  cases acc with
  |none=>exact⟨rfl,rfl⟩
  |some bt=>exact .inr rfl
 |l::ls,acc=>by
  have ih:=Z0 (c:=c) (sure:=sure) ls (E0 c sure acc l);simp only[List.foldl_cons];generalize ls.foldl (E0 c sure) (E0 c sure acc l)=R at ih⊢;have hstep:E0 c sure acc l=acc∧acc≠none∨E0 c sure acc l=some (l,D6 c sure l):=by
   cases acc with
   |none=>exact .inr rfl
   |some bt=>
    obtain⟨b,t⟩:=bt
    simp only[E0]
    split
    ·exact .inl ⟨rfl,by simp⟩
    ·exact .inr rfl
  cases R with
  |none=>
   obtain⟨_,h2⟩:=ih
   rcases hstep with⟨e,h⟩|e
   ·rw[e]at h2;exact absurd h2 h
   ·rw[e]at h2;cases h2
  |some bt=>
   obtain⟨b,t⟩:=bt
   simp only at ih⊢
   rcases ih with⟨h1,h2⟩|h
   ·exact .inl ⟨by simp[h1],h2⟩
   ·rcases hstep with⟨e,_⟩|e
    ·rw[e]at h;exact .inr h
    ·rw[e]at h;cases h;exact .inl ⟨by simp,rfl⟩
end Go.Wind
open Go Go.Pg Go.Proofs Go.Wind
namespace Go.Proofs.Tryz.Op
def A3(x:Bool):List V:=[.bool x]
abbrev lb(l:List Bool):V:=.list false (l.map A3)
def AS(l:List Bool):List V:=[lb l]
def AU(f:RJ):List V:=[i f.size,i f.good,.bool f.dog,.bool f.shy]
def AQ(x:Sp):List V:=[i (x.fam:Int),i x.size,i x.row,i x.place]
def AD(c:AO):List V:=[i c.beach.last,i c.beach.rows,i c.beach.places,i c.beach.reach,li c.beach.face,li c.beach.sun,G5 c.beach.winds,.list false (c.beach.breaks.map AF),.list false (c.beach.notes.map AF),G5 c.plan,.list false (c.chairs.map AS),.list false (c.fams.map AU)]
def okF(f:RJ):Prop:=LO f.size∧LO f.good
structure okC(c:AO):Prop where
 b:okB c.beach
 p:∀l∈c.plan,∀n∈l,LO n
 f:∀f∈c.fams,okF f
end Go.Proofs.Tryz.Op
namespace Go.Wind
theorem NF(c:AO):∀(a before r:List Sp),DR c before (a++r)=(DR c before a&&DR c (before++a) r)
 |[],before,r=>by simp[DR]
 |x::a,before,r=>by simp only[List.cons_append,DR,NF c a (before++[x]) r,List.append_assoc,Bool.and_assoc];rfl
theorem nT(c:AO)(l:List Sp){j:Nat}(hj:j<l.length):DR c [] (l.take (j+1))=(DR c [] (l.take j)&&(CQ c l[j]&&(l.take j).all (D0 c l[j]))):=by rw[List.take_succ_eq_append_getElem hj,NF];simp[DR]
theorem Z1(c:AO)(l:List Sp)(j:Nat)(h:DR c [] (l.take j)=false):DR c [] l=false:=by have:=NF c (l.take j) [] (l.drop j);rw[List.take_append_drop,h,Bool.false_and]at this;exact this
theorem LQ(c:AO):∀(a before:List Sp),DR c before a=true→∀x∈a,CQ c x=true
 |[],_,_,_,hx=>by cases hx
 |y::a,before,h,x,hx=>by
  simp only[DR,Bool.and_eq_true]at h;rcases List.mem_cons.1 hx with rfl|hx
  ·exact h.1.1
  ·exact LQ c a _ h.2 x hx
theorem nU(l:List Sp){j:Nat}(hj:j<l.length):C7 (l.take (j+1))=C7 (l.take j)+l[j].size:=by rw[List.take_succ_eq_append_getElem hj];simp only[C7,List.map_append,List.map_cons,List.map_nil,List.sum_append,List.sum_cons,List.sum_nil,Int.add_zero]
theorem WL:∀(l:List Sp),(∀x∈l,0≤x.size∧x.size≤4)→0≤C7 l∧C7 l≤4*l.length
 |[],_=>by simp[C7]
 |x::l,h=>by have ih:=WL l fun y hy=>h y (by simp[hy]);have:=h x (by simp);simp only[C7,List.map_cons,List.sum_cons,List.length_cons]at ih⊢;omega
end Go.Wind
namespace Go.Proofs.Tryz.Op
def yH{σ:Type}(U:σ→List AA)(I:σ→Prop)(K:Nat)(f:FuncId)(cap:List V)(p:σ→List Bool→Bool)(nx:σ→List Bool→σ)(xs:List (List Bool))(c0:Nat):Prop:=∀n c fr s x,c0≤c→I s→x∈xs→(p s x=false→I (nx s x))∧∃c',c≤c'∧G4 (BN Tryz.prog ann kn (n+K)) (some 16) ⟨c,fr,⟨U s,[]⟩⟩ f (lb x::cap)=some ⟨c',(16,true,.bool (p s x))::fr,⟨U (nx s x),[]⟩⟩
theorem yI{σ:Type}(n K:Nat)(U:σ→List AA)(I:σ→Prop)(f:FuncId)(cap:List V)(hcw:cap.map weakV=cap)(p:σ→List Bool→Bool)(nx:σ→List Bool→σ)(xs:List (List Bool))(c0:Nat)(hp:yH U I K f cap p nx xs c0)(hl:xs.length≤1000):∀(d k:Nat) (s:σ) (c m:Nat),k+d=xs.length→d<m→c0≤c→I s →
  ∃(c':Nat) (j:Int),c≤c'∧0≤j∧BF (AE Tryz.prog ann kn (n+K+50) 19) UL (ann 19 (BW UL)) m ⟨c,[(0,true,.list false (xs.map AS)),(1,true,.fn f [] cap),(7,true,i xs.length),(8,true,i k)],⟨U s,[]⟩⟩ =
   bif (BR p nx s (xs.drop k)).1 then some (.ret,⟨c',[(4,true,i j),(17,true,i j),(5,true,i j)],⟨U (BR p nx s (xs.drop k)).2,[]⟩⟩)
   else some (.exit 0,⟨c',[(9,true,.bool false),(0,true,.list false (xs.map AS)),(1,true,.fn f [] cap),(7,true,i xs.length),(8,true,i xs.length)],⟨U (BR p nx s (xs.drop k)).2,[]⟩⟩)
 |0,k,s,c,m+1,hd,hm,hc0,hi=>by
  have:k=xs.length:=by omega
  subst this;refine⟨c,0,Nat.le_refl _,by omega,?_⟩;simp[AB,BR]
 |d+1,k,s,c,m+1,hd,hm,hc0,hi=>by
  have hk:k<xs.length:=by omega
  have hw:=BM (k:=k) (by omega);have nrm:∀a:Nat,n+K+a=(n+a)+K:=fun a=>by omega
  rw[AB,List.drop_eq_getElem_cons hk];simp only[BR];obtain⟨hi',c1,hc1,q⟩:=hp (n+43) c [(15,true,lb xs[k]),(14,true,.ref (AS xs[k])),(13,true,i k),(12,true,.list false (xs.map AS)),(11,true,.fn f [] cap),(0,true,.list false (xs.map AS)),(1,true,.fn f [] cap),(5,true,i k),(7,true,i xs.length),(8,true,i k)] s xs[k] hc0 hi (List.getElem_mem hk);generalize e:p s xs[k]=b at q hi';cases b with
  |true=>
   refine⟨c1,k,hc1,by omega,?_⟩
   try simp only[AS]at q
   rw[←nrm]at q
   try simp at q
   simp[hk,hw,AS,q,hcw]
  |false=>
   obtain⟨c',j,h1,h2,ih⟩:=yI n K U I f cap hcw p nx xs c0 hp hl d (k+1) (nx s xs[k]) c1 m (by omega) (by omega) (by omega) (hi' rfl)
   refine⟨c',j,by omega,h2,?_⟩
   try simp only[AS]at q ih
   rw[←nrm]at q
   try simp at q
   simp at ih
   simp[hk,hw,AS,q,ih,hcw]
theorem AL5{σ:Type}(n K:Nat)(up:σ→List AA)(loc:σ→AA)(I:σ→Prop)(f:FuncId)(cap:List V)(hcw:cap.map weakV=cap)(hco:cap.all (AH 8)=false)(p:σ→List Bool→Bool)(nx:σ→List Bool→σ)(xs:List (List Bool))(c0:Nat)(hp:yH (fun s=>up s++[loc s]) I K f cap p nx xs c0)(hl:xs.length≤40)(hsh:∀s (t:St),(up s).length+1≤t.up.length→(up s++[loc s]).map (AL t)=up s++[loc s])(c dd:Nat)(fr:Fr)(s:σ)(hc0:c0≤c)(hi:I s) :
  ∃(c':Nat) (j:Int),c≤c'∧decide (0≤j)=(BR p nx s xs).1∧G4 (BN Tryz.prog ann kn (n+K+100)) (some dd) ⟨c,fr,⟨up s,loc s⟩⟩ 187 [.list false (xs.map AS),.fn f [] cap]=some ⟨c',(dd,true,i j)::fr,⟨up (BR p nx s xs).2,loc (BR p nx s xs).2⟩⟩:=by
 obtain⟨c1,j,h1,h2,q⟩:=yI (n+45) K (fun s=>up s++[loc s]) I f cap hcw p nx xs c0 hp (by omega) xs.length 0 s c (n+K+95) (by omega) (by omega) hc0 hi
 have e:n+45+K+50=n+K+95:=by omega
 rw[e]at q
 have hcl:([V.list false (xs.map AS),V.fn f [] cap]).all (AH 9)=false:=by simp[hco]
 have hs:=fun s=>hsh s ⟨up s++[loc s],[]⟩ (by simp)
 simp at hs
 rw[BA Tryz.func187 b187 rfl hcl]
 simp only[List.drop_zero]at q
 generalize (BR p nx s xs).2=s' at q⊢
 generalize e:(BR p nx s xs).1=b at q
 cases b with
 |true=>
  refine⟨c1,j,h1,by simpa using h2,?_⟩
  simp at q
  simp[AV9,AG,q,hs]
 |false=>
  refine⟨c1,-1,h1,by simp,?_⟩
  simp at q
  simp[AV9,AG,q,hs]
theorem A6X{σ:Type}(n K:Nat)(up:σ→List AA)(loc:σ→AA)(I:σ→Prop)(f:FuncId)(cap:List V)(hcw:cap.map weakV=cap)(hco:cap.all (AH 8)=false)(p:σ→List Bool→Bool)(nx:σ→List Bool→σ)(xs:List (List Bool))(c0:Nat)(hp:yH (fun s=>up s++[loc s]++[[]]) I K f cap p nx xs c0)(hl:xs.length≤40)(hsh:∀s (t:St),(up s).length+1≤t.up.length→(up s++[loc s]).map (AL t)=up s++[loc s])(c dd:Nat)(fr:Fr)(s:σ)(hc0:c0≤c)(hi:I s) :
  ∃c':Nat,c≤c'∧G4 (BN Tryz.prog ann kn (n+K+200)) (some dd) ⟨c,fr,⟨up s,loc s⟩⟩ 159 [.list false (xs.map AS),.fn f [] cap]=some ⟨c',(dd,true,.bool (BR p nx s xs).1)::fr,⟨up (BR p nx s xs).2,loc (BR p nx s xs).2⟩⟩:=by
 have hcl:([V.list false (xs.map AS),V.fn f [] cap]).all (AH 9)=false:=by simp[hco]
 have hsh2:∀s (t:St),(up s++[loc s]).length+1≤t.up.length→(up s++[loc s]++[[]]).map (AL t)=up s++[loc s]++[[]]:=fun s t h=>by have:=hsh s t (by simp at h;omega);simp only[List.map_append,List.map_cons,List.map_nil,FT]at this⊢;rw[this]
 obtain⟨c1,j,h1,h2,q⟩:=AL5 (n+97) K (fun s=>up s++[loc s]) (fun _=>[]) I f cap hcw hco p nx xs c0 hp hl hsh2 c 7 [(6,true,.fn f [] cap),(5,true,.list false (xs.map AS)),(0,true,.list false (xs.map AS)),(1,true,.fn f [] cap)] s hc0 hi
 refine⟨c1,h1,?_⟩
 have e:n+97+K+100=n+K+197:=by omega
 rw[e]at q
 have hs:=fun s=>hsh s ⟨up s++[loc s],[]⟩ (by simp)
 simp at hs
 rw[BA Tryz.func159 b159 rfl hcl]
 simp[A9B,AG,hcw,q,h2,hs]
theorem ARF(n K:Nat)(b:AO)(f:FuncId)(p:List Bool→Bool)(xs:List (List Bool))(hl:xs.length≤40)(hf:∀n x,x∈xs→A0 Tryz.prog kn (AE Tryz.prog ann kn (n+K)) f [.agg (AD b),lb x]=some (.bool (p x)))(hh:BL Tryz.prog f=false:=by simp) :
  A0 Tryz.prog kn (AE Tryz.prog ann kn (n+K+300)) 119 [.list false (xs.map AS),.fn f [.agg (AD b)] []]=some (.bool (xs.all p)):=by
 rw[AP rfl,AR Tryz.func119 BK4 rfl (by simp[AD,AJ,AM,AF,AS,A3,AU])]
 have hp2:yH (fun (_:Unit)=>[]++[[(3,0,A6.box [V.fn f [.agg (AD b)] []])]]++[[]]) (fun _=>True) (K+20) 160 [.ptr 0 3 0 0] (fun _ x=>!p x) (fun _ _=>()) xs 0:=by
  intro n c1 fr s x hc0 hi hx;refine⟨fun _=>trivial,c1,by omega,?_⟩;have q:=fun n=>hf n x hx;have q2:=q (n+17);have e:n+17+K=n+K+17:=by omega
  rw[e]at q2;simp only[AD]at q2⊢;rw[show n+(K+20)=n+K+20 from by omega,List.nil_append,BA Tryz.func160 b160 rfl (by simp)];simp[A9D,AG,AD,AJ,AM,AF,AS,A3,AU,q2,hh];try simp[AD,AJ,AM,AF,AS,A3,AU,q2,hh]
 obtain⟨c',h1,q⟩:=A6X (n+77) (K+20) (fun _=>[]) (fun _=>[(3,0,.box [.fn f [.agg (AD b)] []])]) (fun _=>True) 160 [.ptr 0 3 0 0] (by simp) (by simp) (fun _ x=>!p x) (fun _ _=>()) xs 0 hp2 hl (by simp[AD,AJ,AM,AF,AS,A3,AU]) 1 7 [(6,true,.fn 160 [] [.ptr 0 3 0 0]),(5,true,.list false (xs.map AS)),(0,true,.list false (xs.map AS)),(1,true,.fn f [.agg (AD b)] []),(3,true,.ptr 0 3 0 0)] () (Nat.zero_le _) trivial
 have e:n+77+(K+20)+200=n+K+297:=by omega
 rw[e,FV]at q
 have:=KJ p xs
 simp only[AD]at q⊢
 simp[A9C,AG,q]
 rw[←this,Bool.not_not]
def yJ{σ:Type}(U:σ→List AA)(I:σ→Prop)(K:Nat)(f:FuncId)(cap:List V)(p:σ→RJ→Bool)(nx:σ→RJ→σ)(xs:List (RJ))(c0:Nat):Prop:=∀n c fr s x,c0≤c→I s→x∈xs→(p s x=false→I (nx s x))∧∃c',c≤c'∧G4 (BN Tryz.prog ann kn (n+K)) (some 16) ⟨c,fr,⟨U s,[]⟩⟩ f (.agg (AU x)::cap)=some ⟨c',(16,true,.bool (p s x))::fr,⟨U (nx s x),[]⟩⟩
theorem yK{σ:Type}(n K:Nat)(U:σ→List AA)(I:σ→Prop)(f:FuncId)(cap:List V)(hcw:cap.map weakV=cap)(p:σ→RJ→Bool)(nx:σ→RJ→σ)(xs:List (RJ))(c0:Nat)(hp:yJ U I K f cap p nx xs c0)(hl:xs.length≤1000):∀(d k:Nat) (s:σ) (c m:Nat),k+d=xs.length→d<m→c0≤c→I s →
  ∃(c':Nat) (j:Int),c≤c'∧0≤j∧BF (AE Tryz.prog ann kn (n+K+50) 19) UM (ann 19 (BW UM)) m ⟨c,[(0,true,.list false (xs.map AU)),(1,true,.fn f [] cap),(7,true,i xs.length),(8,true,i k)],⟨U s,[]⟩⟩ =
   bif (BR p nx s (xs.drop k)).1 then some (.ret,⟨c',[(4,true,i j),(17,true,i j),(5,true,i j)],⟨U (BR p nx s (xs.drop k)).2,[]⟩⟩)
   else some (.exit 0,⟨c',[(9,true,.bool false),(0,true,.list false (xs.map AU)),(1,true,.fn f [] cap),(7,true,i xs.length),(8,true,i xs.length)],⟨U (BR p nx s (xs.drop k)).2,[]⟩⟩)
 |0,k,s,c,m+1,hd,hm,hc0,hi=>by
  have:k=xs.length:=by omega
  subst this;refine⟨c,0,Nat.le_refl _,by omega,?_⟩;simp[AB,BR]
 |d+1,k,s,c,m+1,hd,hm,hc0,hi=>by
  have hk:k<xs.length:=by omega
  have hw:=BM (k:=k) (by omega);have nrm:∀a:Nat,n+K+a=(n+a)+K:=fun a=>by omega
  rw[AB,List.drop_eq_getElem_cons hk];simp only[BR];obtain⟨hi',c1,hc1,q⟩:=hp (n+43) c [(15,true,.agg (AU xs[k])),(14,true,.ref (AU xs[k])),(13,true,i k),(12,true,.list false (xs.map AU)),(11,true,.fn f [] cap),(0,true,.list false (xs.map AU)),(1,true,.fn f [] cap),(5,true,i k),(7,true,i xs.length),(8,true,i k)] s xs[k] hc0 hi (List.getElem_mem hk);generalize e:p s xs[k]=b at q hi';cases b with
  |true=>
   refine⟨c1,k,hc1,by omega,?_⟩
   try simp only[AU]at q
   rw[←nrm]at q
   try simp at q
   simp[hk,hw,AU,q,hcw]
  |false=>
   obtain⟨c',j,h1,h2,ih⟩:=yK n K U I f cap hcw p nx xs c0 hp hl d (k+1) (nx s xs[k]) c1 m (by omega) (by omega) (by omega) (hi' rfl)
   refine⟨c',j,by omega,h2,?_⟩
   try simp only[AU]at q ih
   rw[←nrm]at q
   try simp at q
   simp at ih
   simp[hk,hw,AU,q,ih,hcw]
theorem AL6{σ:Type}(n K:Nat)(up:σ→List AA)(loc:σ→AA)(I:σ→Prop)(f:FuncId)(cap:List V)(hcw:cap.map weakV=cap)(hco:cap.all (AH 8)=false)(p:σ→RJ→Bool)(nx:σ→RJ→σ)(xs:List (RJ))(c0:Nat)(hp:yJ (fun s=>up s++[loc s]) I K f cap p nx xs c0)(hl:xs.length≤40)(hsh:∀s (t:St),(up s).length+1≤t.up.length→(up s++[loc s]).map (AL t)=up s++[loc s])(c dd:Nat)(fr:Fr)(s:σ)(hc0:c0≤c)(hi:I s) :
  ∃(c':Nat) (j:Int),c≤c'∧decide (0≤j)=(BR p nx s xs).1∧G4 (BN Tryz.prog ann kn (n+K+100)) (some dd) ⟨c,fr,⟨up s,loc s⟩⟩ 188 [.list false (xs.map AU),.fn f [] cap]=some ⟨c',(dd,true,i j)::fr,⟨up (BR p nx s xs).2,loc (BR p nx s xs).2⟩⟩:=by
 obtain⟨c1,j,h1,h2,q⟩:=yK (n+45) K (fun s=>up s++[loc s]) I f cap hcw p nx xs c0 hp (by omega) xs.length 0 s c (n+K+95) (by omega) (by omega) hc0 hi
 have e:n+45+K+50=n+K+95:=by omega
 rw[e]at q
 have hcl:([V.list false (xs.map AU),V.fn f [] cap]).all (AH 9)=false:=by simp[hco]
 have hs:=fun s=>hsh s ⟨up s++[loc s],[]⟩ (by simp)
 simp at hs
 rw[BA Tryz.func188 b188 rfl hcl]
 simp only[List.drop_zero]at q
 generalize (BR p nx s xs).2=s' at q⊢
 generalize e:(BR p nx s xs).1=b at q
 cases b with
 |true=>
  refine⟨c1,j,h1,by simpa using h2,?_⟩
  simp at q
  simp[AWA,AG,q,hs]
 |false=>
  refine⟨c1,-1,h1,by simp,?_⟩
  simp at q
  simp[AWA,AG,q,hs]
theorem A6Y{σ:Type}(n K:Nat)(up:σ→List AA)(loc:σ→AA)(I:σ→Prop)(f:FuncId)(cap:List V)(hcw:cap.map weakV=cap)(hco:cap.all (AH 8)=false)(p:σ→RJ→Bool)(nx:σ→RJ→σ)(xs:List (RJ))(c0:Nat)(hp:yJ (fun s=>up s++[loc s]++[[]]) I K f cap p nx xs c0)(hl:xs.length≤40)(hsh:∀s (t:St),(up s).length+1≤t.up.length→(up s++[loc s]).map (AL t)=up s++[loc s])(c dd:Nat)(fr:Fr)(s:σ)(hc0:c0≤c)(hi:I s) :
  ∃c':Nat,c≤c'∧G4 (BN Tryz.prog ann kn (n+K+200)) (some dd) ⟨c,fr,⟨up s,loc s⟩⟩ 161 [.list false (xs.map AU),.fn f [] cap]=some ⟨c',(dd,true,.bool (BR p nx s xs).1)::fr,⟨up (BR p nx s xs).2,loc (BR p nx s xs).2⟩⟩:=by
 have hcl:([V.list false (xs.map AU),V.fn f [] cap]).all (AH 9)=false:=by simp[hco]
 have hsh2:∀s (t:St),(up s++[loc s]).length+1≤t.up.length→(up s++[loc s]++[[]]).map (AL t)=up s++[loc s]++[[]]:=fun s t h=>by have:=hsh s t (by simp at h;omega);simp only[List.map_append,List.map_cons,List.map_nil,FT]at this⊢;rw[this]
 obtain⟨c1,j,h1,h2,q⟩:=AL6 (n+97) K (fun s=>up s++[loc s]) (fun _=>[]) I f cap hcw hco p nx xs c0 hp hl hsh2 c 7 [(6,true,.fn f [] cap),(5,true,.list false (xs.map AU)),(0,true,.list false (xs.map AU)),(1,true,.fn f [] cap)] s hc0 hi
 refine⟨c1,h1,?_⟩
 have e:n+97+K+100=n+K+197:=by omega
 rw[e]at q
 have hs:=fun s=>hsh s ⟨up s++[loc s],[]⟩ (by simp)
 simp at hs
 rw[BA Tryz.func161 b161 rfl hcl]
 simp[A9E,AG,hcw,q,h2,hs]
theorem ARG(n K:Nat)(f:FuncId)(p:RJ→Bool)(xs:List (RJ))(hl:xs.length≤40)(hf:∀n x,x∈xs→A0 Tryz.prog kn (AE Tryz.prog ann kn (n+K)) f [.agg (AU x)]=some (.bool (p x)))(hh:BL Tryz.prog f=false:=by simp) :
  A0 Tryz.prog kn (AE Tryz.prog ann kn (n+K+300)) 120 [.list false (xs.map AU),.fn f [] []]=some (.bool (xs.all p)):=by
 rw[AP rfl,AR Tryz.func120 BK5 rfl (by simp[AC,AJ,AM,AF,AS,A3,AU])]
 have hp2:yJ (fun (_:Unit)=>[]++[[(3,0,A6.box [V.fn f [] []])]]++[[]]) (fun _=>True) (K+20) 162 [.ptr 0 3 0 0] (fun _ x=>!p x) (fun _ _=>()) xs 0:=by
  intro n c1 fr s x hc0 hi hx;refine⟨fun _=>trivial,c1+1,by omega,?_⟩;have q:=fun n=>hf n x hx;have q2:=q (n+17);have e:n+17+K=n+K+17:=by omega
  rw[e]at q2;simp only[AU]at q2⊢;rw[show n+(K+20)=n+K+20 from by omega,List.nil_append,BA Tryz.func162 b162 rfl (by simp)];simp[A9G,AG,AJ,q2,hh];try simp[AJ,q2,hh]
 obtain⟨c',h1,q⟩:=A6Y (n+77) (K+20) (fun _=>[]) (fun _=>[(3,0,.box [.fn f [] []])]) (fun _=>True) 162 [.ptr 0 3 0 0] (by simp) (by simp) (fun _ x=>!p x) (fun _ _=>()) xs 0 hp2 hl (by simp[AC,AJ,AM,AF,AS,A3,AU]) 1 7 [(6,true,.fn 162 [] [.ptr 0 3 0 0]),(5,true,.list false (xs.map AU)),(0,true,.list false (xs.map AU)),(1,true,.fn f [] []),(3,true,.ptr 0 3 0 0)] () (Nat.zero_le _) trivial
 have e:n+77+(K+20)+200=n+K+297:=by omega
 rw[e,FV]at q
 have:=KJ p xs
 skip
 simp[A9F,AG,q]
 rw[←this,Bool.not_not]
def yL{σ:Type}(U:σ→List AA)(I:σ→Prop)(K:Nat)(f:FuncId)(cap:List V)(p:σ→Sp→Bool)(nx:σ→Sp→σ)(xs:List (Sp))(c0:Nat):Prop:=∀n c fr s x,c0≤c→I s→x∈xs→(p s x=false→I (nx s x))∧∃c',c≤c'∧G4 (BN Tryz.prog ann kn (n+K)) (some 16) ⟨c,fr,⟨U s,[]⟩⟩ f (.agg (AQ x)::cap)=some ⟨c',(16,true,.bool (p s x))::fr,⟨U (nx s x),[]⟩⟩
theorem yM{σ:Type}(n K:Nat)(U:σ→List AA)(I:σ→Prop)(f:FuncId)(cap:List V)(hcw:cap.map weakV=cap)(p:σ→Sp→Bool)(nx:σ→Sp→σ)(xs:List (Sp))(c0:Nat)(hp:yL U I K f cap p nx xs c0)(hl:xs.length≤1000):∀(d k:Nat) (s:σ) (c m:Nat),k+d=xs.length→d<m→c0≤c→I s →
  ∃(c':Nat) (j:Int),c≤c'∧0≤j∧BF (AE Tryz.prog ann kn (n+K+50) 19) NM (ann 19 (BW NM)) m ⟨c,[(0,true,.list false (xs.map AQ)),(1,true,.fn f [] cap),(7,true,i xs.length),(8,true,i k)],⟨U s,[]⟩⟩ =
   bif (BR p nx s (xs.drop k)).1 then some (.ret,⟨c',[(4,true,i j),(17,true,i j),(5,true,i j)],⟨U (BR p nx s (xs.drop k)).2,[]⟩⟩)
   else some (.exit 0,⟨c',[(9,true,.bool false),(0,true,.list false (xs.map AQ)),(1,true,.fn f [] cap),(7,true,i xs.length),(8,true,i xs.length)],⟨U (BR p nx s (xs.drop k)).2,[]⟩⟩)
 |0,k,s,c,m+1,hd,hm,hc0,hi=>by
  have:k=xs.length:=by omega
  subst this;refine⟨c,0,Nat.le_refl _,by omega,?_⟩;simp[AB,BR]
 |d+1,k,s,c,m+1,hd,hm,hc0,hi=>by
  have hk:k<xs.length:=by omega
  have hw:=BM (k:=k) (by omega);have nrm:∀a:Nat,n+K+a=(n+a)+K:=fun a=>by omega
  rw[AB,List.drop_eq_getElem_cons hk];simp only[BR];obtain⟨hi',c1,hc1,q⟩:=hp (n+43) c [(15,true,.agg (AQ xs[k])),(14,true,.ref (AQ xs[k])),(13,true,i k),(12,true,.list false (xs.map AQ)),(11,true,.fn f [] cap),(0,true,.list false (xs.map AQ)),(1,true,.fn f [] cap),(5,true,i k),(7,true,i xs.length),(8,true,i k)] s xs[k] hc0 hi (List.getElem_mem hk);generalize e:p s xs[k]=b at q hi';cases b with
  |true=>
   refine⟨c1,k,hc1,by omega,?_⟩
   try simp only[AQ]at q
   rw[←nrm]at q
   try simp at q
   simp[hk,hw,AQ,q,hcw]
  |false=>
   obtain⟨c',j,h1,h2,ih⟩:=yM n K U I f cap hcw p nx xs c0 hp hl d (k+1) (nx s xs[k]) c1 m (by omega) (by omega) (by omega) (hi' rfl)
   refine⟨c',j,by omega,h2,?_⟩
   try simp only[AQ]at q ih
   rw[←nrm]at q
   try simp at q
   simp at ih
   simp[hk,hw,AQ,q,ih,hcw]
theorem AL7{σ:Type}(n K:Nat)(up:σ→List AA)(loc:σ→AA)(I:σ→Prop)(f:FuncId)(cap:List V)(hcw:cap.map weakV=cap)(hco:cap.all (AH 8)=false)(p:σ→Sp→Bool)(nx:σ→Sp→σ)(xs:List (Sp))(c0:Nat)(hp:yL (fun s=>up s++[loc s]) I K f cap p nx xs c0)(hl:xs.length≤40)(hsh:∀s (t:St),(up s).length+1≤t.up.length→(up s++[loc s]).map (AL t)=up s++[loc s])(c dd:Nat)(fr:Fr)(s:σ)(hc0:c0≤c)(hi:I s) :
  ∃(c':Nat) (j:Int),c≤c'∧decide (0≤j)=(BR p nx s xs).1∧G4 (BN Tryz.prog ann kn (n+K+100)) (some dd) ⟨c,fr,⟨up s,loc s⟩⟩ 189 [.list false (xs.map AQ),.fn f [] cap]=some ⟨c',(dd,true,i j)::fr,⟨up (BR p nx s xs).2,loc (BR p nx s xs).2⟩⟩:=by
 obtain⟨c1,j,h1,h2,q⟩:=yM (n+45) K (fun s=>up s++[loc s]) I f cap hcw p nx xs c0 hp (by omega) xs.length 0 s c (n+K+95) (by omega) (by omega) hc0 hi
 have e:n+45+K+50=n+K+95:=by omega
 rw[e]at q
 have hcl:([V.list false (xs.map AQ),V.fn f [] cap]).all (AH 9)=false:=by simp[hco]
 have hs:=fun s=>hsh s ⟨up s++[loc s],[]⟩ (by simp)
 simp at hs
 rw[BA Tryz.func189 b189 rfl hcl]
 simp only[List.drop_zero]at q
 generalize (BR p nx s xs).2=s' at q⊢
 generalize e:(BR p nx s xs).1=b at q
 cases b with
 |true=>
  refine⟨c1,j,h1,by simpa using h2,?_⟩
  simp at q
  simp[ACY,AG,q,hs]
 |false=>
  refine⟨c1,-1,h1,by simp,?_⟩
  simp at q
  simp[ACY,AG,q,hs]
theorem A6Z{σ:Type}(n K:Nat)(up:σ→List AA)(loc:σ→AA)(I:σ→Prop)(f:FuncId)(cap:List V)(hcw:cap.map weakV=cap)(hco:cap.all (AH 8)=false)(p:σ→Sp→Bool)(nx:σ→Sp→σ)(xs:List (Sp))(c0:Nat)(hp:yL (fun s=>up s++[loc s]++[[]]) I K f cap p nx xs c0)(hl:xs.length≤40)(hsh:∀s (t:St),(up s).length+1≤t.up.length→(up s++[loc s]).map (AL t)=up s++[loc s])(c dd:Nat)(fr:Fr)(s:σ)(hc0:c0≤c)(hi:I s) :
  ∃c':Nat,c≤c'∧G4 (BN Tryz.prog ann kn (n+K+200)) (some dd) ⟨c,fr,⟨up s,loc s⟩⟩ 171 [.list false (xs.map AQ),.fn f [] cap]=some ⟨c',(dd,true,.bool (BR p nx s xs).1)::fr,⟨up (BR p nx s xs).2,loc (BR p nx s xs).2⟩⟩:=by
 have hcl:([V.list false (xs.map AQ),V.fn f [] cap]).all (AH 9)=false:=by simp[hco]
 have hsh2:∀s (t:St),(up s++[loc s]).length+1≤t.up.length→(up s++[loc s]++[[]]).map (AL t)=up s++[loc s]++[[]]:=fun s t h=>by have:=hsh s t (by simp at h;omega);simp only[List.map_append,List.map_cons,List.map_nil,FT]at this⊢;rw[this]
 obtain⟨c1,j,h1,h2,q⟩:=AL7 (n+97) K (fun s=>up s++[loc s]) (fun _=>[]) I f cap hcw hco p nx xs c0 hp hl hsh2 c 7 [(6,true,.fn f [] cap),(5,true,.list false (xs.map AQ)),(0,true,.list false (xs.map AQ)),(1,true,.fn f [] cap)] s hc0 hi
 refine⟨c1,h1,?_⟩
 have e:n+97+K+100=n+K+197:=by omega
 rw[e]at q
 have hs:=fun s=>hsh s ⟨up s++[loc s],[]⟩ (by simp)
 simp at hs
 rw[BA Tryz.func171 b171 rfl hcl]
 simp[ANW,AG,hcw,q,h2,hs]
theorem AVD{σ:Type}(n K L:Nat)(up:σ→List AA)(loc:σ→AA)(hL:∀s,(up s).length=L)(I:σ→Prop)(f:FuncId)(cap:List V)(hcw:cap.map weakV=cap)(hco:cap.all (AH 8)=false)(p:σ→Sp→Bool)(nx:σ→Sp→σ)(xs:List (Sp))(hl:xs.length≤40)
  (hsh:∀s (t:St),L+1≤t.up.length→(up s++[loc s]).map (AL t)=up s++[loc s]) (hcap:∀(t:St) γ,L+1≤t.up.length→AL t [(3,γ,A6.box [V.fn f [] cap])]=[(3,γ,A6.box [V.fn f [] cap])]) (c:Nat)
  (hp:∀n c1 γ fr s x,c<c1→I s→x∈xs→(p s x=true→I (nx s x))∧∃c',c1≤c'∧G4 (BN Tryz.prog ann kn (n+K)) (some 6) ⟨c1,fr,⟨up s++[loc s]++[[(3,c,A6.box [V.fn f [] cap])]]++[[]]++[[]],[(2,γ,.box (AQ x))]⟩⟩ f (.agg (AQ x)::cap)=some ⟨c',(6,true,.bool (p s x))::fr,⟨up (nx s x)++[loc (nx s x)]++[[(3,c,A6.box [V.fn f [] cap])]]++[[]]++[[]],[(2,γ,.box (AQ x))]⟩⟩) (dd:Nat) (fr:Fr) (s:σ) (hi:I s) :
  ∃c':Nat,c≤c'∧G4 (BN Tryz.prog ann kn (n+K+300)) (some dd) ⟨c,fr,⟨up s,loc s⟩⟩ 137 [.list false (xs.map AQ),.fn f [] cap]=some ⟨c',(dd,true,.bool (!(BR (fun s x=>!p s x) nx s xs).1))::fr,⟨up (BR (fun s x=>!p s x) nx s xs).2,loc (BR (fun s x=>!p s x) nx s xs).2⟩⟩:=by
 have hcl:([V.list false (xs.map AQ),V.fn f [] cap]).all (AH 9)=false:=by simp[TL,hco]
 have hp2:yL (fun s=>up s++[loc s]++[[(3,c,A6.box [V.fn f [] cap])]]++[[]]) I (K+20) 172 [.ptr (L+1) 3 c 0] (fun s x=>!p s x) nx xs (c+1):=by
  have hcap':∀t:St,L+1≤t.up.length→AL t [(3,c,A6.box [V.fn f [] cap])]=[(3,c,A6.box [V.fn f [] cap])]:=fun t h=>hcap t c h;intro n c1 fr s x hc0 hi hx;obtain⟨h1,c',h2,q⟩:=hp (n+17) (c1+1) c1 [(5,true,.agg (AQ x)),(4,true,.fn f [] cap),(0,true,.agg (AQ x)),(1,true,.ptr (L+1) 3 c 0),(2,true,.ptr (L+4) 2 c1 0)] s x (by omega) hi hx;refine⟨fun h=>h1 (by simpa using h),c',by omega,?_⟩;have e:n+17+K=n+K+17:=by omega
  rw[e]at q;rw[show n+(K+20)=n+K+20 from by omega,BA Tryz.func172 b172 rfl (by simp)];generalize hB:[(3,c,A6.box [V.fn f [] cap])]=B at q hcap';have hB1:AA.get B 3=some (c,.box [.fn f [] cap]):=by rw[←hB];rfl
  have hg:(up s++[loc s]++[B]++[[]])[L+1]? = some B:=by simp only[List.append_assoc];rw[List.getElem?_append_right (by rw[hL];omega)];simp[hL]
  have hs1:∀s (t:St),L+1≤t.up.length→List.map (AL t) (up s)=up s∧AL t (loc s)=loc s:=fun s t h=>by simpa using hsh s t h
  have hu:∀(l:List AA) a b,CL (l++[a,b,[],[]])=some (l++[a,b,[]],[]):=fun l a b=>by have:=DG ([]:AA) (l++[a,b,[]]);rwa [List.append_assoc]at this
  simp only[List.append_assoc,List.cons_append,List.nil_append,AQ]at q hg⊢;simp[hu,AWB,AG,hcw,q,hg,hL,hB1,(hs1 _ _ _).1,(hs1 _ _ _).2,hcap']
 have hsh2:∀s (t:St),(up s++[loc s]).length+1≤t.up.length→(up s++[loc s]++[[(3,c,A6.box [V.fn f [] cap])]]).map (AL t)=up s++[loc s]++[[(3,c,A6.box [V.fn f [] cap])]]:=fun s t h=>by
  have h':L+1≤t.up.length:=by simp[hL]at h;omega
  have:=hsh s t h';have h3:=hcap t c h';rw[List.map_append,this];simp only[List.map_cons,List.map_nil,h3]
 obtain⟨c',h1,q⟩:=A6Z (n+77) (K+20) (fun s=>up s++[loc s]) (fun _=>[(3,c,A6.box [V.fn f [] cap])]) I 172 [.ptr (L+1) 3 c 0] (by simp) (by simp) (fun s x=>!p s x) nx xs (c+1) hp2 hl hsh2 (c+1) 7 [(6,true,.fn 172 [] [.ptr (L+1) 3 c 0]),(5,true,.list false (xs.map AQ)),(0,true,.list false (xs.map AQ)),(1,true,.fn f [] cap),(3,true,.ptr (L+1) 3 c 0)] s (Nat.le_refl _) hi
 refine⟨c',by omega,?_⟩
 have e:n+77+(K+20)+200=n+K+297:=by omega
 rw[e]at q
 have hs1:∀s (t:St),L+1≤t.up.length→List.map (AL t) (up s)=up s∧AL t (loc s)=loc s:=fun s t h=>by simpa using hsh s t h
 rw[BA Tryz.func137 b137 rfl hcl]
 try simp only[List.length_append,List.length_cons,List.length_nil]at q⊢
 simp[ANY,AG,hcw,hL,q,(hs1 _ _ _).1,(hs1 _ _ _).2]
def BPU{σ:Type}(U:σ→List AA)(I:σ→Prop)(K:Nat)(f:FuncId)(cap:List V)(p:σ→JO→Bool)(nx:σ→JO→σ)(xs:List (JO))(c0:Nat):Prop:=∀c fr s x,c0≤c→I s→x∈xs→(p s x=false→I (nx s x))∧∃c',c≤c'∧∀n,G4 (BN Tryz.prog ann kn (n+K)) (some 16) ⟨c,fr,⟨U s,[]⟩⟩ f (.agg (EV x)::cap)=some ⟨c',(16,true,.bool (p s x))::fr,⟨U (nx s x),[]⟩⟩
def uH(f:Nat→Option (List Int)):Nat→Nat→Option (List Int)
 |0,_=>none
 |e+1,j=>match f j with
  |some x=>some x
  |none=>uH f e (j+1)
def ARH(P:List Int→Bool)(N:Nat):Nat→Nat→List Int→Option (List Int)
 |0,_,out=>if P out=true then some out else none
 |m+1,fr,out=>uH (fun j=>ARH P N m (j+1) (out++[(j:Int)])) (N-m-fr) fr
def AVE(P:List Int→Bool)(N:Nat):Option (List Int):=uH (fun m=>ARH P N m 0 []) (N+1) 0
def IW(P:List Int→Bool)(N x:Nat)(y:List Int):List Int:=if (XU (F5 x N) y&&P (F5 x N))=true then F5 x N else y
def goG(P:List Int→Bool)(N:Nat):Nat→Nat→List Int→List Int
 |0,_,y=>y
 |d+1,x,y=>goG P N d (x+1) (IW P N x y)
def BGQ(P:List Int→Bool)(N:Nat):List Int:=goG P N (2 ^ N) 0 (F5 (2 ^ N-1) N)
def Z2(N:Nat):Nat→List Int→Prop
 |_,[]=>True
 |fr,a::r=>∃i:Nat,a=i∧fr≤i∧i<N∧Z2 N (i+1) r
theorem Z2.more{N:Nat}:∀{l:List Int} {fr:Nat},Z2 N fr l→Z2 (N+1) fr l
 |[],_,_=>trivial
 |_::_,_,⟨i,e,h1,h2,h3⟩=>⟨i,e,h1,by omega,h3.more⟩
theorem Z2.split{N:Nat}:∀{l:List Int} {fr:Nat},Z2 (N+1) fr l→Z2 N fr l∨∃l',l=l'++[(N:Int)]∧Z2 N fr l'
 |[],_,_=>.inl trivial
 |a::r,fr,⟨i,e,h1,h2,h3⟩=>by
  by_cases hi:i=N
  ·subst hi;cases r with
   |nil=>exact .inr ⟨[],by rw[e];rfl,trivial⟩
   |cons a' r'=>
    obtain⟨i',_,h1',h2',_⟩:=h3
    omega
  ·rcases h3.split with h|⟨l',e',h⟩
   ·exact .inl ⟨i,e,h1,by omega,h⟩
   ·exact .inr ⟨a::l',by rw[e'];rfl,i,e,h1,by omega,h⟩
theorem Z3:∀{l k:List Int},l.length=k.length→V6 l k=false→V6 k l=false→l=k
 |[],[],_,_,_=>rfl
 |[],_::_,h,_,_=>by simp at h
 |_::_,[],h,_,_=>by simp at h
 |a::l,b::k,h,h1,h2=>by
  unfold V6 at h1 h2;by_cases e:a=b
  ·rw[if_pos e]at h1;rw[if_pos e.symm]at h2;rw[e,Z3 (by simpa using h) h1 h2]
  ·rw[if_neg e]at h1;rw[if_neg fun hh=>e hh.symm]at h2;have h1:=of_decide_eq_false h1;have h2:=of_decide_eq_false h2;omega
theorem ACD{l k:List Int}(h1:XU l k=false)(h2:XU k l=false):l=k:=by
 unfold XU at h1 h2;simp only[Bool.or_eq_false_iff,Bool.and_eq_false_iff,decide_eq_false_iff_not]at h1 h2;have e:l.length=k.length:=by omega
 exact Z3 e (h1.2.resolve_left fun hh=>hh e) (h2.2.resolve_left fun hh=>hh e.symm)
structure AFM(P:List Int→Bool)(N:Nat)(y:List Int):Prop where
 inc:Z2 N 0 y
 can:P y=true
 min:∀t,Z2 N 0 t→P t=true→XU t y=false
theorem AFM.uniq{P:List Int→Bool}{N:Nat}{y z:List Int}(h:AFM P N y)(h':AFM P N z):y=z:=ACD (h'.min y h.inc h.can) (h.min z h'.inc h'.can)
def BSY(P:List Int→Bool)(N:Nat)(x:Nat)(y:List Int):Prop :=
 Z2 N 0 y∧P y=true∧∀x',x'<x→P (F5 x' N)=true→XU (F5 x' N) y=false
end Go.Proofs.Tryz.Op
