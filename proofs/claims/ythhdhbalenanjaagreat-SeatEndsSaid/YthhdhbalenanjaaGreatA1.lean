/- A case of families on a beach: what is valid, and what a seating is, by the program and by the reference. No program in sight. -/
import Derived.Test.YthhdhbalenanjaaGreatL
import Derived.Test.YthhdhbalenanjaaGreatI1
import Derived.Test.YthhdhbalenanjaaGreatX1
import Derived.Test.YthhdhbalenanjaaGreatW4
import Derived.Test.YthhdhbalenanjaaGreatW3
import Derived.Test.YthhdhbalenanjaaGreatW2
import Derived.Test.YthhdhbalenanjaaGreatFz
set_option maxRecDepth 100000
set_option linter.unusedSimpArgs false
namespace Go.Wind
structure NL where
 size:Int
 good:Int
 dog:Bool
 shy:Bool
deriving DecidableEq
structure A0 where
 beach:AJ
 plan:List (List Int)
 chairs:List (List Bool)
 fams:List NL
def KI(f:NL):Bool:=FN f.size 1 4&&FN f.good 0 5
def GS(c:A0):Bool:=decide ((c.chairs.length:Int)=c.beach.rows)&&c.chairs.all (fun l=>decide ((l.length:Int)=c.beach.places))
def EJ(c:A0):Int :=
 if 3<c.fams.length then 3
 else if CI c.beach≠0 then CI c.beach
 else if DK c.beach c.plan=false then 2
 else if BU c.beach=[] then 11
 else if GS c=false then 1
 else if c.fams.all KI=false then 1 else 0
structure D8(c:A0):Prop where
 be:Valid c.beach
 pl:DK c.beach c.plan=true
 tr:BU c.beach≠[]
 fl:c.fams.length≤3
 ch:(c.chairs.length:Int)=c.beach.rows
 cr:∀l∈c.chairs,(l.length:Int)=c.beach.places
 fo:∀f∈c.fams,(1≤f.size∧f.size≤4)∧0≤f.good∧f.good≤5
theorem PD{c:A0}(h:EJ c=0):D8 c:=by
 unfold EJ at h;split at h
 ·cases h
 rename_i h1;split at h
 ·rename_i h2;exact absurd h h2
 rename_i h2;split at h
 ·cases h
 rename_i h3;split at h
 ·cases h
 rename_i h4;split at h
 ·cases h
 rename_i h5;split at h
 ·cases h
 rename_i h6;have hb:CI c.beach=0:=Classical.byContradiction fun hh=>h2 hh;have h5:GS c=true:=by simpa using h5
 have h6:c.fams.all KI=true:=by simpa using h6
 simp only[GS,Bool.and_eq_true,decide_eq_true_eq,List.all_eq_true]at h5;refine⟨N9 hb,by simpa using h3,h4,by omega,h5.1,h5.2,fun f hf=>?_⟩;have:=List.all_eq_true.1 h6 f hf;simp only[KI,Bool.and_eq_true,DS]at this;exact this
structure Sp where
 fam:Nat
 size:Int
 row:Int
 place:Int
deriving DecidableEq
def KJ(c:A0)(k:Nat):NL:=c.fams.getD k ⟨0,0,false,false⟩
def KK(c:A0)(a b:Nat):Bool:=decide (a≠b)&&((KJ c a).shy&&(KJ c b).dog||(KJ c a).dog&&(KJ c b).shy)
def F2(c:A0)(x:Sp):Bool:=FN x.row 0 (c.beach.rows-1)&&FN x.place 0 (c.beach.places-x.size)
def eV(x y:Sp):Int:=max (x.place-y.place-y.size) (y.place-x.place-x.size)
def GA(c:A0)(x y:Sp):Bool:=decide (x.row≠y.row)||(decide (0<eV x y)||(decide (eV x y=0)&&!KK c x.fam y.fam))
def F7(c:A0):Nat:=(c.chairs.map fun l=>l.count true).sum
def EO(l:List Sp):Int:=(l.map Sp.size).sum
def EK(c:A0):List Sp→List Sp→Bool
 |_,[]=>true
 |before,x::r=>F2 c x&&before.all (GA c x)&&EK c (before++[x]) r
def KL(c:A0)(l:List Sp):Bool:=EK c [] l&&decide (EO l≤F7 c)
def IA(k:Nat):List NL→List (Int×Int)→List Sp
 |f::fs,s::ss=>⟨k,f.size,s.1,s.2⟩::IA (k+1) fs ss
 |_,_=>[]
def BA(c:A0)(HW:List (Int×Int)):List Sp:=IA 0 c.fams HW
def EP(c:A0)(HW:List (Int×Int)):Bool:=decide (HW.length=c.fams.length)&&KL c (BA c HW)
def QO(c:A0)(x y:Sp):Bool:=(List.range y.size.toNat).any fun a=>(List.range x.size.toNat).any fun b=>
 let d:=y.place+(a:Int)-x.place-(b:Int)
 decide (d=0)||((decide (d=1)||decide (d = -1))&&KK c y.fam x.fam)
def iL(c:A0)(before:List Sp)(x:Sp):Bool:=F2 c x&&before.all fun y=>decide (y.row≠x.row)||!QO c x y
def sC(c:A0):List Sp→List Sp→Bool
 |_,[]=>true
 |before,x::r=>iL c before x&&sC c (before++[x]) r
theorem vV(c:A0)(a b:Nat):KK c a b=KK c b a:=by unfold KK;have:decide (a≠b)=decide (b≠a):=decide_eq_decide.2 ⟨Ne.symm,Ne.symm⟩;rw[this];cases (KJ c a).shy<;>cases (KJ c b).dog<;>cases (KJ c a).dog<;>cases (KJ c b).shy<;>simp
theorem vW{c:A0}{x y:Sp}(hx:1≤x.size)(hy:1≤y.size):QO c x y=true↔eV x y<0∨(eV x y=0∧KK c x.fam y.fam=true):=by
 unfold QO eV;simp only[List.any_eq_true,List.mem_range,Bool.or_eq_true,Bool.and_eq_true,decide_eq_true_eq,vV c y.fam x.fam];constructor
 ·rintro ⟨a,ha,b,hb,h|⟨h,hm⟩⟩
  ·left;omega
  ·by_cases h0:max (x.place-y.place-y.size) (y.place-x.place-x.size)=0
   ·exact .inr ⟨h0,hm⟩
   ·left;omega
 ·rintro (h|⟨h,hm⟩)
  ·by_cases hp:x.place≤y.place
   ·exact⟨0,by omega,(y.place-x.place).toNat,by omega,.inl (by omega)⟩
   ·exact⟨(x.place-y.place).toNat,by omega,0,by omega,.inl (by omega)⟩
  ·by_cases hp:x.place≤y.place
   ·exact⟨0,by omega,(x.size-1).toNat,by omega,.inr ⟨.inl (by omega),hm⟩⟩
   ·exact⟨(y.size-1).toNat,by omega,0,by omega,.inr ⟨.inr (by omega),hm⟩⟩
theorem nY{c:A0}{before:List Sp}{x:Sp}(hx:1≤x.size)(hb:∀y∈before,1≤y.size):iL c before x=(F2 c x&&before.all (GA c x)):=by
 unfold iL;congr 1;rw[Bool.eq_iff_iff,List.all_eq_true,List.all_eq_true];refine forall_congr' fun y=>forall_congr' fun hy=>?_;have h:=vW (c:=c) hx (hb y hy);unfold GA;simp only[Bool.or_eq_true,Bool.and_eq_true,decide_eq_true_eq,Bool.not_eq_true',←Bool.not_eq_true];rw[h];have e:(y.row≠x.row)↔(x.row≠y.row):=⟨Ne.symm,Ne.symm⟩;rw[e];constructor
 ·rintro (h1|h1)
  ·exact .inl h1
  ·refine .inr ?_;by_cases h0:0<eV x y
   ·exact .inl h0
   ·exact .inr ⟨by omega,fun hm=>h1 (.inr ⟨by omega,hm⟩)⟩
 ·rintro (h1|h1|⟨h1,h2⟩)
  ·exact .inl h1
  ·exact .inr fun h3=>by rcases h3 with h3|⟨h3,_⟩<;>omega
  ·exact .inr fun h3=>by
    rcases h3 with h3|⟨_,h3⟩
    ·omega
    ·exact h2 h3
theorem D0:∀{k:Nat} {fs:List NL} {ss:List (Int×Int)},ss.length=fs.length→(IA k fs ss).length=fs.length
 |_,[],_,_=>rfl
 |_,_::_,[],h=>by simp at h
 |k,f::fs,s::ss,h=>by simp only[IA,List.length_cons,D0 (k:=k+1) (fs:=fs) (ss:=ss) (by simpa using h)]
theorem RI:∀{k:Nat} {fs:List NL} {ss:List (Int×Int)},ss.length=fs.length→EO (IA k fs ss)=(fs.map NL.size).sum
 |_,[],_,_=>rfl
 |_,_::_,[],h=>by simp at h
 |k,f::fs,s::ss,h=>by have ih:=RI (k:=k+1) (fs:=fs) (ss:=ss) (by simpa using h);unfold EO at ih⊢;simp only[IA,List.map_cons,List.sum_cons,ih]
theorem K9:∀{k:Nat} {fs:List NL} {ss:List (Int×Int)} (j:Nat) (h1:j<fs.length) (h2:j<ss.length) (h3:j<(IA k fs ss).length),(IA k fs ss)[j]=⟨k+j,fs[j].size,ss[j].1,ss[j].2⟩
 |_,[],_,_,h1,_,_=>by simp at h1
 |_,_::_,[],_,_,h2,_=>by simp at h2
 |k,f::fs,s::ss,0,_,_,_=>rfl
 |k,f::fs,s::ss,j+1,h1,h2,h3=>by simp only[IA,List.getElem_cons_succ];rw[K9 j (by simpa using h1) (by simpa using h2) (by simpa [IA]using h3),show k+1+j=k+(j+1) by omega]
def A81(c:A0)(HW:List (Int×Int)):Bool:=decide (HW.length=c.fams.length)&&(decide ((c.fams.map NL.size).sum≤(F7 c:Int))&&sC c [] (BA c HW))
def JN(hours:List (List FW))(x:Sp):Int:=H0 (fun p=>((hours.getD x.row.toNat []).getD (x.place.toNat+p) ⟨0,0,0⟩).good) x.size.toNat
structure iM where
 sun:Int
 carried:Int
 enough:Bool
deriving DecidableEq
def zV(sure:List (List Int))(r p:Int):Int:=(sure.getD r.toNat []).getD p.toNat 0
def AGA(c:A0)(r p:Int):Bool:=(c.chairs.getD r.toNat []).getD p.toNat false
def nZ(c:A0)(sure:List (List Int))(x:Sp):iM :=
  ⟨H0 (fun p=>zV sure x.row (x.place+(p:Int))) x.size.toNat,
   H0 (fun p=>if AGA c x.row (x.place+(p:Int))=true then 0 else 1) x.size.toNat,
   (List.range x.size.toNat).all fun p=>decide ((KJ c x.fam).good≤zV sure x.row (x.place+(p:Int)))⟩
def AOP(c:A0)(sure:List (List Int)):List (Nat×Int)→List Sp→List (List Sp)
 |[],out=>[out]
 |g::gs,out=>(List.range c.beach.rows.toNat).flatMap fun (r:Nat)=>(List.range (c.beach.places-g.2+1).toNat).flatMap fun (p:Nat)=>
  if ((nZ c sure ⟨g.1,g.2,(r:Int),(p:Int)⟩).enough&&out.all (GA c ⟨g.1,g.2,(r:Int),(p:Int)⟩))=true then AOP c sure gs (out++[⟨g.1,g.2,(r:Int),(p:Int)⟩]) else[]
def zW(c:A0)(sure:List (List Int)):List (Nat×Int)→List Sp→List (List Sp)
 |[],out=>[out]
 |g::gs,out=>(List.range c.beach.rows.toNat).flatMap fun (r:Nat)=>(List.range c.beach.places.toNat).flatMap fun (p:Nat)=>
  if (iL c out ⟨g.1,g.2,(r:Int),(p:Int)⟩&&(nZ c sure ⟨g.1,g.2,(r:Int),(p:Int)⟩).enough)=true then zW c sure gs (out++[⟨g.1,g.2,(r:Int),(p:Int)⟩]) else[]
def AZG(c:A0)(sure:List (List Int))(l:List Sp):iM:=l.foldl (fun t x=>let s:=nZ c sure x;⟨t.sun+s.sun,t.carried+s.carried,t.enough&&s.enough⟩) ⟨0,0,true⟩
def AOQ(c:A0)(sure:List (List Int))(acc:Option (List Sp×iM))(l:List Sp):Option (List Sp×iM) :=
 let s:=AZG c sure l
 match acc with
 |some (b,t)=>if s.sun<t.sun∨(s.sun=t.sun∧t.carried≤s.carried) then some (b,t) else some (l,s)
 |none=>some (l,s)
def BHQ(c:A0)(sure:List (List Int))(ls:List (List Sp)):Option (List Sp×iM):=ls.foldl (AOQ c sure) none
def AOR(c:A0)(sure:List (List Int))(acc:Int×Int)(l:List Sp):Int×Int :=
 let s:=AZG c sure l
 if acc.1<s.sun∨(s.sun=acc.1∧s.carried<acc.2) then(s.sun,s.carried) else acc
def BB2(c:A0)(sure:List (List Int))(ls:List (List Sp)):Int×Int:=ls.foldl (AOR c sure) (-1,0)
end Go.Wind
open Go Go.Pg Go.Proofs Go.Wind
namespace Go.Proofs.Tryz.Op
def AY(x:Bool):List V:=[.bool x]
abbrev lb(l:List Bool):V:=.list false (l.map AY)
def AR(l:List Bool):List V:=[lb l]
def AQ(f:NL):List V:=[i f.size,i f.good,.bool f.dog,.bool f.shy]
def A1(x:Sp):List V:=[i (x.fam:Int),i x.size,i x.row,i x.place]
def AD(c:A0):List V:=[i c.beach.last,i c.beach.rows,i c.beach.places,i c.beach.reach,li c.beach.face,li c.beach.sun,GQ c.beach.winds,.list false (c.beach.breaks.map AF),.list false (c.beach.notes.map AF),GQ c.plan,.list false (c.chairs.map AR),.list false (c.fams.map AQ)]
def okF(f:NL):Prop:=RH f.size∧RH f.good
structure okC(c:A0):Prop where
 b:okB c.beach
 p:∀l∈c.plan,∀n∈l,RH n
 f:∀f∈c.fams,okF f
def sD{σ:Type}(U:σ→List AA)(I:σ→Prop)(K:Nat)(f:FuncId)(cap:List V)(p:σ→List Bool→Bool)(nx:σ→List Bool→σ)(xs:List (List Bool))(c0:Nat):Prop:=∀n c fr s x,c0≤c→I s→x∈xs→(p s x=false→I (nx s x))∧∃c',c≤c'∧H9 (BN Tryz.prog ann kn (n+K)) (some 16) ⟨c,fr,⟨U s,[]⟩⟩ f (lb x::cap)=some ⟨c',(16,true,.bool (p s x))::fr,⟨U (nx s x),[]⟩⟩
theorem sE{σ:Type}(n K:Nat)(U:σ→List AA)(I:σ→Prop)(f:FuncId)(cap:List V)(hcw:cap.map weakV=cap)(p:σ→List Bool→Bool)(nx:σ→List Bool→σ)(xs:List (List Bool))(c0:Nat)(hp:sD U I K f cap p nx xs c0)(hl:xs.length≤1000):∀(d k:Nat) (s:σ) (c m:Nat),k+d=xs.length→d<m→c0≤c→I s →
  ∃(c':Nat) (j:Int),c≤c'∧0≤j∧A9 (AE Tryz.prog ann kn (n+K+50) 19) SG (ann 19 (BS SG)) m ⟨c,[(0,true,.list false (xs.map AR)),(1,true,.fn f [] cap),(7,true,i xs.length),(8,true,i k)],⟨U s,[]⟩⟩ =
   bif (BI p nx s (xs.drop k)).1 then some (.ret,⟨c',[(4,true,i j),(17,true,i j),(5,true,i j)],⟨U (BI p nx s (xs.drop k)).2,[]⟩⟩)
   else some (.exit 0,⟨c',[(9,true,.bool false),(0,true,.list false (xs.map AR)),(1,true,.fn f [] cap),(7,true,i xs.length),(8,true,i xs.length)],⟨U (BI p nx s (xs.drop k)).2,[]⟩⟩)
 |0,k,s,c,m+1,hd,hm,hc0,hi=>by
  have:k=xs.length:=by omega
  subst this;refine⟨c,0,Nat.le_refl _,by omega,?_⟩;simp[AB,BI]
 |d+1,k,s,c,m+1,hd,hm,hc0,hi=>by
  have hk:k<xs.length:=by omega
  have hw:=BJ (k:=k) (by omega);have nrm:∀a:Nat,n+K+a=(n+a)+K:=fun a=>by omega
  rw[AB,List.drop_eq_getElem_cons hk];simp only[BI];obtain⟨hi',c1,hc1,q⟩:=hp (n+43) c [(15,true,lb xs[k]),(14,true,.ref (AR xs[k])),(13,true,i k),(12,true,.list false (xs.map AR)),(11,true,.fn f [] cap),(0,true,.list false (xs.map AR)),(1,true,.fn f [] cap),(5,true,i k),(7,true,i xs.length),(8,true,i k)] s xs[k] hc0 hi (List.getElem_mem hk);generalize e:p s xs[k]=b at q hi';cases b with
  |true=>
   refine⟨c1,k,hc1,by omega,?_⟩
   try simp only[AR]at q
   rw[←nrm]at q
   try simp at q
   simp[hk,hw,AR,q,hcw]
  |false=>
   obtain⟨c',j,h1,h2,ih⟩:=sE n K U I f cap hcw p nx xs c0 hp hl d (k+1) (nx s xs[k]) c1 m (by omega) (by omega) (by omega) (hi' rfl)
   refine⟨c',j,by omega,h2,?_⟩
   try simp only[AR]at q ih
   rw[←nrm]at q
   try simp at q
   simp at ih
   simp[hk,hw,AR,q,ih,hcw]
theorem AGB{σ:Type}(n K:Nat)(up:σ→List AA)(loc:σ→AA)(I:σ→Prop)(f:FuncId)(cap:List V)(hcw:cap.map weakV=cap)(hco:cap.all (AK 8)=false)(p:σ→List Bool→Bool)(nx:σ→List Bool→σ)(xs:List (List Bool))(c0:Nat)(hp:sD (fun s=>up s++[loc s]) I K f cap p nx xs c0)(hl:xs.length≤40)(hsh:∀s (t:St),(up s).length+1≤t.up.length→(up s++[loc s]).map (AN t)=up s++[loc s])(c dd:Nat)(fr:Fr)(s:σ)(hc0:c0≤c)(hi:I s) :
  ∃(c':Nat) (j:Int),c≤c'∧decide (0≤j)=(BI p nx s xs).1∧H9 (BN Tryz.prog ann kn (n+K+100)) (some dd) ⟨c,fr,⟨up s,loc s⟩⟩ 187 [.list false (xs.map AR),.fn f [] cap]=some ⟨c',(dd,true,i j)::fr,⟨up (BI p nx s xs).2,loc (BI p nx s xs).2⟩⟩:=by
 obtain⟨c1,j,h1,h2,q⟩:=sE (n+45) K (fun s=>up s++[loc s]) I f cap hcw p nx xs c0 hp (by omega) xs.length 0 s c (n+K+95) (by omega) (by omega) hc0 hi
 have e:n+45+K+50=n+K+95:=by omega
 rw[e]at q
 have hcl:([V.list false (xs.map AR),V.fn f [] cap]).all (AK 9)=false:=by simp[hco]
 have hs:=fun s=>hsh s ⟨up s++[loc s],[]⟩ (by simp)
 simp at hs
 rw[BG Tryz.func187 b187 rfl hcl]
 simp only[List.drop_zero]at q
 generalize (BI p nx s xs).2=s' at q⊢
 generalize e:(BI p nx s xs).1=b at q
 cases b with
 |true=>
  refine⟨c1,j,h1,by simpa using h2,?_⟩
  simp at q
  simp[APH,AG,q,hs]
 |false=>
  refine⟨c1,-1,h1,by simp,?_⟩
  simp at q
  simp[APH,AG,q,hs]
theorem AZH{σ:Type}(n K:Nat)(up:σ→List AA)(loc:σ→AA)(I:σ→Prop)(f:FuncId)(cap:List V)(hcw:cap.map weakV=cap)(hco:cap.all (AK 8)=false)(p:σ→List Bool→Bool)(nx:σ→List Bool→σ)(xs:List (List Bool))(c0:Nat)(hp:sD (fun s=>up s++[loc s]++[[]]) I K f cap p nx xs c0)(hl:xs.length≤40)(hsh:∀s (t:St),(up s).length+1≤t.up.length→(up s++[loc s]).map (AN t)=up s++[loc s])(c dd:Nat)(fr:Fr)(s:σ)(hc0:c0≤c)(hi:I s) :
  ∃c':Nat,c≤c'∧H9 (BN Tryz.prog ann kn (n+K+200)) (some dd) ⟨c,fr,⟨up s,loc s⟩⟩ 159 [.list false (xs.map AR),.fn f [] cap]=some ⟨c',(dd,true,.bool (BI p nx s xs).1)::fr,⟨up (BI p nx s xs).2,loc (BI p nx s xs).2⟩⟩:=by
 have hcl:([V.list false (xs.map AR),V.fn f [] cap]).all (AK 9)=false:=by simp[hco]
 have hsh2:∀s (t:St),(up s++[loc s]).length+1≤t.up.length→(up s++[loc s]++[[]]).map (AN t)=up s++[loc s]++[[]]:=fun s t h=>by have:=hsh s t (by simp at h;omega);simp only[List.map_append,List.map_cons,List.map_nil,D4]at this⊢;rw[this]
 obtain⟨c1,j,h1,h2,q⟩:=AGB (n+97) K (fun s=>up s++[loc s]) (fun _=>[]) I f cap hcw hco p nx xs c0 hp hl hsh2 c 7 [(6,true,.fn f [] cap),(5,true,.list false (xs.map AR)),(0,true,.list false (xs.map AR)),(1,true,.fn f [] cap)] s hc0 hi
 refine⟨c1,h1,?_⟩
 have e:n+97+K+100=n+K+197:=by omega
 rw[e]at q
 have hs:=fun s=>hsh s ⟨up s++[loc s],[]⟩ (by simp)
 simp at hs
 rw[BG Tryz.func159 b159 rfl hcl]
 simp[A1H,AG,hcw,q,h2,hs]
theorem AK9(n K:Nat)(b:A0)(f:FuncId)(p:List Bool→Bool)(xs:List (List Bool))(hl:xs.length≤40)(hf:∀n x,x∈xs→AW Tryz.prog kn (AE Tryz.prog ann kn (n+K)) f [.agg (AD b),lb x]=some (.bool (p x)))(hh:BC Tryz.prog f=false:=by simp) :
  AW Tryz.prog kn (AE Tryz.prog ann kn (n+K+300)) 119 [.list false (xs.map AR),.fn f [.agg (AD b)] []]=some (.bool (xs.all p)):=by
 rw[AP rfl,AO Tryz.func119 BC9 rfl (by simp[AD,AH,AL,AF,AR,AY,AQ])]
 have hp2:sD (fun (_:Unit)=>[]++[[(3,0,AX.box [V.fn f [.agg (AD b)] []])]]++[[]]) (fun _=>True) (K+20) 160 [.ptr 0 3 0 0] (fun _ x=>!p x) (fun _ _=>()) xs 0:=by
  intro n c1 fr s x hc0 hi hx;refine⟨fun _=>trivial,c1,by omega,?_⟩;have q:=fun n=>hf n x hx;have q2:=q (n+17);have e:n+17+K=n+K+17:=by omega
  rw[e]at q2;simp only[AD]at q2⊢;rw[show n+(K+20)=n+K+20 from by omega,List.nil_append,BG Tryz.func160 b160 rfl (by simp)];simp[A1J,AG,AD,AH,AL,AF,AR,AY,AQ,q2,hh];try simp[AD,AH,AL,AF,AR,AY,AQ,q2,hh]
 obtain⟨c',h1,q⟩:=AZH (n+77) (K+20) (fun _=>[]) (fun _=>[(3,0,.box [.fn f [.agg (AD b)] []])]) (fun _=>True) 160 [.ptr 0 3 0 0] (by simp) (by simp) (fun _ x=>!p x) (fun _ _=>()) xs 0 hp2 hl (by simp[AD,AH,AL,AF,AR,AY,AQ]) 1 7 [(6,true,.fn 160 [] [.ptr 0 3 0 0]),(5,true,.list false (xs.map AR)),(0,true,.list false (xs.map AR)),(1,true,.fn f [.agg (AD b)] []),(3,true,.ptr 0 3 0 0)] () (Nat.zero_le _) trivial
 have e:n+77+(K+20)+200=n+K+297:=by omega
 rw[e,E5]at q
 have:=JJ p xs
 simp only[AD]at q⊢
 simp[A1I,AG,q]
 rw[←this,Bool.not_not]
def sF{σ:Type}(U:σ→List AA)(I:σ→Prop)(K:Nat)(f:FuncId)(cap:List V)(p:σ→NL→Bool)(nx:σ→NL→σ)(xs:List (NL))(c0:Nat):Prop:=∀n c fr s x,c0≤c→I s→x∈xs→(p s x=false→I (nx s x))∧∃c',c≤c'∧H9 (BN Tryz.prog ann kn (n+K)) (some 16) ⟨c,fr,⟨U s,[]⟩⟩ f (.agg (AQ x)::cap)=some ⟨c',(16,true,.bool (p s x))::fr,⟨U (nx s x),[]⟩⟩
theorem sG{σ:Type}(n K:Nat)(U:σ→List AA)(I:σ→Prop)(f:FuncId)(cap:List V)(hcw:cap.map weakV=cap)(p:σ→NL→Bool)(nx:σ→NL→σ)(xs:List (NL))(c0:Nat)(hp:sF U I K f cap p nx xs c0)(hl:xs.length≤1000):∀(d k:Nat) (s:σ) (c m:Nat),k+d=xs.length→d<m→c0≤c→I s →
  ∃(c':Nat) (j:Int),c≤c'∧0≤j∧A9 (AE Tryz.prog ann kn (n+K+50) 19) SH (ann 19 (BS SH)) m ⟨c,[(0,true,.list false (xs.map AQ)),(1,true,.fn f [] cap),(7,true,i xs.length),(8,true,i k)],⟨U s,[]⟩⟩ =
   bif (BI p nx s (xs.drop k)).1 then some (.ret,⟨c',[(4,true,i j),(17,true,i j),(5,true,i j)],⟨U (BI p nx s (xs.drop k)).2,[]⟩⟩)
   else some (.exit 0,⟨c',[(9,true,.bool false),(0,true,.list false (xs.map AQ)),(1,true,.fn f [] cap),(7,true,i xs.length),(8,true,i xs.length)],⟨U (BI p nx s (xs.drop k)).2,[]⟩⟩)
 |0,k,s,c,m+1,hd,hm,hc0,hi=>by
  have:k=xs.length:=by omega
  subst this;refine⟨c,0,Nat.le_refl _,by omega,?_⟩;simp[AB,BI]
 |d+1,k,s,c,m+1,hd,hm,hc0,hi=>by
  have hk:k<xs.length:=by omega
  have hw:=BJ (k:=k) (by omega);have nrm:∀a:Nat,n+K+a=(n+a)+K:=fun a=>by omega
  rw[AB,List.drop_eq_getElem_cons hk];simp only[BI];obtain⟨hi',c1,hc1,q⟩:=hp (n+43) c [(15,true,.agg (AQ xs[k])),(14,true,.ref (AQ xs[k])),(13,true,i k),(12,true,.list false (xs.map AQ)),(11,true,.fn f [] cap),(0,true,.list false (xs.map AQ)),(1,true,.fn f [] cap),(5,true,i k),(7,true,i xs.length),(8,true,i k)] s xs[k] hc0 hi (List.getElem_mem hk);generalize e:p s xs[k]=b at q hi';cases b with
  |true=>
   refine⟨c1,k,hc1,by omega,?_⟩
   try simp only[AQ]at q
   rw[←nrm]at q
   try simp at q
   simp[hk,hw,AQ,q,hcw]
  |false=>
   obtain⟨c',j,h1,h2,ih⟩:=sG n K U I f cap hcw p nx xs c0 hp hl d (k+1) (nx s xs[k]) c1 m (by omega) (by omega) (by omega) (hi' rfl)
   refine⟨c',j,by omega,h2,?_⟩
   try simp only[AQ]at q ih
   rw[←nrm]at q
   try simp at q
   simp at ih
   simp[hk,hw,AQ,q,ih,hcw]
theorem AGC{σ:Type}(n K:Nat)(up:σ→List AA)(loc:σ→AA)(I:σ→Prop)(f:FuncId)(cap:List V)(hcw:cap.map weakV=cap)(hco:cap.all (AK 8)=false)(p:σ→NL→Bool)(nx:σ→NL→σ)(xs:List (NL))(c0:Nat)(hp:sF (fun s=>up s++[loc s]) I K f cap p nx xs c0)(hl:xs.length≤40)(hsh:∀s (t:St),(up s).length+1≤t.up.length→(up s++[loc s]).map (AN t)=up s++[loc s])(c dd:Nat)(fr:Fr)(s:σ)(hc0:c0≤c)(hi:I s) :
  ∃(c':Nat) (j:Int),c≤c'∧decide (0≤j)=(BI p nx s xs).1∧H9 (BN Tryz.prog ann kn (n+K+100)) (some dd) ⟨c,fr,⟨up s,loc s⟩⟩ 188 [.list false (xs.map AQ),.fn f [] cap]=some ⟨c',(dd,true,i j)::fr,⟨up (BI p nx s xs).2,loc (BI p nx s xs).2⟩⟩:=by
 obtain⟨c1,j,h1,h2,q⟩:=sG (n+45) K (fun s=>up s++[loc s]) I f cap hcw p nx xs c0 hp (by omega) xs.length 0 s c (n+K+95) (by omega) (by omega) hc0 hi
 have e:n+45+K+50=n+K+95:=by omega
 rw[e]at q
 have hcl:([V.list false (xs.map AQ),V.fn f [] cap]).all (AK 9)=false:=by simp[hco]
 have hs:=fun s=>hsh s ⟨up s++[loc s],[]⟩ (by simp)
 simp at hs
 rw[BG Tryz.func188 b188 rfl hcl]
 simp only[List.drop_zero]at q
 generalize (BI p nx s xs).2=s' at q⊢
 generalize e:(BI p nx s xs).1=b at q
 cases b with
 |true=>
  refine⟨c1,j,h1,by simpa using h2,?_⟩
  simp at q
  simp[API,AG,q,hs]
 |false=>
  refine⟨c1,-1,h1,by simp,?_⟩
  simp at q
  simp[API,AG,q,hs]
theorem AZI{σ:Type}(n K:Nat)(up:σ→List AA)(loc:σ→AA)(I:σ→Prop)(f:FuncId)(cap:List V)(hcw:cap.map weakV=cap)(hco:cap.all (AK 8)=false)(p:σ→NL→Bool)(nx:σ→NL→σ)(xs:List (NL))(c0:Nat)(hp:sF (fun s=>up s++[loc s]++[[]]) I K f cap p nx xs c0)(hl:xs.length≤40)(hsh:∀s (t:St),(up s).length+1≤t.up.length→(up s++[loc s]).map (AN t)=up s++[loc s])(c dd:Nat)(fr:Fr)(s:σ)(hc0:c0≤c)(hi:I s) :
  ∃c':Nat,c≤c'∧H9 (BN Tryz.prog ann kn (n+K+200)) (some dd) ⟨c,fr,⟨up s,loc s⟩⟩ 161 [.list false (xs.map AQ),.fn f [] cap]=some ⟨c',(dd,true,.bool (BI p nx s xs).1)::fr,⟨up (BI p nx s xs).2,loc (BI p nx s xs).2⟩⟩:=by
 have hcl:([V.list false (xs.map AQ),V.fn f [] cap]).all (AK 9)=false:=by simp[hco]
 have hsh2:∀s (t:St),(up s++[loc s]).length+1≤t.up.length→(up s++[loc s]++[[]]).map (AN t)=up s++[loc s]++[[]]:=fun s t h=>by have:=hsh s t (by simp at h;omega);simp only[List.map_append,List.map_cons,List.map_nil,D4]at this⊢;rw[this]
 obtain⟨c1,j,h1,h2,q⟩:=AGC (n+97) K (fun s=>up s++[loc s]) (fun _=>[]) I f cap hcw hco p nx xs c0 hp hl hsh2 c 7 [(6,true,.fn f [] cap),(5,true,.list false (xs.map AQ)),(0,true,.list false (xs.map AQ)),(1,true,.fn f [] cap)] s hc0 hi
 refine⟨c1,h1,?_⟩
 have e:n+97+K+100=n+K+197:=by omega
 rw[e]at q
 have hs:=fun s=>hsh s ⟨up s++[loc s],[]⟩ (by simp)
 simp at hs
 rw[BG Tryz.func161 b161 rfl hcl]
 simp[A1K,AG,hcw,q,h2,hs]
theorem ALA(n K:Nat)(f:FuncId)(p:NL→Bool)(xs:List (NL))(hl:xs.length≤40)(hf:∀n x,x∈xs→AW Tryz.prog kn (AE Tryz.prog ann kn (n+K)) f [.agg (AQ x)]=some (.bool (p x)))(hh:BC Tryz.prog f=false:=by simp) :
  AW Tryz.prog kn (AE Tryz.prog ann kn (n+K+300)) 120 [.list false (xs.map AQ),.fn f [] []]=some (.bool (xs.all p)):=by
 rw[AP rfl,AO Tryz.func120 BDA rfl (by simp[AC,AH,AL,AF,AR,AY,AQ])]
 have hp2:sF (fun (_:Unit)=>[]++[[(3,0,AX.box [V.fn f [] []])]]++[[]]) (fun _=>True) (K+20) 162 [.ptr 0 3 0 0] (fun _ x=>!p x) (fun _ _=>()) xs 0:=by
  intro n c1 fr s x hc0 hi hx;refine⟨fun _=>trivial,c1+1,by omega,?_⟩;have q:=fun n=>hf n x hx;have q2:=q (n+17);have e:n+17+K=n+K+17:=by omega
  rw[e]at q2;simp only[AQ]at q2⊢;rw[show n+(K+20)=n+K+20 from by omega,List.nil_append,BG Tryz.func162 b162 rfl (by simp)];simp[A1M,AG,AH,q2,hh];try simp[AH,q2,hh]
 obtain⟨c',h1,q⟩:=AZI (n+77) (K+20) (fun _=>[]) (fun _=>[(3,0,.box [.fn f [] []])]) (fun _=>True) 162 [.ptr 0 3 0 0] (by simp) (by simp) (fun _ x=>!p x) (fun _ _=>()) xs 0 hp2 hl (by simp[AC,AH,AL,AF,AR,AY,AQ]) 1 7 [(6,true,.fn 162 [] [.ptr 0 3 0 0]),(5,true,.list false (xs.map AQ)),(0,true,.list false (xs.map AQ)),(1,true,.fn f [] []),(3,true,.ptr 0 3 0 0)] () (Nat.zero_le _) trivial
 have e:n+77+(K+20)+200=n+K+297:=by omega
 rw[e,E5]at q
 have:=JJ p xs
 skip
 simp[A1L,AG,q]
 rw[←this,Bool.not_not]
def sH{σ:Type}(U:σ→List AA)(I:σ→Prop)(K:Nat)(f:FuncId)(cap:List V)(p:σ→Sp→Bool)(nx:σ→Sp→σ)(xs:List (Sp))(c0:Nat):Prop:=∀n c fr s x,c0≤c→I s→x∈xs→(p s x=false→I (nx s x))∧∃c',c≤c'∧H9 (BN Tryz.prog ann kn (n+K)) (some 16) ⟨c,fr,⟨U s,[]⟩⟩ f (.agg (A1 x)::cap)=some ⟨c',(16,true,.bool (p s x))::fr,⟨U (nx s x),[]⟩⟩
theorem sI{σ:Type}(n K:Nat)(U:σ→List AA)(I:σ→Prop)(f:FuncId)(cap:List V)(hcw:cap.map weakV=cap)(p:σ→Sp→Bool)(nx:σ→Sp→σ)(xs:List (Sp))(c0:Nat)(hp:sH U I K f cap p nx xs c0)(hl:xs.length≤1000):∀(d k:Nat) (s:σ) (c m:Nat),k+d=xs.length→d<m→c0≤c→I s →
  ∃(c':Nat) (j:Int),c≤c'∧0≤j∧A9 (AE Tryz.prog ann kn (n+K+50) 19) SK (ann 19 (BS SK)) m ⟨c,[(0,true,.list false (xs.map A1)),(1,true,.fn f [] cap),(7,true,i xs.length),(8,true,i k)],⟨U s,[]⟩⟩ =
   bif (BI p nx s (xs.drop k)).1 then some (.ret,⟨c',[(4,true,i j),(17,true,i j),(5,true,i j)],⟨U (BI p nx s (xs.drop k)).2,[]⟩⟩)
   else some (.exit 0,⟨c',[(9,true,.bool false),(0,true,.list false (xs.map A1)),(1,true,.fn f [] cap),(7,true,i xs.length),(8,true,i xs.length)],⟨U (BI p nx s (xs.drop k)).2,[]⟩⟩)
 |0,k,s,c,m+1,hd,hm,hc0,hi=>by
  have:k=xs.length:=by omega
  subst this;refine⟨c,0,Nat.le_refl _,by omega,?_⟩;simp[AB,BI]
 |d+1,k,s,c,m+1,hd,hm,hc0,hi=>by
  have hk:k<xs.length:=by omega
  have hw:=BJ (k:=k) (by omega);have nrm:∀a:Nat,n+K+a=(n+a)+K:=fun a=>by omega
  rw[AB,List.drop_eq_getElem_cons hk];simp only[BI];obtain⟨hi',c1,hc1,q⟩:=hp (n+43) c [(15,true,.agg (A1 xs[k])),(14,true,.ref (A1 xs[k])),(13,true,i k),(12,true,.list false (xs.map A1)),(11,true,.fn f [] cap),(0,true,.list false (xs.map A1)),(1,true,.fn f [] cap),(5,true,i k),(7,true,i xs.length),(8,true,i k)] s xs[k] hc0 hi (List.getElem_mem hk);generalize e:p s xs[k]=b at q hi';cases b with
  |true=>
   refine⟨c1,k,hc1,by omega,?_⟩
   try simp only[A1]at q
   rw[←nrm]at q
   try simp at q
   simp[hk,hw,A1,q,hcw]
  |false=>
   obtain⟨c',j,h1,h2,ih⟩:=sI n K U I f cap hcw p nx xs c0 hp hl d (k+1) (nx s xs[k]) c1 m (by omega) (by omega) (by omega) (hi' rfl)
   refine⟨c',j,by omega,h2,?_⟩
   try simp only[A1]at q ih
   rw[←nrm]at q
   try simp at q
   simp at ih
   simp[hk,hw,A1,q,ih,hcw]
theorem AGD{σ:Type}(n K:Nat)(up:σ→List AA)(loc:σ→AA)(I:σ→Prop)(f:FuncId)(cap:List V)(hcw:cap.map weakV=cap)(hco:cap.all (AK 8)=false)(p:σ→Sp→Bool)(nx:σ→Sp→σ)(xs:List (Sp))(c0:Nat)(hp:sH (fun s=>up s++[loc s]) I K f cap p nx xs c0)(hl:xs.length≤40)(hsh:∀s (t:St),(up s).length+1≤t.up.length→(up s++[loc s]).map (AN t)=up s++[loc s])(c dd:Nat)(fr:Fr)(s:σ)(hc0:c0≤c)(hi:I s) :
  ∃(c':Nat) (j:Int),c≤c'∧decide (0≤j)=(BI p nx s xs).1∧H9 (BN Tryz.prog ann kn (n+K+100)) (some dd) ⟨c,fr,⟨up s,loc s⟩⟩ 189 [.list false (xs.map A1),.fn f [] cap]=some ⟨c',(dd,true,i j)::fr,⟨up (BI p nx s xs).2,loc (BI p nx s xs).2⟩⟩:=by
 obtain⟨c1,j,h1,h2,q⟩:=sI (n+45) K (fun s=>up s++[loc s]) I f cap hcw p nx xs c0 hp (by omega) xs.length 0 s c (n+K+95) (by omega) (by omega) hc0 hi
 have e:n+45+K+50=n+K+95:=by omega
 rw[e]at q
 have hcl:([V.list false (xs.map A1),V.fn f [] cap]).all (AK 9)=false:=by simp[hco]
 have hs:=fun s=>hsh s ⟨up s++[loc s],[]⟩ (by simp)
 simp at hs
 rw[BG Tryz.func189 b189 rfl hcl]
 simp only[List.drop_zero]at q
 generalize (BI p nx s xs).2=s' at q⊢
 generalize e:(BI p nx s xs).1=b at q
 cases b with
 |true=>
  refine⟨c1,j,h1,by simpa using h2,?_⟩
  simp at q
  simp[APJ,AG,q,hs]
 |false=>
  refine⟨c1,-1,h1,by simp,?_⟩
  simp at q
  simp[APJ,AG,q,hs]
theorem AZJ{σ:Type}(n K:Nat)(up:σ→List AA)(loc:σ→AA)(I:σ→Prop)(f:FuncId)(cap:List V)(hcw:cap.map weakV=cap)(hco:cap.all (AK 8)=false)(p:σ→Sp→Bool)(nx:σ→Sp→σ)(xs:List (Sp))(c0:Nat)(hp:sH (fun s=>up s++[loc s]++[[]]) I K f cap p nx xs c0)(hl:xs.length≤40)(hsh:∀s (t:St),(up s).length+1≤t.up.length→(up s++[loc s]).map (AN t)=up s++[loc s])(c dd:Nat)(fr:Fr)(s:σ)(hc0:c0≤c)(hi:I s) :
  ∃c':Nat,c≤c'∧H9 (BN Tryz.prog ann kn (n+K+200)) (some dd) ⟨c,fr,⟨up s,loc s⟩⟩ 171 [.list false (xs.map A1),.fn f [] cap]=some ⟨c',(dd,true,.bool (BI p nx s xs).1)::fr,⟨up (BI p nx s xs).2,loc (BI p nx s xs).2⟩⟩:=by
 have hcl:([V.list false (xs.map A1),V.fn f [] cap]).all (AK 9)=false:=by simp[hco]
 have hsh2:∀s (t:St),(up s++[loc s]).length+1≤t.up.length→(up s++[loc s]++[[]]).map (AN t)=up s++[loc s]++[[]]:=fun s t h=>by have:=hsh s t (by simp at h;omega);simp only[List.map_append,List.map_cons,List.map_nil,D4]at this⊢;rw[this]
 obtain⟨c1,j,h1,h2,q⟩:=AGD (n+97) K (fun s=>up s++[loc s]) (fun _=>[]) I f cap hcw hco p nx xs c0 hp hl hsh2 c 7 [(6,true,.fn f [] cap),(5,true,.list false (xs.map A1)),(0,true,.list false (xs.map A1)),(1,true,.fn f [] cap)] s hc0 hi
 refine⟨c1,h1,?_⟩
 have e:n+97+K+100=n+K+197:=by omega
 rw[e]at q
 have hs:=fun s=>hsh s ⟨up s++[loc s],[]⟩ (by simp)
 simp at hs
 rw[BG Tryz.func171 b171 rfl hcl]
 simp[A1Q,AG,hcw,q,h2,hs]
theorem AOS{σ:Type}(n K L:Nat)(up:σ→List AA)(loc:σ→AA)(hL:∀s,(up s).length=L)(I:σ→Prop)(f:FuncId)(cap:List V)(hcw:cap.map weakV=cap)(hco:cap.all (AK 8)=false)(p:σ→Sp→Bool)(nx:σ→Sp→σ)(xs:List (Sp))(hl:xs.length≤40)
  (hsh:∀s (t:St),L+1≤t.up.length→(up s++[loc s]).map (AN t)=up s++[loc s]) (hcap:∀(t:St) γ,L+1≤t.up.length→AN t [(3,γ,AX.box [V.fn f [] cap])]=[(3,γ,AX.box [V.fn f [] cap])]) (c:Nat)
  (hp:∀n c1 γ fr s x,c<c1→I s→x∈xs→(p s x=true→I (nx s x))∧∃c',c1≤c'∧H9 (BN Tryz.prog ann kn (n+K)) (some 6) ⟨c1,fr,⟨up s++[loc s]++[[(3,c,AX.box [V.fn f [] cap])]]++[[]]++[[]],[(2,γ,.box (A1 x))]⟩⟩ f (.agg (A1 x)::cap)=some ⟨c',(6,true,.bool (p s x))::fr,⟨up (nx s x)++[loc (nx s x)]++[[(3,c,AX.box [V.fn f [] cap])]]++[[]]++[[]],[(2,γ,.box (A1 x))]⟩⟩) (dd:Nat) (fr:Fr) (s:σ) (hi:I s) :
  ∃c':Nat,c≤c'∧H9 (BN Tryz.prog ann kn (n+K+300)) (some dd) ⟨c,fr,⟨up s,loc s⟩⟩ 137 [.list false (xs.map A1),.fn f [] cap]=some ⟨c',(dd,true,.bool (!(BI (fun s x=>!p s x) nx s xs).1))::fr,⟨up (BI (fun s x=>!p s x) nx s xs).2,loc (BI (fun s x=>!p s x) nx s xs).2⟩⟩:=by
 have hcl:([V.list false (xs.map A1),V.fn f [] cap]).all (AK 9)=false:=by simp[RE,hco]
 have hp2:sH (fun s=>up s++[loc s]++[[(3,c,AX.box [V.fn f [] cap])]]++[[]]) I (K+20) 172 [.ptr (L+1) 3 c 0] (fun s x=>!p s x) nx xs (c+1):=by
  have hcap':∀t:St,L+1≤t.up.length→AN t [(3,c,AX.box [V.fn f [] cap])]=[(3,c,AX.box [V.fn f [] cap])]:=fun t h=>hcap t c h;intro n c1 fr s x hc0 hi hx;obtain⟨h1,c',h2,q⟩:=hp (n+17) (c1+1) c1 [(5,true,.agg (A1 x)),(4,true,.fn f [] cap),(0,true,.agg (A1 x)),(1,true,.ptr (L+1) 3 c 0),(2,true,.ptr (L+4) 2 c1 0)] s x (by omega) hi hx;refine⟨fun h=>h1 (by simpa using h),c',by omega,?_⟩;have e:n+17+K=n+K+17:=by omega
  rw[e]at q;rw[show n+(K+20)=n+K+20 from by omega,BG Tryz.func172 b172 rfl (by simp)];generalize hB:[(3,c,AX.box [V.fn f [] cap])]=B at q hcap';have hB1:AA.get B 3=some (c,.box [.fn f [] cap]):=by rw[←hB];rfl
  have hg:(up s++[loc s]++[B]++[[]])[L+1]? = some B:=by simp only[List.append_assoc];rw[List.getElem?_append_right (by rw[hL];omega)];simp[hL]
  have hs1:∀s (t:St),L+1≤t.up.length→List.map (AN t) (up s)=up s∧AN t (loc s)=loc s:=fun s t h=>by simpa using hsh s t h
  have hu:∀(l:List AA) a b,C5 (l++[a,b,[],[]])=some (l++[a,b,[]],[]):=fun l a b=>by have:=EY ([]:AA) (l++[a,b,[]]);rwa [List.append_assoc]at this
  simp only[List.append_assoc,List.cons_append,List.nil_append,A1]at q hg⊢;simp[hu,A1S,AG,hcw,q,hg,hL,hB1,(hs1 _ _ _).1,(hs1 _ _ _).2,hcap']
 have hsh2:∀s (t:St),(up s++[loc s]).length+1≤t.up.length→(up s++[loc s]++[[(3,c,AX.box [V.fn f [] cap])]]).map (AN t)=up s++[loc s]++[[(3,c,AX.box [V.fn f [] cap])]]:=fun s t h=>by
  have h':L+1≤t.up.length:=by simp[hL]at h;omega
  have:=hsh s t h';have h3:=hcap t c h';rw[List.map_append,this];simp only[List.map_cons,List.map_nil,h3]
 obtain⟨c',h1,q⟩:=AZJ (n+77) (K+20) (fun s=>up s++[loc s]) (fun _=>[(3,c,AX.box [V.fn f [] cap])]) I 172 [.ptr (L+1) 3 c 0] (by simp) (by simp) (fun s x=>!p s x) nx xs (c+1) hp2 hl hsh2 (c+1) 7 [(6,true,.fn 172 [] [.ptr (L+1) 3 c 0]),(5,true,.list false (xs.map A1)),(0,true,.list false (xs.map A1)),(1,true,.fn f [] cap),(3,true,.ptr (L+1) 3 c 0)] s (Nat.le_refl _) hi
 refine⟨c',by omega,?_⟩
 have e:n+77+(K+20)+200=n+K+297:=by omega
 rw[e]at q
 have hs1:∀s (t:St),L+1≤t.up.length→List.map (AN t) (up s)=up s∧AN t (loc s)=loc s:=fun s t h=>by simpa using hsh s t h
 rw[BG Tryz.func137 b137 rfl hcl]
 try simp only[List.length_append,List.length_cons,List.length_nil]at q⊢
 simp[A1R,AG,hcw,hL,q,(hs1 _ _ _).1,(hs1 _ _ _).2]
end Go.Proofs.Tryz.Op
namespace Go.Wind
theorem L9(c:A0):∀(a before r:List Sp),EK c before (a++r)=(EK c before a&&EK c (before++a) r)
 |[],before,r=>by simp[EK]
 |x::a,before,r=>by simp only[List.cons_append,EK,L9 c a (before++[x]) r,List.append_assoc,Bool.and_assoc];rfl
theorem iN(c:A0)(l:List Sp){j:Nat}(hj:j<l.length):EK c [] (l.take (j+1))=(EK c [] (l.take j)&&(F2 c l[j]&&(l.take j).all (GA c l[j]))):=by rw[List.take_succ_eq_append_getElem hj,L9];simp[EK]
theorem W8(c:A0)(l:List Sp)(j:Nat)(h:EK c [] (l.take j)=false):EK c [] l=false:=by have:=L9 c (l.take j) [] (l.drop j);rw[List.take_append_drop,h,Bool.false_and]at this;exact this
theorem NO(c:A0):∀(a before:List Sp),EK c before a=true→∀x∈a,F2 c x=true
 |[],_,_,_,hx=>by cases hx
 |y::a,before,h,x,hx=>by
  simp only[EK,Bool.and_eq_true]at h;rcases List.mem_cons.1 hx with rfl|hx
  ·exact h.1.1
  ·exact NO c a _ h.2 x hx
theorem iO(l:List Sp){j:Nat}(hj:j<l.length):EO (l.take (j+1))=EO (l.take j)+l[j].size:=by rw[List.take_succ_eq_append_getElem hj];simp only[EO,List.map_append,List.map_cons,List.map_nil,List.sum_append,List.sum_cons,List.sum_nil,Int.add_zero]
theorem UH:∀(l:List Sp),(∀x∈l,0≤x.size∧x.size≤4)→0≤EO l∧EO l≤4*l.length
 |[],_=>by simp[EO]
 |x::l,h=>by have ih:=UH l fun y hy=>h y (by simp[hy]);have:=h x (by simp);simp only[EO,List.map_cons,List.sum_cons,List.length_cons]at ih⊢;omega
end Go.Wind
namespace Go.Proofs.Tryz.Op
def BHT{σ:Type}(U:σ→List AA)(I:σ→Prop)(K:Nat)(f:FuncId)(cap:List V)(p:σ→FW→Bool)(nx:σ→FW→σ)(xs:List (FW))(c0:Nat):Prop:=∀c fr s x,c0≤c→I s→x∈xs→(p s x=false→I (nx s x))∧∃c',c≤c'∧∀n,H9 (BN Tryz.prog ann kn (n+K)) (some 16) ⟨c,fr,⟨U s,[]⟩⟩ f (.agg (CH x)::cap)=some ⟨c',(16,true,.bool (p s x))::fr,⟨U (nx s x),[]⟩⟩
end Go.Proofs.Tryz.Op
