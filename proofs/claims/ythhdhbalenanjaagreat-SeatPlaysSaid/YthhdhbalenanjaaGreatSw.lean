/- Rows told as lists, by simp. No program in sight. -/
import Derived.Test.YthhdhbalenanjaaGreatSx
namespace Go.Pg
variable {P:Program}{l k:Nat}{o:Option (Nat×AX)}
@[simp] theorem AS1(st:XS):N4 [] st=st:=rfl
@[simp] theorem AON(k:Nat)(ks:List Nat)(c:Nat)(fr:Fr)(up:List AB)(loc:AB):N4 (k :: ks) ⟨c,fr,⟨up,loc⟩⟩=N4 ks ⟨c,MO up.length k (loc.get k) fr,⟨up,EJ up.length k (loc.get k) loc⟩⟩:=rfl
@[simp] theorem AS2:MO l k o []=[]:=rfl
@[simp] theorem AOO(j:Nat)(c:Bool)(v:V)(fr:Fr):MO l k o ((j,c,v) :: fr)=(j,c,A8 l k o 3 v) :: MO l k o fr:=rfl
@[simp] theorem AS3:EJ l k o []=[]:=rfl
@[simp] theorem AOP(j g:Nat)(r:AX)(L:AB):EJ l k o ((j,g,r) :: L)=if j=k then EJ l k o L else(j,g,JM l k o r) :: EJ l k o L:=rfl
@[simp] theorem A1A(γ:Nat)(T:TypeId)(es:List (List V))(L:AB):EJ l k o (pl k γ T es++L)=EJ l k o L:=by cases es <;> simp
@[simp] theorem AS4(γ:Nat)(T:TypeId)(es:List (List V)):EJ l k o (pl k γ T es)=[]:=by cases es <;> simp
theorem VJ:∀(f g:Nat) (v:V),AL g v=true→A8 l k o f v=v
 | 0,_,_,_=>rfl
 | f+1,0,v,h=>by cases h
 | f+1,g+1,v,h=>by
  have lst:∀cs:List V,cs.all (AL g)=true→cs.map (A8 l k o f)=cs:=by
   intro cs h
   conv=>rhs; rw[← List.map_id cs]
   exact List.map_congr_left fun x hx=>VJ f g x (List.all_eq_true.1 h x hx)
  cases v with
  | vec _ _ _ _=>cases h
  | ptr _ _ _ _=>cases h
  | agg cs=>simp only[A8]; rw[lst cs h]
  | tup cs=>simp only[A8]; rw[lst cs h]
  | _=>rfl
theorem oK{cs:List V}(h:cs.all (AL 9)=true)(f:Nat):cs.map (A8 l k o f)=cs:=by
 conv=>rhs; rw[← List.map_id cs]
 exact List.map_congr_left fun x hx=>VJ f 9 x (List.all_eq_true.1 h x hx)
theorem vJ{es:List (List V)}(h:(es.all fun e=>e.all (AL 9))=true)(f:Nat):es.map (List.map (A8 l k o f))=es:=by
 conv=>rhs; rw[← List.map_id es]
 exact List.map_congr_left fun x hx=>oK (List.all_eq_true.1 h x hx) f
@[simp] theorem vK{j:Nat}(h:j≠k)(γ:Nat)(T:TypeId)(es:List (List V))(L:AB)(hc:(es.all fun e=>e.all (AL 9))=true):EJ l k o (pl j γ T es++L)=pl j γ T es++EJ l k o L:=by
 cases es with
 | nil=>rfl
 | cons e es =>
  have q:=vJ (l:=l) (k:=k) (o:=o) hc 3
  simp only[List.map_cons]at q
  simp[h,JM,q]
@[simp] theorem UP{j:Nat}(h:j≠k)(γ:Nat)(T:TypeId)(es:List (List V))(hc:(es.all fun e=>e.all (AL 9))=true):EJ l k o (pl j γ T es)=pl j γ T es:=by
 have:=vK (l:=l) (o:=o) h γ T es [] hc
 simpa using this
@[simp] theorem AS5(cs:List V):JM l k o (.box cs)=.box (cs.map (A8 l k o 3)):=rfl
@[simp] theorem AS6(T:TypeId)(es:List (List V)):JM l k o (.vec T es)=.vec T (es.map (List.map (A8 l k o 3))):=rfl
@[simp] theorem AS7(es:List (V×V)):JM l k o (.map es)=.map es:=rfl
@[simp] theorem AOQ:JM l k o .dead=.dead:=rfl
@[simp] theorem AOR(fr:List (Nat×Bool×V))(ps:List Tmp)(asg body:Code)(N:Nat)(st:LS):JM l k o (.loop fr ps asg body N st)=.loop fr ps asg body N st:=rfl
@[simp] theorem cO(f:Nat)(i:IntKind)(n:Int):A8 l k o f (.int i n)=.int i n:=by cases f <;> rfl
@[simp] theorem AOS(f:Nat)(b:Bool):A8 l k o f (.bool b)=.bool b:=by cases f <;> rfl
@[simp] theorem AS8(f:Nat)(v:Value):A8 l k o f (.raw v)=.raw v:=by cases f <;> rfl
@[simp] theorem AOT(f:Nat)(b:Bool)(es:List (List V)):A8 l k o f (.list b es)=.list b es:=by cases f <;> rfl
@[simp] theorem A1B(f:Nat)(es:List (List V)):A8 l k o f (sl es)=sl es:=by cases f <;> cases es <;> rfl
@[simp] theorem AS9(f:Nat)(cs:List V):A8 l k o f (.ref cs)=.ref cs:=by cases f <;> rfl
theorem cP(f a b c d:Nat)(h:¬(a=l∧b=k)):A8 l k o f (.ptr a b c d)=.ptr a b c d:=by
 cases f with
 | zero=>rfl
 | succ f =>
  simp only[A8]
  split
  ·rw[if_neg fun hh=>h ⟨hh.1,hh.2.1⟩]
  ·rfl
@[simp] theorem AOU(f a b c d:Nat)(h:¬b=k):A8 l k o f (.ptr a b c d)=.ptr a b c d:=cP f a b c d fun hh=>h hh.2
@[simp] theorem AOV(f a b c d:Nat)(h:¬a=l):A8 l k o f (.ptr a b c d)=.ptr a b c d:=cP f a b c d fun hh=>h hh.1
@[simp] theorem AOW(γ:Nat)(T:TypeId)(es:List (List V))(f a b c d:Nat):A8 l k (some (γ,.vec T es)) f (.ptr a b c d)=.ptr a b c d:=by cases f <;> rfl
@[simp] theorem AOX(γ:Nat)(cs:List V)(f a b g off:Nat):A8 l k (some (γ,.box cs)) (f+1) (.ptr a b g off)=if a=l∧b=k∧g=γ then .ref ((cs.map MW).drop off) else .ptr a b g off:=rfl
@[simp] theorem A1C(q:IntKind)(n:Int):MW (.int q n)=.int q n:=rfl
@[simp] theorem ATA(b:Bool):MW (.bool b)=.bool b:=rfl
@[simp] theorem ATB(b:Bool)(es:List (List V)):MW (.list b es)=.list b es:=rfl
@[simp] theorem A6L(es:List (List V)):MW (sl es)=sl es:=by cases es <;> rfl
@[simp] theorem A1D:MW .nil=.nil:=rfl
@[simp] theorem A6M(a b c:Nat):MW (.mp a b c)=.any:=rfl
@[simp] theorem A1E:MW .any=.any:=rfl
@[simp] theorem QN(f:Nat):AL (f+1) .any=true:=rfl
@[simp] theorem ATC:weakV .any=.any:=rfl
@[simp] theorem ATD:weakC .any=.any:=rfl
@[simp] theorem ATE(f:Nat):A8 l k o f .any=.any:=by cases f <;> rfl
@[simp] theorem A1F(f a b c:Nat):A8 l k o f (.mp a b c)=.mp a b c:=by cases f <;> rfl
@[simp] theorem ATF(f a b c:Nat):A8 l k o f (.yld a b c)=.yld a b c:=by cases f <;> rfl
@[simp] theorem A1G(f:Nat)(g:FuncId)(xs ys:List V):A8 l k o f (.fn g xs ys)=.fn g xs ys:=by cases f <;> rfl
@[simp] theorem vL(f:Nat):A8 l k o f .nil=.nil:=by cases f <;> rfl
@[simp] theorem ATG(f:Nat)(cs:List V):A8 l k o (f+1) (.agg cs)=.agg (cs.map (A8 l k o f)):=rfl
@[simp] theorem ATH(f:Nat)(cs:List V):A8 l k o (f+1) (.tup cs)=.tup (cs.map (A8 l k o f)):=rfl
@[simp] theorem ATI(γ:Nat)(T:TypeId)(es:List (List V))(f l' k' g m:Nat):A8 l k (some (γ,.vec T es)) (f+1) (.vec l' k' g m)=if l'=l∧k'=k∧g=γ∧m=es.length then .list false es else .vec l' k' g m:=rfl
@[simp] theorem A1H(γ:Nat)(T:TypeId)(es:List (List V))(f:Nat):A8 0 k ((pl k γ T es).get k) (f+1) (pv k γ es)=sl es:=by
 cases es with
 | nil=>rfl
 | cons e es=>simp[pv,sl]
@[simp] theorem ATJ(γ:Nat)(T:TypeId)(es:List (List V))(f:Nat):A8 0 k (some (γ,.vec T es)) (f+1) (pv k γ es)=sl es:=by
 cases es with
 | nil=>rfl
 | cons e es=>simp[pv,sl]
@[simp] theorem ATK{j:Nat}(h:j≠k)(γ:Nat)(es:List (List V))(f:Nat):A8 l k o f (pv j γ es)=pv j γ es:=by
 cases es with
 | nil=>cases f <;> rfl
 | cons e es =>
  cases f with
  | zero=>rfl
  | succ f =>
   simp only[pv,A8]
   split
   ·rw[if_neg (fun hh=>h hh.2.1)]
   ·rfl
noncomputable def oe2(d c:Nat)(fr:Fr)(s:St):Option Mk→Option XS→Option XS
 | some r,_=>some ⟨c+1,(d,true,r.val s.up.length d c) :: fr,s.put s.up.length d c r.res⟩
 | none,z=>z
@[simp] theorem A6N(d c:Nat)(fr:Fr)(s:St)(T:TypeId)(es:List (List V))(z:Option XS):oe2 d c fr s (some ⟨.vec T es,none⟩) z=some ⟨c+1,(d,true,.vec s.up.length d c es.length) :: fr,s.put s.up.length d c (.vec T es)⟩:=rfl
noncomputable def oe1(d c:Nat)(fr:Fr)(s:St)(F:List V→Option Mk):Option (List V)→Option XS→Option XS
 | some vs,z=>oe2 d c fr s (F vs) z
 | none,z=>z
@[simp] theorem AB8(d c:Nat)(fr:Fr)(s:St)(F:List V→Option Mk)(vs:List V)(z:Option XS):oe1 d c fr s F (some vs) z=oe2 d c fr s (F vs) z:=rfl
variable {A:Ann}{kn:CF0}{n:Nat}{fr:Fr}{s:St}
@[simp] theorem A6O{f:FuncId}(hS:KJ P f=true)(d c:Nat)(args:List Operand):CS P (BQ P A kn n) (some d) (.call true none (.func f) args) ⟨c,fr,s⟩ =
  oe1 d c fr s (fun vs=>MF P (AE P A kn n) f (vs.map weakV)) (E1 (B9 fr) args) (S1 (BQ P A kn n).cf (BQ P A kn n).cy (some d) (.func f) args ⟨c,fr,s⟩):=by
 show Y0 (BQ P A kn n) true (some d) (.func f) args ⟨c,fr,s⟩=_
 unfold Y0
 show(match GZ (BQ P A kn n).co (some d) (.func f) args ⟨c,fr,s⟩ with | some st'=>some st' | none=>_)=_
 unfold GZ
 have hf:B9 fr (.func f)=some (.fn f [] []):=rfl
 simp only[hf]
 cases E1 (B9 fr) args with
 | none=>rfl
 | some vs =>
  simp only[AB8,List.nil_append,List.append_nil]
  have:(BQ P A kn n).co f (vs.map weakV) d=MF P (AE P A kn n) f (vs.map weakV):=by
   show NY P kn (fun _ _ _=>none) (AE P A kn n) f _ d=_
   unfold NY
   simp only[hS]
  rw[this]
  cases MF P (AE P A kn n) f (vs.map weakV)with
  | none=>rfl
  | some r=>rfl
noncomputable def of2(d c:Nat)(fr:Fr)(s:St):Option Mk→Option XS
 | some r=>some ⟨c+1,(d,true,r.val s.up.length d c) :: fr,s.put s.up.length d c r.res⟩
 | none=>none
@[simp] theorem A6P(d c:Nat)(fr:Fr)(s:St)(T:TypeId)(es:List (List V)):of2 d c fr s (some ⟨.vec T es,none⟩)=some ⟨c+1,(d,true,.vec s.up.length d c es.length) :: fr,s.put s.up.length d c (.vec T es)⟩:=rfl
noncomputable def of1(d c:Nat)(fr:Fr)(s:St)(F:List V→Option Mk):Option (List V)→Option XS
 | some vs=>of2 d c fr s (F vs)
 | none=>none
@[simp] theorem AB9(d c:Nat)(fr:Fr)(s:St)(F:List V→Option Mk)(vs:List V):of1 d c fr s F (some vs)=of2 d c fr s (F vs):=rfl
@[simp] theorem A1I{f:FuncId}(hS:KJ P f=true)(d c:Nat)(args:List Operand):DB P (BQ P A kn n) (some d) (.call true none (.func f) args) ⟨c,fr,s⟩ =
  nw (of1 d c fr s (fun vs=>MF P (AE P A kn n) f (vs.map weakV)) (E1 (B9 fr) args)):=by
 show S2 (GZ (BQ P A kn n).co (some d) (.func f) args ⟨c,fr,s⟩)=_
 rw[F1]
 congr 1
 unfold GZ
 have hf:B9 fr (.func f)=some (.fn f [] []):=rfl
 simp only[hf]
 cases E1 (B9 fr) args with
 | none=>rfl
 | some vs =>
  simp only[AB9,List.nil_append,List.append_nil]
  have:(BQ P A kn n).co f (vs.map weakV) d=MF P (AE P A kn n) f (vs.map weakV):=by
   show NY P kn (fun _ _ _=>none) (AE P A kn n) f _ d=_
   unfold NY
   simp only[hS]
  rw[this]
  cases MF P (AE P A kn n) f (vs.map weakV)with
  | none=>rfl
  | some r=>rfl
noncomputable def A1J(P:Program)(fn:Func)(r:Option (Exit×XS)):Option Mk:=match r with
 | some (.ret,st)=>nQ P fn st
 | some (.normal,st)=>nQ P fn st
 | _=>none
@[simp] theorem A1K(fn:Func)(st:XS):A1J P fn (some (.ret,st))=nQ P fn st:=rfl
@[simp] theorem AKC(fn:Func)(st:XS):A1J P fn (some (.normal,st))=nQ P fn st:=rfl
noncomputable def rO(P:Program)(fn:Func)(st:XS)(v:Option V):Option Mk:=match v with
 | some (.vec l k γ n)=>Bool.rec none (match st.s.loc.get k with
  | some (γ',.vec T es)=>Bool.rec none (some ⟨.vec T es,none⟩) (Nat.beq γ' γ&&Nat.beq n es.length&&es.all fun e=>e.all (AL 9))
  | _=>none) (Nat.beq l st.s.up.length)
 | some v=>Bool.rec none (match fn.resultTypes.toList with
  | [R]=>match BI P R with
   | some (none,T)=>some ⟨.vec T [],none⟩
   | _=>none
  | _=>none) (VQ v)
 | none=>none
end Go.Pg
set_option linter.unusedSimpArgs false
namespace Go.Pg
section
@[simp] theorem GA{α:Type}(x:α):∀(l:List α),DA (l++[x])=some (l,x)
 | []=>rfl
 | [y]=>rfl
 | y :: z :: l=>by
  have:=GA x (z :: l)
  simp only[List.cons_append]at this ⊢
  rw[VL,this]; rfl
end
section
variable {P:Program}{E:XE}{d:Option Tmp}{c:Nat}{fr:Fr}{s:St}{r:Operand→Option V}
@[simp] theorem AOY(T:TypeId)(x i:Operand)(ok:Bool):H0 P (aQ (.lookup T x i ok)) s r=o2 (fun a b=>D3 P s T a b ok) (r x) (r i):=by
 show((r x).bind fun a=>(r i).bind fun b=>D3 P s T a b ok)=_
 cases r x <;> cases r i <;> rfl
noncomputable def up1(c:Nat)(fr:Fr)(s:St):Option (Nat×Nat×Nat×List (V×V))→Option XS
 | some (l,q,γ,es)=>Bool.rec none (some ⟨c,fr,s.put l q γ (.map es)⟩) (Nat.blt γ c)
 | none=>none
noncomputable def up3(P:Program)(T:TypeId)(c:Nat)(fr:Fr)(s:St):Option V→Option V→Option V→Option XS
 | some m,some i,some v=>up1 c fr s (PT P s T m i v)
 | _,_,_=>none
@[simp] theorem A1L(T:TypeId)(m i v:V):up3 P T c fr s (some m) (some i) (some v)=up1 c fr s (PT P s T m i v):=rfl
@[simp] theorem ATL(T:TypeId)(x i y:Operand):CS P E none (.upd T x i y) ⟨c,fr,s⟩=up3 P T c fr s (B9 fr x) (B9 fr i) (B9 fr y):=by
 show uW P none T x i y ⟨c,fr,s⟩=_
 unfold uW up3 up1
 simp only
 cases B9 fr x <;> cases B9 fr i <;> cases B9 fr y <;> simp only
 split <;> simp_all
@[simp] theorem A1M(x:Operand):H0 P (aQ (.nilCheck x)) s r=o1 MJ (r x):=by
 show(r x).bind MJ=_
 cases r x <;> rfl
@[simp] theorem ATM(l k g o:Nat):MJ (.ptr l k g o)=some (.ptr l k g o):=rfl
@[simp] theorem A1N(x:Operand)(f:Operand→Option V):G7 P (.oth (.nilCheck x)) f=[]:=rfl
@[simp] theorem A1O(T:TypeId)(x i:Operand)(ok:Bool)(f:Operand→Option V):G7 P (.oth (.lookup T x i ok)) f=BD (f x):=rfl
@[simp] theorem AOZ(l k g:Nat):BJ s (.mp l k g)=some (.mp l k g):=rfl
theorem QO{α:Type}{f:α→Option α}:∀{l:List α},(∀x∈l,f x=some x)→EK f l=some l
 | [],_=>rfl
 | x :: l,h=>by
  have ih:=QO (f:=f) (l:=l) fun y hy=>h y (by simp[hy])
  simp only[EK,h x (by simp),ih]
theorem TA:∀(l:List AB) (b:AB),DA (l++[b])=some (l,b)
 | [],b=>by simp
 | [a],b=>by simp
 | a :: a2 :: l,b=>by
  have:=TA (a2 :: l) b
  simp only[List.cons_append]at this ⊢
  simp[this]
@[simp] theorem ATN(a:AB)(l:List AB)(b:AB):DA (a :: (l++[b]))=some (a :: l,b):=TA (a :: l) b
@[simp] theorem AO0(l k g:Nat):BD (some (.mp l k g))=[(l,k)]:=rfl
@[simp] theorem ATO(d:Nat):CS P E (some d) (.mkM none) ⟨c,fr,s⟩=some ⟨c+1,(d,true,.mp s.up.length d c) :: fr,s.put s.up.length d c (.map [])⟩:=rfl
end
section
variable {P:Program}{s:St}{r:Operand→Option V}
@[simp] theorem AO1(T:TypeId)(x h:Operand):H0 P (aQ (.slice T x none (some h) none)) s r=o2 (fun a b=>BU P s T a none (some b) none) (r x) (r h):=by
 show((r x).bind fun a=>((some none:Option (Option V))).bind fun l=>((r h).map some).bind fun h=>((some none:Option (Option V))).bind fun m=>BU P s T a l h m)=_
 cases r x <;> cases r h <;> rfl
theorem ZP{T e:TypeId}{es:List (List V)}{h:Int}{b:Bool}(hT:BI P T=some (none,e))(hc:0<P.cellsOf e)(h1:0≤h)(h2:h≤es.length):BU P s T (.list b es) none (some (.int .i64 h)) none=some (.list false (es.take h.toNat)):=by
 simp only[BU,hT]
 rw[if_pos ⟨h1,h2,hc⟩]
end
section
variable {P:Program}{E:XE}{c:Nat}{fr:Fr}{s:St}{r:Operand→Option V}
@[simp] theorem AO2(T:TypeId)(x l:Operand):H0 P (aQ (.slice T x (some l) none none)) s r=o2 (fun a b=>BU P s T a (some b) none none) (r x) (r l):=by
 show((r x).bind fun a=>((r l).map some).bind fun l=>(some none).bind fun h=>(some none).bind fun m=>BU P s T a l h m)=_
 cases r x <;> cases r l <;> rfl
end
section
variable {P:Program}{fr:Fr}{s:St}
@[simp] theorem A6Q(e d c:Nat)(ys:List (List V))(h:B4 P e 0 ys=true):oU P e d c fr s (.list true []) ys=some (⟨c+1,(d,true,.vec s.up.length d c ys.length) :: fr,s.put s.up.length d c (.vec e ys)⟩,[(s.up.length,d),(s.up.length,d+HD)]):=by
 unfold oU
 simp[HQ,h]
@[simp] theorem A6R(e d c l q γ n:Nat)(ys:List (List V)):oU P e d c fr s (.vec l q γ n) ys=wp [(l,q),(l,q+HD)] (apW P e d c fr s l q γ n ys (P8 n ys (s.get l q))):=rfl
@[simp] theorem AO3(l k g i o:Nat):MJ (.eptr l k g i o)=some (.eptr l k g i o):=rfl
end
section
@[simp] theorem AF8{P:Program}{A:Ann}{kn:CF0}{n:Nat}:(BQ P A kn n).cy=eR (AE P A kn n):=rfl
end
section
variable {P:Program}{A:Ann}{kn:CF0}{n:Nat}{fr:Fr}{s:St}
noncomputable def oc2(d c:Nat)(fr:Fr)(s:St):Option V→Option XS→Option XS
 | some r,_=>some ⟨c+1,(d,true,r.ren (fun _=>c) s.up.length) :: fr,s.put s.up.length d c .dead⟩
 | none,z=>z
@[simp] theorem A1P(d c:Nat)(r:V)(z:Option XS):oc2 d c fr s (some r) z=some ⟨c+1,(d,true,r.ren (fun _=>c) s.up.length) :: fr,s.put s.up.length d c .dead⟩:=rfl
noncomputable def oc1(d c:Nat)(fr:Fr)(s:St)(F:List V→Option V):Option (List V)→Option XS→Option XS
 | some vs,z=>oc2 d c fr s (F vs) z
 | none,z=>z
@[simp] theorem ACA(d c:Nat)(F:List V→Option V)(vs:List V)(z:Option XS):oc1 d c fr s F (some vs) z=oc2 d c fr s (F vs) z:=rfl
@[simp] theorem A1Q{f:FuncId}(hS:KJ P f=false)(d c:Nat)(args:List Operand):CS P (BQ P A kn n) (some d) (.call true none (.func f) args) ⟨c,fr,s⟩ =
  oc1 d c fr s (fun vs=>E9 P kn (AE P A kn n) f (vs.map weakV)) (E1 (B9 fr) args) (S1 (BQ P A kn n).cf (BQ P A kn n).cy (some d) (.func f) args ⟨c,fr,s⟩):=by
 show Y0 (BQ P A kn n) true (some d) (.func f) args ⟨c,fr,s⟩=_
 unfold Y0
 show(match GZ (BQ P A kn n).co (some d) (.func f) args ⟨c,fr,s⟩ with | some st'=>some st' | none=>_)=_
 unfold GZ
 have hf:B9 fr (.func f)=some (.fn f [] []):=rfl
 simp only[hf]
 cases E1 (B9 fr) args with
 | none=>rfl
 | some vs =>
  simp only[ACA,List.nil_append,List.append_nil]
  have:(BQ P A kn n).co f (vs.map weakV) d=(match E9 P kn (AE P A kn n) f (vs.map weakV)with | some r=>some ⟨.dead,some r⟩ | none=>none):=by
   show NY P kn (fun _ _ _=>none) (AE P A kn n) f _ d=_
   unfold NY
   simp only[hS]
   cases E9 P kn (AE P A kn n) f (vs.map weakV) <;> rfl
  rw[this]
  cases E9 P kn (AE P A kn n) f (vs.map weakV)with
  | none=>rfl
  | some r=>rfl
noncomputable def od2(d c:Nat)(fr:Fr)(s:St):Option V→Option XS
 | some r=>some ⟨c+1,(d,true,r.ren (fun _=>c) s.up.length) :: fr,s.put s.up.length d c .dead⟩
 | none=>none
@[simp] theorem A1R(d c:Nat)(r:V):od2 d c fr s (some r)=some ⟨c+1,(d,true,r.ren (fun _=>c) s.up.length) :: fr,s.put s.up.length d c .dead⟩:=rfl
noncomputable def od1(d c:Nat)(fr:Fr)(s:St)(F:List V→Option V):Option (List V)→Option XS
 | some vs=>od2 d c fr s (F vs)
 | none=>none
@[simp] theorem ACB(d c:Nat)(F:List V→Option V)(vs:List V):od1 d c fr s F (some vs)=od2 d c fr s (F vs):=rfl
@[simp] theorem ATP{f:FuncId}(hS:KJ P f=false)(d c:Nat)(args:List Operand):DB P (BQ P A kn n) (some d) (.call true none (.func f) args) ⟨c,fr,s⟩ =
  nw (od1 d c fr s (fun vs=>E9 P kn (AE P A kn n) f (vs.map weakV)) (E1 (B9 fr) args)):=by
 show S2 (GZ (BQ P A kn n).co (some d) (.func f) args ⟨c,fr,s⟩)=_
 rw[F1]
 congr 1
 unfold GZ
 have hf:B9 fr (.func f)=some (.fn f [] []):=rfl
 simp only[hf]
 cases E1 (B9 fr) args with
 | none=>rfl
 | some vs =>
  simp only[ACB,List.nil_append,List.append_nil]
  have:(BQ P A kn n).co f (vs.map weakV) d=(match E9 P kn (AE P A kn n) f (vs.map weakV)with | some r=>some ⟨.dead,some r⟩ | none=>none):=by
   show NY P kn (fun _ _ _=>none) (AE P A kn n) f _ d=_
   unfold NY
   simp only[hS]
   cases E9 P kn (AE P A kn n) f (vs.map weakV) <;> rfl
  rw[this]
  cases E9 P kn (AE P A kn n) f (vs.map weakV)with
  | none=>rfl
  | some r=>rfl
@[simp] theorem BCE{σ:Nat→Nat}{δ:Nat}(es:List (List V)):(sl es).ren σ δ=sl (es.map (List.map (V.ren σ δ))):=by cases es <;> simp[sl]
end
section
variable {fr:Fr}{s:St}
@[simp] theorem AKD(l k g:Nat):BJ s (.yld l k g)=some (.yld l k g):=rfl
@[simp] theorem AKE(f:Nat)(cs:List V):AZ s (f+1) (.ref cs)=some (.ref cs):=rfl
@[simp] theorem A1S{P:Program}:FM P [] fr s=some (.tup []):=rfl
@[simp] theorem AKF(f:Nat):AZ s (f+1) (.tup [])=some (.tup []):=rfl
@[simp] theorem ACC:CK .nilFunc=some (.raw .nilFunc):=rfl
@[simp] theorem AO4(f l k g:Nat):AL (f+1) (.yld l k g)=false:=rfl
@[simp] theorem A1T(l k g:Nat):weakV (.yld l k g)=.yld l k g:=rfl
@[simp] theorem A6S(d c l k g:Nat):vY d c fr s (some (.yld l k g))=some ⟨c+1,(d,true,.ptr s.up.length d c 0) :: fr,s.put s.up.length d c (.box [.yld l k g])⟩:=rfl
@[simp] theorem A6T(F:List V→Option (List V))(g off:Nat)(g':Nat)(cs:List V):cp1 F g off (some (g',.box cs))=if g'=g then(F cs).map (fun ds=>V.ref (ds.drop off)) else none:=rfl
noncomputable def mk4(P:Program)(d c:Nat)(fr:Fr)(s:St)(e:TypeId)(n m:Int):Option (List V)→Option XS
 | some z=>if 0≤n∧m=n∧z.length=P.cellsOf e∧n.toNat*P.bytesOf e≤140737488355328∧n.toNat≤maxLen then some ⟨c+1,(d,true,.vec s.up.length d c n.toNat) :: fr,s.put s.up.length d c (.vec e (List.replicate n.toNat z))⟩ else none
 | none=>none
@[simp] theorem A1U{P:Program}(d c:Nat)(e:TypeId)(n m:Int)(z:List V):mk4 P d c fr s e n m (some z)=if 0≤n∧m=n∧z.length=P.cellsOf e∧n.toNat*P.bytesOf e≤140737488355328∧n.toNat≤maxLen then some ⟨c+1,(d,true,.vec s.up.length d c n.toNat) :: fr,s.put s.up.length d c (.vec e (List.replicate n.toNat z))⟩ else none:=rfl
noncomputable def mk3(P:Program)(d c:Nat)(fr:Fr)(s:St):Option (Option Nat×TypeId)→Option V→Option V→Option XS
 | some (none,e),some (.int _ n),some (.int _ m)=>mk4 P d c fr s e n m (B5 P e)
 | _,_,_=>none
@[simp] theorem ACD{P:Program}(d c:Nat)(e:TypeId)(k1 k2:IntKind)(n m:Int):mk3 P d c fr s (some (none,e)) (some (.int k1 n)) (some (.int k2 m))=mk4 P d c fr s e n m (B5 P e):=rfl
@[simp] theorem ATQ{P:Program}{E:XE}(T:TypeId)(d c:Nat)(x y:Operand):CS P E (some d) (.mkS T x y) ⟨c,fr,s⟩=mk3 P d c fr s (BI P T) (B9 fr x) (B9 fr y):=by
 show VG P (some d) T x y ⟨c,fr,s⟩=_
 unfold VG
 simp only
 cases BI P T with
 | none=>cases B9 fr x <;> cases B9 fr y <;> rfl
 | some p =>
  obtain⟨k,e⟩:=p
  cases k with
  | some k=>cases B9 fr x <;> cases B9 fr y <;> rfl
  | none =>
   cases B9 fr x with
   | none=>rfl
   | some a =>
    cases B9 fr y with
    | none=>cases a <;> rfl
    | some z =>
     cases a with
     | int k1 n =>
      cases z with
      | int k2 m=>simp only[ACD]; cases B5 P e <;> rfl
      | _=>rfl
     | _=>rfl
@[simp] theorem A6U{P:Program}(T:TypeId)(x y:Operand)(r:Operand→Option V):G7 P (.mkS T x y) r=[]:=rfl
noncomputable def rE(fr:Fr)(n γ:Nat)(r:Option XS):Option (Exit×XS):=match r with
 | some st=>match st.s.get n B0 with
  | some (γ',.loop _ _ _ _ _ ls)=>Bool.rec none (match ls with
   | .ready=>some (.normal,⟨st.c,fr,st.s.put n B0 γ .dead⟩)
   | .left .ret=>some (.ret,⟨st.c,fr,st.s.put n B0 γ .dead⟩)
   | .left (.exit id)=>some (.exit id,⟨st.c,fr,st.s.put n B0 γ .dead⟩)
   | _=>none) (Nat.beq γ' γ&&Nat.blt γ st.c)
  | _=>none
 | none=>none
theorem cQ{P:Program}{A:Ann}{kn:CF0}{n N:Nat}{g:Operand}{ps:List Tmp}{asg body:Code}{c:Nat}{up:List AB}{loc:AB}{f:FuncId}{first cap:List V}(h:B9 fr g=some (.fn f first cap)) :
  UI (BQ P A kn n).cf N g ps asg body ⟨c,fr,⟨up,loc⟩⟩=rE fr up.length c (IQ (BQ P A kn n) none ⟨c+1,fr,⟨up,(B0,c,.loop fr ps asg body N .ready) :: loc⟩⟩ f ((first++[V.yld up.length B0 c]++cap).map weakV)):=by
 unfold UI
 simp only[h]
 unfold IQ eP rE
 simp only[St.put,if_true,AB.put]
 cases (BQ P A kn n).cf f ((first++[V.yld up.length B0 c]++cap).map weakV) ⟨c+1,fr,⟨up,(B0,c,.loop fr ps asg body N .ready) :: loc⟩⟩ with
 | none=>rfl
 | some r=>rfl
theorem kH{n γ c:Nat}{fr' fr0:Fr}{s:St}{ps:List Tmp}{asg body:Code}{N:Nat}(h:s.get n B0=some (γ,.loop fr0 ps asg body N .ready))(hc:γ<c):rE fr n γ (some ⟨c,fr',s⟩)=some (.normal,⟨c,fr,s.put n B0 γ .dead⟩):=by
 unfold rE
 simp only[h]
 have:(Nat.beq γ γ&&Nat.blt γ c)=true:=by simpa using hc
 rw[this]
@[simp] theorem ATR(t:St)(fr0:Fr)(ps:List Tmp)(asg body:Code)(N:Nat)(l:LS):CC t (.loop fr0 ps asg body N l)=.loop fr0 ps asg body N l:=rfl
theorem AHH{rec:F0}{l q γ c N:Nat}{fr0:Fr}{ps:List Tmp}{asg body:Code}{vs:List V}(h:s.get l q=some (γ,.loop fr0 ps asg body N .ready))(hv:vs.length=ps.length)(hc:γ<c) :
  eR rec l q γ vs ⟨c,fr,s⟩=Y4 fr l q γ (Y5 (rec N) l q γ body (rec N asg ⟨c,KZ fr0 ps vs,⟨s.up++[s.loc],[]⟩⟩)):=by
 unfold eR
 simp only[h]
 have:(Nat.beq γ γ&&Nat.beq vs.length ps.length&&Nat.blt γ c)=true:=by simp[hv,hc]
 rw[this]
theorem aO{rec:Z4}{l q γ c N:Nat}{fr0:Fr}{ps:List Tmp}{asg body body':Code}(h:s.get l q=some (γ,.loop fr0 ps asg body' N .ready))(hc:γ<c) :
  Y5 rec l q γ body (some (.normal,⟨c,fr,s⟩))=rec body ⟨c,fr,s.put l q γ (.loop fr0 ps asg body' N .busy)⟩:=by
 unfold Y5
 simp only[h]
 have:(Nat.beq γ γ&&Nat.blt γ c)=true:=by simp[hc]
 rw[this]
theorem aP{fr':Fr}{l q γ c N:Nat}{fr0:Fr}{ps:List Tmp}{asg body:Code}{up u:List AB}{loc lc:AB}(h:St.get ⟨up,loc⟩ l q=some (γ,.loop fr0 ps asg body N .busy))(hu:DA up=some (u,lc))(hl:l<up.length)(hc:γ<c) :
  Y4 fr l q γ (some (.normal,⟨c,fr',⟨up,loc⟩⟩))=some (.bool true,⟨c,fr,St.put ⟨u.map (AQ ⟨up,loc⟩),AQ ⟨up,loc⟩ lc⟩ l q γ (.loop fr0 ps asg body N .ready)⟩):=by
 unfold Y4
 simp only[h,hu]
 have:(Nat.beq γ γ&&Nat.blt l up.length&&Nat.blt γ c)=true:=by simp[hc,hl]
 rw[this]
 rfl
end
section
noncomputable def tkU(z:Option XS)(d:Option Tmp)(st:XS):Option V→Option XS
 | some r=>Bool.rec z (C4 d st (some r)) (ZF r)
 | none=>z
@[simp] theorem A6W(z:Option XS)(d:Option Tmp)(st:XS)(k:IntKind)(n:Int):tkU z d st (some (.int k n))=C4 d st (some (.int k n)):=rfl
@[simp] theorem A1V(z:Option XS)(d:Option Tmp)(st:XS)(b:Bool):tkU z d st (some (.bool b))=C4 d st (some (.bool b)):=rfl
@[simp] theorem ATS(l k g n:Nat):weakC (.vec l k g n)=.vec l k g n:=rfl
@[simp] theorem vM(st:XS)(v:V):HH st [] v=v:=rfl
@[simp] theorem oL(k:Nat)(ks:List Nat)(c:Nat)(fr:Fr)(up:List AB)(loc:AB)(v:V)(h:k<10000):HH ⟨c,fr,⟨up,loc⟩⟩ (k :: ks) v=HH ⟨c,fr,⟨up,loc⟩⟩ ks (A8 up.length k (loc.get k) 3 v):=by
 have:Nat.blt k 10000=true:=by simpa [Nat.blt_eq]using h
 simp only[HH,this,cond_true]
@[simp] theorem FJ(k:Nat)(ks:List Nat)(st:XS)(v:V)(h:¬k<10000):HH st (k :: ks) v=HH st ks (A8 (k / 10000-1) (k % 10000) (st.s.get (k / 10000-1) (k % 10000)) 3 v):=by
 have:Nat.blt k 10000=false:=by
  cases hb:Nat.blt k 10000 with
  | false=>rfl
  | true=>exact absurd (by simpa [Nat.blt_eq]using hb) h
 simp only[HH,this,cond_false]
@[simp] theorem A6X{P:Program}{A:Ann}{kn:CF0}{n k:Nat}{us:List Nat}(d:Option Tmp)(st:XS)(f:FuncId)(args:List V):IQ (cfU (k :: us) (BQ P A kn n)) d st f args=tkU (IQ (BQ P A kn n) d st f args) d st (E9 P kn (AE P A kn n) f (args.map (HH st (k :: us)))):=by
 show(match jS (BQ P A kn n).cf (BQ P A kn n).c0 (k :: us) f args st with
  | some (r,st')=>some (⟨st'.c,putD st'.fr d true r,st'.s⟩:XS)
  | none=>none)=_
 unfold jS
 have e:(BQ P A kn n).c0=E9 P kn (AE P A kn n):=rfl
 rw[e]
 cases E9 P kn (AE P A kn n) f (args.map (HH st (k :: us)))with
 | none=>rfl
 | some r =>
  show(match(Bool.rec ((BQ P A kn n).cf f args st) (some (r,st)) (ZF r):Option (V×XS))with
   | some (r,st')=>some (⟨st'.c,putD st'.fr d true r,st'.s⟩:XS)
   | none=>none)=(Bool.rec (IQ (BQ P A kn n) d st f args) (C4 d st (some r)) (ZF r):Option XS)
  cases ZF r <;> rfl
@[simp] theorem A6Y(z:Option XS)(d:Option Tmp)(st:XS)(cs:List V)(h:cs.all UM=true):tkU z d st (some (.agg cs))=C4 d st (some (.agg cs)):=by
 show(Bool.rec z (C4 d st (some (.agg cs))) (cs.all UM):Option XS)=_
 rw[h]
@[simp] theorem AO5(k:IntKind)(n:Int):UM (.int k n)=true:=rfl
@[simp] theorem AKG(b:Bool):UM (.bool b)=true:=rfl
end
theorem OA{j k:Nat}(h:j≠k)(γ γ2:Nat)(T T2:TypeId)(es fs:List (List V)):kl j (kl k [] ((pl j γ T es++pl k γ2 T2 fs).get k)) ((pl j γ T es++pl k γ2 T2 fs).get j)=pl j γ T es++pl k γ2 T2 fs:=by
 cases es <;> cases fs <;> simp[h,h.symm]
theorem IZ{j k:Nat}(h:j≠k)(γ γ2:Nat)(T T2:TypeId)(es fs:List (List V)):(pl j γ T es++pl k γ2 T2 fs).get k=(pl k γ2 T2 fs).get k:=by
 cases es <;> cases fs <;> simp[h.symm]
theorem OB{j k:Nat}(h:j≠k)(γ γ2:Nat)(T T2:TypeId)(es fs:List (List V))(M:AB):kl j M ((pl j γ T es++pl k γ2 T2 fs).get j)=pl j γ T es++M:=by
 cases es <;> cases fs <;> simp[h,h.symm]
theorem rY{j k:Nat}(h:j≠k)(γ:Nat)(T:TypeId)(es:List (List V))(x:Nat×AX):(pl j γ T es++[(k,x)]).get k=some x:=by
 cases es <;> simp[h.symm]
theorem ACE{j k:Nat}(h:j≠k)(γ:Nat)(T:TypeId)(es:List (List V))(x:Nat×AX)(M:AB):kl j M ((pl j γ T es++[(k,x)]).get j)=pl j γ T es++M:=by
 cases es <;> simp[h,h.symm]
theorem I0{j k:Nat}(h:j≠k)(γ γ2:Nat)(T T2:TypeId)(es fs:List (List V)):(pl j γ T es++pl k γ2 T2 fs).get j=(pl j γ T es).get j:=by
 cases es <;> cases fs <;> simp[h]
theorem KC{j k m:Nat}(h1:j≠m)(h2:k≠m)(γ γ2:Nat)(T T2:TypeId)(es fs:List (List V)):(pl j γ T es++pl k γ2 T2 fs).get m=none:=by
 cases es <;> cases fs <;> simp[h1.symm,h2.symm]
theorem OC{j:Nat}(γ:Nat)(T:TypeId)(es:List (List V))(M:AB):kl j M ((pl j γ T es).get j)=pl j γ T es++M:=by
 cases es <;> simp
theorem OD{t:St}{T:TypeId}{es:List (List V)}(h:∀e∈es,∀v∈e,BJ t v=some v):CC t (.vec T es)=.vec T es:=by
 have:CA t (.vec T es)=some (.vec T es):=by
  unfold CA
  simp only
  rw[QO fun e he=>QO fun v hv=>h e he v hv]
 unfold CC
 rw[this]
theorem vN{t c l q γ n:Nat}{fr:Fr}{s:St}{U:TypeId}{es:List (List V)}(h:BT fr t=some (true,.vec l q γ n))(hg:s.get l q=some (γ,.vec U es))(hn:n≤es.length)(hc:γ<c):ZQ (some t) ⟨c,fr,s⟩=⟨c,(t,true,.list false (es.take n)) :: fr,s.put l q γ .dead⟩:=by
 have hb:(Nat.beq γ γ&&Nat.ble n es.length&&Nat.blt γ c)=true:=by simp[Nat.blt_eq,hn,hc,Nat.beq_eq]
 unfold ZQ
 simp only[h,hg,hb]
@[simp] theorem AO6{P:Program}{A:Ann}{kn:CF0}{n N l:Nat}{st:XS}:AE P A kn (n+1) N (.label l) st=some (.normal,st):=rfl
theorem I1{α:Type}(p:α→Bool):∀(l:List α),(!l.any fun x=>!p x)=l.all p
 | []=>rfl
 | x :: l=>by
  have:=I1 p l
  simp only[List.any_cons,List.all_cons,Bool.not_or,Bool.not_not,← this]
section
variable {P:Program}{fr:Fr}{s:St}
def pt(k γ:Nat):List (List V)→V
 | []=>.list true []
 | e :: es=>.vec 0 k γ (e :: es).length
@[simp] theorem BCG(k γ:Nat):pt k γ []=.list true []:=rfl
@[simp] theorem A6Z(k γ:Nat)(e:List V)(es:List (List V)):pt k γ (e :: es)=.vec 0 k γ (es.length+1):=rfl
@[simp] theorem BCH(e k c γ:Nat)(loc:AB)(es:List (List V))(y:List V)(ys:List (List V))(hl:AB.get loc k=(pl k γ e es).get k)(h1:es.all (fun y=>y.length == P.cellsOf e)=true)(h2:B4 P e es.length (y :: ys)=true) :
  wZ P e k c fr ⟨[],loc⟩ (pt k γ es) (y :: ys)=some ⟨c+1,(k,true,pt k c (es++y :: ys)) :: fr,⟨[],(k,c,.vec e (es++y :: ys)) :: loc⟩⟩:=by
 cases es with
 | nil =>
  simp only[List.length_nil]at h2
  simp[h2,pt]
 | cons z es =>
  have h:=AQZ (P:=P) (fr:=fr) e k c γ loc (z :: es) y ys hl h1 h2
  exact h
theorem vO{T:TypeId}(f:Nat)(loc:AB)(k γ:Nat)(es:List (List V))(hl:AB.get loc k=(pl k γ T es).get k):AZ ⟨[],loc⟩ (f+1) (pt k γ es)=some (.list false es):=by
 cases es with
 | nil=>rfl
 | cons e es=>exact O5 (T:=T) f loc k γ (e :: es) hl
@[simp] theorem AO7(f k γ:Nat)(T:TypeId)(es:List (List V)):AZ ⟨[],pl k γ T es⟩ (f+1) (pt k γ es)=some (.list false es):=vO (T:=T) f _ k γ es rfl
@[simp] theorem A1W{T:TypeId}(h:C8 P T=true)(k γ:Nat)(es:List (List V)):F4 P T (pt k γ es)=some (.int .i64 es.length):=by
 cases es <;> simp[pt,h]
@[simp] theorem ATT(k γ:Nat)(es:List (List V)):A6 (pt k γ es)=[pt k γ es]:=by cases es <;> rfl
@[simp] theorem ATU(k γ:Nat)(es:List (List V)):A7 (pt k γ es)=true:=by cases es <;> rfl
end
@[simp] theorem A60(st:XS):N6 [] st=st:=rfl
@[simp] theorem A1X(k:Nat)(ks:List Nat)(c:Nat)(fr:Fr)(up:List AB)(loc:AB)(h:k<1000):N6 (k :: ks) ⟨c,fr,⟨up,loc⟩⟩=N6 ks ⟨c,MO up.length k (loc.get k) fr,⟨up,EJ up.length k (loc.get k) loc⟩⟩:=by
 have h1:Nat.blt k 1000=true:=by simpa [Nat.blt_eq]using h
 show N6 ks (rP k ⟨c,fr,⟨up,loc⟩⟩)=_
 unfold rP
 rw[h1]; rfl
@[simp] theorem A1Y(k:Nat)(ks:List Nat)(c:Nat)(fr:Fr)(up:List AB)(loc:AB)(h:2000000000000000≤k):N6 (k :: ks) ⟨c,fr,⟨up,loc⟩⟩=N6 ks ⟨c,fr,⟨up,aM (k % 1000) loc⟩⟩:=by
 have h1:Nat.blt k 1000=false:=by rw[← Bool.not_eq_true,Nat.blt_eq]; omega
 have h2:Nat.blt k 1000000000000000=false:=by rw[← Bool.not_eq_true,Nat.blt_eq]; omega
 have h3:Nat.blt k 2000000000000000=false:=by rw[← Bool.not_eq_true,Nat.blt_eq]; omega
 show N6 ks (rP k ⟨c,fr,⟨up,loc⟩⟩)=_
 unfold rP
 rw[h1,h2,h3]; rfl
@[simp] theorem A61(k:Nat):aM k []=[]:=rfl
@[simp] theorem A1Z(k j g:Nat)(r:AX)(L:AB):aM k ((j,g,r) :: L)=(j,g,if j=k then wX r else r) :: aM k L:=rfl
@[simp] theorem A62(T:TypeId)(es:List (List V)):wX (.vec T es)=.vec T (es.map (List.map cJ)):=rfl
@[simp] theorem A63(cs:List V):wX (.box cs)=.box (cs.map cJ):=rfl
@[simp] theorem BCI(k γ:Nat)(T:TypeId)(es:List (List V)):aM k (pl k γ T es)=pl k γ T (es.map (List.map cJ)):=by
 cases es with
 | nil=>rfl
 | cons e es=>simp[pl,aM]
@[simp] theorem AHI{k j:Nat}(h:j≠k)(γ:Nat)(T:TypeId)(es:List (List V)):aM k (pl j γ T es)=pl j γ T es:=by
 cases es with
 | nil=>rfl
 | cons e es=>simp[pl,aM,h]
@[simp] theorem BCJ(es:List (List V)):cJ (sl es)=.list false es:=by cases es <;> rfl
@[simp] theorem A64:cJ .nil=.list false []:=rfl
@[simp] theorem A10(b:Bool)(es:List (List V)):cJ (.list b es)=.list b es:=rfl
section
variable {l k:Nat}{o:Option (Nat×AX)}
def gtf(l k:Nat)(o:Option (Nat×AX)):Option (Bool×V)→Option (Bool×V)
 | some (c,v)=>some (c,A8 l k o 3 v)
 | none=>none
@[simp] theorem A11(c:Bool)(v:V):gtf l k o (some (c,v))=some (c,A8 l k o 3 v):=rfl
@[simp] theorem A12:gtf l k o none=none:=rfl
@[simp] theorem ATV(fr:Fr)(j:Nat):BT (MO l k o fr) j=gtf l k o (BT fr j):=by
 rw[EX,EX,UK]
 cases fr.get j with
 | none=>rfl
 | some x=>rfl
end
@[simp] theorem A65{k j:Nat}(h:j≠k)(r:Fr)(o:Option (Bool×V)):BT (kx k r o) j=BT r j:=by
 cases o with
 | none=>rfl
 | some x =>
  obtain⟨c,v⟩:=x
  simp[h]
end Go.Pg
