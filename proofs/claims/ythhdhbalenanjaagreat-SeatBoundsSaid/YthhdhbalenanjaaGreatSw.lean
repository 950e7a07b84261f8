/- Rows told as lists, by simp. No program in sight. -/
import Derived.Test.YthhdhbalenanjaaGreatSx
set_option linter.unusedSimpArgs false
namespace Go.Pg
variable {P:Program}{l k:Nat}{o:Option (Nat×AZ)}
@[simp] theorem AWF(st:XS):OZ [] st=st:=rfl
@[simp] theorem AR4(k:Nat)(ks:List Nat)(c:Nat)(fr:Fr)(up:List AA)(loc:AA):OZ (k::ks) ⟨c,fr,⟨up,loc⟩⟩=OZ ks ⟨c,NE up.length k (loc.get k) fr,⟨up,E1 up.length k (loc.get k) loc⟩⟩:=rfl
@[simp] theorem AWG:NE l k o []=[]:=rfl
@[simp] theorem AR5(j:Nat)(c:Bool)(v:V)(fr:Fr):NE l k o ((j,c,v)::fr)=(j,c,BD l k o 3 v)::NE l k o fr:=rfl
@[simp] theorem AWH:E1 l k o []=[]:=rfl
@[simp] theorem AR6(j g:Nat)(r:AZ)(L:AA):E1 l k o ((j,g,r)::L)=if j=k then E1 l k o L else(j,g,J7 l k o r)::E1 l k o L:=rfl
@[simp] theorem A40(γ:Nat)(T:TypeId)(es:List (List V))(L:AA):E1 l k o (pl k γ T es++L)=E1 l k o L:=by cases es<;>simp
@[simp] theorem AWI(γ:Nat)(T:TypeId)(es:List (List V)):E1 l k o (pl k γ T es)=[]:=by cases es<;>simp
theorem WJ:∀(f g:Nat) (v:V),AK g v=true→BD l k o f v=v
 |0,_,_,_=>rfl
 |f+1,0,v,h=>by cases h
 |f+1,g+1,v,h=>by
  have lst:∀cs:List V,cs.all (AK g)=true→cs.map (BD l k o f)=cs:=by
   intro cs h;conv=>rhs;rw[←List.map_id cs]
   exact List.map_congr_left fun x hx=>WJ f g x (List.all_eq_true.1 h x hx)
  cases v with
  |vec _ _ _ _=>cases h
  |ptr _ _ _ _=>cases h
  |agg cs=>simp only[BD];rw[lst cs h]
  |tup cs=>simp only[BD];rw[lst cs h]
  |_=>rfl
theorem rQ{cs:List V}(h:cs.all (AK 9)=true)(f:Nat):cs.map (BD l k o f)=cs:=by
 conv=>rhs;rw[←List.map_id cs]
 exact List.map_congr_left fun x hx=>WJ f 9 x (List.all_eq_true.1 h x hx)
theorem yT{es:List (List V)}(h:(es.all fun e=>e.all (AK 9))=true)(f:Nat):es.map (List.map (BD l k o f))=es:=by
 conv=>rhs;rw[←List.map_id es]
 exact List.map_congr_left fun x hx=>rQ (List.all_eq_true.1 h x hx) f
@[simp] theorem yU{j:Nat}(h:j≠k)(γ:Nat)(T:TypeId)(es:List (List V))(L:AA)(hc:(es.all fun e=>e.all (AK 9))=true):E1 l k o (pl j γ T es++L)=pl j γ T es++E1 l k o L:=by
 cases es with
 |nil=>rfl
 |cons e es=>
  have q:=yT (l:=l) (k:=k) (o:=o) hc 3
  simp only[List.map_cons]at q
  simp[h,J7,q]
@[simp] theorem VO{j:Nat}(h:j≠k)(γ:Nat)(T:TypeId)(es:List (List V))(hc:(es.all fun e=>e.all (AK 9))=true):E1 l k o (pl j γ T es)=pl j γ T es:=by have:=yU (l:=l) (o:=o) h γ T es [] hc;simpa using this
@[simp] theorem AWJ(cs:List V):J7 l k o (.box cs)=.box (cs.map (BD l k o 3)):=rfl
@[simp] theorem AWK(T:TypeId)(es:List (List V)):J7 l k o (.vec T es)=.vec T (es.map (List.map (BD l k o 3))):=rfl
@[simp] theorem AWL(es:List (V×V)):J7 l k o (.map es)=.map es:=rfl
@[simp] theorem AR7:J7 l k o .dead=.dead:=rfl
@[simp] theorem AR8(fr:List (Nat×Bool×V))(ps:List Tmp)(asg body:Code)(N:Nat)(st:LS):J7 l k o (.loop fr ps asg body N st)=.loop fr ps asg body N st:=rfl
@[simp] theorem eN(f:Nat)(i:IntKind)(n:Int):BD l k o f (.int i n)=.int i n:=by cases f<;>rfl
@[simp] theorem AR9(f:Nat)(b:Bool):BD l k o f (.bool b)=.bool b:=by cases f<;>rfl
@[simp] theorem AWM(f:Nat)(v:Value):BD l k o f (.raw v)=.raw v:=by cases f<;>rfl
@[simp] theorem ASA(f:Nat)(b:Bool)(es:List (List V)):BD l k o f (.list b es)=.list b es:=by cases f<;>rfl
@[simp] theorem A41(f:Nat)(es:List (List V)):BD l k o f (sl es)=sl es:=by cases f<;>cases es<;>rfl
@[simp] theorem AWN(f:Nat)(cs:List V):BD l k o f (.ref cs)=.ref cs:=by cases f<;>rfl
theorem yV(f a b c d:Nat)(h:¬(a=l∧b=k)):BD l k o f (.ptr a b c d)=.ptr a b c d:=by
 cases f with
 |zero=>rfl
 |succ f=>
  simp only[BD]
  split
  ·rw[if_neg fun hh=>h ⟨hh.1,hh.2.1⟩]
  ·rfl
@[simp] theorem ASB(f a b c d:Nat)(h:¬b=k):BD l k o f (.ptr a b c d)=.ptr a b c d:=yV f a b c d fun hh=>h hh.2
@[simp] theorem ASC(γ:Nat)(T:TypeId)(es:List (List V))(f a b c d:Nat):BD l k (some (γ,.vec T es)) f (.ptr a b c d)=.ptr a b c d:=by cases f<;>rfl
@[simp] theorem ASD(γ:Nat)(cs:List V)(f a b g off:Nat):BD l k (some (γ,.box cs)) (f+1) (.ptr a b g off)=if a=l∧b=k∧g=γ then .ref ((cs.map NL).drop off) else .ptr a b g off:=rfl
@[simp] theorem A42(q:IntKind)(n:Int):NL (.int q n)=.int q n:=rfl
@[simp] theorem AWO(b:Bool):NL (.bool b)=.bool b:=rfl
@[simp] theorem AWP(b:Bool)(es:List (List V)):NL (.list b es)=.list b es:=rfl
@[simp] theorem BAG(es:List (List V)):NL (sl es)=sl es:=by cases es<;>rfl
@[simp] theorem A43:NL .nil=.nil:=rfl
@[simp] theorem BAH(a b c:Nat):NL (.mp a b c)=.any:=rfl
@[simp] theorem A44:NL .any=.any:=rfl
@[simp] theorem M6(f:Nat):AK (f+1) .any=true:=rfl
@[simp] theorem AWQ:weakV .any=.any:=rfl
@[simp] theorem AWR:weakC .any=.any:=rfl
@[simp] theorem AWS(f:Nat):BD l k o f .any=.any:=by cases f<;>rfl
@[simp] theorem A45(f a b c:Nat):BD l k o f (.mp a b c)=.mp a b c:=by cases f<;>rfl
@[simp] theorem AWT(f a b c:Nat):BD l k o f (.yld a b c)=.yld a b c:=by cases f<;>rfl
@[simp] theorem A46(f:Nat)(g:FuncId)(xs ys:List V):BD l k o f (.fn g xs ys)=.fn g xs ys:=by cases f<;>rfl
@[simp] theorem yW(f:Nat):BD l k o f .nil=.nil:=by cases f<;>rfl
@[simp] theorem AWU(f:Nat)(cs:List V):BD l k o (f+1) (.agg cs)=.agg (cs.map (BD l k o f)):=rfl
@[simp] theorem AWV(f:Nat)(cs:List V):BD l k o (f+1) (.tup cs)=.tup (cs.map (BD l k o f)):=rfl
@[simp] theorem AWW(γ:Nat)(T:TypeId)(es:List (List V))(f l' k' g m:Nat):BD l k (some (γ,.vec T es)) (f+1) (.vec l' k' g m)=if l'=l∧k'=k∧g=γ∧m=es.length then .list false es else .vec l' k' g m:=rfl
@[simp] theorem A47(γ:Nat)(T:TypeId)(es:List (List V))(f:Nat):BD 0 k ((pl k γ T es).get k) (f+1) (pv k γ es)=sl es:=by
 cases es with
 |nil=>rfl
 |cons e es=>simp[pv,sl]
@[simp] theorem AWX(γ:Nat)(T:TypeId)(es:List (List V))(f:Nat):BD 0 k (some (γ,.vec T es)) (f+1) (pv k γ es)=sl es:=by
 cases es with
 |nil=>rfl
 |cons e es=>simp[pv,sl]
@[simp] theorem AWY{j:Nat}(h:j≠k)(γ:Nat)(es:List (List V))(f:Nat):BD l k o f (pv j γ es)=pv j γ es:=by
 cases es with
 |nil=>cases f<;>rfl
 |cons e es=>
  cases f with
  |zero=>rfl
  |succ f=>
   simp only[pv,BD]
   split
   ·rw[if_neg (fun hh=>h hh.2.1)]
   ·rfl
noncomputable def oe2(d c:Nat)(fr:Fr)(s:St):Option Mk→Option XS→Option XS
 |some r,_=>some ⟨c+1,(d,true,r.val s.up.length d c)::fr,s.put s.up.length d c r.res⟩
 |none,z=>z
@[simp] theorem BAI(d c:Nat)(fr:Fr)(s:St)(T:TypeId)(es:List (List V))(z:Option XS):oe2 d c fr s (some ⟨.vec T es,none⟩) z=some ⟨c+1,(d,true,.vec s.up.length d c es.length)::fr,s.put s.up.length d c (.vec T es)⟩:=rfl
noncomputable def oe1(d c:Nat)(fr:Fr)(s:St)(F:List V→Option Mk):Option (List V)→Option XS→Option XS
 |some vs,z=>oe2 d c fr s (F vs) z
 |none,z=>z
@[simp] theorem AEV(d c:Nat)(fr:Fr)(s:St)(F:List V→Option Mk)(vs:List V)(z:Option XS):oe1 d c fr s F (some vs) z=oe2 d c fr s (F vs) z:=rfl
variable {A:Ann}{kn:CF0}{n:Nat}{fr:Fr}{s:St}
@[simp] theorem BAJ{f:FuncId}(hS:J6 P f=true)(d c:Nat)(args:List Operand):C3 P (BN P A kn n) (some d) (.call true none (.func f) args) ⟨c,fr,s⟩ =
  oe1 d c fr s (fun vs=>M3 P (AE P A kn n) f (vs.map weakV)) (FQ (CM fr) args) (TZ (BN P A kn n).cf (BN P A kn n).cy (some d) (.func f) args ⟨c,fr,s⟩):=by
 show Z7 (BN P A kn n) true (some d) (.func f) args ⟨c,fr,s⟩=_
 unfold Z7
 show(match HK (BN P A kn n).co (some d) (.func f) args ⟨c,fr,s⟩ with|some st'=>some st'|none=>_)=_
 unfold HK
 have hf:CM fr (.func f)=some (.fn f [] []):=rfl
 simp only[hf]
 cases FQ (CM fr) args with
 |none=>rfl
 |some vs=>
  simp only[AEV,List.nil_append,List.append_nil]
  have:(BN P A kn n).co f (vs.map weakV) d=M3 P (AE P A kn n) f (vs.map weakV):=by show OX P kn (fun _ _ _=>none) (AE P A kn n) f _ d=_;unfold OX;simp only[hS]
  rw[this]
  cases M3 P (AE P A kn n) f (vs.map weakV)with
  |none=>rfl
  |some r=>rfl
noncomputable def of2(d c:Nat)(fr:Fr)(s:St):Option Mk→Option XS
 |some r=>some ⟨c+1,(d,true,r.val s.up.length d c)::fr,s.put s.up.length d c r.res⟩
 |none=>none
@[simp] theorem BAK(d c:Nat)(fr:Fr)(s:St)(T:TypeId)(es:List (List V)):of2 d c fr s (some ⟨.vec T es,none⟩)=some ⟨c+1,(d,true,.vec s.up.length d c es.length)::fr,s.put s.up.length d c (.vec T es)⟩:=rfl
noncomputable def of1(d c:Nat)(fr:Fr)(s:St)(F:List V→Option Mk):Option (List V)→Option XS
 |some vs=>of2 d c fr s (F vs)
 |none=>none
@[simp] theorem AEW(d c:Nat)(fr:Fr)(s:St)(F:List V→Option Mk)(vs:List V):of1 d c fr s F (some vs)=of2 d c fr s (F vs):=rfl
@[simp] theorem A48{f:FuncId}(hS:J6 P f=true)(d c:Nat)(args:List Operand):DF P (BN P A kn n) (some d) (.call true none (.func f) args) ⟨c,fr,s⟩ =
  nw (of1 d c fr s (fun vs=>M3 P (AE P A kn n) f (vs.map weakV)) (FQ (CM fr) args)):=by
 show T1 (HK (BN P A kn n).co (some d) (.func f) args ⟨c,fr,s⟩)=_
 rw[GM]
 congr 1
 unfold HK
 have hf:CM fr (.func f)=some (.fn f [] []):=rfl
 simp only[hf]
 cases FQ (CM fr) args with
 |none=>rfl
 |some vs=>
  simp only[AEW,List.nil_append,List.append_nil]
  have:(BN P A kn n).co f (vs.map weakV) d=M3 P (AE P A kn n) f (vs.map weakV):=by show OX P kn (fun _ _ _=>none) (AE P A kn n) f _ d=_;unfold OX;simp only[hS]
  rw[this]
  cases M3 P (AE P A kn n) f (vs.map weakV)with
  |none=>rfl
  |some r=>rfl
noncomputable def A49(P:Program)(fn:Func)(r:Option (Exit×XS)):Option Mk:=match r with
 |some (.ret,st)=>qN P fn st
 |some (.normal,st)=>qN P fn st
 |_=>none
@[simp] theorem A5A(fn:Func)(st:XS):A49 P fn (some (.ret,st))=qN P fn st:=rfl
@[simp] theorem ANL(fn:Func)(st:XS):A49 P fn (some (.normal,st))=qN P fn st:=rfl
noncomputable def rO(P:Program)(fn:Func)(st:XS)(v:Option V):Option Mk:=match v with
 | some (.vec l k γ n)=>Bool.rec none (match st.s.loc.get k with
  |some (γ',.vec T es)=>Bool.rec none (some ⟨.vec T es,none⟩) (Nat.beq γ' γ&&Nat.beq n es.length&&es.all fun e=>e.all (AK 9))
  | _=>none) (Nat.beq l st.s.up.length)
 | some v=>Bool.rec none (match fn.resultTypes.toList with
  |[R]=>match BQ P R with
   |some (none,T)=>some ⟨.vec T [],none⟩
   |_=>none
  | _=>none) (WP v)
 |none=>none
end Go.Pg
namespace Go.Pg
section
@[simp] theorem D4{α:Type}(x:α):∀(l:List α),CX (l++[x])=some (l,x)
 |[]=>rfl
 |[y]=>rfl
 |y::z::l=>by have:=D4 x (z::l);simp only[List.cons_append]at this⊢;rw[WL,this];rfl
end
section
variable {P:Program}{E:XE}{d:Option Tmp}{c:Nat}{fr:Fr}{s:St}{r:Operand→Option V}
@[simp] theorem ASE(T:TypeId)(x i:Operand)(ok:Bool):IQ P (eP (.lookup T x i ok)) s r=o2 (fun a b=>EJ P s T a b ok) (r x) (r i):=by show((r x).bind fun a=>(r i).bind fun b=>EJ P s T a b ok)=_;cases r x<;>cases r i<;>rfl
noncomputable def up1(c:Nat)(fr:Fr)(s:St):Option (Nat×Nat×Nat×List (V×V))→Option XS
 |some (l,q,γ,es)=>Bool.rec none (some ⟨c,fr,s.put l q γ (.map es)⟩) (Nat.blt γ c)
 |none=>none
noncomputable def up3(P:Program)(T:TypeId)(c:Nat)(fr:Fr)(s:St):Option V→Option V→Option V→Option XS
 |some m,some i,some v=>up1 c fr s (QN P s T m i v)
 |_,_,_=>none
@[simp] theorem A5B(T:TypeId)(m i v:V):up3 P T c fr s (some m) (some i) (some v)=up1 c fr s (QN P s T m i v):=rfl
@[simp] theorem A5C(x:Operand):IQ P (eP (.nilCheck x)) s r=o1 M9 (r x):=by show(r x).bind M9=_;cases r x<;>rfl
@[simp] theorem AWZ(l k g o:Nat):M9 (.ptr l k g o)=some (.ptr l k g o):=rfl
@[simp] theorem A5D(x:Operand)(f:Operand→Option V):HQ P (.oth (.nilCheck x)) f=[]:=rfl
@[simp] theorem A5E(T:TypeId)(x i:Operand)(ok:Bool)(f:Operand→Option V):HQ P (.oth (.lookup T x i ok)) f=BK (f x):=rfl
@[simp] theorem ASF(l k g:Nat):BT s (.mp l k g)=some (.mp l k g):=rfl
theorem RJ{α:Type}{f:α→Option α}:∀{l:List α},(∀x∈l,f x=some x)→GV f l=some l
 |[],_=>rfl
 |x::l,h=>by have ih:=RJ (f:=f) (l:=l) fun y hy=>h y (by simp[hy]);simp only[GV,h x (by simp),ih]
theorem UB:∀(l:List AA) (b:AA),CX (l++[b])=some (l,b)
 |[],b=>by simp
 |[a],b=>by simp
 |a::a2::l,b=>by have:=UB (a2::l) b;simp only[List.cons_append]at this⊢;simp[this]
@[simp] theorem AW0(a:AA)(l:List AA)(b:AA):CX (a::(l++[b]))=some (a::l,b):=UB (a::l) b
@[simp] theorem ASG(l k g:Nat):BK (some (.mp l k g))=[(l,k)]:=rfl
@[simp] theorem AW1(d:Nat):C3 P E (some d) (.mkM none) ⟨c,fr,s⟩=some ⟨c+1,(d,true,.mp s.up.length d c)::fr,s.put s.up.length d c (.map [])⟩:=rfl
end
section
variable {P:Program}{s:St}{r:Operand→Option V}
@[simp] theorem ASH(T:TypeId)(x h:Operand):IQ P (eP (.slice T x none (some h) none)) s r=o2 (fun a b=>B4 P s T a none (some b) none) (r x) (r h):=by show((r x).bind fun a=>((some none:Option (Option V))).bind fun l=>((r h).map some).bind fun h=>((some none:Option (Option V))).bind fun m=>B4 P s T a l h m)=_;cases r x<;>cases r h<;>rfl
theorem bA{T e:TypeId}{es:List (List V)}{h:Int}{b:Bool}(hT:BQ P T=some (none,e))(hc:0<P.cellsOf e)(h1:0≤h)(h2:h≤es.length):B4 P s T (.list b es) none (some (.int .i64 h)) none=some (.list false (es.take h.toNat)):=by simp only[B4,hT];rw[if_pos ⟨h1,h2,hc⟩]
end
section
variable {P:Program}{E:XE}{c:Nat}{fr:Fr}{s:St}{r:Operand→Option V}
@[simp] theorem ASI(T:TypeId)(x l:Operand):IQ P (eP (.slice T x (some l) none none)) s r=o2 (fun a b=>B4 P s T a (some b) none none) (r x) (r l):=by show((r x).bind fun a=>((r l).map some).bind fun l=>(some none).bind fun h=>(some none).bind fun m=>B4 P s T a l h m)=_;cases r x<;>cases r l<;>rfl
end
section
variable {P:Program}{fr:Fr}{s:St}
@[simp] theorem BAL(e d c l q γ n:Nat)(ys:List (List V)):zM P e d c fr s (.vec l q γ n) ys=wp [(l,q),(l,q+HV)] (apW P e d c fr s l q γ n ys (Q2 n ys (s.get l q))):=rfl
@[simp] theorem ASJ(l k g i o:Nat):M9 (.eptr l k g i o)=some (.eptr l k g i o):=rfl
end
section
@[simp] theorem AI5{P:Program}{A:Ann}{kn:CF0}{n:Nat}:(BN P A kn n).cy=gS (AE P A kn n):=rfl
end
section
variable {P:Program}{A:Ann}{kn:CF0}{n:Nat}{fr:Fr}{s:St}
noncomputable def oc2(d c:Nat)(fr:Fr)(s:St):Option V→Option XS→Option XS
 |some r,_=>some ⟨c+1,(d,true,r.ren (fun _=>c) s.up.length)::fr,s.put s.up.length d c .dead⟩
 |none,z=>z
@[simp] theorem A5F(d c:Nat)(r:V)(z:Option XS):oc2 d c fr s (some r) z=some ⟨c+1,(d,true,r.ren (fun _=>c) s.up.length)::fr,s.put s.up.length d c .dead⟩:=rfl
noncomputable def oc1(d c:Nat)(fr:Fr)(s:St)(F:List V→Option V):Option (List V)→Option XS→Option XS
 |some vs,z=>oc2 d c fr s (F vs) z
 |none,z=>z
@[simp] theorem AEX(d c:Nat)(F:List V→Option V)(vs:List V)(z:Option XS):oc1 d c fr s F (some vs) z=oc2 d c fr s (F vs) z:=rfl
@[simp] theorem A5G{f:FuncId}(hS:J6 P f=false)(d c:Nat)(args:List Operand):C3 P (BN P A kn n) (some d) (.call true none (.func f) args) ⟨c,fr,s⟩ =
  oc1 d c fr s (fun vs=>FR P kn (AE P A kn n) f (vs.map weakV)) (FQ (CM fr) args) (TZ (BN P A kn n).cf (BN P A kn n).cy (some d) (.func f) args ⟨c,fr,s⟩):=by
 show Z7 (BN P A kn n) true (some d) (.func f) args ⟨c,fr,s⟩=_
 unfold Z7
 show(match HK (BN P A kn n).co (some d) (.func f) args ⟨c,fr,s⟩ with|some st'=>some st'|none=>_)=_
 unfold HK
 have hf:CM fr (.func f)=some (.fn f [] []):=rfl
 simp only[hf]
 cases FQ (CM fr) args with
 |none=>rfl
 |some vs=>
  simp only[AEX,List.nil_append,List.append_nil]
  have:(BN P A kn n).co f (vs.map weakV) d=(match FR P kn (AE P A kn n) f (vs.map weakV)with|some r=>some ⟨.dead,some r⟩|none=>none):=by show OX P kn (fun _ _ _=>none) (AE P A kn n) f _ d=_;unfold OX;simp only[hS];cases FR P kn (AE P A kn n) f (vs.map weakV)<;>rfl
  rw[this]
  cases FR P kn (AE P A kn n) f (vs.map weakV)with
  |none=>rfl
  |some r=>rfl
noncomputable def od2(d c:Nat)(fr:Fr)(s:St):Option V→Option XS
 |some r=>some ⟨c+1,(d,true,r.ren (fun _=>c) s.up.length)::fr,s.put s.up.length d c .dead⟩
 |none=>none
@[simp] theorem A5H(d c:Nat)(r:V):od2 d c fr s (some r)=some ⟨c+1,(d,true,r.ren (fun _=>c) s.up.length)::fr,s.put s.up.length d c .dead⟩:=rfl
noncomputable def od1(d c:Nat)(fr:Fr)(s:St)(F:List V→Option V):Option (List V)→Option XS
 |some vs=>od2 d c fr s (F vs)
 |none=>none
@[simp] theorem AEY(d c:Nat)(F:List V→Option V)(vs:List V):od1 d c fr s F (some vs)=od2 d c fr s (F vs):=rfl
@[simp] theorem AW2{f:FuncId}(hS:J6 P f=false)(d c:Nat)(args:List Operand):DF P (BN P A kn n) (some d) (.call true none (.func f) args) ⟨c,fr,s⟩ =
  nw (od1 d c fr s (fun vs=>FR P kn (AE P A kn n) f (vs.map weakV)) (FQ (CM fr) args)):=by
 show T1 (HK (BN P A kn n).co (some d) (.func f) args ⟨c,fr,s⟩)=_
 rw[GM]
 congr 1
 unfold HK
 have hf:CM fr (.func f)=some (.fn f [] []):=rfl
 simp only[hf]
 cases FQ (CM fr) args with
 |none=>rfl
 |some vs=>
  simp only[AEY,List.nil_append,List.append_nil]
  have:(BN P A kn n).co f (vs.map weakV) d=(match FR P kn (AE P A kn n) f (vs.map weakV)with|some r=>some ⟨.dead,some r⟩|none=>none):=by show OX P kn (fun _ _ _=>none) (AE P A kn n) f _ d=_;unfold OX;simp only[hS];cases FR P kn (AE P A kn n) f (vs.map weakV)<;>rfl
  rw[this]
  cases FR P kn (AE P A kn n) f (vs.map weakV)with
  |none=>rfl
  |some r=>rfl
end
section
variable {fr:Fr}{s:St}
@[simp] theorem ANM(l k g:Nat):BT s (.yld l k g)=some (.yld l k g):=rfl
@[simp] theorem ANN(f:Nat)(cs:List V):A2 s (f+1) (.ref cs)=some (.ref cs):=rfl
@[simp] theorem A5I{P:Program}:F7 P [] fr s=some (.tup []):=rfl
@[simp] theorem ANO(f:Nat):A2 s (f+1) (.tup [])=some (.tup []):=rfl
@[simp] theorem AEZ:CP .nilFunc=some (.raw .nilFunc):=rfl
@[simp] theorem ASK(f l k g:Nat):AK (f+1) (.yld l k g)=false:=rfl
@[simp] theorem A5J(l k g:Nat):weakV (.yld l k g)=.yld l k g:=rfl
@[simp] theorem BAM(d c l k g:Nat):zJ d c fr s (some (.yld l k g))=some ⟨c+1,(d,true,.ptr s.up.length d c 0)::fr,s.put s.up.length d c (.box [.yld l k g])⟩:=rfl
@[simp] theorem BAN(F:List V→Option (List V))(g off:Nat)(g':Nat)(cs:List V):cp1 F g off (some (g',.box cs))=if g'=g then(F cs).map (fun ds=>V.ref (ds.drop off)) else none:=rfl
noncomputable def mk4(P:Program)(d c:Nat)(fr:Fr)(s:St)(e:TypeId)(n m:Int):Option (List V)→Option XS
 |some z=>if 0≤n∧m=n∧z.length=P.cellsOf e∧n.toNat*P.bytesOf e≤140737488355328∧n.toNat≤maxLen then some ⟨c+1,(d,true,.vec s.up.length d c n.toNat)::fr,s.put s.up.length d c (.vec e (List.replicate n.toNat z))⟩ else none
 |none=>none
@[simp] theorem A5K{P:Program}(d c:Nat)(e:TypeId)(n m:Int)(z:List V):mk4 P d c fr s e n m (some z)=if 0≤n∧m=n∧z.length=P.cellsOf e∧n.toNat*P.bytesOf e≤140737488355328∧n.toNat≤maxLen then some ⟨c+1,(d,true,.vec s.up.length d c n.toNat)::fr,s.put s.up.length d c (.vec e (List.replicate n.toNat z))⟩ else none:=rfl
noncomputable def mk3(P:Program)(d c:Nat)(fr:Fr)(s:St):Option (Option Nat×TypeId)→Option V→Option V→Option XS
 |some (none,e),some (.int _ n),some (.int _ m)=>mk4 P d c fr s e n m (BW P e)
 |_,_,_=>none
@[simp] theorem AE0{P:Program}(d c:Nat)(e:TypeId)(k1 k2:IntKind)(n m:Int):mk3 P d c fr s (some (none,e)) (some (.int k1 n)) (some (.int k2 m))=mk4 P d c fr s e n m (BW P e):=rfl
@[simp] theorem AW3{P:Program}{E:XE}(T:TypeId)(d c:Nat)(x y:Operand):C3 P E (some d) (.mkS T x y) ⟨c,fr,s⟩=mk3 P d c fr s (BQ P T) (CM fr x) (CM fr y):=by
 show WG P (some d) T x y ⟨c,fr,s⟩=_;unfold WG;simp only;cases BQ P T with
 |none=>cases CM fr x<;>cases CM fr y<;>rfl
 |some p=>
  obtain⟨k,e⟩:=p
  cases k with
  |some k=>cases CM fr x<;>cases CM fr y<;>rfl
  |none=>
   cases CM fr x with
   |none=>rfl
   |some a=>
    cases CM fr y with
    |none=>cases a<;>rfl
    |some z=>
     cases a with
     |int k1 n=>
      cases z with
      |int k2 m=>simp only[AE0];cases BW P e<;>rfl
      |_=>rfl
     |_=>rfl
@[simp] theorem BAO{P:Program}(T:TypeId)(x y:Operand)(r:Operand→Option V):HQ P (.mkS T x y) r=[]:=rfl
noncomputable def rE(fr:Fr)(n γ:Nat)(r:Option XS):Option (Exit×XS):=match r with
 |some st=>match st.s.get n B9 with
  | some (γ',.loop _ _ _ _ _ ls)=>Bool.rec none (match ls with
   |.ready=>some (.normal,⟨st.c,fr,st.s.put n B9 γ .dead⟩)
   |.left .ret=>some (.ret,⟨st.c,fr,st.s.put n B9 γ .dead⟩)
   |.left (.exit id)=>some (.exit id,⟨st.c,fr,st.s.put n B9 γ .dead⟩)
   | _=>none) (Nat.beq γ' γ&&Nat.blt γ st.c)
  |_=>none
 |none=>none
theorem eO{P:Program}{A:Ann}{kn:CF0}{n N:Nat}{g:Operand}{ps:List Tmp}{asg body:Code}{c:Nat}{up:List AA}{loc:AA}{f:FuncId}{first cap:List V}(h:CM fr g=some (.fn f first cap)) :
  VH (BN P A kn n).cf N g ps asg body ⟨c,fr,⟨up,loc⟩⟩=rE fr up.length c (G4 (BN P A kn n) none ⟨c+1,fr,⟨up,(B9,c,.loop fr ps asg body N .ready)::loc⟩⟩ f ((first++[V.yld up.length B9 c]++cap).map weakV)):=by
 unfold VH
 simp only[h]
 unfold G4 gQ rE
 simp only[St.put,if_true,AA.put]
 cases (BN P A kn n).cf f ((first++[V.yld up.length B9 c]++cap).map weakV) ⟨c+1,fr,⟨up,(B9,c,.loop fr ps asg body N .ready)::loc⟩⟩ with
 |none=>rfl
 |some r=>rfl
theorem nE{n γ c:Nat}{fr' fr0:Fr}{s:St}{ps:List Tmp}{asg body:Code}{N:Nat}(h:s.get n B9=some (γ,.loop fr0 ps asg body N .ready))(hc:γ<c):rE fr n γ (some ⟨c,fr',s⟩)=some (.normal,⟨c,fr,s.put n B9 γ .dead⟩):=by
 unfold rE;simp only[h];have:(Nat.beq γ γ&&Nat.blt γ c)=true:=by simpa using hc
 rw[this]
@[simp] theorem AW4(t:St)(fr0:Fr)(ps:List Tmp)(asg body:Code)(N:Nat)(l:LS):CJ t (.loop fr0 ps asg body N l)=.loop fr0 ps asg body N l:=rfl
theorem AKK{rec:GL}{l q γ c N:Nat}{fr0:Fr}{ps:List Tmp}{asg body:Code}{vs:List V}(h:s.get l q=some (γ,.loop fr0 ps asg body N .ready))(hv:vs.length=ps.length)(hc:γ<c) :
  gS rec l q γ vs ⟨c,fr,s⟩=aB fr l q γ (aC (rec N) l q γ body (rec N asg ⟨c,LP fr0 ps vs,⟨s.up++[s.loc],[]⟩⟩)):=by
 unfold gS
 simp only[h]
 have:(Nat.beq γ γ&&Nat.beq vs.length ps.length&&Nat.blt γ c)=true:=by simp[hv,hc]
 rw[this]
theorem cL{rec:bO}{l q γ c N:Nat}{fr0:Fr}{ps:List Tmp}{asg body body':Code}(h:s.get l q=some (γ,.loop fr0 ps asg body' N .ready))(hc:γ<c) :
  aC rec l q γ body (some (.normal,⟨c,fr,s⟩))=rec body ⟨c,fr,s.put l q γ (.loop fr0 ps asg body' N .busy)⟩:=by
 unfold aC
 simp only[h]
 have:(Nat.beq γ γ&&Nat.blt γ c)=true:=by simp[hc]
 rw[this]
theorem cM{fr':Fr}{l q γ c N:Nat}{fr0:Fr}{ps:List Tmp}{asg body:Code}{up u:List AA}{loc lc:AA}(h:St.get ⟨up,loc⟩ l q=some (γ,.loop fr0 ps asg body N .busy))(hu:CX up=some (u,lc))(hl:l<up.length)(hc:γ<c) :
  aB fr l q γ (some (.normal,⟨c,fr',⟨up,loc⟩⟩))=some (.bool true,⟨c,fr,St.put ⟨u.map (AL ⟨up,loc⟩),AL ⟨up,loc⟩ lc⟩ l q γ (.loop fr0 ps asg body N .ready)⟩):=by
 unfold aB
 simp only[h,hu]
 have:(Nat.beq γ γ&&Nat.blt l up.length&&Nat.blt γ c)=true:=by simp[hc,hl]
 rw[this]
 rfl
end
section
noncomputable def tkU(z:Option XS)(d:Option Tmp)(st:XS):Option V→Option XS
 |some r=>Bool.rec z (DE d st (some r)) (aM r)
 |none=>z
@[simp] theorem BAP(z:Option XS)(d:Option Tmp)(st:XS)(k:IntKind)(n:Int):tkU z d st (some (.int k n))=DE d st (some (.int k n)):=rfl
@[simp] theorem A5L(z:Option XS)(d:Option Tmp)(st:XS)(b:Bool):tkU z d st (some (.bool b))=DE d st (some (.bool b)):=rfl
@[simp] theorem AW5(l k g n:Nat):weakC (.vec l k g n)=.vec l k g n:=rfl
@[simp] theorem yX(st:XS)(v:V):H1 st [] v=v:=rfl
@[simp] theorem rR(k:Nat)(ks:List Nat)(c:Nat)(fr:Fr)(up:List AA)(loc:AA)(v:V)(h:k<10000):H1 ⟨c,fr,⟨up,loc⟩⟩ (k::ks) v=H1 ⟨c,fr,⟨up,loc⟩⟩ ks (BD up.length k (loc.get k) 3 v):=by
 have:Nat.blt k 10000=true:=by simpa [Nat.blt_eq]using h
 simp only[H1,this,cond_true]
@[simp] theorem F3(k:Nat)(ks:List Nat)(st:XS)(v:V)(h:¬k<10000):H1 st (k::ks) v=H1 st ks (BD (k / 10000-1) (k % 10000) (st.s.get (k / 10000-1) (k % 10000)) 3 v):=by
 have:Nat.blt k 10000=false:=by
  cases hb:Nat.blt k 10000 with
  |false=>rfl
  |true=>exact absurd (by simpa [Nat.blt_eq]using hb) h
 simp only[H1,this,cond_false]
@[simp] theorem BAQ{P:Program}{A:Ann}{kn:CF0}{n k:Nat}{us:List Nat}(d:Option Tmp)(st:XS)(f:FuncId)(args:List V):G4 (cfU (k::us) (BN P A kn n)) d st f args=tkU (G4 (BN P A kn n) d st f args) d st (FR P kn (AE P A kn n) f (args.map (H1 st (k::us)))):=by
 show(match mJ (BN P A kn n).cf (BN P A kn n).c0 (k :: us) f args st with
  |some (r,st')=>some (⟨st'.c,putD st'.fr d true r,st'.s⟩:XS)
  | none=>none)=_
 unfold mJ;have e:(BN P A kn n).c0=FR P kn (AE P A kn n):=rfl;rw[e];cases FR P kn (AE P A kn n) f (args.map (H1 st (k::us)))with
 |none=>rfl
 |some r=>
  show(match(Bool.rec ((BN P A kn n).cf f args st) (some (r,st)) (aM r):Option (V×XS))with
   |some (r,st')=>some (⟨st'.c,putD st'.fr d true r,st'.s⟩:XS)
   | none=>none)=(Bool.rec (G4 (BN P A kn n) d st f args) (DE d st (some r)) (aM r):Option XS)
  cases aM r<;>rfl
@[simp] theorem ASL(k:IntKind)(n:Int):gU (.int k n)=true:=rfl
@[simp] theorem ANP(b:Bool):gU (.bool b)=true:=rfl
end
theorem O6{j k:Nat}(h:j≠k)(γ γ2:Nat)(T T2:TypeId)(es fs:List (List V)):kl j (kl k [] ((pl j γ T es++pl k γ2 T2 fs).get k)) ((pl j γ T es++pl k γ2 T2 fs).get j)=pl j γ T es++pl k γ2 T2 fs:=by cases es<;>cases fs<;>simp[h,h.symm]
theorem JG{j k:Nat}(h:j≠k)(γ γ2:Nat)(T T2:TypeId)(es fs:List (List V)):(pl j γ T es++pl k γ2 T2 fs).get k=(pl k γ2 T2 fs).get k:=by cases es<;>cases fs<;>simp[h.symm]
theorem O7{j k:Nat}(h:j≠k)(γ γ2:Nat)(T T2:TypeId)(es fs:List (List V))(M:AA):kl j M ((pl j γ T es++pl k γ2 T2 fs).get j)=pl j γ T es++M:=by cases es<;>cases fs<;>simp[h,h.symm]
theorem vG{j k:Nat}(h:j≠k)(γ:Nat)(T:TypeId)(es:List (List V))(x:Nat×AZ):(pl j γ T es++[(k,x)]).get k=some x:=by cases es<;>simp[h.symm]
theorem AE1{j k:Nat}(h:j≠k)(γ:Nat)(T:TypeId)(es:List (List V))(x:Nat×AZ)(M:AA):kl j M ((pl j γ T es++[(k,x)]).get j)=pl j γ T es++M:=by cases es<;>simp[h,h.symm]
theorem JH{j k:Nat}(h:j≠k)(γ γ2:Nat)(T T2:TypeId)(es fs:List (List V)):(pl j γ T es++pl k γ2 T2 fs).get j=(pl j γ T es).get j:=by cases es<;>cases fs<;>simp[h]
theorem K1{j k m:Nat}(h1:j≠m)(h2:k≠m)(γ γ2:Nat)(T T2:TypeId)(es fs:List (List V)):(pl j γ T es++pl k γ2 T2 fs).get m=none:=by cases es<;>cases fs<;>simp[h1.symm,h2.symm]
theorem O8{j:Nat}(γ:Nat)(T:TypeId)(es:List (List V))(M:AA):kl j M ((pl j γ T es).get j)=pl j γ T es++M:=by cases es<;>simp
theorem O9{t:St}{T:TypeId}{es:List (List V)}(h:∀e∈es,∀v∈e,BT t v=some v):CJ t (.vec T es)=.vec T es:=by
 have:CG t (.vec T es)=some (.vec T es):=by unfold CG;simp only;rw[RJ fun e he=>RJ fun v hv=>h e he v hv]
 unfold CJ;rw[this]
@[simp] theorem ASM{P:Program}{A:Ann}{kn:CF0}{n N l:Nat}{st:XS}:AE P A kn (n+1) N (.label l) st=some (.normal,st):=rfl
theorem IG{α:Type}(p:α→Bool):∀(l:List α),(!l.any fun x=>!p x)=l.all p
 |[]=>rfl
 |x::l=>by have:=IG p l;simp only[List.any_cons,List.all_cons,Bool.not_or,Bool.not_not,←this]
section
variable {P:Program}{fr:Fr}{s:St}
def pt(k γ:Nat):List (List V)→V
 |[]=>.list true []
 |e::es=>.vec 0 k γ (e::es).length
@[simp] theorem BGF(k γ:Nat):pt k γ []=.list true []:=rfl
@[simp] theorem BAR(k γ:Nat)(e:List V)(es:List (List V)):pt k γ (e::es)=.vec 0 k γ (es.length+1):=rfl
@[simp] theorem BGG(e k c γ:Nat)(loc:AA)(es:List (List V))(y:List V)(ys:List (List V))(hl:AA.get loc k=(pl k γ e es).get k)(h1:es.all (fun y=>y.length==P.cellsOf e)=true)(h2:CA P e es.length (y::ys)=true) :
  apV P e k c fr ⟨[],loc⟩ (pt k γ es) (y::ys)=some ⟨c+1,(k,true,pt k c (es++y::ys))::fr,⟨[],(k,c,.vec e (es++y::ys))::loc⟩⟩:=by
 cases es with
 |nil=>
  simp only[List.length_nil]at h2
  simp[h2,pt]
 |cons z es=>
  have h:=AUE (P:=P) (fr:=fr) e k c γ loc (z::es) y ys hl h1 h2
  exact h
theorem yY{T:TypeId}(f:Nat)(loc:AA)(k γ:Nat)(es:List (List V))(hl:AA.get loc k=(pl k γ T es).get k):A2 ⟨[],loc⟩ (f+1) (pt k γ es)=some (.list false es):=by
 cases es with
 |nil=>rfl
 |cons e es=>exact P2 (T:=T) f loc k γ (e::es) hl
@[simp] theorem ASN(f k γ:Nat)(T:TypeId)(es:List (List V)):A2 ⟨[],pl k γ T es⟩ (f+1) (pt k γ es)=some (.list false es):=yY (T:=T) f _ k γ es rfl
@[simp] theorem AW6(k γ:Nat)(es:List (List V)):A9 (pt k γ es)=[pt k γ es]:=by cases es<;>rfl
@[simp] theorem AW7(k γ:Nat)(es:List (List V)):BA (pt k γ es)=true:=by cases es<;>rfl
end
@[simp] theorem BAS(st:XS):L8 [] st=st:=rfl
@[simp] theorem A5M(k:Nat)(ks:List Nat)(c:Nat)(fr:Fr)(up:List AA)(loc:AA)(h:k<1000):L8 (k::ks) ⟨c,fr,⟨up,loc⟩⟩=L8 ks ⟨c,NE up.length k (loc.get k) fr,⟨up,E1 up.length k (loc.get k) loc⟩⟩:=by
 have h1:Nat.blt k 1000=true:=by simpa [Nat.blt_eq]using h
 show L8 ks (uR k ⟨c,fr,⟨up,loc⟩⟩)=_;unfold uR;rw[h1];rfl
@[simp] theorem A5N(k:Nat)(ks:List Nat)(c:Nat)(fr:Fr)(up:List AA)(loc:AA)(h:2000000000000000≤k):L8 (k::ks) ⟨c,fr,⟨up,loc⟩⟩=L8 ks ⟨c,fr,⟨up,cJ (k % 1000) loc⟩⟩:=by
 have h1:Nat.blt k 1000=false:=by rw[←Bool.not_eq_true,Nat.blt_eq];omega
 have h2:Nat.blt k 1000000000000000=false:=by rw[←Bool.not_eq_true,Nat.blt_eq];omega
 have h3:Nat.blt k 2000000000000000=false:=by rw[←Bool.not_eq_true,Nat.blt_eq];omega
 show L8 ks (uR k ⟨c,fr,⟨up,loc⟩⟩)=_;unfold uR;rw[h1,h2,h3];rfl
@[simp] theorem BAT(k:Nat):cJ k []=[]:=rfl
@[simp] theorem A5O(k j g:Nat)(r:AZ)(L:AA):cJ k ((j,g,r)::L)=(j,g,if j=k then wkR r else r)::cJ k L:=rfl
@[simp] theorem BAU(T:TypeId)(es:List (List V)):wkR (.vec T es)=.vec T (es.map (List.map eF)):=rfl
@[simp] theorem BAV(cs:List V):wkR (.box cs)=.box (cs.map eF):=rfl
@[simp] theorem BGH(k γ:Nat)(T:TypeId)(es:List (List V)):cJ k (pl k γ T es)=pl k γ T (es.map (List.map eF)):=by
 cases es with
 |nil=>rfl
 |cons e es=>simp[pl,cJ]
@[simp] theorem AKL{k j:Nat}(h:j≠k)(γ:Nat)(T:TypeId)(es:List (List V)):cJ k (pl j γ T es)=pl j γ T es:=by
 cases es with
 |nil=>rfl
 |cons e es=>simp[pl,cJ,h]
@[simp] theorem BGI(es:List (List V)):eF (sl es)=.list false es:=by cases es<;>rfl
@[simp] theorem BAW:eF .nil=.list false []:=rfl
@[simp] theorem A5P(b:Bool)(es:List (List V)):eF (.list b es)=.list b es:=rfl
section
variable {l k:Nat}{o:Option (Nat×AZ)}
def gtf(l k:Nat)(o:Option (Nat×AZ)):Option (Bool×V)→Option (Bool×V)
 |some (c,v)=>some (c,BD l k o 3 v)
 |none=>none
@[simp] theorem A5Q(c:Bool)(v:V):gtf l k o (some (c,v))=some (c,BD l k o 3 v):=rfl
@[simp] theorem A5R:gtf l k o none=none:=rfl
@[simp] theorem AW8(fr:Fr)(j:Nat):BZ (NE l k o fr) j=gtf l k o (BZ fr j):=by
 rw[FG,FG,VJ];cases fr.get j with
 |none=>rfl
 |some x=>rfl
end
@[simp] theorem BAX{k j:Nat}(h:j≠k)(r:Fr)(o:Option (Bool×V)):BZ (kx k r o) j=BZ r j:=by
 cases o with
 |none=>rfl
 |some x=>
  obtain⟨c,v⟩:=x
  simp[h]
end Go.Pg
