/- Rows told as lists, by simp. No program in sight. -/
import Derived.Test.YthhdhbalenanjaaGreatSx
set_option linter.unusedSimpArgs false
namespace Go.Pg
variable {P:Program}{l k:Nat}{o:Option (Nat×AX)}
@[simp] theorem AVV(st:XS):OU [] st=st:=rfl
@[simp] theorem ARL(k:Nat)(ks:List Nat)(c:Nat)(fr:Fr)(up:List AA)(loc:AA):OU (k::ks) ⟨c,fr,⟨up,loc⟩⟩=OU ks ⟨c,NB up.length k (loc.get k) fr,⟨up,EW up.length k (loc.get k) loc⟩⟩:=rfl
@[simp] theorem AVW:NB l k o []=[]:=rfl
@[simp] theorem ARM(j:Nat)(c:Bool)(v:V)(fr:Fr):NB l k o ((j,c,v)::fr)=(j,c,BD l k o 3 v)::NB l k o fr:=rfl
@[simp] theorem AVX:EW l k o []=[]:=rfl
@[simp] theorem ARN(j g:Nat)(r:AX)(L:AA):EW l k o ((j,g,r)::L)=if j=k then EW l k o L else(j,g,J6 l k o r)::EW l k o L:=rfl
@[simp] theorem A4F(γ:Nat)(T:TypeId)(es:List (List V))(L:AA):EW l k o (pl k γ T es++L)=EW l k o L:=by cases es<;>simp
@[simp] theorem AVY(γ:Nat)(T:TypeId)(es:List (List V)):EW l k o (pl k γ T es)=[]:=by cases es<;>simp
theorem WE:∀(f g:Nat) (v:V),AK g v=true→BD l k o f v=v
 |0,_,_,_=>rfl
 |f+1,0,v,h=>by cases h
 |f+1,g+1,v,h=>by
  have lst:∀cs:List V,cs.all (AK g)=true→cs.map (BD l k o f)=cs:=by
   intro cs h;conv=>rhs;rw[←List.map_id cs]
   exact List.map_congr_left fun x hx=>WE f g x (List.all_eq_true.1 h x hx)
  cases v with
  |vec _ _ _ _=>cases h
  |ptr _ _ _ _=>cases h
  |agg cs=>simp only[BD];rw[lst cs h]
  |tup cs=>simp only[BD];rw[lst cs h]
  |_=>rfl
theorem rD{cs:List V}(h:cs.all (AK 9)=true)(f:Nat):cs.map (BD l k o f)=cs:=by
 conv=>rhs;rw[←List.map_id cs]
 exact List.map_congr_left fun x hx=>WE f 9 x (List.all_eq_true.1 h x hx)
theorem yD{es:List (List V)}(h:(es.all fun e=>e.all (AK 9))=true)(f:Nat):es.map (List.map (BD l k o f))=es:=by
 conv=>rhs;rw[←List.map_id es]
 exact List.map_congr_left fun x hx=>rD (List.all_eq_true.1 h x hx) f
@[simp] theorem yE{j:Nat}(h:j≠k)(γ:Nat)(T:TypeId)(es:List (List V))(L:AA)(hc:(es.all fun e=>e.all (AK 9))=true):EW l k o (pl j γ T es++L)=pl j γ T es++EW l k o L:=by
 cases es with
 |nil=>rfl
 |cons e es=>
  have q:=yD (l:=l) (k:=k) (o:=o) hc 3
  simp only[List.map_cons]at q
  simp[h,J6,q]
@[simp] theorem VJ{j:Nat}(h:j≠k)(γ:Nat)(T:TypeId)(es:List (List V))(hc:(es.all fun e=>e.all (AK 9))=true):EW l k o (pl j γ T es)=pl j γ T es:=by have:=yE (l:=l) (o:=o) h γ T es [] hc;simpa using this
@[simp] theorem AVZ(cs:List V):J6 l k o (.box cs)=.box (cs.map (BD l k o 3)):=rfl
@[simp] theorem AV0(T:TypeId)(es:List (List V)):J6 l k o (.vec T es)=.vec T (es.map (List.map (BD l k o 3))):=rfl
@[simp] theorem AV1(es:List (V×V)):J6 l k o (.map es)=.map es:=rfl
@[simp] theorem ARO:J6 l k o .dead=.dead:=rfl
@[simp] theorem ARP(fr:List (Nat×Bool×V))(ps:List Tmp)(asg body:Code)(N:Nat)(st:LS):J6 l k o (.loop fr ps asg body N st)=.loop fr ps asg body N st:=rfl
@[simp] theorem eF(f:Nat)(i:IntKind)(n:Int):BD l k o f (.int i n)=.int i n:=by cases f<;>rfl
@[simp] theorem ARQ(f:Nat)(b:Bool):BD l k o f (.bool b)=.bool b:=by cases f<;>rfl
@[simp] theorem AV2(f:Nat)(v:Value):BD l k o f (.raw v)=.raw v:=by cases f<;>rfl
@[simp] theorem ARR(f:Nat)(b:Bool)(es:List (List V)):BD l k o f (.list b es)=.list b es:=by cases f<;>rfl
@[simp] theorem A4G(f:Nat)(es:List (List V)):BD l k o f (sl es)=sl es:=by cases f<;>cases es<;>rfl
@[simp] theorem AV3(f:Nat)(cs:List V):BD l k o f (.ref cs)=.ref cs:=by cases f<;>rfl
theorem yF(f a b c d:Nat)(h:¬(a=l∧b=k)):BD l k o f (.ptr a b c d)=.ptr a b c d:=by
 cases f with
 |zero=>rfl
 |succ f=>
  simp only[BD]
  split
  ·rw[if_neg fun hh=>h ⟨hh.1,hh.2.1⟩]
  ·rfl
@[simp] theorem ARS(f a b c d:Nat)(h:¬b=k):BD l k o f (.ptr a b c d)=.ptr a b c d:=yF f a b c d fun hh=>h hh.2
@[simp] theorem ART(γ:Nat)(T:TypeId)(es:List (List V))(f a b c d:Nat):BD l k (some (γ,.vec T es)) f (.ptr a b c d)=.ptr a b c d:=by cases f<;>rfl
@[simp] theorem ARU(γ:Nat)(cs:List V)(f a b g off:Nat):BD l k (some (γ,.box cs)) (f+1) (.ptr a b g off)=if a=l∧b=k∧g=γ then .ref ((cs.map NJ).drop off) else .ptr a b g off:=rfl
@[simp] theorem A4H(q:IntKind)(n:Int):NJ (.int q n)=.int q n:=rfl
@[simp] theorem AV4(b:Bool):NJ (.bool b)=.bool b:=rfl
@[simp] theorem AV5(b:Bool)(es:List (List V)):NJ (.list b es)=.list b es:=rfl
@[simp] theorem A9U(es:List (List V)):NJ (sl es)=sl es:=by cases es<;>rfl
@[simp] theorem A4I:NJ .nil=.nil:=rfl
@[simp] theorem A9V(a b c:Nat):NJ (.mp a b c)=.any:=rfl
@[simp] theorem A4J:NJ .any=.any:=rfl
@[simp] theorem RE(f:Nat):AK (f+1) .any=true:=rfl
@[simp] theorem AV6:weakV .any=.any:=rfl
@[simp] theorem AV7:weakC .any=.any:=rfl
@[simp] theorem AV8(f:Nat):BD l k o f .any=.any:=by cases f<;>rfl
@[simp] theorem A4K(f a b c:Nat):BD l k o f (.mp a b c)=.mp a b c:=by cases f<;>rfl
@[simp] theorem AV9(f a b c:Nat):BD l k o f (.yld a b c)=.yld a b c:=by cases f<;>rfl
@[simp] theorem A4L(f:Nat)(g:FuncId)(xs ys:List V):BD l k o f (.fn g xs ys)=.fn g xs ys:=by cases f<;>rfl
@[simp] theorem yG(f:Nat):BD l k o f .nil=.nil:=by cases f<;>rfl
@[simp] theorem AWA(f:Nat)(cs:List V):BD l k o (f+1) (.agg cs)=.agg (cs.map (BD l k o f)):=rfl
@[simp] theorem AWB(f:Nat)(cs:List V):BD l k o (f+1) (.tup cs)=.tup (cs.map (BD l k o f)):=rfl
@[simp] theorem AWC(γ:Nat)(T:TypeId)(es:List (List V))(f l' k' g m:Nat):BD l k (some (γ,.vec T es)) (f+1) (.vec l' k' g m)=if l'=l∧k'=k∧g=γ∧m=es.length then .list false es else .vec l' k' g m:=rfl
@[simp] theorem A4M(γ:Nat)(T:TypeId)(es:List (List V))(f:Nat):BD 0 k ((pl k γ T es).get k) (f+1) (pv k γ es)=sl es:=by
 cases es with
 |nil=>rfl
 |cons e es=>simp[pv,sl]
@[simp] theorem AWD(γ:Nat)(T:TypeId)(es:List (List V))(f:Nat):BD 0 k (some (γ,.vec T es)) (f+1) (pv k γ es)=sl es:=by
 cases es with
 |nil=>rfl
 |cons e es=>simp[pv,sl]
@[simp] theorem AWE{j:Nat}(h:j≠k)(γ:Nat)(es:List (List V))(f:Nat):BD l k o f (pv j γ es)=pv j γ es:=by
 cases es with
 |nil=>cases f<;>rfl
 |cons e es=>
  cases f with
  |zero=>rfl
  |succ f=>
   simp only[pv,BD]
   split
   ·rw[if_neg (fun hh=>h hh.2.1)]
   ·rfl
noncomputable def oe2(d c:Nat)(fr:Fr)(s:St):Option Mk→Option XS→Option XS
 |some r,_=>some ⟨c+1,(d,true,r.val s.up.length d c)::fr,s.put s.up.length d c r.res⟩
 |none,z=>z
@[simp] theorem A9W(d c:Nat)(fr:Fr)(s:St)(T:TypeId)(es:List (List V))(z:Option XS):oe2 d c fr s (some ⟨.vec T es,none⟩) z=some ⟨c+1,(d,true,.vec s.up.length d c es.length)::fr,s.put s.up.length d c (.vec T es)⟩:=rfl
noncomputable def oe1(d c:Nat)(fr:Fr)(s:St)(F:List V→Option Mk):Option (List V)→Option XS→Option XS
 |some vs,z=>oe2 d c fr s (F vs) z
 |none,z=>z
@[simp] theorem AEE(d c:Nat)(fr:Fr)(s:St)(F:List V→Option Mk)(vs:List V)(z:Option XS):oe1 d c fr s F (some vs) z=oe2 d c fr s (F vs) z:=rfl
variable {A:Ann}{kn:CF0}{n:Nat}{fr:Fr}{s:St}
@[simp] theorem A9X{f:FuncId}(hS:J5 P f=true)(d c:Nat)(args:List Operand):C0 P (BN P A kn n) (some d) (.call true none (.func f) args) ⟨c,fr,s⟩ =
  oe1 d c fr s (fun vs=>M2 P (AE P A kn n) f (vs.map weakV)) (FK (CO fr) args) (TV (BN P A kn n).cf (BN P A kn n).cy (some d) (.func f) args ⟨c,fr,s⟩):=by
 show ZY (BN P A kn n) true (some d) (.func f) args ⟨c,fr,s⟩=_
 unfold ZY
 show(match HE (BN P A kn n).co (some d) (.func f) args ⟨c,fr,s⟩ with|some st'=>some st'|none=>_)=_
 unfold HE
 have hf:CO fr (.func f)=some (.fn f [] []):=rfl
 simp only[hf]
 cases FK (CO fr) args with
 |none=>rfl
 |some vs=>
  simp only[AEE,List.nil_append,List.append_nil]
  have:(BN P A kn n).co f (vs.map weakV) d=M2 P (AE P A kn n) f (vs.map weakV):=by show OS P kn (fun _ _ _=>none) (AE P A kn n) f _ d=_;unfold OS;simp only[hS]
  rw[this]
  cases M2 P (AE P A kn n) f (vs.map weakV)with
  |none=>rfl
  |some r=>rfl
noncomputable def of2(d c:Nat)(fr:Fr)(s:St):Option Mk→Option XS
 |some r=>some ⟨c+1,(d,true,r.val s.up.length d c)::fr,s.put s.up.length d c r.res⟩
 |none=>none
@[simp] theorem A9Y(d c:Nat)(fr:Fr)(s:St)(T:TypeId)(es:List (List V)):of2 d c fr s (some ⟨.vec T es,none⟩)=some ⟨c+1,(d,true,.vec s.up.length d c es.length)::fr,s.put s.up.length d c (.vec T es)⟩:=rfl
noncomputable def of1(d c:Nat)(fr:Fr)(s:St)(F:List V→Option Mk):Option (List V)→Option XS
 |some vs=>of2 d c fr s (F vs)
 |none=>none
@[simp] theorem AEF(d c:Nat)(fr:Fr)(s:St)(F:List V→Option Mk)(vs:List V):of1 d c fr s F (some vs)=of2 d c fr s (F vs):=rfl
@[simp] theorem A4N{f:FuncId}(hS:J5 P f=true)(d c:Nat)(args:List Operand):DH P (BN P A kn n) (some d) (.call true none (.func f) args) ⟨c,fr,s⟩ =
  nw (of1 d c fr s (fun vs=>M2 P (AE P A kn n) f (vs.map weakV)) (FK (CO fr) args)):=by
 show TW (HE (BN P A kn n).co (some d) (.func f) args ⟨c,fr,s⟩)=_
 rw[GF]
 congr 1
 unfold HE
 have hf:CO fr (.func f)=some (.fn f [] []):=rfl
 simp only[hf]
 cases FK (CO fr) args with
 |none=>rfl
 |some vs=>
  simp only[AEF,List.nil_append,List.append_nil]
  have:(BN P A kn n).co f (vs.map weakV) d=M2 P (AE P A kn n) f (vs.map weakV):=by show OS P kn (fun _ _ _=>none) (AE P A kn n) f _ d=_;unfold OS;simp only[hS]
  rw[this]
  cases M2 P (AE P A kn n) f (vs.map weakV)with
  |none=>rfl
  |some r=>rfl
noncomputable def A4O(P:Program)(fn:Func)(r:Option (Exit×XS)):Option Mk:=match r with
 |some (.ret,st)=>pW P fn st
 |some (.normal,st)=>pW P fn st
 |_=>none
@[simp] theorem A4P(fn:Func)(st:XS):A4O P fn (some (.ret,st))=pW P fn st:=rfl
@[simp] theorem AM4(fn:Func)(st:XS):A4O P fn (some (.normal,st))=pW P fn st:=rfl
noncomputable def rO(P:Program)(fn:Func)(st:XS)(v:Option V):Option Mk:=match v with
 | some (.vec l k γ n)=>Bool.rec none (match st.s.loc.get k with
  |some (γ',.vec T es)=>Bool.rec none (some ⟨.vec T es,none⟩) (Nat.beq γ' γ&&Nat.beq n es.length&&es.all fun e=>e.all (AK 9))
  | _=>none) (Nat.beq l st.s.up.length)
 | some v=>Bool.rec none (match fn.resultTypes.toList with
  |[R]=>match BM P R with
   |some (none,T)=>some ⟨.vec T [],none⟩
   |_=>none
  | _=>none) (WK v)
 |none=>none
end Go.Pg
namespace Go.Pg
section
@[simp] theorem EY{α:Type}(x:α):∀(l:List α),C5 (l++[x])=some (l,x)
 |[]=>rfl
 |[y]=>rfl
 |y::z::l=>by have:=EY x (z::l);simp only[List.cons_append]at this⊢;rw[WG,this];rfl
end
section
variable {P:Program}{E:XE}{d:Option Tmp}{c:Nat}{fr:Fr}{s:St}{r:Operand→Option V}
@[simp] theorem ARV(T:TypeId)(x i:Operand)(ok:Bool):IL P (eI (.lookup T x i ok)) s r=o2 (fun a b=>EF P s T a b ok) (r x) (r i):=by show((r x).bind fun a=>(r i).bind fun b=>EF P s T a b ok)=_;cases r x<;>cases r i<;>rfl
noncomputable def up1(c:Nat)(fr:Fr)(s:St):Option (Nat×Nat×Nat×List (V×V))→Option XS
 |some (l,q,γ,es)=>Bool.rec none (some ⟨c,fr,s.put l q γ (.map es)⟩) (Nat.blt γ c)
 |none=>none
noncomputable def up3(P:Program)(T:TypeId)(c:Nat)(fr:Fr)(s:St):Option V→Option V→Option V→Option XS
 |some m,some i,some v=>up1 c fr s (QG P s T m i v)
 |_,_,_=>none
@[simp] theorem A4Q(T:TypeId)(m i v:V):up3 P T c fr s (some m) (some i) (some v)=up1 c fr s (QG P s T m i v):=rfl
@[simp] theorem A4R(x:Operand):IL P (eI (.nilCheck x)) s r=o1 M6 (r x):=by show(r x).bind M6=_;cases r x<;>rfl
@[simp] theorem AWF(l k g o:Nat):M6 (.ptr l k g o)=some (.ptr l k g o):=rfl
@[simp] theorem A4S(x:Operand)(f:Operand→Option V):HI P (.oth (.nilCheck x)) f=[]:=rfl
@[simp] theorem A4T(T:TypeId)(x i:Operand)(ok:Bool)(f:Operand→Option V):HI P (.oth (.lookup T x i ok)) f=A8 (f x):=rfl
@[simp] theorem ARW(l k g:Nat):BV s (.mp l k g)=some (.mp l k g):=rfl
theorem RF{α:Type}{f:α→Option α}:∀{l:List α},(∀x∈l,f x=some x)→GN f l=some l
 |[],_=>rfl
 |x::l,h=>by have ih:=RF (f:=f) (l:=l) fun y hy=>h y (by simp[hy]);simp only[GN,h x (by simp),ih]
theorem T5:∀(l:List AA) (b:AA),C5 (l++[b])=some (l,b)
 |[],b=>by simp
 |[a],b=>by simp
 |a::a2::l,b=>by have:=T5 (a2::l) b;simp only[List.cons_append]at this⊢;simp[this]
@[simp] theorem AWG(a:AA)(l:List AA)(b:AA):C5 (a::(l++[b]))=some (a::l,b):=T5 (a::l) b
@[simp] theorem ARX(l k g:Nat):A8 (some (.mp l k g))=[(l,k)]:=rfl
@[simp] theorem AWH(d:Nat):C0 P E (some d) (.mkM none) ⟨c,fr,s⟩=some ⟨c+1,(d,true,.mp s.up.length d c)::fr,s.put s.up.length d c (.map [])⟩:=rfl
end
section
variable {P:Program}{s:St}{r:Operand→Option V}
@[simp] theorem ARY(T:TypeId)(x h:Operand):IL P (eI (.slice T x none (some h) none)) s r=o2 (fun a b=>B8 P s T a none (some b) none) (r x) (r h):=by show((r x).bind fun a=>((some none:Option (Option V))).bind fun l=>((r h).map some).bind fun h=>((some none:Option (Option V))).bind fun m=>B8 P s T a l h m)=_;cases r x<;>cases r h<;>rfl
theorem aS{T e:TypeId}{es:List (List V)}{h:Int}{b:Bool}(hT:BM P T=some (none,e))(hc:0<P.cellsOf e)(h1:0≤h)(h2:h≤es.length):B8 P s T (.list b es) none (some (.int .i64 h)) none=some (.list false (es.take h.toNat)):=by simp only[B8,hT];rw[if_pos ⟨h1,h2,hc⟩]
end
section
variable {P:Program}{E:XE}{c:Nat}{fr:Fr}{s:St}{r:Operand→Option V}
@[simp] theorem ARZ(T:TypeId)(x l:Operand):IL P (eI (.slice T x (some l) none none)) s r=o2 (fun a b=>B8 P s T a (some b) none none) (r x) (r l):=by show((r x).bind fun a=>((r l).map some).bind fun l=>(some none).bind fun h=>(some none).bind fun m=>B8 P s T a l h m)=_;cases r x<;>cases r l<;>rfl
end
section
variable {P:Program}{fr:Fr}{s:St}
@[simp] theorem A9Z(e d c:Nat)(ys:List (List V))(h:B4 P e 0 ys=true):rP P e d c fr s (.list true []) ys=some (⟨c+1,(d,true,.vec s.up.length d c ys.length)::fr,s.put s.up.length d c (.vec e ys)⟩,[(s.up.length,d),(s.up.length,d+F9)]):=by unfold rP;simp[H4,h]
@[simp] theorem A90(e d c l q γ n:Nat)(ys:List (List V)):rP P e d c fr s (.vec l q γ n) ys=wp [(l,q),(l,q+F9)] (apW P e d c fr s l q γ n ys (QY n ys (s.get l q))):=rfl
@[simp] theorem AR0(l k g i o:Nat):M6 (.eptr l k g i o)=some (.eptr l k g i o):=rfl
end
section
@[simp] theorem AIK{P:Program}{A:Ann}{kn:CF0}{n:Nat}:(BN P A kn n).cy=gM (AE P A kn n):=rfl
end
section
variable {P:Program}{A:Ann}{kn:CF0}{n:Nat}{fr:Fr}{s:St}
noncomputable def oc2(d c:Nat)(fr:Fr)(s:St):Option V→Option XS→Option XS
 |some r,_=>some ⟨c+1,(d,true,r.ren (fun _=>c) s.up.length)::fr,s.put s.up.length d c .dead⟩
 |none,z=>z
@[simp] theorem A4U(d c:Nat)(r:V)(z:Option XS):oc2 d c fr s (some r) z=some ⟨c+1,(d,true,r.ren (fun _=>c) s.up.length)::fr,s.put s.up.length d c .dead⟩:=rfl
noncomputable def oc1(d c:Nat)(fr:Fr)(s:St)(F:List V→Option V):Option (List V)→Option XS→Option XS
 |some vs,z=>oc2 d c fr s (F vs) z
 |none,z=>z
@[simp] theorem AEG(d c:Nat)(F:List V→Option V)(vs:List V)(z:Option XS):oc1 d c fr s F (some vs) z=oc2 d c fr s (F vs) z:=rfl
@[simp] theorem A4V{f:FuncId}(hS:J5 P f=false)(d c:Nat)(args:List Operand):C0 P (BN P A kn n) (some d) (.call true none (.func f) args) ⟨c,fr,s⟩ =
  oc1 d c fr s (fun vs=>FL P kn (AE P A kn n) f (vs.map weakV)) (FK (CO fr) args) (TV (BN P A kn n).cf (BN P A kn n).cy (some d) (.func f) args ⟨c,fr,s⟩):=by
 show ZY (BN P A kn n) true (some d) (.func f) args ⟨c,fr,s⟩=_
 unfold ZY
 show(match HE (BN P A kn n).co (some d) (.func f) args ⟨c,fr,s⟩ with|some st'=>some st'|none=>_)=_
 unfold HE
 have hf:CO fr (.func f)=some (.fn f [] []):=rfl
 simp only[hf]
 cases FK (CO fr) args with
 |none=>rfl
 |some vs=>
  simp only[AEG,List.nil_append,List.append_nil]
  have:(BN P A kn n).co f (vs.map weakV) d=(match FL P kn (AE P A kn n) f (vs.map weakV)with|some r=>some ⟨.dead,some r⟩|none=>none):=by show OS P kn (fun _ _ _=>none) (AE P A kn n) f _ d=_;unfold OS;simp only[hS];cases FL P kn (AE P A kn n) f (vs.map weakV)<;>rfl
  rw[this]
  cases FL P kn (AE P A kn n) f (vs.map weakV)with
  |none=>rfl
  |some r=>rfl
noncomputable def od2(d c:Nat)(fr:Fr)(s:St):Option V→Option XS
 |some r=>some ⟨c+1,(d,true,r.ren (fun _=>c) s.up.length)::fr,s.put s.up.length d c .dead⟩
 |none=>none
@[simp] theorem A4W(d c:Nat)(r:V):od2 d c fr s (some r)=some ⟨c+1,(d,true,r.ren (fun _=>c) s.up.length)::fr,s.put s.up.length d c .dead⟩:=rfl
noncomputable def od1(d c:Nat)(fr:Fr)(s:St)(F:List V→Option V):Option (List V)→Option XS
 |some vs=>od2 d c fr s (F vs)
 |none=>none
@[simp] theorem AEH(d c:Nat)(F:List V→Option V)(vs:List V):od1 d c fr s F (some vs)=od2 d c fr s (F vs):=rfl
@[simp] theorem AWI{f:FuncId}(hS:J5 P f=false)(d c:Nat)(args:List Operand):DH P (BN P A kn n) (some d) (.call true none (.func f) args) ⟨c,fr,s⟩ =
  nw (od1 d c fr s (fun vs=>FL P kn (AE P A kn n) f (vs.map weakV)) (FK (CO fr) args)):=by
 show TW (HE (BN P A kn n).co (some d) (.func f) args ⟨c,fr,s⟩)=_
 rw[GF]
 congr 1
 unfold HE
 have hf:CO fr (.func f)=some (.fn f [] []):=rfl
 simp only[hf]
 cases FK (CO fr) args with
 |none=>rfl
 |some vs=>
  simp only[AEH,List.nil_append,List.append_nil]
  have:(BN P A kn n).co f (vs.map weakV) d=(match FL P kn (AE P A kn n) f (vs.map weakV)with|some r=>some ⟨.dead,some r⟩|none=>none):=by show OS P kn (fun _ _ _=>none) (AE P A kn n) f _ d=_;unfold OS;simp only[hS];cases FL P kn (AE P A kn n) f (vs.map weakV)<;>rfl
  rw[this]
  cases FL P kn (AE P A kn n) f (vs.map weakV)with
  |none=>rfl
  |some r=>rfl
end
section
variable {fr:Fr}{s:St}
@[simp] theorem AM5(l k g:Nat):BV s (.yld l k g)=some (.yld l k g):=rfl
@[simp] theorem AM6(f:Nat)(cs:List V):AZ s (f+1) (.ref cs)=some (.ref cs):=rfl
@[simp] theorem A4X{P:Program}:F0 P [] fr s=some (.tup []):=rfl
@[simp] theorem AM7(f:Nat):AZ s (f+1) (.tup [])=some (.tup []):=rfl
@[simp] theorem AEI:CP .nilFunc=some (.raw .nilFunc):=rfl
@[simp] theorem AR1(f l k g:Nat):AK (f+1) (.yld l k g)=false:=rfl
@[simp] theorem A4Y(l k g:Nat):weakV (.yld l k g)=.yld l k g:=rfl
@[simp] theorem A91(d c l k g:Nat):yS d c fr s (some (.yld l k g))=some ⟨c+1,(d,true,.ptr s.up.length d c 0)::fr,s.put s.up.length d c (.box [.yld l k g])⟩:=rfl
@[simp] theorem A92(F:List V→Option (List V))(g off:Nat)(g':Nat)(cs:List V):cp1 F g off (some (g',.box cs))=if g'=g then(F cs).map (fun ds=>V.ref (ds.drop off)) else none:=rfl
noncomputable def mk4(P:Program)(d c:Nat)(fr:Fr)(s:St)(e:TypeId)(n m:Int):Option (List V)→Option XS
 |some z=>if 0≤n∧m=n∧z.length=P.cellsOf e∧n.toNat*P.bytesOf e≤140737488355328∧n.toNat≤maxLen then some ⟨c+1,(d,true,.vec s.up.length d c n.toNat)::fr,s.put s.up.length d c (.vec e (List.replicate n.toNat z))⟩ else none
 |none=>none
@[simp] theorem A4Z{P:Program}(d c:Nat)(e:TypeId)(n m:Int)(z:List V):mk4 P d c fr s e n m (some z)=if 0≤n∧m=n∧z.length=P.cellsOf e∧n.toNat*P.bytesOf e≤140737488355328∧n.toNat≤maxLen then some ⟨c+1,(d,true,.vec s.up.length d c n.toNat)::fr,s.put s.up.length d c (.vec e (List.replicate n.toNat z))⟩ else none:=rfl
noncomputable def mk3(P:Program)(d c:Nat)(fr:Fr)(s:St):Option (Option Nat×TypeId)→Option V→Option V→Option XS
 |some (none,e),some (.int _ n),some (.int _ m)=>mk4 P d c fr s e n m (B7 P e)
 |_,_,_=>none
@[simp] theorem AEJ{P:Program}(d c:Nat)(e:TypeId)(k1 k2:IntKind)(n m:Int):mk3 P d c fr s (some (none,e)) (some (.int k1 n)) (some (.int k2 m))=mk4 P d c fr s e n m (B7 P e):=rfl
@[simp] theorem AWJ{P:Program}{E:XE}(T:TypeId)(d c:Nat)(x y:Operand):C0 P E (some d) (.mkS T x y) ⟨c,fr,s⟩=mk3 P d c fr s (BM P T) (CO fr x) (CO fr y):=by
 show WB P (some d) T x y ⟨c,fr,s⟩=_;unfold WB;simp only;cases BM P T with
 |none=>cases CO fr x<;>cases CO fr y<;>rfl
 |some p=>
  obtain⟨k,e⟩:=p
  cases k with
  |some k=>cases CO fr x<;>cases CO fr y<;>rfl
  |none=>
   cases CO fr x with
   |none=>rfl
   |some a=>
    cases CO fr y with
    |none=>cases a<;>rfl
    |some z=>
     cases a with
     |int k1 n=>
      cases z with
      |int k2 m=>simp only[AEJ];cases B7 P e<;>rfl
      |_=>rfl
     |_=>rfl
@[simp] theorem A93{P:Program}(T:TypeId)(x y:Operand)(r:Operand→Option V):HI P (.mkS T x y) r=[]:=rfl
noncomputable def rE(fr:Fr)(n γ:Nat)(r:Option XS):Option (Exit×XS):=match r with
 |some st=>match st.s.get n CD with
  | some (γ',.loop _ _ _ _ _ ls)=>Bool.rec none (match ls with
   |.ready=>some (.normal,⟨st.c,fr,st.s.put n CD γ .dead⟩)
   |.left .ret=>some (.ret,⟨st.c,fr,st.s.put n CD γ .dead⟩)
   |.left (.exit id)=>some (.exit id,⟨st.c,fr,st.s.put n CD γ .dead⟩)
   | _=>none) (Nat.beq γ' γ&&Nat.blt γ st.c)
  |_=>none
 |none=>none
theorem eG{P:Program}{A:Ann}{kn:CF0}{n N:Nat}{g:Operand}{ps:List Tmp}{asg body:Code}{c:Nat}{up:List AA}{loc:AA}{f:FuncId}{first cap:List V}(h:CO fr g=some (.fn f first cap)) :
  VB (BN P A kn n).cf N g ps asg body ⟨c,fr,⟨up,loc⟩⟩=rE fr up.length c (H9 (BN P A kn n) none ⟨c+1,fr,⟨up,(CD,c,.loop fr ps asg body N .ready)::loc⟩⟩ f ((first++[V.yld up.length CD c]++cap).map weakV)):=by
 unfold VB
 simp only[h]
 unfold H9 gK rE
 simp only[St.put,if_true,AA.put]
 cases (BN P A kn n).cf f ((first++[V.yld up.length CD c]++cap).map weakV) ⟨c+1,fr,⟨up,(CD,c,.loop fr ps asg body N .ready)::loc⟩⟩ with
 |none=>rfl
 |some r=>rfl
theorem mS{n γ c:Nat}{fr' fr0:Fr}{s:St}{ps:List Tmp}{asg body:Code}{N:Nat}(h:s.get n CD=some (γ,.loop fr0 ps asg body N .ready))(hc:γ<c):rE fr n γ (some ⟨c,fr',s⟩)=some (.normal,⟨c,fr,s.put n CD γ .dead⟩):=by
 unfold rE;simp only[h];have:(Nat.beq γ γ&&Nat.blt γ c)=true:=by simpa using hc
 rw[this]
@[simp] theorem AWK(t:St)(fr0:Fr)(ps:List Tmp)(asg body:Code)(N:Nat)(l:LS):CK t (.loop fr0 ps asg body N l)=.loop fr0 ps asg body N l:=rfl
theorem AJY{rec:GD}{l q γ c N:Nat}{fr0:Fr}{ps:List Tmp}{asg body:Code}{vs:List V}(h:s.get l q=some (γ,.loop fr0 ps asg body N .ready))(hv:vs.length=ps.length)(hc:γ<c) :
  gM rec l q γ vs ⟨c,fr,s⟩=Z2 fr l q γ (Z3 (rec N) l q γ body (rec N asg ⟨c,LP fr0 ps vs,⟨s.up++[s.loc],[]⟩⟩)):=by
 unfold gM
 simp only[h]
 have:(Nat.beq γ γ&&Nat.beq vs.length ps.length&&Nat.blt γ c)=true:=by simp[hv,hc]
 rw[this]
theorem cG{rec:bJ}{l q γ c N:Nat}{fr0:Fr}{ps:List Tmp}{asg body body':Code}(h:s.get l q=some (γ,.loop fr0 ps asg body' N .ready))(hc:γ<c) :
  Z3 rec l q γ body (some (.normal,⟨c,fr,s⟩))=rec body ⟨c,fr,s.put l q γ (.loop fr0 ps asg body' N .busy)⟩:=by
 unfold Z3
 simp only[h]
 have:(Nat.beq γ γ&&Nat.blt γ c)=true:=by simp[hc]
 rw[this]
theorem cH{fr':Fr}{l q γ c N:Nat}{fr0:Fr}{ps:List Tmp}{asg body:Code}{up u:List AA}{loc lc:AA}(h:St.get ⟨up,loc⟩ l q=some (γ,.loop fr0 ps asg body N .busy))(hu:C5 up=some (u,lc))(hl:l<up.length)(hc:γ<c) :
  Z2 fr l q γ (some (.normal,⟨c,fr',⟨up,loc⟩⟩))=some (.bool true,⟨c,fr,St.put ⟨u.map (AN ⟨up,loc⟩),AN ⟨up,loc⟩ lc⟩ l q γ (.loop fr0 ps asg body N .ready)⟩):=by
 unfold Z2
 simp only[h,hu]
 have:(Nat.beq γ γ&&Nat.blt l up.length&&Nat.blt γ c)=true:=by simp[hc,hl]
 rw[this]
 rfl
end
section
noncomputable def tkU(z:Option XS)(d:Option Tmp)(st:XS):Option V→Option XS
 |some r=>Bool.rec z (DG d st (some r)) (aD r)
 |none=>z
@[simp] theorem A94(z:Option XS)(d:Option Tmp)(st:XS)(k:IntKind)(n:Int):tkU z d st (some (.int k n))=DG d st (some (.int k n)):=rfl
@[simp] theorem A40(z:Option XS)(d:Option Tmp)(st:XS)(b:Bool):tkU z d st (some (.bool b))=DG d st (some (.bool b)):=rfl
@[simp] theorem AWL(l k g n:Nat):weakC (.vec l k g n)=.vec l k g n:=rfl
@[simp] theorem yH(st:XS)(v:V):HU st [] v=v:=rfl
@[simp] theorem rF(k:Nat)(ks:List Nat)(c:Nat)(fr:Fr)(up:List AA)(loc:AA)(v:V)(h:k<10000):HU ⟨c,fr,⟨up,loc⟩⟩ (k::ks) v=HU ⟨c,fr,⟨up,loc⟩⟩ ks (BD up.length k (loc.get k) 3 v):=by
 have:Nat.blt k 10000=true:=by simpa [Nat.blt_eq]using h
 simp only[HU,this,cond_true]
@[simp] theorem FU(k:Nat)(ks:List Nat)(st:XS)(v:V)(h:¬k<10000):HU st (k::ks) v=HU st ks (BD (k / 10000-1) (k % 10000) (st.s.get (k / 10000-1) (k % 10000)) 3 v):=by
 have:Nat.blt k 10000=false:=by
  cases hb:Nat.blt k 10000 with
  |false=>rfl
  |true=>exact absurd (by simpa [Nat.blt_eq]using hb) h
 simp only[HU,this,cond_false]
@[simp] theorem A95{P:Program}{A:Ann}{kn:CF0}{n k:Nat}{us:List Nat}(d:Option Tmp)(st:XS)(f:FuncId)(args:List V):H9 (cfU (k::us) (BN P A kn n)) d st f args=tkU (H9 (BN P A kn n) d st f args) d st (FL P kn (AE P A kn n) f (args.map (HU st (k::us)))):=by
 show(match mD (BN P A kn n).cf (BN P A kn n).c0 (k :: us) f args st with
  |some (r,st')=>some (⟨st'.c,putD st'.fr d true r,st'.s⟩:XS)
  | none=>none)=_
 unfold mD;have e:(BN P A kn n).c0=FL P kn (AE P A kn n):=rfl;rw[e];cases FL P kn (AE P A kn n) f (args.map (HU st (k::us)))with
 |none=>rfl
 |some r=>
  show(match(Bool.rec ((BN P A kn n).cf f args st) (some (r,st)) (aD r):Option (V×XS))with
   |some (r,st')=>some (⟨st'.c,putD st'.fr d true r,st'.s⟩:XS)
   | none=>none)=(Bool.rec (H9 (BN P A kn n) d st f args) (DG d st (some r)) (aD r):Option XS)
  cases aD r<;>rfl
@[simp] theorem AR2(k:IntKind)(n:Int):gO (.int k n)=true:=rfl
@[simp] theorem AM8(b:Bool):gO (.bool b)=true:=rfl
end
theorem O0{j k:Nat}(h:j≠k)(γ γ2:Nat)(T T2:TypeId)(es fs:List (List V)):kl j (kl k [] ((pl j γ T es++pl k γ2 T2 fs).get k)) ((pl j γ T es++pl k γ2 T2 fs).get j)=pl j γ T es++pl k γ2 T2 fs:=by cases es<;>cases fs<;>simp[h,h.symm]
theorem JH{j k:Nat}(h:j≠k)(γ γ2:Nat)(T T2:TypeId)(es fs:List (List V)):(pl j γ T es++pl k γ2 T2 fs).get k=(pl k γ2 T2 fs).get k:=by cases es<;>cases fs<;>simp[h.symm]
theorem O1{j k:Nat}(h:j≠k)(γ γ2:Nat)(T T2:TypeId)(es fs:List (List V))(M:AA):kl j M ((pl j γ T es++pl k γ2 T2 fs).get j)=pl j γ T es++M:=by cases es<;>cases fs<;>simp[h,h.symm]
theorem uS{j k:Nat}(h:j≠k)(γ:Nat)(T:TypeId)(es:List (List V))(x:Nat×AX):(pl j γ T es++[(k,x)]).get k=some x:=by cases es<;>simp[h.symm]
theorem AEK{j k:Nat}(h:j≠k)(γ:Nat)(T:TypeId)(es:List (List V))(x:Nat×AX)(M:AA):kl j M ((pl j γ T es++[(k,x)]).get j)=pl j γ T es++M:=by cases es<;>simp[h,h.symm]
theorem JI{j k:Nat}(h:j≠k)(γ γ2:Nat)(T T2:TypeId)(es fs:List (List V)):(pl j γ T es++pl k γ2 T2 fs).get j=(pl j γ T es).get j:=by cases es<;>cases fs<;>simp[h]
theorem K1{j k m:Nat}(h1:j≠m)(h2:k≠m)(γ γ2:Nat)(T T2:TypeId)(es fs:List (List V)):(pl j γ T es++pl k γ2 T2 fs).get m=none:=by cases es<;>cases fs<;>simp[h1.symm,h2.symm]
theorem O2{j:Nat}(γ:Nat)(T:TypeId)(es:List (List V))(M:AA):kl j M ((pl j γ T es).get j)=pl j γ T es++M:=by cases es<;>simp
theorem O3{t:St}{T:TypeId}{es:List (List V)}(h:∀e∈es,∀v∈e,BV t v=some v):CK t (.vec T es)=.vec T es:=by
 have:CJ t (.vec T es)=some (.vec T es):=by unfold CJ;simp only;rw[RF fun e he=>RF fun v hv=>h e he v hv]
 unfold CK;rw[this]
@[simp] theorem AR3{P:Program}{A:Ann}{kn:CF0}{n N l:Nat}{st:XS}:AE P A kn (n+1) N (.label l) st=some (.normal,st):=rfl
theorem JJ{α:Type}(p:α→Bool):∀(l:List α),(!l.any fun x=>!p x)=l.all p
 |[]=>rfl
 |x::l=>by have:=JJ p l;simp only[List.any_cons,List.all_cons,Bool.not_or,Bool.not_not,←this]
section
variable {P:Program}{fr:Fr}{s:St}
def pt(k γ:Nat):List (List V)→V
 |[]=>.list true []
 |e::es=>.vec 0 k γ (e::es).length
@[simp] theorem BFW(k γ:Nat):pt k γ []=.list true []:=rfl
@[simp] theorem A96(k γ:Nat)(e:List V)(es:List (List V)):pt k γ (e::es)=.vec 0 k γ (es.length+1):=rfl
@[simp] theorem BFX(e k c γ:Nat)(loc:AA)(es:List (List V))(y:List V)(ys:List (List V))(hl:AA.get loc k=(pl k γ e es).get k)(h1:es.all (fun y=>y.length==P.cellsOf e)=true)(h2:B4 P e es.length (y::ys)=true) :
  zU P e k c fr ⟨[],loc⟩ (pt k γ es) (y::ys)=some ⟨c+1,(k,true,pt k c (es++y::ys))::fr,⟨[],(k,c,.vec e (es++y::ys))::loc⟩⟩:=by
 cases es with
 |nil=>
  simp only[List.length_nil]at h2
  simp[h2,pt]
 |cons z es=>
  have h:=ATV (P:=P) (fr:=fr) e k c γ loc (z::es) y ys hl h1 h2
  exact h
theorem yI{T:TypeId}(f:Nat)(loc:AA)(k γ:Nat)(es:List (List V))(hl:AA.get loc k=(pl k γ T es).get k):AZ ⟨[],loc⟩ (f+1) (pt k γ es)=some (.list false es):=by
 cases es with
 |nil=>rfl
 |cons e es=>exact PY (T:=T) f loc k γ (e::es) hl
@[simp] theorem AR4(f k γ:Nat)(T:TypeId)(es:List (List V)):AZ ⟨[],pl k γ T es⟩ (f+1) (pt k γ es)=some (.list false es):=yI (T:=T) f _ k γ es rfl
@[simp] theorem AWM(k γ:Nat)(es:List (List V)):A6 (pt k γ es)=[pt k γ es]:=by cases es<;>rfl
@[simp] theorem AWN(k γ:Nat)(es:List (List V)):A7 (pt k γ es)=true:=by cases es<;>rfl
end
@[simp] theorem A97(st:XS):LY [] st=st:=rfl
@[simp] theorem A41(k:Nat)(ks:List Nat)(c:Nat)(fr:Fr)(up:List AA)(loc:AA)(h:k<1000):LY (k::ks) ⟨c,fr,⟨up,loc⟩⟩=LY ks ⟨c,NB up.length k (loc.get k) fr,⟨up,EW up.length k (loc.get k) loc⟩⟩:=by
 have h1:Nat.blt k 1000=true:=by simpa [Nat.blt_eq]using h
 show LY ks (uF k ⟨c,fr,⟨up,loc⟩⟩)=_;unfold uF;rw[h1];rfl
@[simp] theorem A42(k:Nat)(ks:List Nat)(c:Nat)(fr:Fr)(up:List AA)(loc:AA)(h:2000000000000000≤k):LY (k::ks) ⟨c,fr,⟨up,loc⟩⟩=LY ks ⟨c,fr,⟨up,cE (k % 1000) loc⟩⟩:=by
 have h1:Nat.blt k 1000=false:=by rw[←Bool.not_eq_true,Nat.blt_eq];omega
 have h2:Nat.blt k 1000000000000000=false:=by rw[←Bool.not_eq_true,Nat.blt_eq];omega
 have h3:Nat.blt k 2000000000000000=false:=by rw[←Bool.not_eq_true,Nat.blt_eq];omega
 show LY ks (uF k ⟨c,fr,⟨up,loc⟩⟩)=_;unfold uF;rw[h1,h2,h3];rfl
@[simp] theorem A98(k:Nat):cE k []=[]:=rfl
@[simp] theorem A43(k j g:Nat)(r:AX)(L:AA):cE k ((j,g,r)::L)=(j,g,if j=k then zS r else r)::cE k L:=rfl
@[simp] theorem A99(T:TypeId)(es:List (List V)):zS (.vec T es)=.vec T (es.map (List.map dY)):=rfl
@[simp] theorem BAA(cs:List V):zS (.box cs)=.box (cs.map dY):=rfl
@[simp] theorem BFY(k γ:Nat)(T:TypeId)(es:List (List V)):cE k (pl k γ T es)=pl k γ T (es.map (List.map dY)):=by
 cases es with
 |nil=>rfl
 |cons e es=>simp[pl,cE]
@[simp] theorem AJZ{k j:Nat}(h:j≠k)(γ:Nat)(T:TypeId)(es:List (List V)):cE k (pl j γ T es)=pl j γ T es:=by
 cases es with
 |nil=>rfl
 |cons e es=>simp[pl,cE,h]
@[simp] theorem BFZ(es:List (List V)):dY (sl es)=.list false es:=by cases es<;>rfl
@[simp] theorem BAB:dY .nil=.list false []:=rfl
@[simp] theorem A44(b:Bool)(es:List (List V)):dY (.list b es)=.list b es:=rfl
section
variable {l k:Nat}{o:Option (Nat×AX)}
def gtf(l k:Nat)(o:Option (Nat×AX)):Option (Bool×V)→Option (Bool×V)
 |some (c,v)=>some (c,BD l k o 3 v)
 |none=>none
@[simp] theorem A45(c:Bool)(v:V):gtf l k o (some (c,v))=some (c,BD l k o 3 v):=rfl
@[simp] theorem A46:gtf l k o none=none:=rfl
@[simp] theorem AWO(fr:Fr)(j:Nat):BQ (NB l k o fr) j=gtf l k o (BQ fr j):=by
 rw[E9,E9,VD];cases fr.get j with
 |none=>rfl
 |some x=>rfl
end
@[simp] theorem BAC{k j:Nat}(h:j≠k)(r:Fr)(o:Option (Bool×V)):BQ (kx k r o) j=BQ r j:=by
 cases o with
 |none=>rfl
 |some x=>
  obtain⟨c,v⟩:=x
  simp[h]
end Go.Pg
