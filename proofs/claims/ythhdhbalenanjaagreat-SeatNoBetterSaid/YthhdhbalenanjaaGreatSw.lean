/- Rows told as lists, by simp. No program in sight. -/
import Derived.Test.YthhdhbalenanjaaGreatSx
set_option linter.unusedSimpArgs false
namespace Go.Pg
variable {P:Program}{l k:Nat}{o:Option (Nat×A6)}
@[simp] theorem A3D(st:XS):QD [] st=st:=rfl
@[simp] theorem AYP(k:Nat)(ks:List Nat)(c:Nat)(fr:Fr)(up:List AA)(loc:AA):QD (k::ks) ⟨c,fr,⟨up,loc⟩⟩=QD ks ⟨c,OX up.length k (loc.get k) fr,⟨up,FL up.length k (loc.get k) loc⟩⟩:=rfl
@[simp] theorem A3E:OX l k o []=[]:=rfl
@[simp] theorem AYQ(j:Nat)(c:Bool)(v:V)(fr:Fr):OX l k o ((j,c,v)::fr)=(j,c,BK l k o 3 v)::OX l k o fr:=rfl
@[simp] theorem A3F:FL l k o []=[]:=rfl
@[simp] theorem AYR(j g:Nat)(r:A6)(L:AA):FL l k o ((j,g,r)::L)=if j=k then FL l k o L else(j,g,K7 l k o r)::FL l k o L:=rfl
@[simp] theorem BB8(γ:Nat)(T:TypeId)(es:List (List V))(L:AA):FL l k o (pl k γ T es++L)=FL l k o L:=by cases es<;>simp
@[simp] theorem A3G(γ:Nat)(T:TypeId)(es:List (List V)):FL l k o (pl k γ T es)=[]:=by cases es<;>simp
theorem Y3:∀(f g:Nat) (v:V),AH g v=true→BK l k o f v=v
 |0,_,_,_=>rfl
 |f+1,0,v,h=>by cases h
 |f+1,g+1,v,h=>by
  have lst:∀cs:List V,cs.all (AH g)=true→cs.map (BK l k o f)=cs:=by
   intro cs h;conv=>rhs;rw[←List.map_id cs]
   exact List.map_congr_left fun x hx=>Y3 f g x (List.all_eq_true.1 h x hx)
  cases v with
  |vec _ _ _ _=>cases h
  |ptr _ _ _ _=>cases h
  |agg cs=>simp only[BK];rw[lst cs h]
  |tup cs=>simp only[BK];rw[lst cs h]
  |_=>rfl
theorem xO{cs:List V}(h:cs.all (AH 9)=true)(f:Nat):cs.map (BK l k o f)=cs:=by
 conv=>rhs;rw[←List.map_id cs]
 exact List.map_congr_left fun x hx=>Y3 f 9 x (List.all_eq_true.1 h x hx)
theorem AEH{es:List (List V)}(h:(es.all fun e=>e.all (AH 9))=true)(f:Nat):es.map (List.map (BK l k o f))=es:=by
 conv=>rhs;rw[←List.map_id es]
 exact List.map_congr_left fun x hx=>xO (List.all_eq_true.1 h x hx) f
@[simp] theorem AEI{j:Nat}(h:j≠k)(γ:Nat)(T:TypeId)(es:List (List V))(L:AA)(hc:(es.all fun e=>e.all (AH 9))=true):FL l k o (pl j γ T es++L)=pl j γ T es++FL l k o L:=by
 cases es with
 |nil=>rfl
 |cons e es=>
  have q:=AEH (l:=l) (k:=k) (o:=o) hc 3
  simp only[List.map_cons]at q
  simp[h,K7,q]
@[simp] theorem XX{j:Nat}(h:j≠k)(γ:Nat)(T:TypeId)(es:List (List V))(hc:(es.all fun e=>e.all (AH 9))=true):FL l k o (pl j γ T es)=pl j γ T es:=by have:=AEI (l:=l) (o:=o) h γ T es [] hc;simpa using this
@[simp] theorem A3H(cs:List V):K7 l k o (.box cs)=.box (cs.map (BK l k o 3)):=rfl
@[simp] theorem A3I(T:TypeId)(es:List (List V)):K7 l k o (.vec T es)=.vec T (es.map (List.map (BK l k o 3))):=rfl
@[simp] theorem A3J(es:List (V×V)):K7 l k o (.map es)=.map es:=rfl
@[simp] theorem AYS:K7 l k o .dead=.dead:=rfl
@[simp] theorem AYT(fr:List (Nat×Bool×V))(ps:List Tmp)(asg body:Code)(N:Nat)(st:LS):K7 l k o (.loop fr ps asg body N st)=.loop fr ps asg body N st:=rfl
@[simp] theorem kK(f:Nat)(i:IntKind)(n:Int):BK l k o f (.int i n)=.int i n:=by cases f<;>rfl
@[simp] theorem AYU(f:Nat)(b:Bool):BK l k o f (.bool b)=.bool b:=by cases f<;>rfl
@[simp] theorem A3K(f:Nat)(v:Value):BK l k o f (.raw v)=.raw v:=by cases f<;>rfl
@[simp] theorem AYV(f:Nat)(b:Bool)(es:List (List V)):BK l k o f (.list b es)=.list b es:=by cases f<;>rfl
@[simp] theorem BB9(f:Nat)(es:List (List V)):BK l k o f (sl es)=sl es:=by cases f<;>cases es<;>rfl
@[simp] theorem A3L(f:Nat)(cs:List V):BK l k o f (.ref cs)=.ref cs:=by cases f<;>rfl
theorem AEJ(f a b c d:Nat)(h:¬(a=l∧b=k)):BK l k o f (.ptr a b c d)=.ptr a b c d:=by
 cases f with
 |zero=>rfl
 |succ f=>
  simp only[BK]
  split
  ·rw[if_neg fun hh=>h ⟨hh.1,hh.2.1⟩]
  ·rfl
@[simp] theorem AYW(f a b c d:Nat)(h:¬b=k):BK l k o f (.ptr a b c d)=.ptr a b c d:=AEJ f a b c d fun hh=>h hh.2
@[simp] theorem AYX(γ:Nat)(T:TypeId)(es:List (List V))(f a b c d:Nat):BK l k (some (γ,.vec T es)) f (.ptr a b c d)=.ptr a b c d:=by cases f<;>rfl
@[simp] theorem AYY(γ:Nat)(cs:List V)(f a b g off:Nat):BK l k (some (γ,.box cs)) (f+1) (.ptr a b g off)=if a=l∧b=k∧g=γ then .ref ((cs.map O6).drop off) else .ptr a b g off:=rfl
@[simp] theorem BCA(q:IntKind)(n:Int):O6 (.int q n)=.int q n:=rfl
@[simp] theorem A3M(b:Bool):O6 (.bool b)=.bool b:=rfl
@[simp] theorem A3N(b:Bool)(es:List (List V)):O6 (.list b es)=.list b es:=rfl
@[simp] theorem BHM(es:List (List V)):O6 (sl es)=sl es:=by cases es<;>rfl
@[simp] theorem BCB:O6 .nil=.nil:=rfl
@[simp] theorem BHN(a b c:Nat):O6 (.mp a b c)=.any:=rfl
@[simp] theorem BCC:O6 .any=.any:=rfl
@[simp] theorem TL(f:Nat):AH (f+1) .any=true:=rfl
@[simp] theorem A3O:weakV .any=.any:=rfl
@[simp] theorem A3P:weakC .any=.any:=rfl
@[simp] theorem A3Q(f:Nat):BK l k o f .any=.any:=by cases f<;>rfl
@[simp] theorem BCD(f a b c:Nat):BK l k o f (.mp a b c)=.mp a b c:=by cases f<;>rfl
@[simp] theorem A3R(f a b c:Nat):BK l k o f (.yld a b c)=.yld a b c:=by cases f<;>rfl
@[simp] theorem BCE(f:Nat)(g:FuncId)(xs ys:List V):BK l k o f (.fn g xs ys)=.fn g xs ys:=by cases f<;>rfl
@[simp] theorem AEK(f:Nat):BK l k o f .nil=.nil:=by cases f<;>rfl
@[simp] theorem A3S(f:Nat)(cs:List V):BK l k o (f+1) (.agg cs)=.agg (cs.map (BK l k o f)):=rfl
@[simp] theorem A3T(f:Nat)(cs:List V):BK l k o (f+1) (.tup cs)=.tup (cs.map (BK l k o f)):=rfl
@[simp] theorem A3U(γ:Nat)(T:TypeId)(es:List (List V))(f l' k' g m:Nat):BK l k (some (γ,.vec T es)) (f+1) (.vec l' k' g m)=if l'=l∧k'=k∧g=γ∧m=es.length then .list false es else .vec l' k' g m:=rfl
@[simp] theorem BCF(γ:Nat)(T:TypeId)(es:List (List V))(f:Nat):BK 0 k ((pl k γ T es).get k) (f+1) (pv k γ es)=sl es:=by
 cases es with
 |nil=>rfl
 |cons e es=>simp[pv,sl]
@[simp] theorem A3V(γ:Nat)(T:TypeId)(es:List (List V))(f:Nat):BK 0 k (some (γ,.vec T es)) (f+1) (pv k γ es)=sl es:=by
 cases es with
 |nil=>rfl
 |cons e es=>simp[pv,sl]
@[simp] theorem A3W{j:Nat}(h:j≠k)(γ:Nat)(es:List (List V))(f:Nat):BK l k o f (pv j γ es)=pv j γ es:=by
 cases es with
 |nil=>cases f<;>rfl
 |cons e es=>
  cases f with
  |zero=>rfl
  |succ f=>
   simp only[pv,BK]
   split
   ·rw[if_neg (fun hh=>h hh.2.1)]
   ·rfl
noncomputable def oe2(d c:Nat)(fr:Fr)(s:St):Option Mk→Option XS→Option XS
 |some r,_=>some ⟨c+1,(d,true,r.val s.up.length d c)::fr,s.put s.up.length d c r.res⟩
 |none,z=>z
@[simp] theorem BHO(d c:Nat)(fr:Fr)(s:St)(T:TypeId)(es:List (List V))(z:Option XS):oe2 d c fr s (some ⟨.vec T es,none⟩) z=some ⟨c+1,(d,true,.vec s.up.length d c es.length)::fr,s.put s.up.length d c (.vec T es)⟩:=rfl
noncomputable def oe1(d c:Nat)(fr:Fr)(s:St)(F:List V→Option Mk):Option (List V)→Option XS→Option XS
 |some vs,z=>oe2 d c fr s (F vs) z
 |none,z=>z
@[simp] theorem AKC(d c:Nat)(fr:Fr)(s:St)(F:List V→Option Mk)(vs:List V)(z:Option XS):oe1 d c fr s F (some vs) z=oe2 d c fr s (F vs) z:=rfl
variable {A:Ann}{kn:CF0}{n:Nat}{fr:Fr}{s:St}
@[simp] theorem BHP{f:FuncId}(hS:IF P f=true)(d c:Nat)(args:List Operand):DD P (BN P A kn n) (some d) (.call true none (.func f) args) ⟨c,fr,s⟩ =
  oe1 d c fr s (fun vs=>OJ P (AE P A kn n) f (vs.map weakV)) (F3 (CO fr) args) (R9 (BN P A kn n).cf (BN P A kn n).cy (some d) (.func f) args ⟨c,fr,s⟩):=by
 show dY (BN P A kn n) true (some d) (.func f) args ⟨c,fr,s⟩=_
 unfold dY
 show(match IC (BN P A kn n).co (some d) (.func f) args ⟨c,fr,s⟩ with|some st'=>some st'|none=>_)=_
 unfold IC
 have hf:CO fr (.func f)=some (.fn f [] []):=rfl
 simp only[hf]
 cases F3 (CO fr) args with
 |none=>rfl
 |some vs=>
  simp only[AKC,List.nil_append,List.append_nil]
  have:(BN P A kn n).co f (vs.map weakV) d=OJ P (AE P A kn n) f (vs.map weakV):=by show QB P kn (fun _ _ _=>none) (AE P A kn n) f _ d=_;unfold QB;simp only[hS]
  rw[this]
  cases OJ P (AE P A kn n) f (vs.map weakV)with
  |none=>rfl
  |some r=>rfl
noncomputable def of2(d c:Nat)(fr:Fr)(s:St):Option Mk→Option XS
 |some r=>some ⟨c+1,(d,true,r.val s.up.length d c)::fr,s.put s.up.length d c r.res⟩
 |none=>none
@[simp] theorem BHQ(d c:Nat)(fr:Fr)(s:St)(T:TypeId)(es:List (List V)):of2 d c fr s (some ⟨.vec T es,none⟩)=some ⟨c+1,(d,true,.vec s.up.length d c es.length)::fr,s.put s.up.length d c (.vec T es)⟩:=rfl
noncomputable def of1(d c:Nat)(fr:Fr)(s:St)(F:List V→Option Mk):Option (List V)→Option XS
 |some vs=>of2 d c fr s (F vs)
 |none=>none
@[simp] theorem AKD(d c:Nat)(fr:Fr)(s:St)(F:List V→Option Mk)(vs:List V):of1 d c fr s F (some vs)=of2 d c fr s (F vs):=rfl
@[simp] theorem BCG{f:FuncId}(hS:IF P f=true)(d c:Nat)(args:List Operand):D3 P (BN P A kn n) (some d) (.call true none (.func f) args) ⟨c,fr,s⟩ =
  nw (of1 d c fr s (fun vs=>OJ P (AE P A kn n) f (vs.map weakV)) (F3 (CO fr) args)):=by
 show VZ (IC (BN P A kn n).co (some d) (.func f) args ⟨c,fr,s⟩)=_
 rw[HD]
 congr 1
 unfold IC
 have hf:CO fr (.func f)=some (.fn f [] []):=rfl
 simp only[hf]
 cases F3 (CO fr) args with
 |none=>rfl
 |some vs=>
  simp only[AKD,List.nil_append,List.append_nil]
  have:(BN P A kn n).co f (vs.map weakV) d=OJ P (AE P A kn n) f (vs.map weakV):=by show QB P kn (fun _ _ _=>none) (AE P A kn n) f _ d=_;unfold QB;simp only[hS]
  rw[this]
  cases OJ P (AE P A kn n) f (vs.map weakV)with
  |none=>rfl
  |some r=>rfl
noncomputable def BCH(P:Program)(fn:Func)(r:Option (Exit×XS)):Option Mk:=match r with
 |some (.ret,st)=>wJ P fn st
 |some (.normal,st)=>wJ P fn st
 |_=>none
@[simp] theorem BCI(fn:Func)(st:XS):BCH P fn (some (.ret,st))=wJ P fn st:=rfl
@[simp] theorem ATS(fn:Func)(st:XS):BCH P fn (some (.normal,st))=wJ P fn st:=rfl
noncomputable def rO(P:Program)(fn:Func)(st:XS)(v:Option V):Option Mk:=match v with
 | some (.vec l k γ n)=>Bool.rec none (match st.s.loc.get k with
  |some (γ',.vec T es)=>Bool.rec none (some ⟨.vec T es,none⟩) (Nat.beq γ' γ&&Nat.beq n es.length&&es.all fun e=>e.all (AH 9))
  | _=>none) (Nat.beq l st.s.up.length)
 | some v=>Bool.rec none (match fn.resultTypes.toList with
  |[R]=>match B0 P R with
   |some (none,T)=>some ⟨.vec T [],none⟩
   |_=>none
  | _=>none) (ZA v)
 |none=>none
end Go.Pg
namespace Go.Pg
section
@[simp] theorem DG{α:Type}(x:α):∀(l:List α),CL (l++[x])=some (l,x)
 |[]=>rfl
 |[y]=>rfl
 |y::z::l=>by have:=DG x (z::l);simp only[List.cons_append]at this⊢;rw[Y5,this];rfl
end
section
variable {P:Program}{E:XE}{d:Option Tmp}{c:Nat}{fr:Fr}{s:St}{r:Operand→Option V}
@[simp] theorem AYZ(T:TypeId)(x i:Operand)(ok:Bool):JR P (kL (.lookup T x i ok)) s r=o2 (fun a b=>D9 P s T a b ok) (r x) (r i):=by show((r x).bind fun a=>(r i).bind fun b=>D9 P s T a b ok)=_;cases r x<;>cases r i<;>rfl
noncomputable def up1(c:Nat)(fr:Fr)(s:St):Option (Nat×Nat×Nat×List (V×V))→Option XS
 |some (l,q,γ,es)=>Bool.rec none (some ⟨c,fr,s.put l q γ (.map es)⟩) (Nat.blt γ c)
 |none=>none
noncomputable def up3(P:Program)(T:TypeId)(c:Nat)(fr:Fr)(s:St):Option V→Option V→Option V→Option XS
 |some m,some i,some v=>up1 c fr s (M3 P s T m i v)
 |_,_,_=>none
@[simp] theorem BCJ(T:TypeId)(m i v:V):up3 P T c fr s (some m) (some i) (some v)=up1 c fr s (M3 P s T m i v):=rfl
theorem AKE(l q γ:Nat)(es:List (V×V))(h:γ<c):up1 c fr s (some (l,q,γ,es))=some ⟨c,fr,s.put l q γ (.map es)⟩:=by
 have:Nat.blt γ c=true:=by simpa [Nat.blt_eq]using h
 show(Bool.rec none (some ⟨c,fr,s.put l q γ (.map es)⟩) (Nat.blt γ c):Option XS)=_;rw[this]
@[simp] theorem A3X(T:TypeId)(x i y:Operand):DD P E none (.upd T x i y) ⟨c,fr,s⟩=up3 P T c fr s (CO fr x) (CO fr i) (CO fr y):=by show AD0 P none T x i y ⟨c,fr,s⟩=_;unfold AD0 up3 up1;simp only;cases CO fr x<;>cases CO fr i<;>cases CO fr y<;>simp only;split<;>simp_all
@[simp] theorem BCK(x:Operand):JR P (kL (.nilCheck x)) s r=o1 OQ (r x):=by show(r x).bind OQ=_;cases r x<;>rfl
@[simp] theorem A3Y(l k g o:Nat):OQ (.ptr l k g o)=some (.ptr l k g o):=rfl
@[simp] theorem BCL(x:Operand)(f:Operand→Option V):II P (.oth (.nilCheck x)) f=[]:=rfl
@[simp] theorem BCM(T:TypeId)(x i:Operand)(ok:Bool)(f:Operand→Option V):II P (.oth (.lookup T x i ok)) f=BD (f x):=rfl
@[simp] theorem AY0(l k g:Nat):CD s (.mp l k g)=some (.mp l k g):=rfl
theorem OL{α:Type}{f:α→Option α}:∀{l:List α},(∀x∈l,f x=some x)→HM f l=some l
 |[],_=>rfl
 |x::l,h=>by have ih:=OL (f:=f) (l:=l) fun y hy=>h y (by simp[hy]);simp only[HM,h x (by simp),ih]
theorem V8:∀(l:List AA) (b:AA),CL (l++[b])=some (l,b)
 |[],b=>by simp
 |[a],b=>by simp
 |a::a2::l,b=>by have:=V8 (a2::l) b;simp only[List.cons_append]at this⊢;simp[this]
@[simp] theorem A3Z(a:AA)(l:List AA)(b:AA):CL (a::(l++[b]))=some (a::l,b):=V8 (a::l) b
@[simp] theorem AY1(l k g:Nat):BD (some (.mp l k g))=[(l,k)]:=rfl
@[simp] theorem A30(d:Nat):DD P E (some d) (.mkM none) ⟨c,fr,s⟩=some ⟨c+1,(d,true,.mp s.up.length d c)::fr,s.put s.up.length d c (.map [])⟩:=rfl
end
section
variable {P:Program}{s:St}{r:Operand→Option V}
@[simp] theorem AY2(T:TypeId)(x h:Operand):JR P (kL (.slice T x none (some h) none)) s r=o2 (fun a b=>CC P s T a none (some b) none) (r x) (r h):=by show((r x).bind fun a=>((some none:Option (Option V))).bind fun l=>((r h).map some).bind fun h=>((some none:Option (Option V))).bind fun m=>CC P s T a l h m)=_;cases r x<;>cases r h<;>rfl
theorem fF{T e:TypeId}{es:List (List V)}{h:Int}{b:Bool}(hT:B0 P T=some (none,e))(hc:0<P.cellsOf e)(h1:0≤h)(h2:h≤es.length):CC P s T (.list b es) none (some (.int .i64 h)) none=some (.list false (es.take h.toNat)):=by simp only[CC,hT];rw[if_pos ⟨h1,h2,hc⟩]
end
section
variable {P:Program}{E:XE}{c:Nat}{fr:Fr}{s:St}{r:Operand→Option V}
@[simp] theorem AY3(T:TypeId)(x l:Operand):JR P (kL (.slice T x (some l) none none)) s r=o2 (fun a b=>CC P s T a (some b) none none) (r x) (r l):=by show((r x).bind fun a=>((r l).map some).bind fun l=>(some none).bind fun h=>(some none).bind fun m=>CC P s T a l h m)=_;cases r x<;>cases r l<;>rfl
theorem AEL{T e:TypeId}{l k g n h:Nat}(hT:B0 P T=some (none,e))(hh:h≤n)(hc:0<P.cellsOf e):CC P s T (.vec l k g n) none (some (.int .i64 (h:Int))) none=some (.vec l k g h):=by unfold CC;simp only[hT];rw[if_pos ⟨by omega,by omega,hc⟩];simp
end
section
variable {P:Program}{fr:Fr}{s:St}
@[simp] theorem BHS(e d c:Nat)(ys:List (List V))(h:B9 P e 0 ys=true):xY P e d c fr s (.list true []) ys=some (⟨c+1,(d,true,.vec s.up.length d c ys.length)::fr,s.put s.up.length d c (.vec e ys)⟩,[(s.up.length,d),(s.up.length,d+GD)]):=by unfold xY;simp[JA,h]
@[simp] theorem BHT(e d c l q γ n:Nat)(ys:List (List V)):xY P e d c fr s (.vec l q γ n) ys=wp [(l,q),(l,q+GD)] (apW P e d c fr s l q γ n ys (S6 n ys (s.get l q))):=rfl
@[simp] theorem AY4(l k g i o:Nat):OQ (.eptr l k g i o)=some (.eptr l k g i o):=rfl
end
section
@[simp] theorem AOO{P:Program}{A:Ann}{kn:CF0}{n:Nat}:(BN P A kn n).cy=eD (AE P A kn n):=rfl
end
section
variable {P:Program}{A:Ann}{kn:CF0}{n:Nat}{fr:Fr}{s:St}
noncomputable def oc2(d c:Nat)(fr:Fr)(s:St):Option V→Option XS→Option XS
 |some r,_=>some ⟨c+1,(d,true,r.ren (fun _=>c) s.up.length)::fr,s.put s.up.length d c .dead⟩
 |none,z=>z
@[simp] theorem BCN(d c:Nat)(r:V)(z:Option XS):oc2 d c fr s (some r) z=some ⟨c+1,(d,true,r.ren (fun _=>c) s.up.length)::fr,s.put s.up.length d c .dead⟩:=rfl
noncomputable def oc1(d c:Nat)(fr:Fr)(s:St)(F:List V→Option V):Option (List V)→Option XS→Option XS
 |some vs,z=>oc2 d c fr s (F vs) z
 |none,z=>z
@[simp] theorem AKF(d c:Nat)(F:List V→Option V)(vs:List V)(z:Option XS):oc1 d c fr s F (some vs) z=oc2 d c fr s (F vs) z:=rfl
@[simp] theorem BCO{f:FuncId}(hS:IF P f=false)(d c:Nat)(args:List Operand):DD P (BN P A kn n) (some d) (.call true none (.func f) args) ⟨c,fr,s⟩ =
  oc1 d c fr s (fun vs=>GC P kn (AE P A kn n) f (vs.map weakV)) (F3 (CO fr) args) (R9 (BN P A kn n).cf (BN P A kn n).cy (some d) (.func f) args ⟨c,fr,s⟩):=by
 show dY (BN P A kn n) true (some d) (.func f) args ⟨c,fr,s⟩=_
 unfold dY
 show(match IC (BN P A kn n).co (some d) (.func f) args ⟨c,fr,s⟩ with|some st'=>some st'|none=>_)=_
 unfold IC
 have hf:CO fr (.func f)=some (.fn f [] []):=rfl
 simp only[hf]
 cases F3 (CO fr) args with
 |none=>rfl
 |some vs=>
  simp only[AKF,List.nil_append,List.append_nil]
  have:(BN P A kn n).co f (vs.map weakV) d=(match GC P kn (AE P A kn n) f (vs.map weakV)with|some r=>some ⟨.dead,some r⟩|none=>none):=by show QB P kn (fun _ _ _=>none) (AE P A kn n) f _ d=_;unfold QB;simp only[hS];cases GC P kn (AE P A kn n) f (vs.map weakV)<;>rfl
  rw[this]
  cases GC P kn (AE P A kn n) f (vs.map weakV)with
  |none=>rfl
  |some r=>rfl
noncomputable def od2(d c:Nat)(fr:Fr)(s:St):Option V→Option XS
 |some r=>some ⟨c+1,(d,true,r.ren (fun _=>c) s.up.length)::fr,s.put s.up.length d c .dead⟩
 |none=>none
@[simp] theorem BCP(d c:Nat)(r:V):od2 d c fr s (some r)=some ⟨c+1,(d,true,r.ren (fun _=>c) s.up.length)::fr,s.put s.up.length d c .dead⟩:=rfl
noncomputable def od1(d c:Nat)(fr:Fr)(s:St)(F:List V→Option V):Option (List V)→Option XS
 |some vs=>od2 d c fr s (F vs)
 |none=>none
@[simp] theorem AKG(d c:Nat)(F:List V→Option V)(vs:List V):od1 d c fr s F (some vs)=od2 d c fr s (F vs):=rfl
@[simp] theorem A31{f:FuncId}(hS:IF P f=false)(d c:Nat)(args:List Operand):D3 P (BN P A kn n) (some d) (.call true none (.func f) args) ⟨c,fr,s⟩ =
  nw (od1 d c fr s (fun vs=>GC P kn (AE P A kn n) f (vs.map weakV)) (F3 (CO fr) args)):=by
 show VZ (IC (BN P A kn n).co (some d) (.func f) args ⟨c,fr,s⟩)=_
 rw[HD]
 congr 1
 unfold IC
 have hf:CO fr (.func f)=some (.fn f [] []):=rfl
 simp only[hf]
 cases F3 (CO fr) args with
 |none=>rfl
 |some vs=>
  simp only[AKG,List.nil_append,List.append_nil]
  have:(BN P A kn n).co f (vs.map weakV) d=(match GC P kn (AE P A kn n) f (vs.map weakV)with|some r=>some ⟨.dead,some r⟩|none=>none):=by show QB P kn (fun _ _ _=>none) (AE P A kn n) f _ d=_;unfold QB;simp only[hS];cases GC P kn (AE P A kn n) f (vs.map weakV)<;>rfl
  rw[this]
  cases GC P kn (AE P A kn n) f (vs.map weakV)with
  |none=>rfl
  |some r=>rfl
end
section
variable {fr:Fr}{s:St}
@[simp] theorem ATT(l k g:Nat):CD s (.yld l k g)=some (.yld l k g):=rfl
@[simp] theorem ATU(f:Nat)(cs:List V):A9 s (f+1) (.ref cs)=some (.ref cs):=rfl
@[simp] theorem BCQ{P:Program}:F8 P [] fr s=some (.tup []):=rfl
@[simp] theorem ATV(f:Nat):A9 s (f+1) (.tup [])=some (.tup []):=rfl
@[simp] theorem AKH:CX .nilFunc=some (.raw .nilFunc):=rfl
@[simp] theorem AY5(f l k g:Nat):AH (f+1) (.yld l k g)=false:=rfl
@[simp] theorem BCR(l k g:Nat):weakV (.yld l k g)=.yld l k g:=rfl
@[simp] theorem BHV(d c l k g:Nat):bx1 d c fr s (some (.yld l k g))=some ⟨c+1,(d,true,.ptr s.up.length d c 0)::fr,s.put s.up.length d c (.box [.yld l k g])⟩:=rfl
@[simp] theorem BHW(F:List V→Option (List V))(g off:Nat)(g':Nat)(cs:List V):cp1 F g off (some (g',.box cs))=if g'=g then(F cs).map (fun ds=>V.ref (ds.drop off)) else none:=rfl
noncomputable def mk4(P:Program)(d c:Nat)(fr:Fr)(s:St)(e:TypeId)(n m:Int):Option (List V)→Option XS
 |some z=>if 0≤n∧m=n∧z.length=P.cellsOf e∧n.toNat*P.bytesOf e≤140737488355328∧n.toNat≤maxLen then some ⟨c+1,(d,true,.vec s.up.length d c n.toNat)::fr,s.put s.up.length d c (.vec e (List.replicate n.toNat z))⟩ else none
 |none=>none
@[simp] theorem BCS{P:Program}(d c:Nat)(e:TypeId)(n m:Int)(z:List V):mk4 P d c fr s e n m (some z)=if 0≤n∧m=n∧z.length=P.cellsOf e∧n.toNat*P.bytesOf e≤140737488355328∧n.toNat≤maxLen then some ⟨c+1,(d,true,.vec s.up.length d c n.toNat)::fr,s.put s.up.length d c (.vec e (List.replicate n.toNat z))⟩ else none:=rfl
noncomputable def mk3(P:Program)(d c:Nat)(fr:Fr)(s:St):Option (Option Nat×TypeId)→Option V→Option V→Option XS
 |some (none,e),some (.int _ n),some (.int _ m)=>mk4 P d c fr s e n m (CG P e)
 |_,_,_=>none
@[simp] theorem AKI{P:Program}(d c:Nat)(e:TypeId)(k1 k2:IntKind)(n m:Int):mk3 P d c fr s (some (none,e)) (some (.int k1 n)) (some (.int k2 m))=mk4 P d c fr s e n m (CG P e):=rfl
@[simp] theorem A32{P:Program}{E:XE}(T:TypeId)(d c:Nat)(x y:Operand):DD P E (some d) (.mkS T x y) ⟨c,fr,s⟩=mk3 P d c fr s (B0 P T) (CO fr x) (CO fr y):=by
 show Y0 P (some d) T x y ⟨c,fr,s⟩=_;unfold Y0;simp only;cases B0 P T with
 |none=>cases CO fr x<;>cases CO fr y<;>rfl
 |some p=>
  obtain⟨k,e⟩:=p
  cases k with
  |some k=>cases CO fr x<;>cases CO fr y<;>rfl
  |none=>
   cases CO fr x with
   |none=>rfl
   |some a=>
    cases CO fr y with
    |none=>cases a<;>rfl
    |some z=>
     cases a with
     |int k1 n=>
      cases z with
      |int k2 m=>simp only[AKI];cases CG P e<;>rfl
      |_=>rfl
     |_=>rfl
@[simp] theorem BHX{P:Program}(T:TypeId)(x y:Operand)(r:Operand→Option V):II P (.mkS T x y) r=[]:=rfl
noncomputable def rE(fr:Fr)(n γ:Nat)(r:Option XS):Option (Exit×XS):=match r with
 |some st=>match st.s.get n BT with
  | some (γ',.loop _ _ _ _ _ ls)=>Bool.rec none (match ls with
   |.ready=>some (.normal,⟨st.c,fr,st.s.put n BT γ .dead⟩)
   |.left .ret=>some (.ret,⟨st.c,fr,st.s.put n BT γ .dead⟩)
   |.left (.exit id)=>some (.exit id,⟨st.c,fr,st.s.put n BT γ .dead⟩)
   | _=>none) (Nat.beq γ' γ&&Nat.blt γ st.c)
  |_=>none
 |none=>none
theorem XY{P:Program}{A:Ann}{kn:CF0}{n N:Nat}{g:Operand}{ps:List Tmp}{asg body:Code}{c:Nat}{up:List AA}{loc:AA}{f:FuncId}{first cap:List V}(h:CO fr g=some (.fn f first cap)) :
  XN (BN P A kn n).cf N g ps asg body ⟨c,fr,⟨up,loc⟩⟩=rE fr up.length c (G4 (BN P A kn n) none ⟨c+1,fr,⟨up,(BT,c,.loop fr ps asg body N .ready)::loc⟩⟩ f ((first++[V.yld up.length BT c]++cap).map weakV)):=by
 unfold XN
 simp only[h]
 unfold G4 mK rE
 simp only[St.put,if_true,AA.put]
 cases (BN P A kn n).cf f ((first++[V.yld up.length BT c]++cap).map weakV) ⟨c+1,fr,⟨up,(BT,c,.loop fr ps asg body N .ready)::loc⟩⟩ with
 |none=>rfl
 |some r=>rfl
theorem fG{n γ c:Nat}{fr' fr0:Fr}{s:St}{ps:List Tmp}{asg body:Code}{N:Nat}(h:s.get n BT=some (γ,.loop fr0 ps asg body N .ready))(hc:γ<c):rE fr n γ (some ⟨c,fr',s⟩)=some (.normal,⟨c,fr,s.put n BT γ .dead⟩):=by
 unfold rE;simp only[h];have:(Nat.beq γ γ&&Nat.blt γ c)=true:=by simpa using hc
 rw[this]
@[simp] theorem A33(t:St)(fr0:Fr)(ps:List Tmp)(asg body:Code)(N:Nat)(l:LS):CM t (.loop fr0 ps asg body N l)=.loop fr0 ps asg body N l:=rfl
theorem ZX{rec:GU}{l q γ c N:Nat}{fr0:Fr}{ps:List Tmp}{asg body:Code}{vs:List V}(h:s.get l q=some (γ,.loop fr0 ps asg body N .ready))(hv:vs.length=ps.length)(hc:γ<c) :
  eD rec l q γ vs ⟨c,fr,s⟩=XO fr l q γ (eC (rec N) l q γ body (rec N asg ⟨c,J8 fr0 ps vs,⟨s.up++[s.loc],[]⟩⟩)):=by
 unfold eD
 simp only[h]
 have:(Nat.beq γ γ&&Nat.beq vs.length ps.length&&Nat.blt γ c)=true:=by simp[hv,hc]
 rw[this]
theorem JJ{rec:gC}{l q γ c N:Nat}{fr0:Fr}{ps:List Tmp}{asg body body':Code}(h:s.get l q=some (γ,.loop fr0 ps asg body' N .ready))(hc:γ<c) :
  eC rec l q γ body (some (.normal,⟨c,fr,s⟩))=rec body ⟨c,fr,s.put l q γ (.loop fr0 ps asg body' N .busy)⟩:=by
 unfold eC
 simp only[h]
 have:(Nat.beq γ γ&&Nat.blt γ c)=true:=by simp[hc]
 rw[this]
theorem SF{fr':Fr}{l q γ c N:Nat}{fr0:Fr}{ps:List Tmp}{asg body:Code}{up u:List AA}{loc lc:AA}(h:St.get ⟨up,loc⟩ l q=some (γ,.loop fr0 ps asg body N .busy))(hu:CL up=some (u,lc))(hl:l<up.length)(hc:γ<c) :
  XO fr l q γ (some (.normal,⟨c,fr',⟨up,loc⟩⟩))=some (.bool true,⟨c,fr,St.put ⟨u.map (AL ⟨up,loc⟩),AL ⟨up,loc⟩ lc⟩ l q γ (.loop fr0 ps asg body N .ready)⟩):=by
 unfold XO
 simp only[h,hu]
 have:(Nat.beq γ γ&&Nat.blt l up.length&&Nat.blt γ c)=true:=by simp[hc,hl]
 rw[this]
 rfl
end
section
noncomputable def tkU(z:Option XS)(d:Option Tmp)(st:XS):Option V→Option XS
 |some r=>Bool.rec z (DY d st (some r)) (eN r)
 |none=>z
@[simp] theorem BHY(z:Option XS)(d:Option Tmp)(st:XS)(k:IntKind)(n:Int):tkU z d st (some (.int k n))=DY d st (some (.int k n)):=rfl
@[simp] theorem BCT(z:Option XS)(d:Option Tmp)(st:XS)(b:Bool):tkU z d st (some (.bool b))=DY d st (some (.bool b)):=rfl
@[simp] theorem A34(l k g n:Nat):weakC (.vec l k g n)=.vec l k g n:=rfl
@[simp] theorem AEM(st:XS)(v:V):I1 st [] v=v:=rfl
@[simp] theorem xP(k:Nat)(ks:List Nat)(c:Nat)(fr:Fr)(up:List AA)(loc:AA)(v:V)(h:k<10000):I1 ⟨c,fr,⟨up,loc⟩⟩ (k::ks) v=I1 ⟨c,fr,⟨up,loc⟩⟩ ks (BK up.length k (loc.get k) 3 v):=by
 have:Nat.blt k 10000=true:=by simpa [Nat.blt_eq]using h
 simp only[I1,this,cond_true]
@[simp] theorem GQ(k:Nat)(ks:List Nat)(st:XS)(v:V)(h:¬k<10000):I1 st (k::ks) v=I1 st ks (BK (k / 10000-1) (k % 10000) (st.s.get (k / 10000-1) (k % 10000)) 3 v):=by
 have:Nat.blt k 10000=false:=by
  cases hb:Nat.blt k 10000 with
  |false=>rfl
  |true=>exact absurd (by simpa [Nat.blt_eq]using hb) h
 simp only[I1,this,cond_false]
@[simp] theorem BHZ{P:Program}{A:Ann}{kn:CF0}{n k:Nat}{us:List Nat}(d:Option Tmp)(st:XS)(f:FuncId)(args:List V):G4 (cfU (k::us) (BN P A kn n)) d st f args=tkU (G4 (BN P A kn n) d st f args) d st (GC P kn (AE P A kn n) f (args.map (I1 st (k::us)))):=by
 show(match sG (BN P A kn n).cf (BN P A kn n).c0 (k :: us) f args st with
  |some (r,st')=>some (⟨st'.c,putD st'.fr d true r,st'.s⟩:XS)
  | none=>none)=_
 unfold sG;have e:(BN P A kn n).c0=GC P kn (AE P A kn n):=rfl;rw[e];cases GC P kn (AE P A kn n) f (args.map (I1 st (k::us)))with
 |none=>rfl
 |some r=>
  show(match(Bool.rec ((BN P A kn n).cf f args st) (some (r,st)) (eN r):Option (V×XS))with
   |some (r,st')=>some (⟨st'.c,putD st'.fr d true r,st'.s⟩:XS)
   | none=>none)=(Bool.rec (G4 (BN P A kn n) d st f args) (DY d st (some r)) (eN r):Option XS)
  cases eN r<;>rfl
@[simp] theorem AY6(k:IntKind)(n:Int):mN (.int k n)=true:=rfl
@[simp] theorem ATW(b:Bool):mN (.bool b)=true:=rfl
end
theorem LB{j k:Nat}(h:j≠k)(γ γ2:Nat)(T T2:TypeId)(es fs:List (List V)):kl j (kl k [] ((pl j γ T es++pl k γ2 T2 fs).get k)) ((pl j γ T es++pl k γ2 T2 fs).get j)=pl j γ T es++pl k γ2 T2 fs:=by cases es<;>cases fs<;>simp[h,h.symm]
theorem G7{j k:Nat}(h:j≠k)(γ γ2:Nat)(T T2:TypeId)(es fs:List (List V)):(pl j γ T es++pl k γ2 T2 fs).get k=(pl k γ2 T2 fs).get k:=by cases es<;>cases fs<;>simp[h.symm]
theorem LC{j k:Nat}(h:j≠k)(γ γ2:Nat)(T T2:TypeId)(es fs:List (List V))(M:AA):kl j M ((pl j γ T es++pl k γ2 T2 fs).get j)=pl j γ T es++M:=by cases es<;>cases fs<;>simp[h,h.symm]
theorem ABK{j k:Nat}(h:j≠k)(γ:Nat)(T:TypeId)(es:List (List V))(x:Nat×A6):(pl j γ T es++[(k,x)]).get k=some x:=by cases es<;>simp[h.symm]
theorem AKJ{j k:Nat}(h:j≠k)(γ:Nat)(T:TypeId)(es:List (List V))(x:Nat×A6)(M:AA):kl j M ((pl j γ T es++[(k,x)]).get j)=pl j γ T es++M:=by cases es<;>simp[h,h.symm]
theorem G8{j k:Nat}(h:j≠k)(γ γ2:Nat)(T T2:TypeId)(es fs:List (List V)):(pl j γ T es++pl k γ2 T2 fs).get j=(pl j γ T es).get j:=by cases es<;>cases fs<;>simp[h]
theorem IH{j k m:Nat}(h1:j≠m)(h2:k≠m)(γ γ2:Nat)(T T2:TypeId)(es fs:List (List V)):(pl j γ T es++pl k γ2 T2 fs).get m=none:=by cases es<;>cases fs<;>simp[h1.symm,h2.symm]
theorem LD{j:Nat}(γ:Nat)(T:TypeId)(es:List (List V))(M:AA):kl j M ((pl j γ T es).get j)=pl j γ T es++M:=by cases es<;>simp
theorem QK{t:St}{T:TypeId}{es:List (List V)}(h:∀e∈es,∀v∈e,CD t v=some v):CM t (.vec T es)=.vec T es:=by
 have:CJ t (.vec T es)=some (.vec T es):=by unfold CJ;simp only;rw[OL fun e he=>OL fun v hv=>h e he v hv]
 unfold CM;rw[this]
@[simp] theorem AY7{P:Program}{A:Ann}{kn:CF0}{n N l:Nat}{st:XS}:AE P A kn (n+1) N (.label l) st=some (.normal,st):=rfl
theorem KJ{α:Type}(p:α→Bool):∀(l:List α),(!l.any fun x=>!p x)=l.all p
 |[]=>rfl
 |x::l=>by have:=KJ p l;simp only[List.any_cons,List.all_cons,Bool.not_or,Bool.not_not,←this]
section
variable {P:Program}{fr:Fr}{s:St}
def pt(k γ:Nat):List (List V)→V
 |[]=>.list true []
 |e::es=>.vec 0 k γ (e::es).length
@[simp] theorem BNY(k γ:Nat):pt k γ []=.list true []:=rfl
@[simp] theorem BH0(k γ:Nat)(e:List V)(es:List (List V)):pt k γ (e::es)=.vec 0 k γ (es.length+1):=rfl
@[simp] theorem BNZ(e k c γ:Nat)(loc:AA)(es:List (List V))(y:List V)(ys:List (List V))(hl:AA.get loc k=(pl k γ e es).get k)(h1:es.all (fun y=>y.length==P.cellsOf e)=true)(h2:B9 P e es.length (y::ys)=true) :
  apV P e k c fr ⟨[],loc⟩ (pt k γ es) (y::ys)=some ⟨c+1,(k,true,pt k c (es++y::ys))::fr,⟨[],(k,c,.vec e (es++y::ys))::loc⟩⟩:=by
 cases es with
 |nil=>
  simp only[List.length_nil]at h2
  simp[h2,pt]
 |cons z es=>
  have h:=A01 (P:=P) (fr:=fr) e k c γ loc (z::es) y ys hl h1 h2
  exact h
theorem AEN{T:TypeId}(f:Nat)(loc:AA)(k γ:Nat)(es:List (List V))(hl:AA.get loc k=(pl k γ T es).get k):A9 ⟨[],loc⟩ (f+1) (pt k γ es)=some (.list false es):=by
 cases es with
 |nil=>rfl
 |cons e es=>exact RE (T:=T) f loc k γ (e::es) hl
@[simp] theorem AY8(f k γ:Nat)(T:TypeId)(es:List (List V)):A9 ⟨[],pl k γ T es⟩ (f+1) (pt k γ es)=some (.list false es):=AEN (T:=T) f _ k γ es rfl
@[simp] theorem A35(k γ:Nat)(es:List (List V)):BI (pt k γ es)=[pt k γ es]:=by cases es<;>rfl
@[simp] theorem A36(k γ:Nat)(es:List (List V)):BJ (pt k γ es)=true:=by cases es<;>rfl
end
@[simp] theorem BH1(st:XS):KI [] st=st:=rfl
@[simp] theorem BCU(k:Nat)(ks:List Nat)(c:Nat)(fr:Fr)(up:List AA)(loc:AA)(h:k<1000):KI (k::ks) ⟨c,fr,⟨up,loc⟩⟩=KI ks ⟨c,OX up.length k (loc.get k) fr,⟨up,FL up.length k (loc.get k) loc⟩⟩:=by
 have h1:Nat.blt k 1000=true:=by simpa [Nat.blt_eq]using h
 show KI ks (gh1 k ⟨c,fr,⟨up,loc⟩⟩)=_;unfold gh1;rw[h1];rfl
@[simp] theorem BCV(k:Nat)(ks:List Nat)(c:Nat)(fr:Fr)(up:List AA)(loc:AA)(h:2000000000000000≤k):KI (k::ks) ⟨c,fr,⟨up,loc⟩⟩=KI ks ⟨c,fr,⟨up,gY (k % 1000) loc⟩⟩:=by
 have h1:Nat.blt k 1000=false:=by rw[←Bool.not_eq_true,Nat.blt_eq];omega
 have h2:Nat.blt k 1000000000000000=false:=by rw[←Bool.not_eq_true,Nat.blt_eq];omega
 have h3:Nat.blt k 2000000000000000=false:=by rw[←Bool.not_eq_true,Nat.blt_eq];omega
 show KI ks (gh1 k ⟨c,fr,⟨up,loc⟩⟩)=_;unfold gh1;rw[h1,h2,h3];rfl
@[simp] theorem BH2(k:Nat):gY k []=[]:=rfl
@[simp] theorem BCW(k j g:Nat)(r:A6)(L:AA):gY k ((j,g,r)::L)=(j,g,if j=k then wkR r else r)::gY k L:=rfl
@[simp] theorem BH3(T:TypeId)(es:List (List V)):wkR (.vec T es)=.vec T (es.map (List.map jY)):=rfl
@[simp] theorem BH4(cs:List V):wkR (.box cs)=.box (cs.map jY):=rfl
@[simp] theorem BN0(k γ:Nat)(T:TypeId)(es:List (List V)):gY k (pl k γ T es)=pl k γ T (es.map (List.map jY)):=by
 cases es with
 |nil=>rfl
 |cons e es=>simp[pl,gY]
@[simp] theorem AP8{k j:Nat}(h:j≠k)(γ:Nat)(T:TypeId)(es:List (List V)):gY k (pl j γ T es)=pl j γ T es:=by
 cases es with
 |nil=>rfl
 |cons e es=>simp[pl,gY,h]
@[simp] theorem BN1(es:List (List V)):jY (sl es)=.list false es:=by cases es<;>rfl
@[simp] theorem BH5:jY .nil=.list false []:=rfl
@[simp] theorem BCX(b:Bool)(es:List (List V)):jY (.list b es)=.list b es:=rfl
section
variable {l k:Nat}{o:Option (Nat×A6)}
def gtf(l k:Nat)(o:Option (Nat×A6)):Option (Bool×V)→Option (Bool×V)
 |some (c,v)=>some (c,BK l k o 3 v)
 |none=>none
@[simp] theorem BCY(c:Bool)(v:V):gtf l k o (some (c,v))=some (c,BK l k o 3 v):=rfl
@[simp] theorem BCZ:gtf l k o none=none:=rfl
@[simp] theorem A37(fr:Fr)(j:Nat):BE (OX l k o fr) j=gtf l k o (BE fr j):=by
 rw[F0,F0,XQ];cases fr.get j with
 |none=>rfl
 |some x=>rfl
end
@[simp] theorem BH6{k j:Nat}(h:j≠k)(r:Fr)(o:Option (Bool×V)):BE (kx k r o) j=BE r j:=by
 cases o with
 |none=>rfl
 |some x=>
  obtain⟨c,v⟩:=x
  simp[h]
end Go.Pg
