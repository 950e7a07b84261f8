/- Rows told as lists, by simp. No program in sight. -/
import Derived.Test.YthhdhbalenanjaaGreatSx
noncomputable section
open Go renaming TypeId->bg,Program->bh,Operand->bm,FuncId->bn
open Nat renaming blt->bj,blt_eq->bk,beq->bc
open List renaming map_congr_left->bq,nil_append->bw,append_nil->bx,all_eq_true->bz,map_id->bf
open Bool renaming not_eq_true->bb
set_option linter.unusedSimpArgs false
namespace Go.Pg
variable {P:bh}{l k:Nat}{o:Option (Nat×AX)}
@[simp] theorem AYV(st:XS):UP [] st=st:=rfl
@[simp] theorem AYW:O3 l k o []=[]:=rfl
@[simp] theorem AUZ(j:Nat)(c:Bool)(v:V)(fr:Fr):O3 l k o ((j,c,v)::fr)=(j,c,BJ l k o 3 v)::O3 l k o fr:=rfl
@[simp] theorem AYX:E9 l k o []=[]:=rfl
@[simp] theorem AU0(j g:Nat)(r:AX)(L:AA):E9 l k o ((j,g,r)::L)=if j=k then E9 l k o L else(j,g,MB l k o r)::E9 l k o L:=rfl
@[simp] theorem A6C(γ:Nat)(T:bg)(es:List (List V))(L:AA):E9 l k o (pl k γ T es++L)=E9 l k o L:=by cases es<;>simp
theorem XT:∀(f g:Nat) (v:V),AG g v=true->BJ l k o f v=v
 |0,_,_,_=>rfl
 |f+1,0,v,h=>by cases h
 |f+1,g+1,v,h=>by
  have lst:∀cs:List V,cs.all (AG g)=true->cs.map (BJ l k o f)=cs:=by
   intro cs h;conv=>rhs;rw[<-bf cs]
   exact bq fun x hx=>XT f g x (bz.1 h x hx)
  cases v with
  |vec _ _ _ _=>cases h
  |ptr _ _ _ _=>cases h
  |agg cs=>simp only[BJ];rw[lst cs h]
  |tup cs=>simp only[BJ];rw[lst cs h]
  |_=>rfl
theorem uS{cs:List V}(h:cs.all (AG 9)=true)(f:Nat):cs.map (BJ l k o f)=cs:=by
 conv=>rhs;rw[<-bf cs]
 exact bq fun x hx=>XT f 9 x (bz.1 h x hx)
theorem ABW{es:List (List V)}(h:(es.all fun e=>e.all (AG 9))=true)(f:Nat):es.map (List.map (BJ l k o f))=es:=by
 conv=>rhs;rw[<-bf es]
 exact bq fun x hx=>uS (bz.1 h x hx) f
@[simp] theorem ABX{j:Nat}(h:j≠k)(γ:Nat)(T:bg)(es:List (List V))(L:AA)(hc:(es.all fun e=>e.all (AG 9))=true):E9 l k o (pl j γ T es++L)=pl j γ T es++E9 l k o L:=by
 cases es with
 |nil=>rfl
 |cons e es=>
  have q:=ABW (l:=l) (k:=k) (o:=o) hc 3
  simp only[List.map_cons]at q
  simp[h,MB,q]
@[simp] theorem WK{j:Nat}(h:j≠k)(γ:Nat)(T:bg)(es:List (List V))(hc:(es.all fun e=>e.all (AG 9))=true):E9 l k o (pl j γ T es)=pl j γ T es:=by have:=ABX (l:=l) (o:=o) h γ T es [] hc;simpa using this
@[simp] theorem AYY(cs:List V):MB l k o (.box cs)=.box (cs.map (BJ l k o 3)):=rfl
@[simp] theorem AYZ(T:bg)(es:List (List V)):MB l k o (.vec T es)=.vec T (es.map (List.map (BJ l k o 3))):=rfl
@[simp] theorem AY0(es:List (V×V)):MB l k o (.map es)=.map es:=rfl
@[simp] theorem iI(f:Nat)(i:IntKind)(n:Int):BJ l k o f (.int i n)=.int i n:=by cases f<;>rfl
@[simp] theorem AU1(f:Nat)(b:Bool):BJ l k o f (.bool b)=.bool b:=by cases f<;>rfl
@[simp] theorem AU2(f:Nat)(b:Bool)(es:List (List V)):BJ l k o f (.list b es)=.list b es:=by cases f<;>rfl
@[simp] theorem A6D(f:Nat)(es:List (List V)):BJ l k o f (sl es)=sl es:=by cases f<;>cases es<;>rfl
@[simp] theorem AY1(f:Nat)(cs:List V):BJ l k o f (.ref cs)=.ref cs:=by cases f<;>rfl
theorem ABY(f a b c d:Nat)(h:¬(a=l/\b=k)):BJ l k o f (.ptr a b c d)=.ptr a b c d:=by
 cases f with
 |zero=>rfl
 |succ f=>
  simp only[BJ]
  split
  ·rw[if_neg fun hh=>h ⟨hh.1,hh.2.1⟩]
  ·rfl
@[simp] theorem AU3(f a b c d:Nat)(h:¬b=k):BJ l k o f (.ptr a b c d)=.ptr a b c d:=ABY f a b c d fun hh=>h hh.2
@[simp] theorem AU4(γ:Nat)(cs:List V)(f a b g off:Nat):BJ l k (some (γ,.box cs)) (f+1) (.ptr a b g off)=if a=l/\b=k/\g=γ then .ref ((cs.map T7).drop off) else .ptr a b g off:=rfl
@[simp] theorem A6E(q:IntKind)(n:Int):T7 (.int q n)=.int q n:=rfl
@[simp] theorem AY2(b:Bool)(es:List (List V)):T7 (.list b es)=.list b es:=rfl
@[simp] theorem BAZ(a b c:Nat):T7 (.mp a b c)=.any:=rfl
@[simp] theorem AU5(f:Nat):AG (f+1) .any=true:=rfl
@[simp] theorem A6F(f a b c:Nat):BJ l k o f (.mp a b c)=.mp a b c:=by cases f<;>rfl
@[simp] theorem ABZ(f:Nat):BJ l k o f .nil=.nil:=by cases f<;>rfl
@[simp] theorem AY3(f:Nat)(cs:List V):BJ l k o (f+1) (.agg cs)=.agg (cs.map (BJ l k o f)):=rfl
@[simp] theorem AY4(γ:Nat)(T:bg)(es:List (List V))(f l' k' g m:Nat):BJ l k (some (γ,.vec T es)) (f+1) (.vec l' k' g m)=if l'=l/\k'=k/\g=γ/\m=es.length then .list false es else .vec l' k' g m:=rfl
@[simp] theorem A6G(γ:Nat)(T:bg)(es:List (List V))(f:Nat):BJ 0 k ((pl k γ T es).get k) (f+1) (pv k γ es)=sl es:=by
 cases es with
 |nil=>rfl
 |cons e es=>simp[pv,sl]
@[simp] theorem AY5(γ:Nat)(T:bg)(es:List (List V))(f:Nat):BJ 0 k (some (γ,.vec T es)) (f+1) (pv k γ es)=sl es:=by
 cases es with
 |nil=>rfl
 |cons e es=>simp[pv,sl]
@[simp] theorem AY6{j:Nat}(h:j≠k)(γ:Nat)(es:List (List V))(f:Nat):BJ l k o f (pv j γ es)=pv j γ es:=by
 cases es with
 |nil=>cases f<;>rfl
 |cons e es=>
  cases f with
  |zero=>rfl
  |succ f=>
   simp only[pv,BJ]
   split
   ·rw[if_neg (fun hh=>h hh.2.1)]
   ·rfl
def oe2(d c:Nat)(fr:Fr)(s:St):Option Mk->Option XS->Option XS
 |some r,_=>some ⟨c+1,(d,true,r.val s.up.length d c)::fr,s.put s.up.length d c r.res⟩
 |none,z=>z
@[simp] theorem BA0(d c:Nat)(fr:Fr)(s:St)(T:bg)(es:List (List V))(z:Option XS):oe2 d c fr s (some ⟨.vec T es,none⟩) z=some ⟨c+1,(d,true,.vec s.up.length d c es.length)::fr,s.put s.up.length d c (.vec T es)⟩:=rfl
def oe1(d c:Nat)(fr:Fr)(s:St)(F:List V->Option Mk):Option (List V)->Option XS->Option XS
 |some vs,z=>oe2 d c fr s (F vs) z
 |none,z=>z
@[simp] theorem AHZ(d c:Nat)(fr:Fr)(s:St)(F:List V->Option Mk)(vs:List V)(z:Option XS):oe1 d c fr s F (some vs) z=oe2 d c fr s (F vs) z:=rfl
variable {A:Ann}{kn:CF0}{n:Nat}{fr:Fr}{s:St}
@[simp] theorem BA1{f:bn}(hS:IF P f=true)(d c:Nat)(args:List bm):CX P (BN P A kn n) (some d) (.call true none (.func f) args) ⟨c,fr,s⟩ =
  oe1 d c fr s (fun vs=>HQ P (AE P A kn n) f (vs.map weakV)) (FQ (CK fr) args) (UL (BN P A kn n).cf (BN P A kn n).cy (some d) (.func f) args ⟨c,fr,s⟩):=by
 show cJ (BN P A kn n) true (some d) (.func f) args ⟨c,fr,s⟩=_
 unfold cJ
 show(match HM (BN P A kn n).co (some d) (.func f) args ⟨c,fr,s⟩ with|some st'=>some st'|none=>_)=_
 unfold HM
 have hf:CK fr (.func f)=some (.fn f [] []):=rfl
 simp only[hf]
 cases FQ (CK fr) args with
 |none=>rfl
 |some vs=>
  simp only[AHZ,bw,bx]
  have:(BN P A kn n).co f (vs.map weakV) d=HQ P (AE P A kn n) f (vs.map weakV):=by show O1 P kn (fun _ _ _=>none) (AE P A kn n) f _ d=_;unfold O1;simp only[hS]
  rw[this]
  cases HQ P (AE P A kn n) f (vs.map weakV)with
  |none=>rfl
  |some r=>rfl
def of2(d c:Nat)(fr:Fr)(s:St):Option Mk->Option XS
 |some r=>some ⟨c+1,(d,true,r.val s.up.length d c)::fr,s.put s.up.length d c r.res⟩
 |none=>none
@[simp] theorem BA2(d c:Nat)(fr:Fr)(s:St)(T:bg)(es:List (List V)):of2 d c fr s (some ⟨.vec T es,none⟩)=some ⟨c+1,(d,true,.vec s.up.length d c es.length)::fr,s.put s.up.length d c (.vec T es)⟩:=rfl
def of1(d c:Nat)(fr:Fr)(s:St)(F:List V->Option Mk):Option (List V)->Option XS
 |some vs=>of2 d c fr s (F vs)
 |none=>none
@[simp] theorem AH0(d c:Nat)(fr:Fr)(s:St)(F:List V->Option Mk)(vs:List V):of1 d c fr s F (some vs)=of2 d c fr s (F vs):=rfl
@[simp] theorem A6H{f:bn}(hS:IF P f=true)(d c:Nat)(args:List bm):DF P (BN P A kn n) (some d) (.call true none (.func f) args) ⟨c,fr,s⟩ =
  nw (of1 d c fr s (fun vs=>HQ P (AE P A kn n) f (vs.map weakV)) (FQ (CK fr) args)):=by
 show UM (HM (BN P A kn n).co (some d) (.func f) args ⟨c,fr,s⟩)=_
 rw[GO]
 congr 1
 unfold HM
 have hf:CK fr (.func f)=some (.fn f [] []):=rfl
 simp only[hf]
 cases FQ (CK fr) args with
 |none=>rfl
 |some vs=>
  simp only[AH0,bw,bx]
  have:(BN P A kn n).co f (vs.map weakV) d=HQ P (AE P A kn n) f (vs.map weakV):=by show O1 P kn (fun _ _ _=>none) (AE P A kn n) f _ d=_;unfold O1;simp only[hS]
  rw[this]
  cases HQ P (AE P A kn n) f (vs.map weakV)with
  |none=>rfl
  |some r=>rfl
def A6I(P:bh)(fn:Func)(r:Option (Exit×XS)):Option Mk:=match r with
 |some (.ret,st)=>tW P fn st
 |some (.normal,st)=>tW P fn st
 |_=>none
@[simp] theorem A6J(fn:Func)(st:XS):A6I P fn (some (.ret,st))=tW P fn st:=rfl
theorem WL{f:bn}{fn:Func}{c:Code}{args:List V}{rec:HP}(hf:P.funcs[f]? = some fn)(hb:fn.body=some c)(hs:Nat.ble args.length fn.ntmps=true)(hcl:args.all (AG 9)=true) :
  HQ P rec f args=A6I P fn (rec fn.ntmps c ⟨0,AF 0 args,⟨[],[]⟩⟩):=by
 unfold HQ XQ pC
 rw[hcl,hf]
 simp only[hb,hs]
 generalize rec fn.ntmps c ⟨0,AF 0 args,⟨[],[]⟩⟩=q
 cases q with
 |none=>rfl
 |some q=>
  obtain⟨e,st⟩:=q
  cases e<;>rfl
def rO(P:bh)(fn:Func)(st:XS)(v:Option V):Option Mk:=match v with
 | some (.vec l k γ n)=>Bool.rec none (match st.s.loc.get k with
  |some (γ',.vec T es)=>Bool.rec none (some ⟨.vec T es,none⟩) (bc γ' γ&&bc n es.length&&es.all fun e=>e.all (AG 9))
  | _=>none) (bc l st.s.up.length)
 | some v=>Bool.rec none (match fn.resultTypes.toList with
  |[R]=>match BV P R with
   |some (none,T)=>some ⟨.vec T [],none⟩
   |_=>none
  | _=>none) (X7 v)
 |none=>none
theorem YZ(fn:Func)(st:XS):tW P fn st=rO P fn st (GZ P fn.results.toList st.fr st.s):=rfl
theorem iJ{fn:Func}{R T:bg}(h1:fn.resultTypes.toList=[R])(h2:BV P R=some (none,T))(c:Nat)(fr:Fr)(loc:AA)(k γ:Nat)(es:List (List V))(hl:loc.get k=(pl k γ T es).get k)(hc:(es.all fun e=>e.all (AG 9))=true):rO P fn ⟨c,fr,⟨[],loc⟩⟩ (some (pv k γ es))=some ⟨.vec T es,none⟩:=by
 cases es with
 |nil=>
  show(Bool.rec none (match fn.resultTypes.toList with
   |[R]=>match BV P R with
    |some (none,T)=>some ⟨.vec T [],none⟩
    |_=>none
   | _=>none) true:Option Mk)=_
  rw[h1]
  simp only[h2]
 |cons e es=>
  have hl:loc.get k=some (γ,.vec T (e::es)):=by rw[hl];simp
  simp only[pv,rO,hl,hc,List.length_nil,Bool.and_true]
  simp
end Go.Pg
namespace Go.Pg
section
@[simp] theorem unsnoc_snoc{α:Type}(x:α):∀(l:List α),CE (l++[x])=some (l,x)
 |[]=>rfl
 |[y]=>rfl
 |y::z::l=>by have:=unsnoc_snoc x (z::l);simp only[List.cons_append]at this|-;rw[XW,this];rfl
end
section
variable {P:bh}{E:XE}{d:Option Tmp}{c:Nat}{fr:Fr}{s:St}{r:bm->Option V}
@[simp] theorem AU6(T:bg)(x i:bm)(ok:Bool):JN P (rR (.lookup T x i ok)) s r=o2 (fun a b=>DO P s T a b ok) (r x) (r i):=by show((r x).bind fun a=>(r i).bind fun b=>DO P s T a b ok)=_;cases r x<;>cases r i<;>rfl
def up1(c:Nat)(fr:Fr)(s:St):Option (Nat×Nat×Nat×List (V×V))->Option XS
 |some (l,q,γ,es)=>Bool.rec none (some ⟨c,fr,s.put l q γ (.map es)⟩) (bj γ c)
 |none=>none
def up3(P:bh)(T:bg)(c:Nat)(fr:Fr)(s:St):Option V->Option V->Option V->Option XS
 |some m,some i,some v=>up1 c fr s (L5 P s T m i v)
 |_,_,_=>none
@[simp] theorem A6K(T:bg)(m i v:V):up3 P T c fr s (some m) (some i) (some v)=up1 c fr s (L5 P s T m i v):=rfl
theorem AH1(l q γ:Nat)(es:List (V×V))(h:γ<c):up1 c fr s (some (l,q,γ,es))=some ⟨c,fr,s.put l q γ (.map es)⟩:=by
 have:bj γ c=true:=by simpa [bk]using h
 show(Bool.rec none (some ⟨c,fr,s.put l q γ (.map es)⟩) (bj γ c):Option XS)=_;rw[this]
@[simp] theorem AY7(T:bg)(x i y:bm):CX P E none (.upd T x i y) ⟨c,fr,s⟩=up3 P T c fr s (CK fr x) (CK fr i) (CK fr y):=by show ABD P none T x i y ⟨c,fr,s⟩=_;unfold ABD up3 up1;simp only;cases CK fr x<;>cases CK fr i<;>cases CK fr y<;>simp only;split<;>simp_all
@[simp] theorem A6L(x:bm):JN P (rR (.nilCheck x)) s r=o1 OM (r x):=by show(r x).bind OM=_;cases r x<;>rfl
@[simp] theorem AY8(l k g o:Nat):OM (.ptr l k g o)=some (.ptr l k g o):=rfl
@[simp] theorem A6M(x:bm)(f:bm->Option V):HT P (.oth (.nilCheck x)) f=[]:=rfl
@[simp] theorem A6N(T:bg)(x i:bm)(ok:Bool)(f:bm->Option V):HT P (.oth (.lookup T x i ok)) f=B6 (f x):=rfl
@[simp] theorem AU7(l k g:Nat):B7 s (.mp l k g)=some (.mp l k g):=rfl
theorem NF{α:Type}{f:α->Option α}:∀{l:List α},(∀x∈l,f x=some x)->GV f l=some l
 |[],_=>rfl
 |x::l,h=>by have ih:=NF (f:=f) (l:=l) fun y hy=>h y (by simp[hy]);simp only[GV,h x (by simp),ih]
theorem UU:∀(l:List AA) (b:AA),CE (l++[b])=some (l,b)
 |[],b=>by simp
 |[a],b=>by simp
 |a::a2::l,b=>by have:=UU (a2::l) b;simp only[List.cons_append]at this|-;simp[this]
@[simp] theorem AY9(a:AA)(l:List AA)(b:AA):CE (a::(l++[b]))=some (a::l,b):=UU (a::l) b
@[simp] theorem AZA(d:Nat):CX P E (some d) (.mkM none) ⟨c,fr,s⟩=some ⟨c+1,(d,true,.mp s.up.length d c)::fr,s.put s.up.length d c (.map [])⟩:=rfl
end
section
variable {P:bh}{s:St}{r:bm->Option V}
@[simp] theorem AU8(T:bg)(x h:bm):JN P (rR (.slice T x none (some h) none)) s r=o2 (fun a b=>C3 P s T a none (some b) none) (r x) (r h):=by show((r x).bind fun a=>((some none:Option (Option V))).bind fun l=>((r h).map some).bind fun h=>((some none:Option (Option V))).bind fun m=>C3 P s T a l h m)=_;cases r x<;>cases r h<;>rfl
end
section
variable {P:bh}{E:XE}{c:Nat}{fr:Fr}{s:St}{r:bm->Option V}
theorem AB0{T e:bg}{l k g n h:Nat}(hT:BV P T=some (none,e))(hh:h<=n)(hc:0<P.cellsOf e):C3 P s T (.vec l k g n) none (some (.int .i64 (h:Int))) none=some (.vec l k g h):=by unfold C3;simp only[hT];rw[if_pos ⟨by omega,by omega,hc⟩];simp
end
section
variable {P:bh}{fr:Fr}{s:St}
@[simp] theorem BA4(e d c l q γ n:Nat)(ys:List (List V)):adV P e d c fr s (.vec l q γ n) ys=wp [(l,q),(l,q+J4)] (apW P e d c fr s l q γ n ys (TZ n ys (s.get l q))):=rfl
end
section
@[simp] theorem AL3{P:bh}{A:Ann}{kn:CF0}{n:Nat}:(BN P A kn n).cy=fA (AE P A kn n):=rfl
end
section
variable {P:bh}{A:Ann}{kn:CF0}{n:Nat}{fr:Fr}{s:St}
def oc2(d c:Nat)(fr:Fr)(s:St):Option V->Option XS->Option XS
 |some r,_=>some ⟨c+1,(d,true,r.ren (fun _=>c) s.up.length)::fr,s.put s.up.length d c .dead⟩
 |none,z=>z
@[simp] theorem A6O(d c:Nat)(r:V)(z:Option XS):oc2 d c fr s (some r) z=some ⟨c+1,(d,true,r.ren (fun _=>c) s.up.length)::fr,s.put s.up.length d c .dead⟩:=rfl
def oc1(d c:Nat)(fr:Fr)(s:St)(F:List V->Option V):Option (List V)->Option XS->Option XS
 |some vs,z=>oc2 d c fr s (F vs) z
 |none,z=>z
@[simp] theorem AH2(d c:Nat)(F:List V->Option V)(vs:List V)(z:Option XS):oc1 d c fr s F (some vs) z=oc2 d c fr s (F vs) z:=rfl
@[simp] theorem A6P{f:bn}(hS:IF P f=false)(d c:Nat)(args:List bm):CX P (BN P A kn n) (some d) (.call true none (.func f) args) ⟨c,fr,s⟩ =
  oc1 d c fr s (fun vs=>FS P kn (AE P A kn n) f (vs.map weakV)) (FQ (CK fr) args) (UL (BN P A kn n).cf (BN P A kn n).cy (some d) (.func f) args ⟨c,fr,s⟩):=by
 show cJ (BN P A kn n) true (some d) (.func f) args ⟨c,fr,s⟩=_
 unfold cJ
 show(match HM (BN P A kn n).co (some d) (.func f) args ⟨c,fr,s⟩ with|some st'=>some st'|none=>_)=_
 unfold HM
 have hf:CK fr (.func f)=some (.fn f [] []):=rfl
 simp only[hf]
 cases FQ (CK fr) args with
 |none=>rfl
 |some vs=>
  simp only[AH2,bw,bx]
  have:(BN P A kn n).co f (vs.map weakV) d=(match FS P kn (AE P A kn n) f (vs.map weakV)with|some r=>some ⟨.dead,some r⟩|none=>none):=by show O1 P kn (fun _ _ _=>none) (AE P A kn n) f _ d=_;unfold O1;simp only[hS];cases FS P kn (AE P A kn n) f (vs.map weakV)<;>rfl
  rw[this]
  cases FS P kn (AE P A kn n) f (vs.map weakV)with
  |none=>rfl
  |some r=>rfl
def od2(d c:Nat)(fr:Fr)(s:St):Option V->Option XS
 |some r=>some ⟨c+1,(d,true,r.ren (fun _=>c) s.up.length)::fr,s.put s.up.length d c .dead⟩
 |none=>none
@[simp] theorem A6Q(d c:Nat)(r:V):od2 d c fr s (some r)=some ⟨c+1,(d,true,r.ren (fun _=>c) s.up.length)::fr,s.put s.up.length d c .dead⟩:=rfl
def od1(d c:Nat)(fr:Fr)(s:St)(F:List V->Option V):Option (List V)->Option XS
 |some vs=>od2 d c fr s (F vs)
 |none=>none
@[simp] theorem AH3(d c:Nat)(F:List V->Option V)(vs:List V):od1 d c fr s F (some vs)=od2 d c fr s (F vs):=rfl
@[simp] theorem AZB{f:bn}(hS:IF P f=false)(d c:Nat)(args:List bm):DF P (BN P A kn n) (some d) (.call true none (.func f) args) ⟨c,fr,s⟩ =
  nw (od1 d c fr s (fun vs=>FS P kn (AE P A kn n) f (vs.map weakV)) (FQ (CK fr) args)):=by
 show UM (HM (BN P A kn n).co (some d) (.func f) args ⟨c,fr,s⟩)=_
 rw[GO]
 congr 1
 unfold HM
 have hf:CK fr (.func f)=some (.fn f [] []):=rfl
 simp only[hf]
 cases FQ (CK fr) args with
 |none=>rfl
 |some vs=>
  simp only[AH3,bw,bx]
  have:(BN P A kn n).co f (vs.map weakV) d=(match FS P kn (AE P A kn n) f (vs.map weakV)with|some r=>some ⟨.dead,some r⟩|none=>none):=by show O1 P kn (fun _ _ _=>none) (AE P A kn n) f _ d=_;unfold O1;simp only[hS];cases FS P kn (AE P A kn n) f (vs.map weakV)<;>rfl
  rw[this]
  cases FS P kn (AE P A kn n) f (vs.map weakV)with
  |none=>rfl
  |some r=>rfl
end
section
variable {fr:Fr}{s:St}
@[simp] theorem AQO(l k g:Nat):B7 s (.yld l k g)=some (.yld l k g):=rfl
@[simp] theorem AQP(f:Nat)(cs:List V):A3 s (f+1) (.ref cs)=some (.ref cs):=rfl
@[simp] theorem A6R{P:bh}:GZ P [] fr s=some (.tup []):=rfl
@[simp] theorem AH4:CL .nilFunc=some (.raw .nilFunc):=rfl
@[simp] theorem AU9(f l k g:Nat):AG (f+1) (.yld l k g)=false:=rfl
@[simp] theorem A6S(l k g:Nat):weakV (.yld l k g)=.yld l k g:=rfl
@[simp] theorem BA5(d c l k g:Nat):bx1 d c fr s (some (.yld l k g))=some ⟨c+1,(d,true,.ptr s.up.length d c 0)::fr,s.put s.up.length d c (.box [.yld l k g])⟩:=rfl
@[simp] theorem BA6(F:List V->Option (List V))(g off:Nat)(g':Nat)(cs:List V):cp1 F g off (some (g',.box cs))=if g'=g then(F cs).map (fun ds=>V.ref (ds.drop off)) else none:=rfl
def mk4(P:bh)(d c:Nat)(fr:Fr)(s:St)(e:bg)(n m:Int):Option (List V)->Option XS
 |some z=>if 0<=n/\m=n/\z.length=P.cellsOf e/\n.toNat*P.bytesOf e<=140737488355328/\n.toNat<=maxLen then some ⟨c+1,(d,true,.vec s.up.length d c n.toNat)::fr,s.put s.up.length d c (.vec e (List.replicate n.toNat z))⟩ else none
 |none=>none
@[simp] theorem A6T{P:bh}(d c:Nat)(e:bg)(n m:Int)(z:List V):mk4 P d c fr s e n m (some z)=if 0<=n/\m=n/\z.length=P.cellsOf e/\n.toNat*P.bytesOf e<=140737488355328/\n.toNat<=maxLen then some ⟨c+1,(d,true,.vec s.up.length d c n.toNat)::fr,s.put s.up.length d c (.vec e (List.replicate n.toNat z))⟩ else none:=rfl
def mk3(P:bh)(d c:Nat)(fr:Fr)(s:St):Option (Option Nat×bg)->Option V->Option V->Option XS
 |some (none,e),some (.int _ n),some (.int _ m)=>mk4 P d c fr s e n m (B8 P e)
 |_,_,_=>none
@[simp] theorem AH5{P:bh}(d c:Nat)(e:bg)(k1 k2:IntKind)(n m:Int):mk3 P d c fr s (some (none,e)) (some (.int k1 n)) (some (.int k2 m))=mk4 P d c fr s e n m (B8 P e):=rfl
@[simp] theorem AZC{P:bh}{E:XE}(T:bg)(d c:Nat)(x y:bm):CX P E (some d) (.mkS T x y) ⟨c,fr,s⟩=mk3 P d c fr s (BV P T) (CK fr x) (CK fr y):=by
 show XO P (some d) T x y ⟨c,fr,s⟩=_;unfold XO;simp only;cases BV P T with
 |none=>cases CK fr x<;>cases CK fr y<;>rfl
 |some p=>
  obtain⟨k,e⟩:=p
  cases k with
  |some k=>cases CK fr x<;>cases CK fr y<;>rfl
  |none=>
   cases CK fr x with
   |none=>rfl
   |some a=>
    cases CK fr y with
    |none=>cases a<;>rfl
    |some z=>
     cases a with
     |int k1 n=>
      cases z with
      |int k2 m=>simp only[AH5];cases B8 P e<;>rfl
      |_=>rfl
     |_=>rfl
@[simp] theorem BA7{P:bh}(T:bg)(x y:bm)(r:bm->Option V):HT P (.mkS T x y) r=[]:=rfl
def rE(fr:Fr)(n γ:Nat)(r:Option XS):Option (Exit×XS):=match r with
 |some st=>match st.s.get n BS with
  | some (γ',.loop _ _ _ _ _ ls)=>Bool.rec none (match ls with
   |.ready=>some (.normal,⟨st.c,fr,st.s.put n BS γ .dead⟩)
   |.left .ret=>some (.ret,⟨st.c,fr,st.s.put n BS γ .dead⟩)
   |.left (.exit id)=>some (.exit id,⟨st.c,fr,st.s.put n BS γ .dead⟩)
   | _=>none) (bc γ' γ&&bj γ st.c)
  |_=>none
 |none=>none
theorem WM{P:bh}{A:Ann}{kn:CF0}{n N:Nat}{g:bm}{ps:List Tmp}{asg body:Code}{c:Nat}{up:List AA}{loc:AA}{f:bn}{first cap:List V}(h:CK fr g=some (.fn f first cap)) :
  WB (BN P A kn n).cf N g ps asg body ⟨c,fr,⟨up,loc⟩⟩=rE fr up.length c (G4 (BN P A kn n) none ⟨c+1,fr,⟨up,(BS,c,.loop fr ps asg body N .ready)::loc⟩⟩ f ((first++[V.yld up.length BS c]++cap).map weakV)):=by
 unfold WB
 simp only[h]
 unfold G4 kF rE
 simp only[St.put,if_true,AA.put]
 cases (BN P A kn n).cf f ((first++[V.yld up.length BS c]++cap).map weakV) ⟨c+1,fr,⟨up,(BS,c,.loop fr ps asg body N .ready)::loc⟩⟩ with
 |none=>rfl
 |some r=>rfl
theorem dN{n γ c:Nat}{fr' fr0:Fr}{s:St}{ps:List Tmp}{asg body:Code}{N:Nat}(h:s.get n BS=some (γ,.loop fr0 ps asg body N .ready))(hc:γ<c):rE fr n γ (some ⟨c,fr',s⟩)=some (.normal,⟨c,fr,s.put n BS γ .dead⟩):=by
 unfold rE;simp only[h];have:(bc γ γ&&bj γ c)=true:=by simpa using hc
 rw[this]
@[simp] theorem AZD(t:St)(fr0:Fr)(ps:List Tmp)(asg body:Code)(N:Nat)(l:LS):CG t (.loop fr0 ps asg body N l)=.loop fr0 ps asg body N l:=rfl
theorem yE{rec:HP}{l q γ c N:Nat}{fr0:Fr}{ps:List Tmp}{asg body:Code}{vs:List V}(h:s.get l q=some (γ,.loop fr0 ps asg body N .ready))(hv:vs.length=ps.length)(hc:γ<c) :
  fA rec l q γ vs ⟨c,fr,s⟩=RI fr l q γ (cO (rec N) l q γ body (rec N asg ⟨c,KX fr0 ps vs,⟨s.up++[s.loc],[]⟩⟩)):=by
 unfold fA
 simp only[h]
 have:(bc γ γ&&bc vs.length ps.length&&bj γ c)=true:=by simp[hv,hc]
 rw[this]
theorem QR{rec:eC}{l q γ c N:Nat}{fr0:Fr}{ps:List Tmp}{asg body body':Code}(h:s.get l q=some (γ,.loop fr0 ps asg body' N .ready))(hc:γ<c) :
  cO rec l q γ body (some (.normal,⟨c,fr,s⟩))=rec body ⟨c,fr,s.put l q γ (.loop fr0 ps asg body' N .busy)⟩:=by
 unfold cO
 simp only[h]
 have:(bc γ γ&&bj γ c)=true:=by simp[hc]
 rw[this]
theorem fG{fr':Fr}{l q γ c N:Nat}{fr0:Fr}{ps:List Tmp}{asg body:Code}{up u:List AA}{loc lc:AA}(h:St.get ⟨up,loc⟩ l q=some (γ,.loop fr0 ps asg body N .busy))(hu:CE up=some (u,lc))(hl:l<up.length)(hc:γ<c) :
  RI fr l q γ (some (.normal,⟨c,fr',⟨up,loc⟩⟩))=some (.bool true,⟨c,fr,St.put ⟨u.map (AH ⟨up,loc⟩),AH ⟨up,loc⟩ lc⟩ l q γ (.loop fr0 ps asg body N .ready)⟩):=by
 unfold RI
 simp only[h,hu]
 have:(bc γ γ&&bj l up.length&&bj γ c)=true:=by simp[hc,hl]
 rw[this]
 rfl
end
section
def tkU(z:Option XS)(d:Option Tmp)(st:XS):Option V->Option XS
 |some r=>Bool.rec z (EO d st (some r)) (cY r)
 |none=>z
@[simp] theorem A6U(z:Option XS)(d:Option Tmp)(st:XS)(b:Bool):tkU z d st (some (.bool b))=EO d st (some (.bool b)):=rfl
@[simp] theorem AB1(st:XS)(v:V):H4 st [] v=v:=rfl
@[simp] theorem uT(k:Nat)(ks:List Nat)(c:Nat)(fr:Fr)(up:List AA)(loc:AA)(v:V)(h:k<10000):H4 ⟨c,fr,⟨up,loc⟩⟩ (k::ks) v=H4 ⟨c,fr,⟨up,loc⟩⟩ ks (BJ up.length k (loc.get k) 3 v):=by
 have:bj k 10000=true:=by simpa [bk]using h
 simp only[H4,this,cond_true]
@[simp] theorem F4(k:Nat)(ks:List Nat)(st:XS)(v:V)(h:¬k<10000):H4 st (k::ks) v=H4 st ks (BJ (k / 10000-1) (k % 10000) (st.s.get (k / 10000-1) (k % 10000)) 3 v):=by
 have:bj k 10000=false:=by
  cases hb:bj k 10000 with
  |false=>rfl
  |true=>exact absurd (by simpa [bk]using hb) h
 simp only[H4,this,cond_false]
@[simp] theorem BA8{P:bh}{A:Ann}{kn:CF0}{n k:Nat}{us:List Nat}(d:Option Tmp)(st:XS)(f:bn)(args:List V):G4 (cfU (k::us) (BN P A kn n)) d st f args=tkU (G4 (BN P A kn n) d st f args) d st (FS P kn (AE P A kn n) f (args.map (H4 st (k::us)))):=by
 show(match pG (BN P A kn n).cf (BN P A kn n).c0 (k :: us) f args st with
  |some (r,st')=>some (⟨st'.c,putD st'.fr d true r,st'.s⟩:XS)
  | none=>none)=_
 unfold pG;have e:(BN P A kn n).c0=FS P kn (AE P A kn n):=rfl;rw[e];cases FS P kn (AE P A kn n) f (args.map (H4 st (k::us)))with
 |none=>rfl
 |some r=>
  show(match(Bool.rec ((BN P A kn n).cf f args st) (some (r,st)) (cY r):Option (V×XS))with
   |some (r,st')=>some (⟨st'.c,putD st'.fr d true r,st'.s⟩:XS)
   | none=>none)=(Bool.rec (G4 (BN P A kn n) d st f args) (EO d st (some r)) (cY r):Option XS)
  cases cY r<;>rfl
end
theorem IP{j k:Nat}(h:j≠k)(γ γ2:Nat)(T T2:bg)(es fs:List (List V)):(pl j γ T es++pl k γ2 T2 fs).get k=(pl k γ2 T2 fs).get k:=by cases es<;>cases fs<;>simp[h.symm]
theorem ANL{j k:Nat}(h:j≠k)(γ:Nat)(T:bg)(es:List (List V))(x:Nat×AX):(pl j γ T es++[(k,x)]).get k=some x:=by cases es<;>simp[h.symm]
theorem AVA{j k:Nat}(h:j≠k)(γ:Nat)(T:bg)(es:List (List V))(x:Nat×AX)(M:AA):kl j M ((pl j γ T es++[(k,x)]).get j)=pl j γ T es++M:=by cases es<;>simp[h]
theorem HS{j k:Nat}(h:j≠k)(γ γ2:Nat)(T T2:bg)(es fs:List (List V)):(pl j γ T es++pl k γ2 T2 fs).get j=(pl j γ T es).get j:=by cases es<;>cases fs<;>simp[h]
theorem UV{j k m:Nat}(h1:j≠m)(h2:k≠m)(γ γ2:Nat)(T T2:bg)(es fs:List (List V)):(pl j γ T es++pl k γ2 T2 fs).get m=none:=by cases es<;>cases fs<;>simp[h1.symm,h2.symm]
theorem KB{j:Nat}(γ:Nat)(T:bg)(es:List (List V))(M:AA):kl j M ((pl j γ T es).get j)=pl j γ T es++M:=by cases es<;>simp
theorem PA{t:St}{T:bg}{es:List (List V)}(h:∀e∈es,∀v∈e,B7 t v=some v):CG t (.vec T es)=.vec T es:=by
 have:CA t (.vec T es)=some (.vec T es):=by unfold CA;simp only;rw[NF fun e he=>NF fun v hv=>h e he v hv]
 unfold CG;rw[this]
theorem iK{t c l q γ n:Nat}{fr:Fr}{s:St}{U:bg}{es:List (List V)}(h:BG fr t=some (true,.vec l q γ n))(hg:s.get l q=some (γ,.vec U es))(hn:n<=es.length)(hc:γ<c):dO (some t) ⟨c,fr,s⟩=⟨c,(t,true,.list false (es.take n))::fr,s.put l q γ .dead⟩:=by
 have hb:(bc γ γ&&Nat.ble n es.length&&bj γ c)=true:=by simp[bk,hn,hc]
 unfold dO;simp only[h,hg,hb]
@[simp] theorem AVB{P:bh}{A:Ann}{kn:CF0}{n N l:Nat}{st:XS}:AE P A kn (n+1) N (.label l) st=some (.normal,st):=rfl
theorem K6{α:Type}(p:α->Bool):∀(l:List α),(!l.any fun x=>!p x)=l.all p
 |[]=>rfl
 |x::l=>by have:=K6 p l;simp only[List.any_cons,List.all_cons,Bool.not_or,Bool.not_not,<-this]
section
variable {P:bh}{fr:Fr}{s:St}
def pt(k γ:Nat):List (List V)->V
 |[]=>.list true []
 |e::es=>.vec 0 k γ (e::es).length
@[simp] theorem BGJ(k γ:Nat):pt k γ []=.list true []:=rfl
@[simp] theorem BGK(e k c γ:Nat)(loc:AA)(es:List (List V))(y:List V)(ys:List (List V))(hl:AA.get loc k=(pl k γ e es).get k)(h1:es.all (fun y=>y.length==P.cellsOf e)=true)(h2:BW P e es.length (y::ys)=true) :
  apV P e k c fr ⟨[],loc⟩ (pt k γ es) (y::ys)=some ⟨c+1,(k,true,pt k c (es++y::ys))::fr,⟨[],(k,c,.vec e (es++y::ys))::loc⟩⟩:=by
 cases es with
 |nil=>
  simp only[List.length_nil]at h2
  simp[h2,pt]
 |cons z es=>
  have h:=AWV (P:=P) (fr:=fr) e k c γ loc (z::es) y ys hl h1 h2
  exact h
theorem AB2{T:bg}(f:Nat)(loc:AA)(k γ:Nat)(es:List (List V))(hl:AA.get loc k=(pl k γ T es).get k):A3 ⟨[],loc⟩ (f+1) (pt k γ es)=some (.list false es):=by
 cases es with
 |nil=>rfl
 |cons e es=>exact P0 (T:=T) f loc k γ (e::es) hl
@[simp] theorem AVC(f k γ:Nat)(T:bg)(es:List (List V)):A3 ⟨[],pl k γ T es⟩ (f+1) (pt k γ es)=some (.list false es):=AB2 (T:=T) f _ k γ es rfl
end
@[simp] theorem BA9(st:XS):ND [] st=st:=rfl
@[simp] theorem A6V(k:Nat)(ks:List Nat)(c:Nat)(fr:Fr)(up:List AA)(loc:AA)(h:k<1000):ND (k::ks) ⟨c,fr,⟨up,loc⟩⟩=ND ks ⟨c,O3 up.length k (loc.get k) fr,⟨up,E9 up.length k (loc.get k) loc⟩⟩:=by
 have h1:bj k 1000=true:=by simpa [bk]using h
 show ND ks (xQ k ⟨c,fr,⟨up,loc⟩⟩)=_;unfold xQ;rw[h1];rfl
@[simp] theorem A6W(k:Nat)(ks:List Nat)(c:Nat)(fr:Fr)(up:List AA)(loc:AA)(h:2000000000000000<=k):ND (k::ks) ⟨c,fr,⟨up,loc⟩⟩=ND ks ⟨c,fr,⟨up,pK (k % 1000) loc⟩⟩:=by
 have h1:bj k 1000=false:=by rw[<-bb,bk];omega
 have h2:bj k 1000000000000000=false:=by rw[<-bb,bk];omega
 have h3:bj k 2000000000000000=false:=by rw[<-bb,bk];omega
 show ND ks (xQ k ⟨c,fr,⟨up,loc⟩⟩)=_;unfold xQ;rw[h1,h2,h3];rfl
@[simp] theorem BBA(k:Nat):pK k []=[]:=rfl
@[simp] theorem A6X(k j g:Nat)(r:AX)(L:AA):pK k ((j,g,r)::L)=(j,g,if j=k then wkR r else r)::pK k L:=rfl
@[simp] theorem BBB(T:bg)(es:List (List V)):wkR (.vec T es)=.vec T (es.map (List.map xN)):=rfl
@[simp] theorem A6Y(b:Bool)(es:List (List V)):xN (.list b es)=.list b es:=rfl
section
variable {l k:Nat}{o:Option (Nat×AX)}
def gtf(l k:Nat)(o:Option (Nat×AX)):Option (Bool×V)->Option (Bool×V)
 |some (c,v)=>some (c,BJ l k o 3 v)
 |none=>none
@[simp] theorem A6Z(c:Bool)(v:V):gtf l k o (some (c,v))=some (c,BJ l k o 3 v):=rfl
@[simp] theorem AZE(fr:Fr)(j:Nat):BG (O3 l k o fr) j=gtf l k o (BG fr j):=by
 rw[FE,FE,WD];cases fr.get j with
 |none=>rfl
 |some x=>rfl
end
@[simp] theorem BBC{k j:Nat}(h:j≠k)(r:Fr)(o:Option (Bool×V)):BG (kx k r o) j=BG r j:=by
 cases o with
 |none=>rfl
 |some x=>
  obtain⟨c,v⟩:=x
  simp[h]
end Go.Pg
