/- Rows told as lists, by simp. No program in sight. -/
import Derived.Test.YthhdhbalenanjaaGreatSx
noncomputable section
open Go renaming TypeId->bg,Program->bh,Operand->bm,FuncId->bn
open Nat renaming blt->bj,blt_eq->bq,beq->bc
open List renaming map_congr_left->bk,all_eq_true->bw,nil_append->bz,append_nil->bb,map_id->bf
open Bool renaming not_eq_true->bx
set_option linter.unusedSimpArgs false
namespace Go.Pg
variable {P:bh}{l k:Nat}{o:Option (Nat×A0)}
@[simp] theorem A0A(st:XS):VI [] st=st:=rfl
@[simp] theorem A0B:RK l k o []=[]:=rfl
@[simp] theorem AV9(j:Nat)(c:Bool)(v:V)(fr:Fr):RK l k o ((j,c,v)::fr)=(j,c,BN l k o 3 v)::RK l k o fr:=rfl
@[simp] theorem A0C:FH l k o []=[]:=rfl
@[simp] theorem AWA(j g:Nat)(r:A0)(L:AA):FH l k o ((j,g,r)::L)=if j=k then FH l k o L else(j,g,LC l k o r)::FH l k o L:=rfl
@[simp] theorem A7W(γ:Nat)(T:bg)(es:List (List V))(L:AA):FH l k o (pl k γ T es++L)=FH l k o L:=by cases es<;>simp
theorem PY:∀(f g:Nat) (v:V),AG g v=true->BN l k o f v=v
 |0,_,_,_=>rfl
 |f+1,0,v,h=>by cases h
 |f+1,g+1,v,h=>by
  have lst:∀cs:List V,cs.all (AG g)=true->cs.map (BN l k o f)=cs:=by
   intro cs h;conv=>rhs;rw[<-bf cs]
   exact bk fun x hx=>PY f g x (bw.1 h x hx)
  cases v with
  |vec _ _ _ _=>cases h
  |ptr _ _ _ _=>cases h
  |agg cs=>simp only[BN];rw[lst cs h]
  |tup cs=>simp only[BN];rw[lst cs h]
  |_=>rfl
theorem vX{cs:List V}(h:cs.all (AG 9)=true)(f:Nat):cs.map (BN l k o f)=cs:=by
 conv=>rhs;rw[<-bf cs]
 exact bk fun x hx=>PY f 9 x (bw.1 h x hx)
theorem AC1{es:List (List V)}(h:(es.all fun e=>e.all (AG 9))=true)(f:Nat):es.map (List.map (BN l k o f))=es:=by
 conv=>rhs;rw[<-bf es]
 exact bk fun x hx=>vX (bw.1 h x hx) f
@[simp] theorem AC2{j:Nat}(h:j≠k)(γ:Nat)(T:bg)(es:List (List V))(L:AA)(hc:(es.all fun e=>e.all (AG 9))=true):FH l k o (pl j γ T es++L)=pl j γ T es++FH l k o L:=by
 cases es with
 |nil=>rfl
 |cons e es=>
  have q:=AC1 (l:=l) (k:=k) (o:=o) hc 3
  simp only[List.map_cons]at q
  simp[h,LC,q]
@[simp] theorem XG{j:Nat}(h:j≠k)(γ:Nat)(T:bg)(es:List (List V))(hc:(es.all fun e=>e.all (AG 9))=true):FH l k o (pl j γ T es)=pl j γ T es:=by have:=AC2 (l:=l) (o:=o) h γ T es [] hc;simpa using this
@[simp] theorem A0D(cs:List V):LC l k o (.box cs)=.box (cs.map (BN l k o 3)):=rfl
@[simp] theorem A0E(T:bg)(es:List (List V)):LC l k o (.vec T es)=.vec T (es.map (List.map (BN l k o 3))):=rfl
@[simp] theorem A0F(es:List (V×V)):LC l k o (.map es)=.map es:=rfl
@[simp] theorem AWB:LC l k o .dead=.dead:=rfl
@[simp] theorem jH(f:Nat)(i:IntKind)(n:Int):BN l k o f (.int i n)=.int i n:=by cases f<;>rfl
@[simp] theorem AWC(f:Nat)(b:Bool):BN l k o f (.bool b)=.bool b:=by cases f<;>rfl
@[simp] theorem AWD(f:Nat)(b:Bool)(es:List (List V)):BN l k o f (.list b es)=.list b es:=by cases f<;>rfl
@[simp] theorem A7X(f:Nat)(es:List (List V)):BN l k o f (sl es)=sl es:=by cases f<;>cases es<;>rfl
@[simp] theorem A0G(f:Nat)(cs:List V):BN l k o f (.ref cs)=.ref cs:=by cases f<;>rfl
theorem AC3(f a b c d:Nat)(h:¬(a=l/\b=k)):BN l k o f (.ptr a b c d)=.ptr a b c d:=by
 cases f with
 |zero=>rfl
 |succ f=>
  simp only[BN]
  split
  ·rw[if_neg fun hh=>h ⟨hh.1,hh.2.1⟩]
  ·rfl
@[simp] theorem AWE(f a b c d:Nat)(h:¬b=k):BN l k o f (.ptr a b c d)=.ptr a b c d:=AC3 f a b c d fun hh=>h hh.2
@[simp] theorem AWF(γ:Nat)(cs:List V)(f a b g off:Nat):BN l k (some (γ,.box cs)) (f+1) (.ptr a b g off)=if a=l/\b=k/\g=γ then .ref ((cs.map UZ).drop off) else .ptr a b g off:=rfl
@[simp] theorem A7Y(q:IntKind)(n:Int):UZ (.int q n)=.int q n:=rfl
@[simp] theorem A0H(b:Bool)(es:List (List V)):UZ (.list b es)=.list b es:=rfl
@[simp] theorem BCL(a b c:Nat):UZ (.mp a b c)=.any:=rfl
@[simp] theorem AWG(f:Nat):AG (f+1) .any=true:=rfl
@[simp] theorem A7Z(f a b c:Nat):BN l k o f (.mp a b c)=.mp a b c:=by cases f<;>rfl
@[simp] theorem A70(f:Nat)(g:bn)(xs ys:List V):BN l k o f (.fn g xs ys)=.fn g xs ys:=by cases f<;>rfl
@[simp] theorem AC4(f:Nat):BN l k o f .nil=.nil:=by cases f<;>rfl
@[simp] theorem A0I(f:Nat)(cs:List V):BN l k o (f+1) (.agg cs)=.agg (cs.map (BN l k o f)):=rfl
@[simp] theorem A0J(γ:Nat)(T:bg)(es:List (List V))(f l' k' g m:Nat):BN l k (some (γ,.vec T es)) (f+1) (.vec l' k' g m)=if l'=l/\k'=k/\g=γ/\m=es.length then .list false es else .vec l' k' g m:=rfl
@[simp] theorem A71(γ:Nat)(T:bg)(es:List (List V))(f:Nat):BN 0 k ((pl k γ T es).get k) (f+1) (pv k γ es)=sl es:=by
 cases es with
 |nil=>rfl
 |cons e es=>simp[pv,sl]
@[simp] theorem A0K(γ:Nat)(T:bg)(es:List (List V))(f:Nat):BN 0 k (some (γ,.vec T es)) (f+1) (pv k γ es)=sl es:=by
 cases es with
 |nil=>rfl
 |cons e es=>simp[pv,sl]
@[simp] theorem A0L{j:Nat}(h:j≠k)(γ:Nat)(es:List (List V))(f:Nat):BN l k o f (pv j γ es)=pv j γ es:=by
 cases es with
 |nil=>cases f<;>rfl
 |cons e es=>
  cases f with
  |zero=>rfl
  |succ f=>
   simp only[pv,BN]
   split
   ·rw[if_neg (fun hh=>h hh.2.1)]
   ·rfl
variable {A:Ann}{kn:CF0}{n:Nat}{fr:Fr}{s:St}
@[simp] theorem A72{α:Type}(r:α)(z:Option α):orM (some r) z=some r:=rfl
@[simp] theorem A73{α:Type}(z:Option α):orM none z=z:=rfl
def of2(d c:Nat)(fr:Fr)(s:St):Option Mk->Option XS
 |some r=>some ⟨c+1,(d,true,r.val s.up.length d c)::fr,s.put s.up.length d c r.res⟩
 |none=>none
@[simp] theorem BCM(d c:Nat)(fr:Fr)(s:St)(T:bg)(es:List (List V)):of2 d c fr s (some ⟨.vec T es,none⟩)=some ⟨c+1,(d,true,.vec s.up.length d c es.length)::fr,s.put s.up.length d c (.vec T es)⟩:=rfl
def of1(d c:Nat)(fr:Fr)(s:St)(F:List V->Option Mk):Option (List V)->Option XS
 |some vs=>of2 d c fr s (F vs)
 |none=>none
@[simp] theorem AI5(d c:Nat)(fr:Fr)(s:St)(F:List V->Option Mk)(vs:List V):of1 d c fr s F (some vs)=of2 d c fr s (F vs):=rfl
@[simp] theorem A74{f:bn}(hS:IW P f=true)(d c:Nat)(args:List bm):DP P (BS P A kn n) (some d) (.call true none (.func f) args) ⟨c,fr,s⟩ =
  nw (of1 d c fr s (fun vs=>orM (HZ P (AE P A kn n) f (vs.map weakV)) (koV P f (vs.map weakV))) (GI (CP fr) args)):=by
 show VE (JS (BS P A kn n).co (some d) (.func f) args ⟨c,fr,s⟩)=_
 rw[GZ]
 congr 1
 unfold JS
 have hf:CP fr (.func f)=some (.fn f [] []):=rfl
 simp only[hf]
 cases GI (CP fr) args with
 |none=>rfl
 |some vs=>
  simp only[AI5,bz,bb]
  have:(BS P A kn n).co f (vs.map weakV) d=orM (HZ P (AE P A kn n) f (vs.map weakV)) (koV P f (vs.map weakV)):=by show VH P kn (fun _ _ _=>none) (AE P A kn n) f _ d=_;unfold VH;simp only[hS]
  rw[this]
  cases orM (HZ P (AE P A kn n) f (vs.map weakV)) (koV P f (vs.map weakV))with
  |none=>rfl
  |some r=>rfl
def A75(P:bh)(fn:Func)(r:Option (Exit×XS)):Option Mk:=match r with
 |some (.ret,st)=>uZ P fn st
 |some (.normal,st)=>uZ P fn st
 |_=>none
@[simp] theorem A76(fn:Func)(st:XS):A75 P fn (some (.ret,st))=uZ P fn st:=rfl
theorem AC5{f:bn}{fn:Func}{c:Code}{args:List V}{rec:GP}(hf:P.funcs[f]? = some fn)(hb:fn.body=some c)(hs:Nat.ble args.length fn.ntmps=true)(hcl:args.all (AG 9)=true) :
  HZ P rec f args=A75 P fn (rec fn.ntmps c ⟨0,AF 0 args,⟨[],[]⟩⟩):=by
 unfold HZ YK qO
 rw[hcl,hf]
 simp only[hb,hs]
 generalize rec fn.ntmps c ⟨0,AF 0 args,⟨[],[]⟩⟩=q
 cases q with
 |none=>rfl
 |some q=>
  obtain⟨e,st⟩:=q
  cases e<;>rfl
def rO(P:bh)(fn:Func)(st:XS)(v:Option V):Option Mk:=match v with
 | some (.vec l k γ n)=>Bool.rec none (match st.s.loc.get k with
  |some (γ',.vec T es)=>Bool.rec none (some ⟨.vec T es,none⟩) (bc γ' γ&&bc n es.length&&es.all fun e=>e.all (AG 9))
  | _=>none) (bc l st.s.up.length)
 | some v=>Bool.rec none (match fn.resultTypes.toList with
  |[R]=>match BU P R with
   |some (none,T)=>some ⟨.vec T [],none⟩
   |_=>none
  | _=>none) (YV v)
 |none=>none
theorem AOP(fn:Func)(st:XS):uZ P fn st=rO P fn st (GL P fn.results.toList st.fr st.s):=rfl
theorem A77{fn:Func}{R T:bg}(h1:fn.resultTypes.toList=[R])(h2:BU P R=some (none,T))(c:Nat)(fr:Fr)(loc:AA)(k γ:Nat)(es:List (List V))(hl:loc.get k=(pl k γ T es).get k)(hc:(es.all fun e=>e.all (AG 9))=true):rO P fn ⟨c,fr,⟨[],loc⟩⟩ (some (pv k γ es))=some ⟨.vec T es,none⟩:=by
 cases es with
 |nil=>
  show(Bool.rec none (match fn.resultTypes.toList with
   |[R]=>match BU P R with
    |some (none,T)=>some ⟨.vec T [],none⟩
    |_=>none
   | _=>none) true:Option Mk)=_
  rw[h1]
  simp only[h2]
 |cons e es=>
  have hl:loc.get k=some (γ,.vec T (e::es)):=by rw[hl];simp
  simp only[pv,rO,hl,hc,List.length_nil,Bool.and_true]
  simp
end Go.Pg
namespace Go.Pg
section
@[simp] theorem DG{α:Type}(x:α):∀(l:List α),CO (l++[x])=some (l,x)
 |[]=>rfl
 |[y]=>rfl
 |y::z::l=>by have:=DG x (z::l);simp only[List.cons_append]at this|-;rw[YM,this];rfl
end
section
variable {P:bh}{E:XE}{d:Option Tmp}{c:Nat}{fr:Fr}{s:St}{r:bm->Option V}
@[simp] theorem AWH(T:bg)(x i:bm)(ok:Bool):J2 P (tA (.lookup T x i ok)) s r=o2 (fun a b=>DW P s T a b ok) (r x) (r i):=by show((r x).bind fun a=>(r i).bind fun b=>DW P s T a b ok)=_;cases r x<;>cases r i<;>rfl
def up1(c:Nat)(fr:Fr)(s:St):Option (Nat×Nat×Nat×List (V×V))->Option XS
 |some (l,q,γ,es)=>Bool.rec none (some ⟨c,fr,s.put l q γ (.map es)⟩) (bj γ c)
 |none=>none
def up3(P:bh)(T:bg)(c:Nat)(fr:Fr)(s:St):Option V->Option V->Option V->Option XS
 |some m,some i,some v=>up1 c fr s (MM P s T m i v)
 |_,_,_=>none
@[simp] theorem A78(T:bg)(m i v:V):up3 P T c fr s (some m) (some i) (some v)=up1 c fr s (MM P s T m i v):=rfl
theorem AI6(l q γ:Nat)(es:List (V×V))(h:γ<c):up1 c fr s (some (l,q,γ,es))=some ⟨c,fr,s.put l q γ (.map es)⟩:=by
 have:bj γ c=true:=by simpa [bq]using h
 show(Bool.rec none (some ⟨c,fr,s.put l q γ (.map es)⟩) (bj γ c):Option XS)=_;rw[this]
@[simp] theorem A0M(T:bg)(x i y:bm):DC P E none (.upd T x i y) ⟨c,fr,s⟩=up3 P T c fr s (CP fr x) (CP fr i) (CP fr y):=by show ACK P none T x i y ⟨c,fr,s⟩=_;unfold ACK up3 up1;simp only;cases CP fr x<;>cases CP fr i<;>cases CP fr y<;>simp only;split<;>simp_all
@[simp] theorem A79(x:bm):J2 P (tA (.nilCheck x)) s r=o1 PB (r x):=by show(r x).bind PB=_;cases r x<;>rfl
@[simp] theorem A0N(l k g o:Nat):PB (.ptr l k g o)=some (.ptr l k g o):=rfl
@[simp] theorem A8A(x:bm)(f:bm->Option V):H8 P (.oth (.nilCheck x)) f=[]:=rfl
@[simp] theorem A8B(T:bg)(x i:bm)(ok:Bool)(f:bm->Option V):H8 P (.oth (.lookup T x i ok)) f=BG (f x):=rfl
@[simp] theorem AWI(l k g:Nat):CB s (.mp l k g)=some (.mp l k g):=rfl
theorem N3{α:Type}{f:α->Option α}:∀{l:List α},(∀x∈l,f x=some x)->HA f l=some l
 |[],_=>rfl
 |x::l,h=>by have ih:=N3 (f:=f) (l:=l) fun y hy=>h y (by simp[hy]);simp only[HA,h x (by simp),ih]
theorem VO:∀(l:List AA) (b:AA),CO (l++[b])=some (l,b)
 |[],b=>by simp
 |[a],b=>by simp
 |a::a2::l,b=>by have:=VO (a2::l) b;simp only[List.cons_append]at this|-;simp[this]
@[simp] theorem A0O(a:AA)(l:List AA)(b:AA):CO (a::(l++[b]))=some (a::l,b):=VO (a::l) b
@[simp] theorem A0P(d:Nat):DC P E (some d) (.mkM none) ⟨c,fr,s⟩=some ⟨c+1,(d,true,.mp s.up.length d c)::fr,s.put s.up.length d c (.map [])⟩:=rfl
end
section
variable {P:bh}{s:St}{r:bm->Option V}
@[simp] theorem AWJ(T:bg)(x h:bm):J2 P (tA (.slice T x none (some h) none)) s r=o2 (fun a b=>DB P s T a none (some b) none) (r x) (r h):=by show((r x).bind fun a=>((some none:Option (Option V))).bind fun l=>((r h).map some).bind fun h=>((some none:Option (Option V))).bind fun m=>DB P s T a l h m)=_;cases r x<;>cases r h<;>rfl
end
section
variable {P:bh}{E:XE}{c:Nat}{fr:Fr}{s:St}{r:bm->Option V}
theorem AC6{T e:bg}{l k g n h:Nat}(hT:BU P T=some (none,e))(hh:h<=n)(hc:0<P.cellsOf e):DB P s T (.vec l k g n) none (some (.int .i64 (h:Int))) none=some (.vec l k g h):=by unfold DB;simp only[hT];rw[if_pos ⟨by omega,by omega,hc⟩];simp
end
section
variable {P:bh}{fr:Fr}{s:St}
@[simp] theorem BCO(e d c:Nat)(ys:List (List V))(h:BZ P e 0 ys=true):wE P e d c fr s (.list true []) ys=some (⟨c+1,(d,true,.vec s.up.length d c ys.length)::fr,s.put s.up.length d c (.vec e ys)⟩,[(s.up.length,d),(s.up.length,d+JE)]):=by unfold wE;simp[IQ,h]
@[simp] theorem BCP(e d c l q γ n:Nat)(ys:List (List V)):wE P e d c fr s (.vec l q γ n) ys=wp [(l,q),(l,q+JE)] (apW P e d c fr s l q γ n ys (UU n ys (s.get l q))):=rfl
end
section
@[simp] theorem AM9{P:bh}{A:Ann}{kn:CF0}{n:Nat}:(BS P A kn n).cy=dJ (AE P A kn n):=rfl
end
section
variable {P:bh}{A:Ann}{kn:CF0}{n:Nat}{fr:Fr}{s:St}
def oc2(d c:Nat)(fr:Fr)(s:St):Option V->Option XS->Option XS
 |some r,_=>some ⟨c+1,(d,true,r.ren (fun _=>c) s.up.length)::fr,s.put s.up.length d c .dead⟩
 |none,z=>z
@[simp] theorem A8C(d c:Nat)(r:V)(z:Option XS):oc2 d c fr s (some r) z=some ⟨c+1,(d,true,r.ren (fun _=>c) s.up.length)::fr,s.put s.up.length d c .dead⟩:=rfl
def oc1(d c:Nat)(fr:Fr)(s:St)(F:List V->Option V):Option (List V)->Option XS->Option XS
 |some vs,z=>oc2 d c fr s (F vs) z
 |none,z=>z
@[simp] theorem AI7(d c:Nat)(F:List V->Option V)(vs:List V)(z:Option XS):oc1 d c fr s F (some vs) z=oc2 d c fr s (F vs) z:=rfl
@[simp] theorem A8D{f:bn}(hS:IW P f=false)(d c:Nat)(args:List bm):DC P (BS P A kn n) (some d) (.call true none (.func f) args) ⟨c,fr,s⟩ =
  oc1 d c fr s (fun vs=>FY P kn (AE P A kn n) f (vs.map weakV)) (GI (CP fr) args) (VD (BS P A kn n).cf (BS P A kn n).cy (some d) (.func f) args ⟨c,fr,s⟩):=by
 show qJ (BS P A kn n) true (some d) (.func f) args ⟨c,fr,s⟩=_
 unfold qJ
 show(match JS (BS P A kn n).co (some d) (.func f) args ⟨c,fr,s⟩ with|some st'=>some st'|none=>_)=_
 unfold JS
 have hf:CP fr (.func f)=some (.fn f [] []):=rfl
 simp only[hf]
 cases GI (CP fr) args with
 |none=>rfl
 |some vs=>
  simp only[AI7,bz,bb]
  have:(BS P A kn n).co f (vs.map weakV) d=(match FY P kn (AE P A kn n) f (vs.map weakV)with|some r=>some ⟨.dead,some r⟩|none=>none):=by show VH P kn (fun _ _ _=>none) (AE P A kn n) f _ d=_;unfold VH;simp only[hS];cases FY P kn (AE P A kn n) f (vs.map weakV)<;>rfl
  rw[this]
  cases FY P kn (AE P A kn n) f (vs.map weakV)with
  |none=>rfl
  |some r=>rfl
def od2(d c:Nat)(fr:Fr)(s:St):Option V->Option XS
 |some r=>some ⟨c+1,(d,true,r.ren (fun _=>c) s.up.length)::fr,s.put s.up.length d c .dead⟩
 |none=>none
@[simp] theorem A8E(d c:Nat)(r:V):od2 d c fr s (some r)=some ⟨c+1,(d,true,r.ren (fun _=>c) s.up.length)::fr,s.put s.up.length d c .dead⟩:=rfl
def od1(d c:Nat)(fr:Fr)(s:St)(F:List V->Option V):Option (List V)->Option XS
 |some vs=>od2 d c fr s (F vs)
 |none=>none
@[simp] theorem AI8(d c:Nat)(F:List V->Option V)(vs:List V):od1 d c fr s F (some vs)=od2 d c fr s (F vs):=rfl
@[simp] theorem A0Q{f:bn}(hS:IW P f=false)(d c:Nat)(args:List bm):DP P (BS P A kn n) (some d) (.call true none (.func f) args) ⟨c,fr,s⟩ =
  nw (od1 d c fr s (fun vs=>FY P kn (AE P A kn n) f (vs.map weakV)) (GI (CP fr) args)):=by
 show VE (JS (BS P A kn n).co (some d) (.func f) args ⟨c,fr,s⟩)=_
 rw[GZ]
 congr 1
 unfold JS
 have hf:CP fr (.func f)=some (.fn f [] []):=rfl
 simp only[hf]
 cases GI (CP fr) args with
 |none=>rfl
 |some vs=>
  simp only[AI8,bz,bb]
  have:(BS P A kn n).co f (vs.map weakV) d=(match FY P kn (AE P A kn n) f (vs.map weakV)with|some r=>some ⟨.dead,some r⟩|none=>none):=by show VH P kn (fun _ _ _=>none) (AE P A kn n) f _ d=_;unfold VH;simp only[hS];cases FY P kn (AE P A kn n) f (vs.map weakV)<;>rfl
  rw[this]
  cases FY P kn (AE P A kn n) f (vs.map weakV)with
  |none=>rfl
  |some r=>rfl
end
section
variable {fr:Fr}{s:St}
@[simp] theorem ARX(l k g:Nat):CB s (.yld l k g)=some (.yld l k g):=rfl
@[simp] theorem ARY(f:Nat)(cs:List V):A5 s (f+1) (.ref cs)=some (.ref cs):=rfl
@[simp] theorem A8F{P:bh}:GL P [] fr s=some (.tup []):=rfl
@[simp] theorem AI9:CR .nilFunc=some (.raw .nilFunc):=rfl
@[simp] theorem AWK(f l k g:Nat):AG (f+1) (.yld l k g)=false:=rfl
@[simp] theorem A8G(l k g:Nat):weakV (.yld l k g)=.yld l k g:=rfl
@[simp] theorem BCR(d c l k g:Nat):bx1 d c fr s (some (.yld l k g))=some ⟨c+1,(d,true,.ptr s.up.length d c 0)::fr,s.put s.up.length d c (.box [.yld l k g])⟩:=rfl
@[simp] theorem BCS(F:List V->Option (List V))(g off:Nat)(g':Nat)(cs:List V):cp1 F g off (some (g',.box cs))=if g'=g then(F cs).map (fun ds=>V.ref (ds.drop off)) else none:=rfl
def mk4(P:bh)(d c:Nat)(fr:Fr)(s:St)(e:bg)(n m:Int):Option (List V)->Option XS
 |some z=>if 0<=n/\m=n/\z.length=P.cellsOf e/\n.toNat*P.bytesOf e<=140737488355328/\n.toNat<=maxLen then some ⟨c+1,(d,true,.vec s.up.length d c n.toNat)::fr,s.put s.up.length d c (.vec e (List.replicate n.toNat z))⟩ else none
 |none=>none
@[simp] theorem A8H{P:bh}(d c:Nat)(e:bg)(n m:Int)(z:List V):mk4 P d c fr s e n m (some z)=if 0<=n/\m=n/\z.length=P.cellsOf e/\n.toNat*P.bytesOf e<=140737488355328/\n.toNat<=maxLen then some ⟨c+1,(d,true,.vec s.up.length d c n.toNat)::fr,s.put s.up.length d c (.vec e (List.replicate n.toNat z))⟩ else none:=rfl
def mk3(P:bh)(d c:Nat)(fr:Fr)(s:St):Option (Option Nat×bg)->Option V->Option V->Option XS
 |some (none,e),some (.int _ n),some (.int _ m)=>mk4 P d c fr s e n m (CA P e)
 |_,_,_=>none
@[simp] theorem AJA{P:bh}(d c:Nat)(e:bg)(k1 k2:IntKind)(n m:Int):mk3 P d c fr s (some (none,e)) (some (.int k1 n)) (some (.int k2 m))=mk4 P d c fr s e n m (CA P e):=rfl
@[simp] theorem A0R{P:bh}{E:XE}(T:bg)(d c:Nat)(x y:bm):DC P E (some d) (.mkS T x y) ⟨c,fr,s⟩=mk3 P d c fr s (BU P T) (CP fr x) (CP fr y):=by
 show YI P (some d) T x y ⟨c,fr,s⟩=_;unfold YI;simp only;cases BU P T with
 |none=>cases CP fr x<;>cases CP fr y<;>rfl
 |some p=>
  obtain⟨k,e⟩:=p
  cases k with
  |some k=>cases CP fr x<;>cases CP fr y<;>rfl
  |none=>
   cases CP fr x with
   |none=>rfl
   |some a=>
    cases CP fr y with
    |none=>cases a<;>rfl
    |some z=>
     cases a with
     |int k1 n=>
      cases z with
      |int k2 m=>simp only[AJA];cases CA P e<;>rfl
      |_=>rfl
     |_=>rfl
@[simp] theorem BCT{P:bh}(T:bg)(x y:bm)(r:bm->Option V):H8 P (.mkS T x y) r=[]:=rfl
def rE(fr:Fr)(n γ:Nat)(r:Option XS):Option (Exit×XS):=match r with
 |some st=>match st.s.get n BL with
  | some (γ',.loop _ _ _ _ _ ls)=>Bool.rec none (match ls with
   |.ready=>some (.normal,⟨st.c,fr,st.s.put n BL γ .dead⟩)
   |.left .ret=>some (.ret,⟨st.c,fr,st.s.put n BL γ .dead⟩)
   |.left (.exit id)=>some (.exit id,⟨st.c,fr,st.s.put n BL γ .dead⟩)
   | _=>none) (bc γ' γ&&bj γ st.c)
  |_=>none
 |none=>none
theorem XH{P:bh}{A:Ann}{kn:CF0}{n N:Nat}{g:bm}{ps:List Tmp}{asg body:Code}{c:Nat}{up:List AA}{loc:AA}{f:bn}{first cap:List V}(h:CP fr g=some (.fn f first cap)) :
  W8 (BS P A kn n).cf N g ps asg body ⟨c,fr,⟨up,loc⟩⟩=rE fr up.length c (H9 (BS P A kn n) none ⟨c+1,fr,⟨up,(BL,c,.loop fr ps asg body N .ready)::loc⟩⟩ f ((first++[V.yld up.length BL c]++cap).map weakV)):=by
 unfold W8
 simp only[h]
 unfold H9 lI rE
 simp only[St.put,if_true,AA.put]
 cases (BS P A kn n).cf f ((first++[V.yld up.length BL c]++cap).map weakV) ⟨c+1,fr,⟨up,(BL,c,.loop fr ps asg body N .ready)::loc⟩⟩ with
 |none=>rfl
 |some r=>rfl
theorem eF{n γ c:Nat}{fr' fr0:Fr}{s:St}{ps:List Tmp}{asg body:Code}{N:Nat}(h:s.get n BL=some (γ,.loop fr0 ps asg body N .ready))(hc:γ<c):rE fr n γ (some ⟨c,fr',s⟩)=some (.normal,⟨c,fr,s.put n BL γ .dead⟩):=by
 unfold rE;simp only[h];have:(bc γ γ&&bj γ c)=true:=by simpa using hc
 rw[this]
@[simp] theorem A0S(t:St)(fr0:Fr)(ps:List Tmp)(asg body:Code)(N:Nat)(l:LS):CV t (.loop fr0 ps asg body N l)=.loop fr0 ps asg body N l:=rfl
theorem ZI{rec:GP}{l q γ c N:Nat}{fr0:Fr}{ps:List Tmp}{asg body:Code}{vs:List V}(h:s.get l q=some (γ,.loop fr0 ps asg body N .ready))(hv:vs.length=ps.length)(hc:γ<c) :
  dJ rec l q γ vs ⟨c,fr,s⟩=W9 fr l q γ (dI (rec N) l q γ body (rec N asg ⟨c,JX fr0 ps vs,⟨s.up++[s.loc],[]⟩⟩)):=by
 unfold dJ
 simp only[h]
 have:(bc γ γ&&bc vs.length ps.length&&bj γ c)=true:=by simp[hv,hc]
 rw[this]
theorem I2{rec:eW}{l q γ c N:Nat}{fr0:Fr}{ps:List Tmp}{asg body body':Code}(h:s.get l q=some (γ,.loop fr0 ps asg body' N .ready))(hc:γ<c) :
  dI rec l q γ body (some (.normal,⟨c,fr,s⟩))=rec body ⟨c,fr,s.put l q γ (.loop fr0 ps asg body' N .busy)⟩:=by
 unfold dI
 simp only[h]
 have:(bc γ γ&&bj γ c)=true:=by simp[hc]
 rw[this]
theorem RL{fr':Fr}{l q γ c N:Nat}{fr0:Fr}{ps:List Tmp}{asg body:Code}{up u:List AA}{loc lc:AA}(h:St.get ⟨up,loc⟩ l q=some (γ,.loop fr0 ps asg body N .busy))(hu:CO up=some (u,lc))(hl:l<up.length)(hc:γ<c) :
  W9 fr l q γ (some (.normal,⟨c,fr',⟨up,loc⟩⟩))=some (.bool true,⟨c,fr,St.put ⟨u.map (AJ ⟨up,loc⟩),AJ ⟨up,loc⟩ lc⟩ l q γ (.loop fr0 ps asg body N .ready)⟩):=by
 unfold W9
 simp only[h,hu]
 have:(bc γ γ&&bj l up.length&&bj γ c)=true:=by simp[hc,hl]
 rw[this]
 rfl
end
section
def tkU(z:Option XS)(d:Option Tmp)(st:XS):Option V->Option XS
 |some r=>Bool.rec z (EN d st (some r)) (dS r)
 |none=>z
@[simp] theorem A8I(z:Option XS)(d:Option Tmp)(st:XS)(b:Bool):tkU z d st (some (.bool b))=EN d st (some (.bool b)):=rfl
@[simp] theorem AC7(st:XS)(v:V):IG st [] v=v:=rfl
@[simp] theorem vY(k:Nat)(ks:List Nat)(c:Nat)(fr:Fr)(up:List AA)(loc:AA)(v:V)(h:k<10000):IG ⟨c,fr,⟨up,loc⟩⟩ (k::ks) v=IG ⟨c,fr,⟨up,loc⟩⟩ ks (BN up.length k (loc.get k) 3 v):=by
 have:bj k 10000=true:=by simpa [bq]using h
 simp only[IG,this,cond_true]
@[simp] theorem F7(k:Nat)(ks:List Nat)(st:XS)(v:V)(h:¬k<10000):IG st (k::ks) v=IG st ks (BN (k / 10000-1) (k % 10000) (st.s.get (k / 10000-1) (k % 10000)) 3 v):=by
 have:bj k 10000=false:=by
  cases hb:bj k 10000 with
  |false=>rfl
  |true=>exact absurd (by simpa [bq]using hb) h
 simp only[IG,this,cond_false]
@[simp] theorem BCU{P:bh}{A:Ann}{kn:CF0}{n k:Nat}{us:List Nat}(d:Option Tmp)(st:XS)(f:bn)(args:List V):H9 (cfU (k::us) (BS P A kn n)) d st f args=tkU (H9 (BS P A kn n) d st f args) d st (FY P kn (AE P A kn n) f (args.map (IG st (k::us)))):=by
 show(match qX (BS P A kn n).cf (BS P A kn n).c0 (k :: us) f args st with
  |some (r,st')=>some (⟨st'.c,putD st'.fr d true r,st'.s⟩:XS)
  | none=>none)=_
 unfold qX;have e:(BS P A kn n).c0=FY P kn (AE P A kn n):=rfl;rw[e];cases FY P kn (AE P A kn n) f (args.map (IG st (k::us)))with
 |none=>rfl
 |some r=>
  show(match(Bool.rec ((BS P A kn n).cf f args st) (some (r,st)) (dS r):Option (V×XS))with
   |some (r,st')=>some (⟨st'.c,putD st'.fr d true r,st'.s⟩:XS)
   | none=>none)=(Bool.rec (H9 (BS P A kn n) d st f args) (EN d st (some r)) (dS r):Option XS)
  cases dS r<;>rfl
end
theorem I3{j k:Nat}(h:j≠k)(γ γ2:Nat)(T T2:bg)(es fs:List (List V)):(pl j γ T es++pl k γ2 T2 fs).get k=(pl k γ2 T2 fs).get k:=by cases es<;>cases fs<;>simp[h.symm]
theorem AOQ{j k:Nat}(h:j≠k)(γ:Nat)(T:bg)(es:List (List V))(x:Nat×A0):(pl j γ T es++[(k,x)]).get k=some x:=by cases es<;>simp[h.symm]
theorem AWL{j k:Nat}(h:j≠k)(γ:Nat)(T:bg)(es:List (List V))(x:Nat×A0)(M:AA):kl j M ((pl j γ T es++[(k,x)]).get j)=pl j γ T es++M:=by cases es<;>simp[h]
theorem H1{j k:Nat}(h:j≠k)(γ γ2:Nat)(T T2:bg)(es fs:List (List V)):(pl j γ T es++pl k γ2 T2 fs).get j=(pl j γ T es).get j:=by cases es<;>cases fs<;>simp[h]
theorem VP{j k m:Nat}(h1:j≠m)(h2:k≠m)(γ γ2:Nat)(T T2:bg)(es fs:List (List V)):(pl j γ T es++pl k γ2 T2 fs).get m=none:=by cases es<;>cases fs<;>simp[h1.symm,h2.symm]
theorem KS{j:Nat}(γ:Nat)(T:bg)(es:List (List V))(M:AA):kl j M ((pl j γ T es).get j)=pl j γ T es++M:=by cases es<;>simp
theorem VQ{t:St}{T:bg}{es:List (List V)}(h:∀e∈es,∀v∈e,CB t v=some v):CV t (.vec T es)=.vec T es:=by
 have:CD t (.vec T es)=some (.vec T es):=by unfold CD;simp only;rw[N3 fun e he=>N3 fun v hv=>h e he v hv]
 unfold CV;rw[this]
theorem LH{α:Type}(p:α->Bool):∀(l:List α),(!l.any fun x=>!p x)=l.all p
 |[]=>rfl
 |x::l=>by have:=LH p l;simp only[List.any_cons,List.all_cons,Bool.not_or,Bool.not_not,<-this]
section
variable {P:bh}{fr:Fr}{s:St}
def pt(k γ:Nat):List (List V)->V
 |[]=>.list true []
 |e::es=>.vec 0 k γ (e::es).length
@[simp] theorem BH7(k γ:Nat):pt k γ []=.list true []:=rfl
@[simp] theorem BH8(e k c γ:Nat)(loc:AA)(es:List (List V))(y:List V)(ys:List (List V))(hl:AA.get loc k=(pl k γ e es).get k)(h1:es.all (fun y=>y.length==P.cellsOf e)=true)(h2:BZ P e es.length (y::ys)=true) :
  apV P e k c fr ⟨[],loc⟩ (pt k γ es) (y::ys)=some ⟨c+1,(k,true,pt k c (es++y::ys))::fr,⟨[],(k,c,.vec e (es++y::ys))::loc⟩⟩:=by
 cases es with
 |nil=>
  simp only[List.length_nil]at h2
  simp[h2,pt]
 |cons z es=>
  have h:=AX8 (P:=P) (fr:=fr) e k c γ loc (z::es) y ys hl h1 h2
  exact h
theorem AC8{T:bg}(f:Nat)(loc:AA)(k γ:Nat)(es:List (List V))(hl:AA.get loc k=(pl k γ T es).get k):A5 ⟨[],loc⟩ (f+1) (pt k γ es)=some (.list false es):=by
 cases es with
 |nil=>rfl
 |cons e es=>exact QR (T:=T) f loc k γ (e::es) hl
@[simp] theorem AWM(f k γ:Nat)(T:bg)(es:List (List V)):A5 ⟨[],pl k γ T es⟩ (f+1) (pt k γ es)=some (.list false es):=AC8 (T:=T) f _ k γ es rfl
end
@[simp] theorem BCV(st:XS):LD [] st=st:=rfl
@[simp] theorem A8J(k:Nat)(ks:List Nat)(c:Nat)(fr:Fr)(up:List AA)(loc:AA)(h:k<1000):LD (k::ks) ⟨c,fr,⟨up,loc⟩⟩=LD ks ⟨c,RK up.length k (loc.get k) fr,⟨up,FH up.length k (loc.get k) loc⟩⟩:=by
 have h1:bj k 1000=true:=by simpa [bq]using h
 show LD ks (zG k ⟨c,fr,⟨up,loc⟩⟩)=_;unfold zG;rw[h1];rfl
@[simp] theorem A8K(k:Nat)(ks:List Nat)(c:Nat)(fr:Fr)(up:List AA)(loc:AA)(h:2000000000000000<=k):LD (k::ks) ⟨c,fr,⟨up,loc⟩⟩=LD ks ⟨c,fr,⟨up,rA (k % 1000) loc⟩⟩:=by
 have h1:bj k 1000=false:=by rw[<-bx,bq];omega
 have h2:bj k 1000000000000000=false:=by rw[<-bx,bq];omega
 have h3:bj k 2000000000000000=false:=by rw[<-bx,bq];omega
 show LD ks (zG k ⟨c,fr,⟨up,loc⟩⟩)=_;unfold zG;rw[h1,h2,h3];rfl
@[simp] theorem BCW(k:Nat):rA k []=[]:=rfl
@[simp] theorem A8L(k j g:Nat)(r:A0)(L:AA):rA k ((j,g,r)::L)=(j,g,if j=k then wkR r else r)::rA k L:=rfl
@[simp] theorem BCX(T:bg)(es:List (List V)):wkR (.vec T es)=.vec T (es.map (List.map zD)):=rfl
@[simp] theorem A8M(b:Bool)(es:List (List V)):zD (.list b es)=.list b es:=rfl
section
variable {l k:Nat}{o:Option (Nat×A0)}
end
@[simp] theorem BCY{k j:Nat}(h:j≠k)(r:Fr)(o:Option (Bool×V)):A3 (kx k r o) j=A3 r j:=by
 cases o with
 |none=>rfl
 |some x=>
  obtain⟨c,v⟩:=x
  simp[h]
end Go.Pg
