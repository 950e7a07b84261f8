/- Rows told as lists, by simp. No program in sight. -/
import Derived.Test.YthhdhbalenanjaaGreatSx
noncomputable section
open Go renaming TypeId->bh,Program->bm,Operand->bn,FuncId->bp
open Nat renaming blt->bj,blt_eq->bk,beq->bc
open List renaming map_congr_left->bq,nil_append->bw,append_nil->bx,all_eq_true->bz,map_id->bf,map->bg
open Bool renaming not_eq_true->bb
set_option linter.unusedSimpArgs false
namespace Go.Pg
variable {P:bm}{l k:Nat}{o:Option (Nat×AX)}
@[simp] theorem AW7(st:XS):UN [] st=st:=rfl
@[simp] theorem AW8:PA l k o []=[]:=rfl
@[simp] theorem ATA(j:Nat)(c:Bool)(v:V)(fr:Fr):PA l k o ((j,c,v)::fr)=(j,c,BC l k o 3 v)::PA l k o fr:=rfl
@[simp] theorem AW9:GH l k o []=[]:=rfl
@[simp] theorem ATB(j g:Nat)(r:AX)(L:AA):GH l k o ((j,g,r)::L)=if j=k then GH l k o L else(j,g,K2 l k o r)::GH l k o L:=rfl
theorem XD:∀(f g:Nat) (v:V),AG g v=true->BC l k o f v=v
 |0,_,_,_=>rfl
 |f+1,0,v,h=>by cases h
 |f+1,g+1,v,h=>by
  have lst:∀cs:List V,cs.all (AG g)=true->cs.map (BC l k o f)=cs:=by
   intro cs h;conv=>rhs;rw[<-bf cs]
   exact bq fun x hx=>XD f g x (bz.1 h x hx)
  cases v with
  |vec _ _ _ _=>cases h
  |ptr _ _ _ _=>cases h
  |agg cs=>simp only[BC];rw[lst cs h]
  |tup cs=>simp only[BC];rw[lst cs h]
  |_=>rfl
theorem tV{cs:List V}(h:cs.all (AG 9)=true)(f:Nat):cs.map (BC l k o f)=cs:=by
 conv=>rhs;rw[<-bf cs]
 exact bq fun x hx=>XD f 9 x (bz.1 h x hx)
theorem AA6{es:List (List V)}(h:(es.all fun e=>e.all (AG 9))=true)(f:Nat):es.map (bg (BC l k o f))=es:=by
 conv=>rhs;rw[<-bf es]
 exact bq fun x hx=>tV (bz.1 h x hx) f
@[simp] theorem AA7{j:Nat}(h:j≠k)(γ:Nat)(T:bh)(es:List (List V))(L:AA)(hc:(es.all fun e=>e.all (AG 9))=true):GH l k o (pl j γ T es++L)=pl j γ T es++GH l k o L:=by
 cases es with
 |nil=>rfl
 |cons e es=>
  have q:=AA6 (l:=l) (k:=k) (o:=o) hc 3
  simp only[List.map_cons]at q
  simp[h,K2,q]
@[simp] theorem AA8{j:Nat}(h:j≠k)(γ:Nat)(T:bh)(es:List (List V))(hc:(es.all fun e=>e.all (AG 9))=true):GH l k o (pl j γ T es)=pl j γ T es:=by have:=AA7 (l:=l) (o:=o) h γ T es [] hc;simpa using this
@[simp] theorem AXA(cs:List V):K2 l k o (.box cs)=.box (cs.map (BC l k o 3)):=rfl
@[simp] theorem AXB(T:bh)(es:List (List V)):K2 l k o (.vec T es)=.vec T (es.map (bg (BC l k o 3))):=rfl
@[simp] theorem AXC(es:List (V×V)):K2 l k o (.map es)=.map es:=rfl
@[simp] theorem ATC:K2 l k o .dead=.dead:=rfl
@[simp] theorem fY(f:Nat)(i:IntKind)(n:Int):BC l k o f (.int i n)=.int i n:=by cases f<;>rfl
@[simp] theorem ATD(f:Nat)(b:Bool):BC l k o f (.bool b)=.bool b:=by cases f<;>rfl
@[simp] theorem ATE(f:Nat)(b:Bool)(es:List (List V)):BC l k o f (.list b es)=.list b es:=by cases f<;>rfl
@[simp] theorem A4D(f:Nat)(es:List (List V)):BC l k o f (sl es)=sl es:=by cases f<;>cases es<;>rfl
@[simp] theorem AXD(f:Nat)(cs:List V):BC l k o f (.ref cs)=.ref cs:=by cases f<;>rfl
theorem AA9(f a b c d:Nat)(h:¬(a=l/\b=k)):BC l k o f (.ptr a b c d)=.ptr a b c d:=by
 cases f with
 |zero=>rfl
 |succ f=>
  simp only[BC]
  split
  ·rw[if_neg fun hh=>h ⟨hh.1,hh.2.1⟩]
  ·rfl
@[simp] theorem ATF(f a b c d:Nat)(h:¬b=k):BC l k o f (.ptr a b c d)=.ptr a b c d:=AA9 f a b c d fun hh=>h hh.2
@[simp] theorem ATG(γ:Nat)(cs:List V)(f a b g off:Nat):BC l k (some (γ,.box cs)) (f+1) (.ptr a b g off)=if a=l/\b=k/\g=γ then .ref ((cs.map T6).drop off) else .ptr a b g off:=rfl
@[simp] theorem A4E(q:IntKind)(n:Int):T6 (.int q n)=.int q n:=rfl
@[simp] theorem AXE(b:Bool)(es:List (List V)):T6 (.list b es)=.list b es:=rfl
@[simp] theorem A8X(a b c:Nat):T6 (.mp a b c)=.any:=rfl
@[simp] theorem ATH(f:Nat):AG (f+1) .any=true:=rfl
@[simp] theorem A4F(f a b c:Nat):BC l k o f (.mp a b c)=.mp a b c:=by cases f<;>rfl
@[simp] theorem A4G(f:Nat)(g:bp)(xs ys:List V):BC l k o f (.fn g xs ys)=.fn g xs ys:=by cases f<;>rfl
@[simp] theorem ABA(f:Nat):BC l k o f .nil=.nil:=by cases f<;>rfl
@[simp] theorem AXF(f:Nat)(cs:List V):BC l k o (f+1) (.agg cs)=.agg (cs.map (BC l k o f)):=rfl
@[simp] theorem AXG(γ:Nat)(T:bh)(es:List (List V))(f l' k' g m:Nat):BC l k (some (γ,.vec T es)) (f+1) (.vec l' k' g m)=if l'=l/\k'=k/\g=γ/\m=es.length then .list false es else .vec l' k' g m:=rfl
@[simp] theorem AXH{j:Nat}(h:j≠k)(γ:Nat)(es:List (List V))(f:Nat):BC l k o f (pv j γ es)=pv j γ es:=by
 cases es with
 |nil=>cases f<;>rfl
 |cons e es=>
  cases f with
  |zero=>rfl
  |succ f=>
   simp only[pv,BC]
   split
   ·rw[if_neg (fun hh=>h hh.2.1)]
   ·rfl
def oe2(d c:Nat)(fr:Fr)(s:St):Option Mk->Option XS->Option XS
 |some r,_=>some ⟨c+1,(d,true,r.val s.up.length d c)::fr,s.put s.up.length d c r.res⟩
 |none,z=>z
@[simp] theorem A8Y(d c:Nat)(fr:Fr)(s:St)(T:bh)(es:List (List V))(z:Option XS):oe2 d c fr s (some ⟨.vec T es,none⟩) z=some ⟨c+1,(d,true,.vec s.up.length d c es.length)::fr,s.put s.up.length d c (.vec T es)⟩:=rfl
def oe1(d c:Nat)(fr:Fr)(s:St)(F:List V->Option Mk):Option (List V)->Option XS->Option XS
 |some vs,z=>oe2 d c fr s (F vs) z
 |none,z=>z
@[simp] theorem AHD(d c:Nat)(fr:Fr)(s:St)(F:List V->Option Mk)(vs:List V)(z:Option XS):oe1 d c fr s F (some vs) z=oe2 d c fr s (F vs) z:=rfl
variable {A:Ann}{kn:CF0}{n:Nat}{fr:Fr}{s:St}
@[simp] theorem A8Z{f:bp}(hS:H0 P f=true)(d c:Nat)(args:List bn):C4 P (BG P A kn n) (some d) (.call true none (.func f) args) ⟨c,fr,s⟩ =
  oe1 d c fr s (fun vs=>H1 P (AE P A kn n) f (vs.map weakV)) (FN (CI fr) args) (QW (BG P A kn n).cf (BG P A kn n).cy (some d) (.func f) args ⟨c,fr,s⟩):=by
 show aZ (BG P A kn n) true (some d) (.func f) args ⟨c,fr,s⟩=_
 unfold aZ
 show(match HX (BG P A kn n).co (some d) (.func f) args ⟨c,fr,s⟩ with|some st'=>some st'|none=>_)=_
 unfold HX
 have hf:CI fr (.func f)=some (.fn f [] []):=rfl
 simp only[hf]
 cases FN (CI fr) args with
 |none=>rfl
 |some vs=>
  simp only[AHD,bw,bx]
  have:(BG P A kn n).co f (vs.map weakV) d=H1 P (AE P A kn n) f (vs.map weakV):=by show O7 P kn (fun _ _ _=>none) (AE P A kn n) f _ d=_;unfold O7;simp only[hS]
  rw[this]
  cases H1 P (AE P A kn n) f (vs.map weakV)with
  |none=>rfl
  |some r=>rfl
def of2(d c:Nat)(fr:Fr)(s:St):Option Mk->Option XS
 |some r=>some ⟨c+1,(d,true,r.val s.up.length d c)::fr,s.put s.up.length d c r.res⟩
 |none=>none
@[simp] theorem A80(d c:Nat)(fr:Fr)(s:St)(T:bh)(es:List (List V)):of2 d c fr s (some ⟨.vec T es,none⟩)=some ⟨c+1,(d,true,.vec s.up.length d c es.length)::fr,s.put s.up.length d c (.vec T es)⟩:=rfl
def of1(d c:Nat)(fr:Fr)(s:St)(F:List V->Option Mk):Option (List V)->Option XS
 |some vs=>of2 d c fr s (F vs)
 |none=>none
@[simp] theorem AHE(d c:Nat)(fr:Fr)(s:St)(F:List V->Option Mk)(vs:List V):of1 d c fr s F (some vs)=of2 d c fr s (F vs):=rfl
@[simp] theorem A4H{f:bp}(hS:H0 P f=true)(d c:Nat)(args:List bn):DJ P (BG P A kn n) (some d) (.call true none (.func f) args) ⟨c,fr,s⟩ =
  nw (of1 d c fr s (fun vs=>H1 P (AE P A kn n) f (vs.map weakV)) (FN (CI fr) args)):=by
 show UK (HX (BG P A kn n).co (some d) (.func f) args ⟨c,fr,s⟩)=_
 rw[GW]
 congr 1
 unfold HX
 have hf:CI fr (.func f)=some (.fn f [] []):=rfl
 simp only[hf]
 cases FN (CI fr) args with
 |none=>rfl
 |some vs=>
  simp only[AHE,bw,bx]
  have:(BG P A kn n).co f (vs.map weakV) d=H1 P (AE P A kn n) f (vs.map weakV):=by show O7 P kn (fun _ _ _=>none) (AE P A kn n) f _ d=_;unfold O7;simp only[hS]
  rw[this]
  cases H1 P (AE P A kn n) f (vs.map weakV)with
  |none=>rfl
  |some r=>rfl
def A4I(P:bm)(fn:Func)(r:Option (Exit×XS)):Option Mk:=match r with
 |some (.ret,st)=>sU P fn st
 |some (.normal,st)=>sU P fn st
 |_=>none
@[simp] theorem A4J(fn:Func)(st:XS):A4I P fn (some (.ret,st))=sU P fn st:=rfl
theorem WD{f:bp}{fn:Func}{c:Code}{args:List V}{rec:GU}(hf:P.funcs[f]? = some fn)(hb:fn.body=some c)(hs:Nat.ble args.length fn.ntmps=true)(hcl:args.all (AG 9)=true) :
  H1 P rec f args=A4I P fn (rec fn.ntmps c ⟨0,AD 0 args,⟨[],[]⟩⟩):=by
 unfold H1 XC nZ
 rw[hcl,hf]
 simp only[hb,hs]
 generalize rec fn.ntmps c ⟨0,AD 0 args,⟨[],[]⟩⟩=q
 cases q with
 |none=>rfl
 |some q=>
  obtain⟨e,st⟩:=q
  cases e<;>rfl
def rO(P:bm)(fn:Func)(st:XS)(v:Option V):Option Mk:=match v with
 | some (.vec l k γ n)=>Bool.rec none (match st.s.loc.get k with
  |some (γ',.vec T es)=>Bool.rec none (some ⟨.vec T es,none⟩) (bc γ' γ&&bc n es.length&&es.all fun e=>e.all (AG 9))
  | _=>none) (bc l st.s.up.length)
 | some v=>Bool.rec none (match fn.resultTypes.toList with
  |[R]=>match BT P R with
   |some (none,T)=>some ⟨.vec T [],none⟩
   |_=>none
  | _=>none) (XK v)
 |none=>none
theorem YC(fn:Func)(st:XS):sU P fn st=rO P fn st (F3 P fn.results.toList st.fr st.s):=rfl
theorem oU{fn:Func}{R T:bh}(h1:fn.resultTypes.toList=[R])(h2:BT P R=some (none,T))(c:Nat)(fr:Fr)(loc:AA)(k γ:Nat)(es:List (List V))(hl:loc.get k=(pl k γ T es).get k)(hc:(es.all fun e=>e.all (AG 9))=true):rO P fn ⟨c,fr,⟨[],loc⟩⟩ (some (pv k γ es))=some ⟨.vec T es,none⟩:=by
 cases es with
 |nil=>
  show(Bool.rec none (match fn.resultTypes.toList with
   |[R]=>match BT P R with
    |some (none,T)=>some ⟨.vec T [],none⟩
    |_=>none
   | _=>none) true:Option Mk)=_
  rw[h1]
  simp only[h2]
 |cons e es=>
  have hl:loc.get k=some (γ,.vec T (e::es)):=by rw[hl];simp
  simp only[pv,rO,hl,hc,List.length_nil,Bool.and_true]
  simp
end Go.Pg
namespace Go.Pg
section
@[simp] theorem unsnoc_snoc{α:Type}(x:α):∀(l:List α),B8 (l++[x])=some (l,x)
 |[]=>rfl
 |[y]=>rfl
 |y::z::l=>by have:=unsnoc_snoc x (z::l);simp only[List.cons_append]at this|-;rw[XG,this];rfl
end
section
variable {P:bm}{E:XE}{d:Option Tmp}{c:Nat}{fr:Fr}{s:St}{r:bn->Option V}
@[simp] theorem ATI(T:bh)(x i:bn)(ok:Bool):JX P (tY (.lookup T x i ok)) s r=o2 (fun a b=>DO P s T a b ok) (r x) (r i):=by show((r x).bind fun a=>(r i).bind fun b=>DO P s T a b ok)=_;cases r x<;>cases r i<;>rfl
def up1(c:Nat)(fr:Fr)(s:St):Option (Nat×Nat×Nat×List (V×V))->Option XS
 |some (l,q,γ,es)=>Bool.rec none (some ⟨c,fr,s.put l q γ (.map es)⟩) (bj γ c)
 |none=>none
def up3(P:bm)(T:bh)(c:Nat)(fr:Fr)(s:St):Option V->Option V->Option V->Option XS
 |some m,some i,some v=>up1 c fr s (LZ P s T m i v)
 |_,_,_=>none
@[simp] theorem A4K(T:bh)(m i v:V):up3 P T c fr s (some m) (some i) (some v)=up1 c fr s (LZ P s T m i v):=rfl
theorem AHF(l q γ:Nat)(es:List (V×V))(h:γ<c):up1 c fr s (some (l,q,γ,es))=some ⟨c,fr,s.put l q γ (.map es)⟩:=by
 have:bj γ c=true:=by simpa [bk]using h
 show(Bool.rec none (some ⟨c,fr,s.put l q γ (.map es)⟩) (bj γ c):Option XS)=_;rw[this]
@[simp] theorem AXI(T:bh)(x i y:bn):C4 P E none (.upd T x i y) ⟨c,fr,s⟩=up3 P T c fr s (CI fr x) (CI fr i) (CI fr y):=by show AAO P none T x i y ⟨c,fr,s⟩=_;unfold AAO up3 up1;simp only;cases CI fr x<;>cases CI fr i<;>cases CI fr y<;>simp only;split<;>simp_all
@[simp] theorem A4L(x:bn):JX P (tY (.nilCheck x)) s r=o1 OS (r x):=by show(r x).bind OS=_;cases r x<;>rfl
@[simp] theorem AXJ(l k g o:Nat):OS (.ptr l k g o)=some (.ptr l k g o):=rfl
@[simp] theorem A4M(x:bn)(f:bn->Option V):H8 P (.oth (.nilCheck x)) f=[]:=rfl
@[simp] theorem A4N(T:bh)(x i:bn)(ok:Bool)(f:bn->Option V):H8 P (.oth (.lookup T x i ok)) f=CH (f x):=rfl
@[simp] theorem ATJ(l k g:Nat):BZ s (.mp l k g)=some (.mp l k g):=rfl
theorem NG{α:Type}{f:α->Option α}:∀{l:List α},(∀x∈l,f x=some x)->HA f l=some l
 |[],_=>rfl
 |x::l,h=>by have ih:=NG (f:=f) (l:=l) fun y hy=>h y (by simp[hy]);simp only[HA,h x (by simp),ih]
theorem UT:∀(l:List AA) (b:AA),B8 (l++[b])=some (l,b)
 |[],b=>by simp
 |[a],b=>by simp
 |a::a2::l,b=>by have:=UT (a2::l) b;simp only[List.cons_append]at this|-;simp[this]
@[simp] theorem AXK(a:AA)(l:List AA)(b:AA):B8 (a::(l++[b]))=some (a::l,b):=UT (a::l) b
@[simp] theorem AXL(d:Nat):C4 P E (some d) (.mkM none) ⟨c,fr,s⟩=some ⟨c+1,(d,true,.mp s.up.length d c)::fr,s.put s.up.length d c (.map [])⟩:=rfl
end
section
variable {P:bm}{s:St}{r:bn->Option V}
@[simp] theorem ATK(T:bh)(x h:bn):JX P (tY (.slice T x none (some h) none)) s r=o2 (fun a b=>C7 P s T a none (some b) none) (r x) (r h):=by show((r x).bind fun a=>((some none:Option (Option V))).bind fun l=>((r h).map some).bind fun h=>((some none:Option (Option V))).bind fun m=>C7 P s T a l h m)=_;cases r x<;>cases r h<;>rfl
end
section
variable {P:bm}{E:XE}{c:Nat}{fr:Fr}{s:St}{r:bn->Option V}
theorem ABB{T e:bh}{l k g n h:Nat}(hT:BT P T=some (none,e))(hh:h<=n)(hc:0<P.cellsOf e):C7 P s T (.vec l k g n) none (some (.int .i64 (h:Int))) none=some (.vec l k g h):=by unfold C7;simp only[hT];rw[if_pos ⟨by omega,by omega,hc⟩];simp
end
section
variable {P:bm}{fr:Fr}{s:St}
@[simp] theorem A82(e d c l q γ n:Nat)(ys:List (List V)):adV P e d c fr s (.vec l q γ n) ys=wp [(l,q),(l,q+JF)] (apW P e d c fr s l q γ n ys (TY n ys (s.get l q))):=rfl
end
section
@[simp] theorem AK0{P:bm}{A:Ann}{kn:CF0}{n:Nat}:(BG P A kn n).cy=bF (AE P A kn n):=rfl
end
section
variable {P:bm}{A:Ann}{kn:CF0}{n:Nat}{fr:Fr}{s:St}
def oc2(d c:Nat)(fr:Fr)(s:St):Option V->Option XS->Option XS
 |some r,_=>some ⟨c+1,(d,true,r.ren (fun _=>c) s.up.length)::fr,s.put s.up.length d c .dead⟩
 |none,z=>z
@[simp] theorem A4O(d c:Nat)(r:V)(z:Option XS):oc2 d c fr s (some r) z=some ⟨c+1,(d,true,r.ren (fun _=>c) s.up.length)::fr,s.put s.up.length d c .dead⟩:=rfl
def oc1(d c:Nat)(fr:Fr)(s:St)(F:List V->Option V):Option (List V)->Option XS->Option XS
 |some vs,z=>oc2 d c fr s (F vs) z
 |none,z=>z
@[simp] theorem AHG(d c:Nat)(F:List V->Option V)(vs:List V)(z:Option XS):oc1 d c fr s F (some vs) z=oc2 d c fr s (F vs) z:=rfl
@[simp] theorem A4P{f:bp}(hS:H0 P f=false)(d c:Nat)(args:List bn):C4 P (BG P A kn n) (some d) (.call true none (.func f) args) ⟨c,fr,s⟩ =
  oc1 d c fr s (fun vs=>FW P kn (AE P A kn n) f (vs.map weakV)) (FN (CI fr) args) (QW (BG P A kn n).cf (BG P A kn n).cy (some d) (.func f) args ⟨c,fr,s⟩):=by
 show aZ (BG P A kn n) true (some d) (.func f) args ⟨c,fr,s⟩=_
 unfold aZ
 show(match HX (BG P A kn n).co (some d) (.func f) args ⟨c,fr,s⟩ with|some st'=>some st'|none=>_)=_
 unfold HX
 have hf:CI fr (.func f)=some (.fn f [] []):=rfl
 simp only[hf]
 cases FN (CI fr) args with
 |none=>rfl
 |some vs=>
  simp only[AHG,bw,bx]
  have:(BG P A kn n).co f (vs.map weakV) d=(match FW P kn (AE P A kn n) f (vs.map weakV)with|some r=>some ⟨.dead,some r⟩|none=>none):=by show O7 P kn (fun _ _ _=>none) (AE P A kn n) f _ d=_;unfold O7;simp only[hS];cases FW P kn (AE P A kn n) f (vs.map weakV)<;>rfl
  rw[this]
  cases FW P kn (AE P A kn n) f (vs.map weakV)with
  |none=>rfl
  |some r=>rfl
def od2(d c:Nat)(fr:Fr)(s:St):Option V->Option XS
 |some r=>some ⟨c+1,(d,true,r.ren (fun _=>c) s.up.length)::fr,s.put s.up.length d c .dead⟩
 |none=>none
@[simp] theorem A4Q(d c:Nat)(r:V):od2 d c fr s (some r)=some ⟨c+1,(d,true,r.ren (fun _=>c) s.up.length)::fr,s.put s.up.length d c .dead⟩:=rfl
def od1(d c:Nat)(fr:Fr)(s:St)(F:List V->Option V):Option (List V)->Option XS
 |some vs=>od2 d c fr s (F vs)
 |none=>none
@[simp] theorem AHH(d c:Nat)(F:List V->Option V)(vs:List V):od1 d c fr s F (some vs)=od2 d c fr s (F vs):=rfl
@[simp] theorem AXM{f:bp}(hS:H0 P f=false)(d c:Nat)(args:List bn):DJ P (BG P A kn n) (some d) (.call true none (.func f) args) ⟨c,fr,s⟩ =
  nw (od1 d c fr s (fun vs=>FW P kn (AE P A kn n) f (vs.map weakV)) (FN (CI fr) args)):=by
 show UK (HX (BG P A kn n).co (some d) (.func f) args ⟨c,fr,s⟩)=_
 rw[GW]
 congr 1
 unfold HX
 have hf:CI fr (.func f)=some (.fn f [] []):=rfl
 simp only[hf]
 cases FN (CI fr) args with
 |none=>rfl
 |some vs=>
  simp only[AHH,bw,bx]
  have:(BG P A kn n).co f (vs.map weakV) d=(match FW P kn (AE P A kn n) f (vs.map weakV)with|some r=>some ⟨.dead,some r⟩|none=>none):=by show O7 P kn (fun _ _ _=>none) (AE P A kn n) f _ d=_;unfold O7;simp only[hS];cases FW P kn (AE P A kn n) f (vs.map weakV)<;>rfl
  rw[this]
  cases FW P kn (AE P A kn n) f (vs.map weakV)with
  |none=>rfl
  |some r=>rfl
@[simp] theorem BD8{σ:Nat->Nat}{δ:Nat}(es:List (List V)):(sl es).ren σ δ=sl (es.map (bg (V.ren σ δ))):=by cases es<;>simp[sl]
end
section
variable {fr:Fr}{s:St}
@[simp] theorem AO8(l k g:Nat):BZ s (.yld l k g)=some (.yld l k g):=rfl
@[simp] theorem AO9(f:Nat)(cs:List V):A1 s (f+1) (.ref cs)=some (.ref cs):=rfl
@[simp] theorem A4R{P:bm}:F3 P [] fr s=some (.tup []):=rfl
@[simp] theorem AHI:CQ .nilFunc=some (.raw .nilFunc):=rfl
@[simp] theorem ATL(f l k g:Nat):AG (f+1) (.yld l k g)=false:=rfl
@[simp] theorem A4S(l k g:Nat):weakV (.yld l k g)=.yld l k g:=rfl
@[simp] theorem A84(d c l k g:Nat):bx1 d c fr s (some (.yld l k g))=some ⟨c+1,(d,true,.ptr s.up.length d c 0)::fr,s.put s.up.length d c (.box [.yld l k g])⟩:=rfl
@[simp] theorem A85(F:List V->Option (List V))(g off:Nat)(g':Nat)(cs:List V):cp1 F g off (some (g',.box cs))=if g'=g then(F cs).map (fun ds=>V.ref (ds.drop off)) else none:=rfl
def mk4(P:bm)(d c:Nat)(fr:Fr)(s:St)(e:bh)(n m:Int):Option (List V)->Option XS
 |some z=>if 0<=n/\m=n/\z.length=P.cellsOf e/\n.toNat*P.bytesOf e<=140737488355328/\n.toNat<=maxLen then some ⟨c+1,(d,true,.vec s.up.length d c n.toNat)::fr,s.put s.up.length d c (.vec e (List.replicate n.toNat z))⟩ else none
 |none=>none
@[simp] theorem A4T{P:bm}(d c:Nat)(e:bh)(n m:Int)(z:List V):mk4 P d c fr s e n m (some z)=if 0<=n/\m=n/\z.length=P.cellsOf e/\n.toNat*P.bytesOf e<=140737488355328/\n.toNat<=maxLen then some ⟨c+1,(d,true,.vec s.up.length d c n.toNat)::fr,s.put s.up.length d c (.vec e (List.replicate n.toNat z))⟩ else none:=rfl
def mk3(P:bm)(d c:Nat)(fr:Fr)(s:St):Option (Option Nat×bh)->Option V->Option V->Option XS
 |some (none,e),some (.int _ n),some (.int _ m)=>mk4 P d c fr s e n m (CA P e)
 |_,_,_=>none
@[simp] theorem AHJ{P:bm}(d c:Nat)(e:bh)(k1 k2:IntKind)(n m:Int):mk3 P d c fr s (some (none,e)) (some (.int k1 n)) (some (.int k2 m))=mk4 P d c fr s e n m (CA P e):=rfl
@[simp] theorem AXN{P:bm}{E:XE}(T:bh)(d c:Nat)(x y:bn):C4 P E (some d) (.mkS T x y) ⟨c,fr,s⟩=mk3 P d c fr s (BT P T) (CI fr x) (CI fr y):=by
 show XA P (some d) T x y ⟨c,fr,s⟩=_;unfold XA;simp only;cases BT P T with
 |none=>cases CI fr x<;>cases CI fr y<;>rfl
 |some p=>
  obtain⟨k,e⟩:=p
  cases k with
  |some k=>cases CI fr x<;>cases CI fr y<;>rfl
  |none=>
   cases CI fr x with
   |none=>rfl
   |some a=>
    cases CI fr y with
    |none=>cases a<;>rfl
    |some z=>
     cases a with
     |int k1 n=>
      cases z with
      |int k2 m=>simp only[AHJ];cases CA P e<;>rfl
      |_=>rfl
     |_=>rfl
@[simp] theorem A86{P:bm}(T:bh)(x y:bn)(r:bn->Option V):H8 P (.mkS T x y) r=[]:=rfl
def rE(fr:Fr)(n γ:Nat)(r:Option XS):Option (Exit×XS):=match r with
 |some st=>match st.s.get n BA with
  | some (γ',.loop _ _ _ _ _ ls)=>Bool.rec none (match ls with
   |.ready=>some (.normal,⟨st.c,fr,st.s.put n BA γ .dead⟩)
   |.left .ret=>some (.ret,⟨st.c,fr,st.s.put n BA γ .dead⟩)
   |.left (.exit id)=>some (.exit id,⟨st.c,fr,st.s.put n BA γ .dead⟩)
   | _=>none) (bc γ' γ&&bj γ st.c)
  |_=>none
 |none=>none
theorem P6{P:bm}{A:Ann}{kn:CF0}{n N:Nat}{g:bn}{ps:List Tmp}{asg body:Code}{c:Nat}{up:List AA}{loc:AA}{f:bp}{first cap:List V}(h:CI fr g=some (.fn f first cap)) :
  V6 (BG P A kn n).cf N g ps asg body ⟨c,fr,⟨up,loc⟩⟩=rE fr up.length c (HC (BG P A kn n) none ⟨c+1,fr,⟨up,(BA,c,.loop fr ps asg body N .ready)::loc⟩⟩ f ((first++[V.yld up.length BA c]++cap).map weakV)):=by
 unfold V6
 simp only[h]
 unfold HC iX rE
 simp only[St.put,if_true,AA.put]
 cases (BG P A kn n).cf f ((first++[V.yld up.length BA c]++cap).map weakV) ⟨c+1,fr,⟨up,(BA,c,.loop fr ps asg body N .ready)::loc⟩⟩ with
 |none=>rfl
 |some r=>rfl
theorem UU{n γ c:Nat}{fr' fr0:Fr}{s:St}{ps:List Tmp}{asg body:Code}{N:Nat}(h:s.get n BA=some (γ,.loop fr0 ps asg body N .ready))(hc:γ<c):rE fr n γ (some ⟨c,fr',s⟩)=some (.normal,⟨c,fr,s.put n BA γ .dead⟩):=by
 unfold rE;simp only[h];have:(bc γ γ&&bj γ c)=true:=by simpa using hc
 rw[this]
@[simp] theorem AXO(t:St)(fr0:Fr)(ps:List Tmp)(asg body:Code)(N:Nat)(l:LS):CG t (.loop fr0 ps asg body N l)=.loop fr0 ps asg body N l:=rfl
theorem UV{rec:GU}{l q γ c N:Nat}{fr0:Fr}{ps:List Tmp}{asg body:Code}{vs:List V}(h:s.get l q=some (γ,.loop fr0 ps asg body N .ready))(hv:vs.length=ps.length)(hc:γ<c) :
  bF rec l q γ vs ⟨c,fr,s⟩=O8 fr l q γ (bE (rec N) l q γ body (rec N asg ⟨c,I5 fr0 ps vs,⟨s.up++[s.loc],[]⟩⟩)):=by
 unfold bF
 simp only[h]
 have:(bc γ γ&&bc vs.length ps.length&&bj γ c)=true:=by simp[hv,hc]
 rw[this]
theorem GJ{rec:cR}{l q γ c N:Nat}{fr0:Fr}{ps:List Tmp}{asg body body':Code}(h:s.get l q=some (γ,.loop fr0 ps asg body' N .ready))(hc:γ<c) :
  bE rec l q γ body (some (.normal,⟨c,fr,s⟩))=rec body ⟨c,fr,s.put l q γ (.loop fr0 ps asg body' N .busy)⟩:=by
 unfold bE
 simp only[h]
 have:(bc γ γ&&bj γ c)=true:=by simp[hc]
 rw[this]
theorem Q0{fr':Fr}{l q γ c N:Nat}{fr0:Fr}{ps:List Tmp}{asg body:Code}{up u:List AA}{loc lc:AA}(h:St.get ⟨up,loc⟩ l q=some (γ,.loop fr0 ps asg body N .busy))(hu:B8 up=some (u,lc))(hl:l<up.length)(hc:γ<c) :
  O8 fr l q γ (some (.normal,⟨c,fr',⟨up,loc⟩⟩))=some (.bool true,⟨c,fr,St.put ⟨u.map (AH ⟨up,loc⟩),AH ⟨up,loc⟩ lc⟩ l q γ (.loop fr0 ps asg body N .ready)⟩):=by
 unfold O8
 simp only[h,hu]
 have:(bc γ γ&&bj l up.length&&bj γ c)=true:=by simp[hc,hl]
 rw[this]
 rfl
end
section
def tkU(z:Option XS)(d:Option Tmp)(st:XS):Option V->Option XS
 |some r=>Bool.rec z (EW d st (some r)) (bP r)
 |none=>z
@[simp] theorem A4U(z:Option XS)(d:Option Tmp)(st:XS)(b:Bool):tkU z d st (some (.bool b))=EW d st (some (.bool b)):=rfl
@[simp] theorem ABC(st:XS)(v:V):IC st [] v=v:=rfl
@[simp] theorem tW(k:Nat)(ks:List Nat)(c:Nat)(fr:Fr)(up:List AA)(loc:AA)(v:V)(h:k<10000):IC ⟨c,fr,⟨up,loc⟩⟩ (k::ks) v=IC ⟨c,fr,⟨up,loc⟩⟩ ks (BC up.length k (loc.get k) 3 v):=by
 have:bj k 10000=true:=by simpa [bk]using h
 simp only[IC,this,cond_true]
@[simp] theorem F7(k:Nat)(ks:List Nat)(st:XS)(v:V)(h:¬k<10000):IC st (k::ks) v=IC st ks (BC (k / 10000-1) (k % 10000) (st.s.get (k / 10000-1) (k % 10000)) 3 v):=by
 have:bj k 10000=false:=by
  cases hb:bj k 10000 with
  |false=>rfl
  |true=>exact absurd (by simpa [bk]using hb) h
 simp only[IC,this,cond_false]
@[simp] theorem A87{P:bm}{A:Ann}{kn:CF0}{n k:Nat}{us:List Nat}(d:Option Tmp)(st:XS)(f:bp)(args:List V):HC (cfU (k::us) (BG P A kn n)) d st f args=tkU (HC (BG P A kn n) d st f args) d st (FW P kn (AE P A kn n) f (args.map (IC st (k::us)))):=by
 show(match oD (BG P A kn n).cf (BG P A kn n).c0 (k :: us) f args st with
  |some (r,st')=>some (⟨st'.c,putD st'.fr d true r,st'.s⟩:XS)
  | none=>none)=_
 unfold oD;have e:(BG P A kn n).c0=FW P kn (AE P A kn n):=rfl;rw[e];cases FW P kn (AE P A kn n) f (args.map (IC st (k::us)))with
 |none=>rfl
 |some r=>
  show(match(Bool.rec ((BG P A kn n).cf f args st) (some (r,st)) (bP r):Option (V×XS))with
   |some (r,st')=>some (⟨st'.c,putD st'.fr d true r,st'.s⟩:XS)
   | none=>none)=(Bool.rec (HC (BG P A kn n) d st f args) (EW d st (some r)) (bP r):Option XS)
  cases bP r<;>rfl
end
theorem YD{j k:Nat}(h:j≠k)(γ γ2:Nat)(T T2:bh)(es fs:List (List V)):(pl j γ T es++pl k γ2 T2 fs).get k=(pl k γ2 T2 fs).get k:=by cases es<;>cases fs<;>simp[h.symm]
theorem AMH{j k:Nat}(h:j≠k)(γ:Nat)(T:bh)(es:List (List V))(x:Nat×AX):(pl j γ T es++[(k,x)]).get k=some x:=by cases es<;>simp[h.symm]
theorem ATM{j k:Nat}(h:j≠k)(γ:Nat)(T:bh)(es:List (List V))(x:Nat×AX)(M:AA):kl j M ((pl j γ T es++[(k,x)]).get j)=pl j γ T es++M:=by cases es<;>simp[h]
theorem YE{j k:Nat}(h:j≠k)(γ γ2:Nat)(T T2:bh)(es fs:List (List V)):(pl j γ T es++pl k γ2 T2 fs).get j=(pl j γ T es).get j:=by cases es<;>cases fs<;>simp[h]
theorem jM{j k m:Nat}(h1:j≠m)(h2:k≠m)(γ γ2:Nat)(T T2:bh)(es fs:List (List V)):(pl j γ T es++pl k γ2 T2 fs).get m=none:=by cases es<;>cases fs<;>simp[h1.symm,h2.symm]
theorem tX{j:Nat}(γ:Nat)(T:bh)(es:List (List V))(M:AA):kl j M ((pl j γ T es).get j)=pl j γ T es++M:=by cases es<;>simp
theorem MF{t:St}{T:bh}{es:List (List V)}(h:∀e∈es,∀v∈e,BZ t v=some v):CG t (.vec T es)=.vec T es:=by
 have:CC t (.vec T es)=some (.vec T es):=by unfold CC;simp only;rw[NG fun e he=>NG fun v hv=>h e he v hv]
 unfold CG;rw[this]
theorem fZ{t c l q γ n:Nat}{fr:Fr}{s:St}{U:bh}{es:List (List V)}(h:BD fr t=some (true,.vec l q γ n))(hg:s.get l q=some (γ,.vec U es))(hn:n<=es.length)(hc:γ<c):cF (some t) ⟨c,fr,s⟩=⟨c,(t,true,.list false (es.take n))::fr,s.put l q γ .dead⟩:=by
 have hb:(bc γ γ&&Nat.ble n es.length&&bj γ c)=true:=by simp[bk,hn,hc]
 unfold cF;simp only[h,hg,hb]
@[simp] theorem ATN{P:bm}{A:Ann}{kn:CF0}{n N l:Nat}{st:XS}:AE P A kn (n+1) N (.label l) st=some (.normal,st):=rfl
theorem K5{α:Type}(p:α->Bool):∀(l:List α),(!l.any fun x=>!p x)=l.all p
 |[]=>rfl
 |x::l=>by have:=K5 p l;simp only[List.any_cons,List.all_cons,Bool.not_or,Bool.not_not,<-this]
section
variable {P:bm}{fr:Fr}{s:St}
def pt(k γ:Nat):List (List V)->V
 |[]=>.list true []
 |e::es=>.vec 0 k γ (e::es).length
@[simp] theorem BEA(k γ:Nat):pt k γ []=.list true []:=rfl
@[simp] theorem BEB(e k c γ:Nat)(loc:AA)(es:List (List V))(y:List V)(ys:List (List V))(hl:AA.get loc k=(pl k γ e es).get k)(h1:es.all (fun y=>y.length==P.cellsOf e)=true)(h2:BV P e es.length (y::ys)=true) :
  apV P e k c fr ⟨[],loc⟩ (pt k γ es) (y::ys)=some ⟨c+1,(k,true,pt k c (es++y::ys))::fr,⟨[],(k,c,.vec e (es++y::ys))::loc⟩⟩:=by
 cases es with
 |nil=>
  simp only[List.length_nil]at h2
  simp[h2,pt]
 |cons z es=>
  have h:=AU8 (P:=P) (fr:=fr) e k c γ loc (z::es) y ys hl h1 h2
  exact h
theorem ABD{T:bh}(f:Nat)(loc:AA)(k γ:Nat)(es:List (List V))(hl:AA.get loc k=(pl k γ T es).get k):A1 ⟨[],loc⟩ (f+1) (pt k γ es)=some (.list false es):=by
 cases es with
 |nil=>rfl
 |cons e es=>exact MI (T:=T) f loc k γ (e::es) hl
@[simp] theorem ATO(f k γ:Nat)(T:bh)(es:List (List V)):A1 ⟨[],pl k γ T es⟩ (f+1) (pt k γ es)=some (.list false es):=ABD (T:=T) f _ k γ es rfl
end
@[simp] theorem A88(st:XS):MC [] st=st:=rfl
@[simp] theorem A4V(k:Nat)(ks:List Nat)(c:Nat)(fr:Fr)(up:List AA)(loc:AA)(h:k<1000):MC (k::ks) ⟨c,fr,⟨up,loc⟩⟩=MC ks ⟨c,PA up.length k (loc.get k) fr,⟨up,GH up.length k (loc.get k) loc⟩⟩:=by
 have h1:bj k 1000=true:=by simpa [bk]using h
 show MC ks (wT k ⟨c,fr,⟨up,loc⟩⟩)=_;unfold wT;rw[h1];rfl
@[simp] theorem A4W(k:Nat)(ks:List Nat)(c:Nat)(fr:Fr)(up:List AA)(loc:AA)(h:2000000000000000<=k):MC (k::ks) ⟨c,fr,⟨up,loc⟩⟩=MC ks ⟨c,fr,⟨up,oG (k % 1000) loc⟩⟩:=by
 have h1:bj k 1000=false:=by rw[<-bb,bk];omega
 have h2:bj k 1000000000000000=false:=by rw[<-bb,bk];omega
 have h3:bj k 2000000000000000=false:=by rw[<-bb,bk];omega
 show MC ks (wT k ⟨c,fr,⟨up,loc⟩⟩)=_;unfold wT;rw[h1,h2,h3];rfl
@[simp] theorem A89(k:Nat):oG k []=[]:=rfl
@[simp] theorem A4X(k j g:Nat)(r:AX)(L:AA):oG k ((j,g,r)::L)=(j,g,if j=k then wkR r else r)::oG k L:=rfl
@[simp] theorem A9A(T:bh)(es:List (List V)):wkR (.vec T es)=.vec T (es.map (bg wQ)):=rfl
@[simp] theorem A4Y(b:Bool)(es:List (List V)):wQ (.list b es)=.list b es:=rfl
section
variable {l k:Nat}{o:Option (Nat×AX)}
def gtf(l k:Nat)(o:Option (Nat×AX)):Option (Bool×V)->Option (Bool×V)
 |some (c,v)=>some (c,BC l k o 3 v)
 |none=>none
@[simp] theorem A4Z(c:Bool)(v:V):gtf l k o (some (c,v))=some (c,BC l k o 3 v):=rfl
@[simp] theorem AXP(fr:Fr)(j:Nat):BD (PA l k o fr) j=gtf l k o (BD fr j):=by
 rw[FJ,FJ,V8];cases fr.get j with
 |none=>rfl
 |some x=>rfl
end
@[simp] theorem A9B{k j:Nat}(h:j≠k)(r:Fr)(o:Option (Bool×V)):BD (kx k r o) j=BD r j:=by
 cases o with
 |none=>rfl
 |some x=>
  obtain⟨c,v⟩:=x
  simp[h]
end Go.Pg
