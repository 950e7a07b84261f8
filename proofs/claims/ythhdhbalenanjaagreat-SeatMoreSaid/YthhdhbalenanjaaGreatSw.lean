/- Rows told as lists, by simp. No program in sight. -/
import Derived.Test.YthhdhbalenanjaaGreatSx
noncomputable section
open Go renaming TypeId->bh,Program->bm,Operand->bn,FuncId->bp,IntKind->cj
open Nat renaming blt->bj,blt_eq->bk,beq->bc
open List renaming map_congr_left->bq,nil_append->bw,append_nil->bx,all_eq_true->bz,map_id->bf,map->bg
open Bool renaming not_eq_true->bb
set_option linter.unusedSimpArgs false
namespace Go.Pg
variable {P:bm}{l k:Nat}{o:Option (Nat×AZ)}
@[simp] theorem A1F(st:XS):PY [] st=st:=rfl
@[simp] theorem AWR(k:Nat)(ks:List Nat)(c:Nat)(fr:Fr)(up:List AA)(loc:AA):PY (k::ks) ⟨c,fr,⟨up,loc⟩⟩=PY ks ⟨c,OJ up.length k (loc.get k) fr,⟨up,FH up.length k (loc.get k) loc⟩⟩:=rfl
@[simp] theorem A1G:OJ l k o []=[]:=rfl
@[simp] theorem AWS(j:Nat)(c:Bool)(v:V)(fr:Fr):OJ l k o ((j,c,v)::fr)=(j,c,BK l k o 3 v)::OJ l k o fr:=rfl
@[simp] theorem A1H:FH l k o []=[]:=rfl
@[simp] theorem AWT(j g:Nat)(r:AZ)(L:AA):FH l k o ((j,g,r)::L)=if j=k then FH l k o L else(j,g,K0 l k o r)::FH l k o L:=rfl
@[simp] theorem A9W(γ:Nat)(T:bh)(es:List (List V))(L:AA):FH l k o (pl k γ T es++L)=FH l k o L:=by cases es<;>simp
theorem YS:∀(f g:Nat) (v:V),AG g v=true->BK l k o f v=v
 |0,_,_,_=>rfl
 |f+1,0,v,h=>by cases h
 |f+1,g+1,v,h=>by
  have lst:∀cs:List V,cs.all (AG g)=true->cs.map (BK l k o f)=cs:=by
   intro cs h;conv=>rhs;rw[<-bf cs]
   exact bq fun x hx=>YS f g x (bz.1 h x hx)
  cases v with
  |vec _ _ _ _=>cases h
  |ptr _ _ _ _=>cases h
  |agg cs=>simp only[BK];rw[lst cs h]
  |tup cs=>simp only[BK];rw[lst cs h]
  |_=>rfl
theorem wB{cs:List V}(h:cs.all (AG 9)=true)(f:Nat):cs.map (BK l k o f)=cs:=by
 conv=>rhs;rw[<-bf cs]
 exact bq fun x hx=>YS f 9 x (bz.1 h x hx)
theorem ADE{es:List (List V)}(h:(es.all fun e=>e.all (AG 9))=true)(f:Nat):es.map (bg (BK l k o f))=es:=by
 conv=>rhs;rw[<-bf es]
 exact bq fun x hx=>wB (bz.1 h x hx) f
@[simp] theorem ADF{j:Nat}(h:j≠k)(γ:Nat)(T:bh)(es:List (List V))(L:AA)(hc:(es.all fun e=>e.all (AG 9))=true):FH l k o (pl j γ T es++L)=pl j γ T es++FH l k o L:=by
 cases es with
 |nil=>rfl
 |cons e es=>
  have q:=ADE (l:=l) (k:=k) (o:=o) hc 3
  simp only[List.map_cons]at q
  simp[h,K0,q]
@[simp] theorem XL{j:Nat}(h:j≠k)(γ:Nat)(T:bh)(es:List (List V))(hc:(es.all fun e=>e.all (AG 9))=true):FH l k o (pl j γ T es)=pl j γ T es:=by have:=ADF (l:=l) (o:=o) h γ T es [] hc;simpa using this
@[simp] theorem A1I(cs:List V):K0 l k o (.box cs)=.box (cs.map (BK l k o 3)):=rfl
@[simp] theorem A1J(T:bh)(es:List (List V)):K0 l k o (.vec T es)=.vec T (es.map (bg (BK l k o 3))):=rfl
@[simp] theorem A1K(es:List (V×V)):K0 l k o (.map es)=.map es:=rfl
@[simp] theorem AWU:K0 l k o .dead=.dead:=rfl
@[simp] theorem AWV(fr:List (Nat×Bool×V))(ps:List Tmp)(asg body:Code)(N:Nat)(st:LS):K0 l k o (.loop fr ps asg body N st)=.loop fr ps asg body N st:=rfl
@[simp] theorem jL(f:Nat)(i:cj)(n:Int):BK l k o f (.int i n)=.int i n:=by cases f<;>rfl
@[simp] theorem AWW(f:Nat)(b:Bool):BK l k o f (.bool b)=.bool b:=by cases f<;>rfl
@[simp] theorem A1L(f:Nat)(v:Value):BK l k o f (.raw v)=.raw v:=by cases f<;>rfl
@[simp] theorem AWX(f:Nat)(b:Bool)(es:List (List V)):BK l k o f (.list b es)=.list b es:=by cases f<;>rfl
@[simp] theorem A9X(f:Nat)(es:List (List V)):BK l k o f (sl es)=sl es:=by cases f<;>cases es<;>rfl
@[simp] theorem A1M(f:Nat)(cs:List V):BK l k o f (.ref cs)=.ref cs:=by cases f<;>rfl
theorem ADG(f a b c d:Nat)(h:¬(a=l/\b=k)):BK l k o f (.ptr a b c d)=.ptr a b c d:=by
 cases f with
 |zero=>rfl
 |succ f=>
  simp only[BK]
  split
  ·rw[if_neg fun hh=>h ⟨hh.1,hh.2.1⟩]
  ·rfl
@[simp] theorem AWY(f a b c d:Nat)(h:¬b=k):BK l k o f (.ptr a b c d)=.ptr a b c d:=ADG f a b c d fun hh=>h hh.2
@[simp] theorem AWZ(γ:Nat)(T:bh)(es:List (List V))(f a b c d:Nat):BK l k (some (γ,.vec T es)) f (.ptr a b c d)=.ptr a b c d:=by cases f<;>rfl
@[simp] theorem AW0(γ:Nat)(cs:List V)(f a b g off:Nat):BK l k (some (γ,.box cs)) (f+1) (.ptr a b g off)=if a=l/\b=k/\g=γ then .ref ((cs.map OS).drop off) else .ptr a b g off:=rfl
@[simp] theorem A9Y(q:cj)(n:Int):OS (.int q n)=.int q n:=rfl
@[simp] theorem A1N(b:Bool):OS (.bool b)=.bool b:=rfl
@[simp] theorem A1O(b:Bool)(es:List (List V)):OS (.list b es)=.list b es:=rfl
@[simp] theorem BEW(es:List (List V)):OS (sl es)=sl es:=by cases es<;>rfl
@[simp] theorem A9Z:OS .nil=.nil:=rfl
@[simp] theorem BEX(a b c:Nat):OS (.mp a b c)=.any:=rfl
@[simp] theorem A90:OS .any=.any:=rfl
@[simp] theorem eM(f:Nat):AG (f+1) .any=true:=rfl
@[simp] theorem A1P:weakV .any=.any:=rfl
@[simp] theorem A1Q:weakC .any=.any:=rfl
@[simp] theorem A1R(f:Nat):BK l k o f .any=.any:=by cases f<;>rfl
@[simp] theorem A91(f a b c:Nat):BK l k o f (.mp a b c)=.mp a b c:=by cases f<;>rfl
@[simp] theorem A1S(f a b c:Nat):BK l k o f (.yld a b c)=.yld a b c:=by cases f<;>rfl
@[simp] theorem A92(f:Nat)(g:bp)(xs ys:List V):BK l k o f (.fn g xs ys)=.fn g xs ys:=by cases f<;>rfl
@[simp] theorem ADH(f:Nat):BK l k o f .nil=.nil:=by cases f<;>rfl
@[simp] theorem A1T(f:Nat)(cs:List V):BK l k o (f+1) (.agg cs)=.agg (cs.map (BK l k o f)):=rfl
@[simp] theorem A1U(f:Nat)(cs:List V):BK l k o (f+1) (.tup cs)=.tup (cs.map (BK l k o f)):=rfl
@[simp] theorem A1V(γ:Nat)(T:bh)(es:List (List V))(f l' k' g m:Nat):BK l k (some (γ,.vec T es)) (f+1) (.vec l' k' g m)=if l'=l/\k'=k/\g=γ/\m=es.length then .list false es else .vec l' k' g m:=rfl
@[simp] theorem A93(γ:Nat)(T:bh)(es:List (List V))(f:Nat):BK 0 k ((pl k γ T es).get k) (f+1) (pv k γ es)=sl es:=by
 cases es with
 |nil=>rfl
 |cons e es=>simp[pv,sl]
@[simp] theorem A1W(γ:Nat)(T:bh)(es:List (List V))(f:Nat):BK 0 k (some (γ,.vec T es)) (f+1) (pv k γ es)=sl es:=by
 cases es with
 |nil=>rfl
 |cons e es=>simp[pv,sl]
@[simp] theorem A1X{j:Nat}(h:j≠k)(γ:Nat)(es:List (List V))(f:Nat):BK l k o f (pv j γ es)=pv j γ es:=by
 cases es with
 |nil=>cases f<;>rfl
 |cons e es=>
  cases f with
  |zero=>rfl
  |succ f=>
   simp only[pv,BK]
   split
   ·rw[if_neg (fun hh=>h hh.2.1)]
   ·rfl
def oe2(d c:Nat)(fr:Fr)(s:St):Option Mk->Option XS->Option XS
 |some r,_=>some ⟨c+1,(d,true,r.val s.up.length d c)::fr,s.put s.up.length d c r.res⟩
 |none,z=>z
@[simp] theorem BEY(d c:Nat)(fr:Fr)(s:St)(T:bh)(es:List (List V))(z:Option XS):oe2 d c fr s (some ⟨.vec T es,none⟩) z=some ⟨c+1,(d,true,.vec s.up.length d c es.length)::fr,s.put s.up.length d c (.vec T es)⟩:=rfl
def oe1(d c:Nat)(fr:Fr)(s:St)(F:List V->Option Mk):Option (List V)->Option XS->Option XS
 |some vs,z=>oe2 d c fr s (F vs) z
 |none,z=>z
@[simp] theorem AJM(d c:Nat)(fr:Fr)(s:St)(F:List V->Option Mk)(vs:List V)(z:Option XS):oe1 d c fr s F (some vs) z=oe2 d c fr s (F vs) z:=rfl
variable {A:Ann}{kn:CF0}{n:Nat}{fr:Fr}{s:St}
@[simp] theorem BEZ{f:bp}(hS:GV P f=true)(d c:Nat)(args:List bn):C4 P (BQ P A kn n) (some d) (.call true none (.func f) args) ⟨c,fr,s⟩ =
  oe1 d c fr s (fun vs=>J1 P (AE P A kn n) f (vs.map weakV)) (F2 (CP fr) args) (RV (BQ P A kn n).cf (BQ P A kn n).cy (some d) (.func f) args ⟨c,fr,s⟩):=by
 show dH (BQ P A kn n) true (some d) (.func f) args ⟨c,fr,s⟩=_
 unfold dH
 show(match IB (BQ P A kn n).co (some d) (.func f) args ⟨c,fr,s⟩ with|some st'=>some st'|none=>_)=_
 unfold IB
 have hf:CP fr (.func f)=some (.fn f [] []):=rfl
 simp only[hf]
 cases F2 (CP fr) args with
 |none=>rfl
 |some vs=>
  simp only[AJM,bw,bx]
  have:(BQ P A kn n).co f (vs.map weakV) d=J1 P (AE P A kn n) f (vs.map weakV):=by show PV P kn (fun _ _ _=>none) (AE P A kn n) f _ d=_;unfold PV;simp only[hS]
  rw[this]
  cases J1 P (AE P A kn n) f (vs.map weakV)with
  |none=>rfl
  |some r=>rfl
def of2(d c:Nat)(fr:Fr)(s:St):Option Mk->Option XS
 |some r=>some ⟨c+1,(d,true,r.val s.up.length d c)::fr,s.put s.up.length d c r.res⟩
 |none=>none
@[simp] theorem BE0(d c:Nat)(fr:Fr)(s:St)(T:bh)(es:List (List V)):of2 d c fr s (some ⟨.vec T es,none⟩)=some ⟨c+1,(d,true,.vec s.up.length d c es.length)::fr,s.put s.up.length d c (.vec T es)⟩:=rfl
def of1(d c:Nat)(fr:Fr)(s:St)(F:List V->Option Mk):Option (List V)->Option XS
 |some vs=>of2 d c fr s (F vs)
 |none=>none
@[simp] theorem AJN(d c:Nat)(fr:Fr)(s:St)(F:List V->Option Mk)(vs:List V):of1 d c fr s F (some vs)=of2 d c fr s (F vs):=rfl
@[simp] theorem A94{f:bp}(hS:GV P f=true)(d c:Nat)(args:List bn):DS P (BQ P A kn n) (some d) (.call true none (.func f) args) ⟨c,fr,s⟩ =
  nw (of1 d c fr s (fun vs=>J1 P (AE P A kn n) f (vs.map weakV)) (F2 (CP fr) args)):=by
 show VQ (IB (BQ P A kn n).co (some d) (.func f) args ⟨c,fr,s⟩)=_
 rw[HK]
 congr 1
 unfold IB
 have hf:CP fr (.func f)=some (.fn f [] []):=rfl
 simp only[hf]
 cases F2 (CP fr) args with
 |none=>rfl
 |some vs=>
  simp only[AJN,bw,bx]
  have:(BQ P A kn n).co f (vs.map weakV) d=J1 P (AE P A kn n) f (vs.map weakV):=by show PV P kn (fun _ _ _=>none) (AE P A kn n) f _ d=_;unfold PV;simp only[hS]
  rw[this]
  cases J1 P (AE P A kn n) f (vs.map weakV)with
  |none=>rfl
  |some r=>rfl
def AW1(P:bm)(fn:Func)(r:Option (Exit×XS)):Option Mk:=match r with
 |some (.ret,st)=>qW P fn st
 |some (.normal,st)=>qW P fn st
 |_=>none
@[simp] theorem A95(fn:Func)(st:XS):AW1 P fn (some (.ret,st))=qW P fn st:=rfl
@[simp] theorem AR2(fn:Func)(st:XS):AW1 P fn (some (.normal,st))=qW P fn st:=rfl
theorem ADI{f:bp}{fn:Func}{c:Code}{args:List V}{rec:HJ}(hf:P.funcs[f]? = some fn)(hb:fn.body=some c)(hs:Nat.ble args.length fn.ntmps=true)(hcl:args.all (AG 9)=true) :
  J1 P rec f args=AW1 P fn (rec fn.ntmps c ⟨0,AF 0 args,⟨[],[]⟩⟩):=by
 unfold J1 YR qV
 rw[hcl,hf]
 simp only[hb,hs]
 generalize rec fn.ntmps c ⟨0,AF 0 args,⟨[],[]⟩⟩=q
 cases q with
 |none=>rfl
 |some q=>
  obtain⟨e,st⟩:=q
  cases e<;>rfl
def rO(P:bm)(fn:Func)(st:XS)(v:Option V):Option Mk:=match v with
 | some (.vec l k γ n)=>Bool.rec none (match st.s.loc.get k with
  |some (γ',.vec T es)=>Bool.rec none (some ⟨.vec T es,none⟩) (bc γ' γ&&bc n es.length&&es.all fun e=>e.all (AG 9))
  | _=>none) (bc l st.s.up.length)
 | some v=>Bool.rec none (match fn.resultTypes.toList with
  |[R]=>match BU P R with
   |some (none,T)=>some ⟨.vec T [],none⟩
   |_=>none
  | _=>none) (Y2 v)
 |none=>none
theorem AAC(fn:Func)(st:XS):qW P fn st=rO P fn st (F8 P fn.results.toList st.fr st.s):=rfl
theorem AR3{fn:Func}{R T:bh}(h1:fn.resultTypes.toList=[R])(h2:BU P R=some (none,T))(c:Nat)(fr:Fr)(loc:AA)(k γ:Nat)(es:List (List V))(hl:loc.get k=(pl k γ T es).get k)(hc:(es.all fun e=>e.all (AG 9))=true):rO P fn ⟨c,fr,⟨[],loc⟩⟩ (some (pv k γ es))=some ⟨.vec T es,none⟩:=by
 cases es with
 |nil=>
  show(Bool.rec none (match fn.resultTypes.toList with
   |[R]=>match BU P R with
    |some (none,T)=>some ⟨.vec T [],none⟩
    |_=>none
   | _=>none) true:Option Mk)=_
  rw[h1]
  simp only[h2]
 |cons e es=>
  have hl:loc.get k=some (γ,.vec T (e::es)):=by rw[hl];simp
  simp only[pv,rO,hl,hc,List.length_nil,Bool.and_true]
  simp
end Go.Pg
namespace Go.Pg
section
@[simp] theorem unsnoc_snoc{α:Type}(x:α):∀(l:List α),CH (l++[x])=some (l,x)
 |[]=>rfl
 |[y]=>rfl
 |y::z::l=>by have:=unsnoc_snoc x (z::l);simp only[List.cons_append]at this|-;rw[YU,this];rfl
end
section
variable {P:bm}{E:XE}{d:Option Tmp}{c:Nat}{fr:Fr}{s:St}{r:bn->Option V}
@[simp] theorem AW2(T:bh)(x i:bn)(ok:Bool):JX P (mW (.lookup T x i ok)) s r=o2 (fun a b=>DY P s T a b ok) (r x) (r i):=by show((r x).bind fun a=>(r i).bind fun b=>DY P s T a b ok)=_;cases r x<;>cases r i<;>rfl
def up1(c:Nat)(fr:Fr)(s:St):Option (Nat×Nat×Nat×List (V×V))->Option XS
 |some (l,q,γ,es)=>Bool.rec none (some ⟨c,fr,s.put l q γ (.map es)⟩) (bj γ c)
 |none=>none
def up3(P:bm)(T:bh)(c:Nat)(fr:Fr)(s:St):Option V->Option V->Option V->Option XS
 |some m,some i,some v=>up1 c fr s (MU P s T m i v)
 |_,_,_=>none
@[simp] theorem A96(T:bh)(m i v:V):up3 P T c fr s (some m) (some i) (some v)=up1 c fr s (MU P s T m i v):=rfl
theorem AJO(l q γ:Nat)(es:List (V×V))(h:γ<c):up1 c fr s (some (l,q,γ,es))=some ⟨c,fr,s.put l q γ (.map es)⟩:=by
 have:bj γ c=true:=by simpa [bk]using h
 show(Bool.rec none (some ⟨c,fr,s.put l q γ (.map es)⟩) (bj γ c):Option XS)=_;rw[this]
@[simp] theorem A1Y(T:bh)(x i y:bn):C4 P E none (.upd T x i y) ⟨c,fr,s⟩=up3 P T c fr s (CP fr x) (CP fr i) (CP fr y):=by show ACW P none T x i y ⟨c,fr,s⟩=_;unfold ACW up3 up1;simp only;cases CP fr x<;>cases CP fr i<;>cases CP fr y<;>simp only;split<;>simp_all
@[simp] theorem A97(x:bn):JX P (mW (.nilCheck x)) s r=o1 OB (r x):=by show(r x).bind OB=_;cases r x<;>rfl
@[simp] theorem A1Z(l k g o:Nat):OB (.ptr l k g o)=some (.ptr l k g o):=rfl
@[simp] theorem A98(x:bn)(f:bn->Option V):II P (.oth (.nilCheck x)) f=[]:=rfl
@[simp] theorem A99(T:bh)(x i:bn)(ok:Bool)(f:bn->Option V):II P (.oth (.lookup T x i ok)) f=BF (f x):=rfl
@[simp] theorem AW3(l k g:Nat):CB s (.mp l k g)=some (.mp l k g):=rfl
theorem N5{α:Type}{f:α->Option α}:∀{l:List α},(∀x∈l,f x=some x)->HQ f l=some l
 |[],_=>rfl
 |x::l,h=>by have ih:=N5 (f:=f) (l:=l) fun y hy=>h y (by simp[hy]);simp only[HQ,h x (by simp),ih]
theorem VY:∀(l:List AA) (b:AA),CH (l++[b])=some (l,b)
 |[],b=>by simp
 |[a],b=>by simp
 |a::a2::l,b=>by have:=VY (a2::l) b;simp only[List.cons_append]at this|-;simp[this]
@[simp] theorem A10(a:AA)(l:List AA)(b:AA):CH (a::(l++[b]))=some (a::l,b):=VY (a::l) b
@[simp] theorem AW4(l k g:Nat):BF (some (.mp l k g))=[(l,k)]:=rfl
@[simp] theorem A11(d:Nat):C4 P E (some d) (.mkM none) ⟨c,fr,s⟩=some ⟨c+1,(d,true,.mp s.up.length d c)::fr,s.put s.up.length d c (.map [])⟩:=rfl
end
section
variable {P:bm}{s:St}{r:bn->Option V}
@[simp] theorem AW5(T:bh)(x h:bn):JX P (mW (.slice T x none (some h) none)) s r=o2 (fun a b=>CD P s T a none (some b) none) (r x) (r h):=by show((r x).bind fun a=>((some none:Option (Option V))).bind fun l=>((r h).map some).bind fun h=>((some none:Option (Option V))).bind fun m=>CD P s T a l h m)=_;cases r x<;>cases r h<;>rfl
theorem eN{T e:bh}{es:List (List V)}{h:Int}{b:Bool}(hT:BU P T=some (none,e))(hc:0<P.cellsOf e)(h1:0<=h)(h2:h<=es.length):CD P s T (.list b es) none (some (.int .i64 h)) none=some (.list false (es.take h.toNat)):=by simp only[CD,hT];rw[if_pos ⟨h1,h2,hc⟩]
end
section
variable {P:bm}{E:XE}{c:Nat}{fr:Fr}{s:St}{r:bn->Option V}
@[simp] theorem AW6(T:bh)(x l:bn):JX P (mW (.slice T x (some l) none none)) s r=o2 (fun a b=>CD P s T a (some b) none none) (r x) (r l):=by show((r x).bind fun a=>((r l).map some).bind fun l=>(some none).bind fun h=>(some none).bind fun m=>CD P s T a l h m)=_;cases r x<;>cases r l<;>rfl
theorem ADJ{T e:bh}{l k g n h:Nat}(hT:BU P T=some (none,e))(hh:h<=n)(hc:0<P.cellsOf e):CD P s T (.vec l k g n) none (some (.int .i64 (h:Int))) none=some (.vec l k g h):=by unfold CD;simp only[hT];rw[if_pos ⟨by omega,by omega,hc⟩];simp
end
section
variable {P:bm}{fr:Fr}{s:St}
@[simp] theorem BE2(e d c:Nat)(ys:List (List V))(h:B5 P e 0 ys=true):wL P e d c fr s (.list true []) ys=some (⟨c+1,(d,true,.vec s.up.length d c ys.length)::fr,s.put s.up.length d c (.vec e ys)⟩,[(s.up.length,d),(s.up.length,d+GU)]):=by unfold wL;simp[I5,h]
@[simp] theorem BE3(e d c l q γ n:Nat)(ys:List (List V)):wL P e d c fr s (.vec l q γ n) ys=wp [(l,q),(l,q+GU)] (apW P e d c fr s l q γ n ys (SN n ys (s.get l q))):=rfl
@[simp] theorem AW7(l k g i o:Nat):OB (.eptr l k g i o)=some (.eptr l k g i o):=rfl
end
section
@[simp] theorem ANG{P:bm}{A:Ann}{kn:CF0}{n:Nat}:(BQ P A kn n).cy=dN (AE P A kn n):=rfl
end
section
variable {P:bm}{A:Ann}{kn:CF0}{n:Nat}{fr:Fr}{s:St}
def oc2(d c:Nat)(fr:Fr)(s:St):Option V->Option XS->Option XS
 |some r,_=>some ⟨c+1,(d,true,r.ren (fun _=>c) s.up.length)::fr,s.put s.up.length d c .dead⟩
 |none,z=>z
@[simp] theorem BAA(d c:Nat)(r:V)(z:Option XS):oc2 d c fr s (some r) z=some ⟨c+1,(d,true,r.ren (fun _=>c) s.up.length)::fr,s.put s.up.length d c .dead⟩:=rfl
def oc1(d c:Nat)(fr:Fr)(s:St)(F:List V->Option V):Option (List V)->Option XS->Option XS
 |some vs,z=>oc2 d c fr s (F vs) z
 |none,z=>z
@[simp] theorem AJP(d c:Nat)(F:List V->Option V)(vs:List V)(z:Option XS):oc1 d c fr s F (some vs) z=oc2 d c fr s (F vs) z:=rfl
@[simp] theorem BAB{f:bp}(hS:GV P f=false)(d c:Nat)(args:List bn):C4 P (BQ P A kn n) (some d) (.call true none (.func f) args) ⟨c,fr,s⟩ =
  oc1 d c fr s (fun vs=>GD P kn (AE P A kn n) f (vs.map weakV)) (F2 (CP fr) args) (RV (BQ P A kn n).cf (BQ P A kn n).cy (some d) (.func f) args ⟨c,fr,s⟩):=by
 show dH (BQ P A kn n) true (some d) (.func f) args ⟨c,fr,s⟩=_
 unfold dH
 show(match IB (BQ P A kn n).co (some d) (.func f) args ⟨c,fr,s⟩ with|some st'=>some st'|none=>_)=_
 unfold IB
 have hf:CP fr (.func f)=some (.fn f [] []):=rfl
 simp only[hf]
 cases F2 (CP fr) args with
 |none=>rfl
 |some vs=>
  simp only[AJP,bw,bx]
  have:(BQ P A kn n).co f (vs.map weakV) d=(match GD P kn (AE P A kn n) f (vs.map weakV)with|some r=>some ⟨.dead,some r⟩|none=>none):=by show PV P kn (fun _ _ _=>none) (AE P A kn n) f _ d=_;unfold PV;simp only[hS];cases GD P kn (AE P A kn n) f (vs.map weakV)<;>rfl
  rw[this]
  cases GD P kn (AE P A kn n) f (vs.map weakV)with
  |none=>rfl
  |some r=>rfl
def od2(d c:Nat)(fr:Fr)(s:St):Option V->Option XS
 |some r=>some ⟨c+1,(d,true,r.ren (fun _=>c) s.up.length)::fr,s.put s.up.length d c .dead⟩
 |none=>none
@[simp] theorem BAC(d c:Nat)(r:V):od2 d c fr s (some r)=some ⟨c+1,(d,true,r.ren (fun _=>c) s.up.length)::fr,s.put s.up.length d c .dead⟩:=rfl
def od1(d c:Nat)(fr:Fr)(s:St)(F:List V->Option V):Option (List V)->Option XS
 |some vs=>od2 d c fr s (F vs)
 |none=>none
@[simp] theorem AJQ(d c:Nat)(F:List V->Option V)(vs:List V):od1 d c fr s F (some vs)=od2 d c fr s (F vs):=rfl
@[simp] theorem A12{f:bp}(hS:GV P f=false)(d c:Nat)(args:List bn):DS P (BQ P A kn n) (some d) (.call true none (.func f) args) ⟨c,fr,s⟩ =
  nw (od1 d c fr s (fun vs=>GD P kn (AE P A kn n) f (vs.map weakV)) (F2 (CP fr) args)):=by
 show VQ (IB (BQ P A kn n).co (some d) (.func f) args ⟨c,fr,s⟩)=_
 rw[HK]
 congr 1
 unfold IB
 have hf:CP fr (.func f)=some (.fn f [] []):=rfl
 simp only[hf]
 cases F2 (CP fr) args with
 |none=>rfl
 |some vs=>
  simp only[AJQ,bw,bx]
  have:(BQ P A kn n).co f (vs.map weakV) d=(match GD P kn (AE P A kn n) f (vs.map weakV)with|some r=>some ⟨.dead,some r⟩|none=>none):=by show PV P kn (fun _ _ _=>none) (AE P A kn n) f _ d=_;unfold PV;simp only[hS];cases GD P kn (AE P A kn n) f (vs.map weakV)<;>rfl
  rw[this]
  cases GD P kn (AE P A kn n) f (vs.map weakV)with
  |none=>rfl
  |some r=>rfl
end
section
variable {fr:Fr}{s:St}
@[simp] theorem AR4(l k g:Nat):CB s (.yld l k g)=some (.yld l k g):=rfl
@[simp] theorem AR5(f:Nat)(cs:List V):A4 s (f+1) (.ref cs)=some (.ref cs):=rfl
@[simp] theorem BAD{P:bm}:F8 P [] fr s=some (.tup []):=rfl
@[simp] theorem AR6(f:Nat):A4 s (f+1) (.tup [])=some (.tup []):=rfl
@[simp] theorem AJR:CT .nilFunc=some (.raw .nilFunc):=rfl
@[simp] theorem AW8(f l k g:Nat):AG (f+1) (.yld l k g)=false:=rfl
@[simp] theorem BAE(l k g:Nat):weakV (.yld l k g)=.yld l k g:=rfl
@[simp] theorem BE5(d c l k g:Nat):bx1 d c fr s (some (.yld l k g))=some ⟨c+1,(d,true,.ptr s.up.length d c 0)::fr,s.put s.up.length d c (.box [.yld l k g])⟩:=rfl
@[simp] theorem BE6(F:List V->Option (List V))(g off:Nat)(g':Nat)(cs:List V):cp1 F g off (some (g',.box cs))=if g'=g then(F cs).map (fun ds=>V.ref (ds.drop off)) else none:=rfl
def mk4(P:bm)(d c:Nat)(fr:Fr)(s:St)(e:bh)(n m:Int):Option (List V)->Option XS
 |some z=>if 0<=n/\m=n/\z.length=P.cellsOf e/\n.toNat*P.bytesOf e<=140737488355328/\n.toNat<=maxLen then some ⟨c+1,(d,true,.vec s.up.length d c n.toNat)::fr,s.put s.up.length d c (.vec e (List.replicate n.toNat z))⟩ else none
 |none=>none
@[simp] theorem BAF{P:bm}(d c:Nat)(e:bh)(n m:Int)(z:List V):mk4 P d c fr s e n m (some z)=if 0<=n/\m=n/\z.length=P.cellsOf e/\n.toNat*P.bytesOf e<=140737488355328/\n.toNat<=maxLen then some ⟨c+1,(d,true,.vec s.up.length d c n.toNat)::fr,s.put s.up.length d c (.vec e (List.replicate n.toNat z))⟩ else none:=rfl
def mk3(P:bm)(d c:Nat)(fr:Fr)(s:St):Option (Option Nat×bh)->Option V->Option V->Option XS
 |some (none,e),some (.int _ n),some (.int _ m)=>mk4 P d c fr s e n m (CC P e)
 |_,_,_=>none
@[simp] theorem AJS{P:bm}(d c:Nat)(e:bh)(k1 k2:cj)(n m:Int):mk3 P d c fr s (some (none,e)) (some (.int k1 n)) (some (.int k2 m))=mk4 P d c fr s e n m (CC P e):=rfl
@[simp] theorem A13{P:bm}{E:XE}(T:bh)(d c:Nat)(x y:bn):C4 P E (some d) (.mkS T x y) ⟨c,fr,s⟩=mk3 P d c fr s (BU P T) (CP fr x) (CP fr y):=by
 show YP P (some d) T x y ⟨c,fr,s⟩=_;unfold YP;simp only;cases BU P T with
 |none=>cases CP fr x<;>cases CP fr y<;>rfl
 |some p=>
  obtain⟨k,e⟩:=p
  cases k with
  |some k=>cases CP fr x<;>cases CP fr y<;>rfl
  |none=>
   cases CP fr x with
   |none=>rfl
   |some a=>
    cases CP fr y with
    |none=>cases a<;>rfl
    |some z=>
     cases a with
     |int k1 n=>
      cases z with
      |int k2 m=>simp only[AJS];cases CC P e<;>rfl
      |_=>rfl
     |_=>rfl
@[simp] theorem BE7{P:bm}(T:bh)(x y:bn)(r:bn->Option V):II P (.mkS T x y) r=[]:=rfl
def rE(fr:Fr)(n γ:Nat)(r:Option XS):Option (Exit×XS):=match r with
 |some st=>match st.s.get n BG with
  | some (γ',.loop _ _ _ _ _ ls)=>Bool.rec none (match ls with
   |.ready=>some (.normal,⟨st.c,fr,st.s.put n BG γ .dead⟩)
   |.left .ret=>some (.ret,⟨st.c,fr,st.s.put n BG γ .dead⟩)
   |.left (.exit id)=>some (.exit id,⟨st.c,fr,st.s.put n BG γ .dead⟩)
   | _=>none) (bc γ' γ&&bj γ st.c)
  |_=>none
 |none=>none
theorem QZ{P:bm}{A:Ann}{kn:CF0}{n N:Nat}{g:bn}{ps:List Tmp}{asg body:Code}{c:Nat}{up:List AA}{loc:AA}{f:bp}{first cap:List V}(h:CP fr g=some (.fn f first cap)) :
  XD (BQ P A kn n).cf N g ps asg body ⟨c,fr,⟨up,loc⟩⟩=rE fr up.length c (HT (BQ P A kn n) none ⟨c+1,fr,⟨up,(BG,c,.loop fr ps asg body N .ready)::loc⟩⟩ f ((first++[V.yld up.length BG c]++cap).map weakV)):=by
 unfold XD
 simp only[h]
 unfold HT lN rE
 simp only[St.put,if_true,AA.put]
 cases (BQ P A kn n).cf f ((first++[V.yld up.length BG c]++cap).map weakV) ⟨c+1,fr,⟨up,(BG,c,.loop fr ps asg body N .ready)::loc⟩⟩ with
 |none=>rfl
 |some r=>rfl
theorem VZ{n γ c:Nat}{fr' fr0:Fr}{s:St}{ps:List Tmp}{asg body:Code}{N:Nat}(h:s.get n BG=some (γ,.loop fr0 ps asg body N .ready))(hc:γ<c):rE fr n γ (some ⟨c,fr',s⟩)=some (.normal,⟨c,fr,s.put n BG γ .dead⟩):=by
 unfold rE;simp only[h];have:(bc γ γ&&bj γ c)=true:=by simpa using hc
 rw[this]
@[simp] theorem A14(t:St)(fr0:Fr)(ps:List Tmp)(asg body:Code)(N:Nat)(l:LS):CM t (.loop fr0 ps asg body N l)=.loop fr0 ps asg body N l:=rfl
theorem V0{rec:HJ}{l q γ c N:Nat}{fr0:Fr}{ps:List Tmp}{asg body:Code}{vs:List V}(h:s.get l q=some (γ,.loop fr0 ps asg body N .ready))(hv:vs.length=ps.length)(hc:γ<c) :
  dN rec l q γ vs ⟨c,fr,s⟩=PW fr l q γ (dM (rec N) l q γ body (rec N asg ⟨c,JN fr0 ps vs,⟨s.up++[s.loc],[]⟩⟩)):=by
 unfold dN
 simp only[h]
 have:(bc γ γ&&bc vs.length ps.length&&bj γ c)=true:=by simp[hv,hc]
 rw[this]
theorem G9{rec:fG}{l q γ c N:Nat}{fr0:Fr}{ps:List Tmp}{asg body body':Code}(h:s.get l q=some (γ,.loop fr0 ps asg body' N .ready))(hc:γ<c) :
  dM rec l q γ body (some (.normal,⟨c,fr,s⟩))=rec body ⟨c,fr,s.put l q γ (.loop fr0 ps asg body' N .busy)⟩:=by
 unfold dM
 simp only[h]
 have:(bc γ γ&&bj γ c)=true:=by simp[hc]
 rw[this]
theorem R3{fr':Fr}{l q γ c N:Nat}{fr0:Fr}{ps:List Tmp}{asg body:Code}{up u:List AA}{loc lc:AA}(h:St.get ⟨up,loc⟩ l q=some (γ,.loop fr0 ps asg body N .busy))(hu:CH up=some (u,lc))(hl:l<up.length)(hc:γ<c) :
  PW fr l q γ (some (.normal,⟨c,fr',⟨up,loc⟩⟩))=some (.bool true,⟨c,fr,St.put ⟨u.map (AK ⟨up,loc⟩),AK ⟨up,loc⟩ lc⟩ l q γ (.loop fr0 ps asg body N .ready)⟩):=by
 unfold PW
 simp only[h,hu]
 have:(bc γ γ&&bj l up.length&&bj γ c)=true:=by simp[hc,hl]
 rw[this]
 rfl
end
section
def tkU(z:Option XS)(d:Option Tmp)(st:XS):Option V->Option XS
 |some r=>Bool.rec z (EK d st (some r)) (dX r)
 |none=>z
@[simp] theorem BE8(z:Option XS)(d:Option Tmp)(st:XS)(k:cj)(n:Int):tkU z d st (some (.int k n))=EK d st (some (.int k n)):=rfl
@[simp] theorem BAG(z:Option XS)(d:Option Tmp)(st:XS)(b:Bool):tkU z d st (some (.bool b))=EK d st (some (.bool b)):=rfl
@[simp] theorem A15(l k g n:Nat):weakC (.vec l k g n)=.vec l k g n:=rfl
@[simp] theorem ADK(st:XS)(v:V):IX st [] v=v:=rfl
@[simp] theorem wC(k:Nat)(ks:List Nat)(c:Nat)(fr:Fr)(up:List AA)(loc:AA)(v:V)(h:k<10000):IX ⟨c,fr,⟨up,loc⟩⟩ (k::ks) v=IX ⟨c,fr,⟨up,loc⟩⟩ ks (BK up.length k (loc.get k) 3 v):=by
 have:bj k 10000=true:=by simpa [bk]using h
 simp only[IX,this,cond_true]
@[simp] theorem GO(k:Nat)(ks:List Nat)(st:XS)(v:V)(h:¬k<10000):IX st (k::ks) v=IX st ks (BK (k / 10000-1) (k % 10000) (st.s.get (k / 10000-1) (k % 10000)) 3 v):=by
 have:bj k 10000=false:=by
  cases hb:bj k 10000 with
  |false=>rfl
  |true=>exact absurd (by simpa [bk]using hb) h
 simp only[IX,this,cond_false]
@[simp] theorem BE9{P:bm}{A:Ann}{kn:CF0}{n k:Nat}{us:List Nat}(d:Option Tmp)(st:XS)(f:bp)(args:List V):HT (cfU (k::us) (BQ P A kn n)) d st f args=tkU (HT (BQ P A kn n) d st f args) d st (GD P kn (AE P A kn n) f (args.map (IX st (k::us)))):=by
 show(match rA (BQ P A kn n).cf (BQ P A kn n).c0 (k :: us) f args st with
  |some (r,st')=>some (⟨st'.c,putD st'.fr d true r,st'.s⟩:XS)
  | none=>none)=_
 unfold rA;have e:(BQ P A kn n).c0=GD P kn (AE P A kn n):=rfl;rw[e];cases GD P kn (AE P A kn n) f (args.map (IX st (k::us)))with
 |none=>rfl
 |some r=>
  show(match(Bool.rec ((BQ P A kn n).cf f args st) (some (r,st)) (dX r):Option (V×XS))with
   |some (r,st')=>some (⟨st'.c,putD st'.fr d true r,st'.s⟩:XS)
   | none=>none)=(Bool.rec (HT (BQ P A kn n) d st f args) (EK d st (some r)) (dX r):Option XS)
  cases dX r<;>rfl
@[simp] theorem AW9(k:cj)(n:Int):lQ (.int k n)=true:=rfl
@[simp] theorem AR7(b:Bool):lQ (.bool b)=true:=rfl
end
theorem K3{j k:Nat}(h:j≠k)(γ γ2:Nat)(T T2:bh)(es fs:List (List V)):kl j (kl k [] ((pl j γ T es++pl k γ2 T2 fs).get k)) ((pl j γ T es++pl k γ2 T2 fs).get j)=pl j γ T es++pl k γ2 T2 fs:=by cases es<;>cases fs<;>simp[h,h.symm]
theorem HD{j k:Nat}(h:j≠k)(γ γ2:Nat)(T T2:bh)(es fs:List (List V)):(pl j γ T es++pl k γ2 T2 fs).get k=(pl k γ2 T2 fs).get k:=by cases es<;>cases fs<;>simp[h.symm]
theorem K4{j k:Nat}(h:j≠k)(γ γ2:Nat)(T T2:bh)(es fs:List (List V))(M:AA):kl j M ((pl j γ T es++pl k γ2 T2 fs).get j)=pl j γ T es++M:=by cases es<;>cases fs<;>simp[h,h.symm]
theorem AAD{j k:Nat}(h:j≠k)(γ:Nat)(T:bh)(es:List (List V))(x:Nat×AZ):(pl j γ T es++[(k,x)]).get k=some x:=by cases es<;>simp[h.symm]
theorem AJT{j k:Nat}(h:j≠k)(γ:Nat)(T:bh)(es:List (List V))(x:Nat×AZ)(M:AA):kl j M ((pl j γ T es++[(k,x)]).get j)=pl j γ T es++M:=by cases es<;>simp[h,h.symm]
theorem HE{j k:Nat}(h:j≠k)(γ γ2:Nat)(T T2:bh)(es fs:List (List V)):(pl j γ T es++pl k γ2 T2 fs).get j=(pl j γ T es).get j:=by cases es<;>cases fs<;>simp[h]
theorem IH{j k m:Nat}(h1:j≠m)(h2:k≠m)(γ γ2:Nat)(T T2:bh)(es fs:List (List V)):(pl j γ T es++pl k γ2 T2 fs).get m=none:=by cases es<;>cases fs<;>simp[h1.symm,h2.symm]
theorem K5{j:Nat}(γ:Nat)(T:bh)(es:List (List V))(M:AA):kl j M ((pl j γ T es).get j)=pl j γ T es++M:=by cases es<;>simp
theorem P4{t:St}{T:bh}{es:List (List V)}(h:∀e∈es,∀v∈e,CB t v=some v):CM t (.vec T es)=.vec T es:=by
 have:CI t (.vec T es)=some (.vec T es):=by unfold CI;simp only;rw[N5 fun e he=>N5 fun v hv=>h e he v hv]
 unfold CM;rw[this]
theorem ADL{t c l q γ n:Nat}{fr:Fr}{s:St}{U:bh}{es:List (List V)}(h:BJ fr t=some (true,.vec l q γ n))(hg:s.get l q=some (γ,.vec U es))(hn:n<=es.length)(hc:γ<c):eO (some t) ⟨c,fr,s⟩=⟨c,(t,true,.list false (es.take n))::fr,s.put l q γ .dead⟩:=by
 have hb:(bc γ γ&&Nat.ble n es.length&&bj γ c)=true:=by simp[bk,hn,hc,Nat.beq_eq]
 unfold eO;simp only[h,hg,hb]
@[simp] theorem AXA{P:bm}{A:Ann}{kn:CF0}{n N l:Nat}{st:XS}:AE P A kn (n+1) N (.label l) st=some (.normal,st):=rfl
theorem L5{α:Type}(p:α->Bool):∀(l:List α),(!l.any fun x=>!p x)=l.all p
 |[]=>rfl
 |x::l=>by have:=L5 p l;simp only[List.any_cons,List.all_cons,Bool.not_or,Bool.not_not,<-this]
section
variable {P:bm}{fr:Fr}{s:St}
def pt(k γ:Nat):List (List V)->V
 |[]=>.list true []
 |e::es=>.vec 0 k γ (e::es).length
@[simp] theorem BKS(k γ:Nat):pt k γ []=.list true []:=rfl
@[simp] theorem BFA(k γ:Nat)(e:List V)(es:List (List V)):pt k γ (e::es)=.vec 0 k γ (es.length+1):=rfl
@[simp] theorem BKT(e k c γ:Nat)(loc:AA)(es:List (List V))(y:List V)(ys:List (List V))(hl:AA.get loc k=(pl k γ e es).get k)(h1:es.all (fun y=>y.length==P.cellsOf e)=true)(h2:B5 P e es.length (y::ys)=true) :
  apV P e k c fr ⟨[],loc⟩ (pt k γ es) (y::ys)=some ⟨c+1,(k,true,pt k c (es++y::ys))::fr,⟨[],(k,c,.vec e (es++y::ys))::loc⟩⟩:=by
 cases es with
 |nil=>
  simp only[List.length_nil]at h2
  simp[h2,pt]
 |cons z es=>
  have h:=AY3 (P:=P) (fr:=fr) e k c γ loc (z::es) y ys hl h1 h2
  exact h
theorem ADM{T:bh}(f:Nat)(loc:AA)(k γ:Nat)(es:List (List V))(hl:AA.get loc k=(pl k γ T es).get k):A4 ⟨[],loc⟩ (f+1) (pt k γ es)=some (.list false es):=by
 cases es with
 |nil=>rfl
 |cons e es=>exact Q1 (T:=T) f loc k γ (e::es) hl
@[simp] theorem AXB(f k γ:Nat)(T:bh)(es:List (List V)):A4 ⟨[],pl k γ T es⟩ (f+1) (pt k γ es)=some (.list false es):=ADM (T:=T) f _ k γ es rfl
@[simp] theorem A16(k γ:Nat)(es:List (List V)):BA (pt k γ es)=[pt k γ es]:=by cases es<;>rfl
@[simp] theorem A17(k γ:Nat)(es:List (List V)):BE (pt k γ es)=true:=by cases es<;>rfl
end
@[simp] theorem BFB(st:XS):MD [] st=st:=rfl
@[simp] theorem BAH(k:Nat)(ks:List Nat)(c:Nat)(fr:Fr)(up:List AA)(loc:AA)(h:k<1000):MD (k::ks) ⟨c,fr,⟨up,loc⟩⟩=MD ks ⟨c,OJ up.length k (loc.get k) fr,⟨up,FH up.length k (loc.get k) loc⟩⟩:=by
 have h1:bj k 1000=true:=by simpa [bk]using h
 show MD ks (zL k ⟨c,fr,⟨up,loc⟩⟩)=_;unfold zL;rw[h1];rfl
@[simp] theorem BAI(k:Nat)(ks:List Nat)(c:Nat)(fr:Fr)(up:List AA)(loc:AA)(h:2000000000000000<=k):MD (k::ks) ⟨c,fr,⟨up,loc⟩⟩=MD ks ⟨c,fr,⟨up,gE (k % 1000) loc⟩⟩:=by
 have h1:bj k 1000=false:=by rw[<-bb,bk];omega
 have h2:bj k 1000000000000000=false:=by rw[<-bb,bk];omega
 have h3:bj k 2000000000000000=false:=by rw[<-bb,bk];omega
 show MD ks (zL k ⟨c,fr,⟨up,loc⟩⟩)=_;unfold zL;rw[h1,h2,h3];rfl
@[simp] theorem BFC(k:Nat):gE k []=[]:=rfl
@[simp] theorem BAJ(k j g:Nat)(r:AZ)(L:AA):gE k ((j,g,r)::L)=(j,g,if j=k then wkR r else r)::gE k L:=rfl
@[simp] theorem BFD(T:bh)(es:List (List V)):wkR (.vec T es)=.vec T (es.map (bg mU)):=rfl
@[simp] theorem BFE(cs:List V):wkR (.box cs)=.box (cs.map mU):=rfl
@[simp] theorem BKU(k γ:Nat)(T:bh)(es:List (List V)):gE k (pl k γ T es)=pl k γ T (es.map (bg mU)):=by
 cases es with
 |nil=>rfl
 |cons e es=>simp[pl,gE]
@[simp] theorem AOW{k j:Nat}(h:j≠k)(γ:Nat)(T:bh)(es:List (List V)):gE k (pl j γ T es)=pl j γ T es:=by
 cases es with
 |nil=>rfl
 |cons e es=>simp[pl,gE,h]
@[simp] theorem BKV(es:List (List V)):mU (sl es)=.list false es:=by cases es<;>rfl
@[simp] theorem BFF:mU .nil=.list false []:=rfl
@[simp] theorem BAK(b:Bool)(es:List (List V)):mU (.list b es)=.list b es:=rfl
section
variable {l k:Nat}{o:Option (Nat×AZ)}
def gtf(l k:Nat)(o:Option (Nat×AZ)):Option (Bool×V)->Option (Bool×V)
 |some (c,v)=>some (c,BK l k o 3 v)
 |none=>none
@[simp] theorem BAL(c:Bool)(v:V):gtf l k o (some (c,v))=some (c,BK l k o 3 v):=rfl
@[simp] theorem BAM:gtf l k o none=none:=rfl
@[simp] theorem A18(fr:Fr)(j:Nat):BJ (OJ l k o fr) j=gtf l k o (BJ fr j):=by
 rw[FY,FY,XG];cases fr.get j with
 |none=>rfl
 |some x=>rfl
end
@[simp] theorem BFG{k j:Nat}(h:j≠k)(r:Fr)(o:Option (Bool×V)):BJ (kx k r o) j=BJ r j:=by
 cases o with
 |none=>rfl
 |some x=>
  obtain⟨c,v⟩:=x
  simp[h]
end Go.Pg
