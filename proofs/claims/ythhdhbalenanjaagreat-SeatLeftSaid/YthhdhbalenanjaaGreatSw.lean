/- Rows told as lists, by simp. No program in sight. -/
import Derived.Test.YthhdhbalenanjaaGreatSx
noncomputable section
open Go renaming TypeId->bh,Program->bm,Operand->bn,FuncId->bp,IntKind->cj
open Nat renaming blt->bj,blt_eq->bk,beq->bc
open List renaming map_congr_left->bq,nil_append->bw,append_nil->bx,all_eq_true->bz,map_id->bf,map->bg
open Bool renaming not_eq_true->bb
set_option linter.unusedSimpArgs false
namespace Go.Pg
variable {P:bm}{l k:Nat}{o:Option (Nat×AX)}
@[simp] theorem AV7(st:XS):OS [] st=st:=rfl
@[simp] theorem ARO(k:Nat)(ks:List Nat)(c:Nat)(fr:Fr)(up:List AA)(loc:AA):OS (k::ks) ⟨c,fr,⟨up,loc⟩⟩=OS ks ⟨c,NF up.length k (loc.get k) fr,⟨up,FV up.length k (loc.get k) loc⟩⟩:=rfl
@[simp] theorem AV8:NF l k o []=[]:=rfl
@[simp] theorem ARP(j:Nat)(c:Bool)(v:V)(fr:Fr):NF l k o ((j,c,v)::fr)=(j,c,BD l k o 3 v)::NF l k o fr:=rfl
@[simp] theorem AV9:FV l k o []=[]:=rfl
@[simp] theorem ARQ(j g:Nat)(r:AX)(L:AA):FV l k o ((j,g,r)::L)=if j=k then FV l k o L else(j,g,KB l k o r)::FV l k o L:=rfl
theorem WO:∀(f g:Nat) (v:V),AF g v=true->BD l k o f v=v
 |0,_,_,_=>rfl
 |f+1,0,v,h=>by cases h
 |f+1,g+1,v,h=>by
  have lst:∀cs:List V,cs.all (AF g)=true->cs.map (BD l k o f)=cs:=by
   intro cs h;conv=>rhs;rw[<-bf cs]
   exact bq fun x hx=>WO f g x (bz.1 h x hx)
  cases v with
  |vec _ _ _ _=>cases h
  |ptr _ _ _ _=>cases h
  |agg cs=>simp only[BD];rw[lst cs h]
  |tup cs=>simp only[BD];rw[lst cs h]
  |_=>rfl
theorem qW{cs:List V}(h:cs.all (AF 9)=true)(f:Nat):cs.map (BD l k o f)=cs:=by
 conv=>rhs;rw[<-bf cs]
 exact bq fun x hx=>WO f 9 x (bz.1 h x hx)
theorem yR{es:List (List V)}(h:(es.all fun e=>e.all (AF 9))=true)(f:Nat):es.map (bg (BD l k o f))=es:=by
 conv=>rhs;rw[<-bf es]
 exact bq fun x hx=>qW (bz.1 h x hx) f
@[simp] theorem yS{j:Nat}(h:j≠k)(γ:Nat)(T:bh)(es:List (List V))(L:AA)(hc:(es.all fun e=>e.all (AF 9))=true):FV l k o (pl j γ T es++L)=pl j γ T es++FV l k o L:=by
 cases es with
 |nil=>rfl
 |cons e es=>
  have q:=yR (l:=l) (k:=k) (o:=o) hc 3
  simp only[List.map_cons]at q
  simp[h,KB,q]
@[simp] theorem yT{j:Nat}(h:j≠k)(γ:Nat)(T:bh)(es:List (List V))(hc:(es.all fun e=>e.all (AF 9))=true):FV l k o (pl j γ T es)=pl j γ T es:=by have:=yS (l:=l) (o:=o) h γ T es [] hc;simpa using this
@[simp] theorem AWA(cs:List V):KB l k o (.box cs)=.box (cs.map (BD l k o 3)):=rfl
@[simp] theorem AWB(T:bh)(es:List (List V)):KB l k o (.vec T es)=.vec T (es.map (bg (BD l k o 3))):=rfl
@[simp] theorem AWC(es:List (V×V)):KB l k o (.map es)=.map es:=rfl
@[simp] theorem ARR:KB l k o .dead=.dead:=rfl
@[simp] theorem ARS(fr:List (Nat×Bool×V))(ps:List Tmp)(asg body:Code)(N:Nat)(st:LS):KB l k o (.loop fr ps asg body N st)=.loop fr ps asg body N st:=rfl
@[simp] theorem eR(f:Nat)(i:cj)(n:Int):BD l k o f (.int i n)=.int i n:=by cases f<;>rfl
@[simp] theorem ART(f:Nat)(b:Bool):BD l k o f (.bool b)=.bool b:=by cases f<;>rfl
@[simp] theorem AWD(f:Nat)(v:Value):BD l k o f (.raw v)=.raw v:=by cases f<;>rfl
@[simp] theorem ARU(f:Nat)(b:Bool)(es:List (List V)):BD l k o f (.list b es)=.list b es:=by cases f<;>rfl
@[simp] theorem A32(f:Nat)(es:List (List V)):BD l k o f (sl es)=sl es:=by cases f<;>cases es<;>rfl
@[simp] theorem AWE(f:Nat)(cs:List V):BD l k o f (.ref cs)=.ref cs:=by cases f<;>rfl
theorem yU(f a b c d:Nat)(h:¬(a=l/\b=k)):BD l k o f (.ptr a b c d)=.ptr a b c d:=by
 cases f with
 |zero=>rfl
 |succ f=>
  simp only[BD]
  split
  ·rw[if_neg fun hh=>h ⟨hh.1,hh.2.1⟩]
  ·rfl
@[simp] theorem ARV(f a b c d:Nat)(h:¬b=k):BD l k o f (.ptr a b c d)=.ptr a b c d:=yU f a b c d fun hh=>h hh.2
@[simp] theorem ARW(γ:Nat)(T:bh)(es:List (List V))(f a b c d:Nat):BD l k (some (γ,.vec T es)) f (.ptr a b c d)=.ptr a b c d:=by cases f<;>rfl
@[simp] theorem ARX(γ:Nat)(cs:List V)(f a b g off:Nat):BD l k (some (γ,.box cs)) (f+1) (.ptr a b g off)=if a=l/\b=k/\g=γ then .ref ((cs.map NO).drop off) else .ptr a b g off:=rfl
@[simp] theorem A33(q:cj)(n:Int):NO (.int q n)=.int q n:=rfl
@[simp] theorem AWF(b:Bool):NO (.bool b)=.bool b:=rfl
@[simp] theorem AWG(b:Bool)(es:List (List V)):NO (.list b es)=.list b es:=rfl
@[simp] theorem A82(es:List (List V)):NO (sl es)=sl es:=by cases es<;>rfl
@[simp] theorem A34:NO .nil=.nil:=rfl
@[simp] theorem A83(a b c:Nat):NO (.mp a b c)=.any:=rfl
@[simp] theorem A35:NO .any=.any:=rfl
@[simp] theorem aY(f:Nat):AF (f+1) .any=true:=rfl
@[simp] theorem AWH:weakV .any=.any:=rfl
@[simp] theorem AWI:weakC .any=.any:=rfl
@[simp] theorem AWJ(f:Nat):BD l k o f .any=.any:=by cases f<;>rfl
@[simp] theorem A36(f a b c:Nat):BD l k o f (.mp a b c)=.mp a b c:=by cases f<;>rfl
@[simp] theorem AWK(f a b c:Nat):BD l k o f (.yld a b c)=.yld a b c:=by cases f<;>rfl
@[simp] theorem A37(f:Nat)(g:bp)(xs ys:List V):BD l k o f (.fn g xs ys)=.fn g xs ys:=by cases f<;>rfl
@[simp] theorem yV(f:Nat):BD l k o f .nil=.nil:=by cases f<;>rfl
@[simp] theorem AWL(f:Nat)(cs:List V):BD l k o (f+1) (.agg cs)=.agg (cs.map (BD l k o f)):=rfl
@[simp] theorem AWM(f:Nat)(cs:List V):BD l k o (f+1) (.tup cs)=.tup (cs.map (BD l k o f)):=rfl
@[simp] theorem AWN(γ:Nat)(T:bh)(es:List (List V))(f l' k' g m:Nat):BD l k (some (γ,.vec T es)) (f+1) (.vec l' k' g m)=if l'=l/\k'=k/\g=γ/\m=es.length then .list false es else .vec l' k' g m:=rfl
@[simp] theorem A38(γ:Nat)(T:bh)(es:List (List V))(f:Nat):BD 0 k ((pl k γ T es).get k) (f+1) (pv k γ es)=sl es:=by
 cases es with
 |nil=>rfl
 |cons e es=>simp[pv,sl]
@[simp] theorem AWO(γ:Nat)(T:bh)(es:List (List V))(f:Nat):BD 0 k (some (γ,.vec T es)) (f+1) (pv k γ es)=sl es:=by
 cases es with
 |nil=>rfl
 |cons e es=>simp[pv,sl]
@[simp] theorem AWP{j:Nat}(h:j≠k)(γ:Nat)(es:List (List V))(f:Nat):BD l k o f (pv j γ es)=pv j γ es:=by
 cases es with
 |nil=>cases f<;>rfl
 |cons e es=>
  cases f with
  |zero=>rfl
  |succ f=>
   simp only[pv,BD]
   split
   ·rw[if_neg (fun hh=>h hh.2.1)]
   ·rfl
def oe2(d c:Nat)(fr:Fr)(s:St):Option Mk->Option XS->Option XS
 |some r,_=>some ⟨c+1,(d,true,r.val s.up.length d c)::fr,s.put s.up.length d c r.res⟩
 |none,z=>z
@[simp] theorem A84(d c:Nat)(fr:Fr)(s:St)(T:bh)(es:List (List V))(z:Option XS):oe2 d c fr s (some ⟨.vec T es,none⟩) z=some ⟨c+1,(d,true,.vec s.up.length d c es.length)::fr,s.put s.up.length d c (.vec T es)⟩:=rfl
def oe1(d c:Nat)(fr:Fr)(s:St)(F:List V->Option Mk):Option (List V)->Option XS->Option XS
 |some vs,z=>oe2 d c fr s (F vs) z
 |none,z=>z
@[simp] theorem AFA(d c:Nat)(fr:Fr)(s:St)(F:List V->Option Mk)(vs:List V)(z:Option XS):oe1 d c fr s F (some vs) z=oe2 d c fr s (F vs) z:=rfl
variable {A:Ann}{kn:CF0}{n:Nat}{fr:Fr}{s:St}
@[simp] theorem A85{f:bp}(hS:F3 P f=true)(d c:Nat)(args:List bn):CR P (BH P A kn n) (some d) (.call true none (.func f) args) ⟨c,fr,s⟩ =
  oe1 d c fr s (fun vs=>I8 P (AE P A kn n) f (vs.map weakV)) (E8 (CD fr) args) (QF (BH P A kn n).cf (BH P A kn n).cy (some d) (.func f) args ⟨c,fr,s⟩):=by
 show ZZ (BH P A kn n) true (some d) (.func f) args ⟨c,fr,s⟩=_
 unfold ZZ
 show(match HM (BH P A kn n).co (some d) (.func f) args ⟨c,fr,s⟩ with|some st'=>some st'|none=>_)=_
 unfold HM
 have hf:CD fr (.func f)=some (.fn f [] []):=rfl
 simp only[hf]
 cases E8 (CD fr) args with
 |none=>rfl
 |some vs=>
  simp only[AFA,bw,bx]
  have:(BH P A kn n).co f (vs.map weakV) d=I8 P (AE P A kn n) f (vs.map weakV):=by show OP P kn (fun _ _ _=>none) (AE P A kn n) f _ d=_;unfold OP;simp only[hS]
  rw[this]
  cases I8 P (AE P A kn n) f (vs.map weakV)with
  |none=>rfl
  |some r=>rfl
def of2(d c:Nat)(fr:Fr)(s:St):Option Mk->Option XS
 |some r=>some ⟨c+1,(d,true,r.val s.up.length d c)::fr,s.put s.up.length d c r.res⟩
 |none=>none
@[simp] theorem A86(d c:Nat)(fr:Fr)(s:St)(T:bh)(es:List (List V)):of2 d c fr s (some ⟨.vec T es,none⟩)=some ⟨c+1,(d,true,.vec s.up.length d c es.length)::fr,s.put s.up.length d c (.vec T es)⟩:=rfl
def of1(d c:Nat)(fr:Fr)(s:St)(F:List V->Option Mk):Option (List V)->Option XS
 |some vs=>of2 d c fr s (F vs)
 |none=>none
@[simp] theorem AFB(d c:Nat)(fr:Fr)(s:St)(F:List V->Option Mk)(vs:List V):of1 d c fr s F (some vs)=of2 d c fr s (F vs):=rfl
@[simp] theorem A39{f:bp}(hS:F3 P f=true)(d c:Nat)(args:List bn):DG P (BH P A kn n) (some d) (.call true none (.func f) args) ⟨c,fr,s⟩ =
  nw (of1 d c fr s (fun vs=>I8 P (AE P A kn n) f (vs.map weakV)) (E8 (CD fr) args)):=by
 show TR (HM (BH P A kn n).co (some d) (.func f) args ⟨c,fr,s⟩)=_
 rw[GS]
 congr 1
 unfold HM
 have hf:CD fr (.func f)=some (.fn f [] []):=rfl
 simp only[hf]
 cases E8 (CD fr) args with
 |none=>rfl
 |some vs=>
  simp only[AFB,bw,bx]
  have:(BH P A kn n).co f (vs.map weakV) d=I8 P (AE P A kn n) f (vs.map weakV):=by show OP P kn (fun _ _ _=>none) (AE P A kn n) f _ d=_;unfold OP;simp only[hS]
  rw[this]
  cases I8 P (AE P A kn n) f (vs.map weakV)with
  |none=>rfl
  |some r=>rfl
def ARY(P:bm)(fn:Func)(r:Option (Exit×XS)):Option Mk:=match r with
 |some (.ret,st)=>mC P fn st
 |some (.normal,st)=>mC P fn st
 |_=>none
@[simp] theorem A4A(fn:Func)(st:XS):ARY P fn (some (.ret,st))=mC P fn st:=rfl
@[simp] theorem AM5(fn:Func)(st:XS):ARY P fn (some (.normal,st))=mC P fn st:=rfl
theorem yW{f:bp}{fn:Func}{c:Code}{args:List V}{rec:GR}(hf:P.funcs[f]? = some fn)(hb:fn.body=some c)(hs:Nat.ble args.length fn.ntmps=true)(hcl:args.all (AF 9)=true) :
  I8 P rec f args=ARY P fn (rec fn.ntmps c ⟨0,AD 0 args,⟨[],[]⟩⟩):=by
 unfold I8 WN mB
 rw[hcl,hf]
 simp only[hb,hs]
 generalize rec fn.ntmps c ⟨0,AD 0 args,⟨[],[]⟩⟩=q
 cases q with
 |none=>rfl
 |some q=>
  obtain⟨e,st⟩:=q
  cases e<;>rfl
def rO(P:bm)(fn:Func)(st:XS)(v:Option V):Option Mk:=match v with
 | some (.vec l k γ n)=>Bool.rec none (match st.s.loc.get k with
  |some (γ',.vec T es)=>Bool.rec none (some ⟨.vec T es,none⟩) (bc γ' γ&&bc n es.length&&es.all fun e=>e.all (AF 9))
  | _=>none) (bc l st.s.up.length)
 | some v=>Bool.rec none (match fn.resultTypes.toList with
  |[R]=>match BO P R with
   |some (none,T)=>some ⟨.vec T [],none⟩
   |_=>none
  | _=>none) (WV v)
 |none=>none
theorem uZ(fn:Func)(st:XS):mC P fn st=rO P fn st (FD P fn.results.toList st.fr st.s):=rfl
theorem AM6{fn:Func}{R T:bh}(h1:fn.resultTypes.toList=[R])(h2:BO P R=some (none,T))(c:Nat)(fr:Fr)(loc:AA)(k γ:Nat)(es:List (List V))(hl:loc.get k=(pl k γ T es).get k)(hc:(es.all fun e=>e.all (AF 9))=true):rO P fn ⟨c,fr,⟨[],loc⟩⟩ (some (pv k γ es))=some ⟨.vec T es,none⟩:=by
 cases es with
 |nil=>
  show(Bool.rec none (match fn.resultTypes.toList with
   |[R]=>match BO P R with
    |some (none,T)=>some ⟨.vec T [],none⟩
    |_=>none
   | _=>none) true:Option Mk)=_
  rw[h1]
  simp only[h2]
 |cons e es=>
  have hl:loc.get k=some (γ,.vec T (e::es)):=by rw[hl];simp
  simp only[pv,rO,hl,hc,List.length_nil,Bool.and_true]
  simp
end Go.Pg
namespace Go.Pg
section
@[simp] theorem unsnoc_snoc{α:Type}(x:α):∀(l:List α),BW (l++[x])=some (l,x)
 |[]=>rfl
 |[y]=>rfl
 |y::z::l=>by have:=unsnoc_snoc x (z::l);simp only[List.cons_append]at this|-;rw[WQ,this];rfl
end
section
variable {P:bm}{E:XE}{d:Option Tmp}{c:Nat}{fr:Fr}{s:St}{r:bn->Option V}
@[simp] theorem ARZ(T:bh)(x i:bn)(ok:Bool):JE P (mW (.lookup T x i ok)) s r=o2 (fun a b=>DL P s T a b ok) (r x) (r i):=by show((r x).bind fun a=>(r i).bind fun b=>DL P s T a b ok)=_;cases r x<;>cases r i<;>rfl
def up1(c:Nat)(fr:Fr)(s:St):Option (Nat×Nat×Nat×List (V×V))->Option XS
 |some (l,q,γ,es)=>Bool.rec none (some ⟨c,fr,s.put l q γ (.map es)⟩) (bj γ c)
 |none=>none
def up3(P:bm)(T:bh)(c:Nat)(fr:Fr)(s:St):Option V->Option V->Option V->Option XS
 |some m,some i,some v=>up1 c fr s (LL P s T m i v)
 |_,_,_=>none
@[simp] theorem A4B(T:bh)(m i v:V):up3 P T c fr s (some m) (some i) (some v)=up1 c fr s (LL P s T m i v):=rfl
theorem AFC(l q γ:Nat)(es:List (V×V))(h:γ<c):up1 c fr s (some (l,q,γ,es))=some ⟨c,fr,s.put l q γ (.map es)⟩:=by
 have:bj γ c=true:=by simpa [bk]using h
 show(Bool.rec none (some ⟨c,fr,s.put l q γ (.map es)⟩) (bj γ c):Option XS)=_;rw[this]
@[simp] theorem AWQ(T:bh)(x i y:bn):CR P E none (.upd T x i y) ⟨c,fr,s⟩=up3 P T c fr s (CD fr x) (CD fr i) (CD fr y):=by show xZ P none T x i y ⟨c,fr,s⟩=_;unfold xZ up3 up1;simp only;cases CD fr x<;>cases CD fr i<;>cases CD fr y<;>simp only;split<;>simp_all
@[simp] theorem A4C(x:bn):JE P (mW (.nilCheck x)) s r=o1 M8 (r x):=by show(r x).bind M8=_;cases r x<;>rfl
@[simp] theorem AWR(l k g o:Nat):M8 (.ptr l k g o)=some (.ptr l k g o):=rfl
@[simp] theorem A4D(x:bn)(f:bn->Option V):HW P (.oth (.nilCheck x)) f=[]:=rfl
@[simp] theorem A4E(T:bh)(x i:bn)(ok:Bool)(f:bn->Option V):HW P (.oth (.lookup T x i ok)) f=BN (f x):=rfl
@[simp] theorem AR0(l k g:Nat):BT s (.mp l k g)=some (.mp l k g):=rfl
theorem M3{α:Type}{f:α->Option α}:∀{l:List α},(∀x∈l,f x=some x)->G4 f l=some l
 |[],_=>rfl
 |x::l,h=>by have ih:=M3 (f:=f) (l:=l) fun y hy=>h y (by simp[hy]);simp only[G4,h x (by simp),ih]
theorem T3:∀(l:List AA) (b:AA),BW (l++[b])=some (l,b)
 |[],b=>by simp
 |[a],b=>by simp
 |a::a2::l,b=>by have:=T3 (a2::l) b;simp only[List.cons_append]at this|-;simp[this]
@[simp] theorem AWS(a:AA)(l:List AA)(b:AA):BW (a::(l++[b]))=some (a::l,b):=T3 (a::l) b
@[simp] theorem AR1(l k g:Nat):BN (some (.mp l k g))=[(l,k)]:=rfl
@[simp] theorem AWT(d:Nat):CR P E (some d) (.mkM none) ⟨c,fr,s⟩=some ⟨c+1,(d,true,.mp s.up.length d c)::fr,s.put s.up.length d c (.map [])⟩:=rfl
end
section
variable {P:bm}{s:St}{r:bn->Option V}
@[simp] theorem AR2(T:bh)(x h:bn):JE P (mW (.slice T x none (some h) none)) s r=o2 (fun a b=>CS P s T a none (some b) none) (r x) (r h):=by show((r x).bind fun a=>((some none:Option (Option V))).bind fun l=>((r h).map some).bind fun h=>((some none:Option (Option V))).bind fun m=>CS P s T a l h m)=_;cases r x<;>cases r h<;>rfl
end
section
variable {P:bm}{E:XE}{c:Nat}{fr:Fr}{s:St}{r:bn->Option V}
@[simp] theorem AR3(T:bh)(x l:bn):JE P (mW (.slice T x (some l) none none)) s r=o2 (fun a b=>CS P s T a (some b) none none) (r x) (r l):=by show((r x).bind fun a=>((r l).map some).bind fun l=>(some none).bind fun h=>(some none).bind fun m=>CS P s T a l h m)=_;cases r x<;>cases r l<;>rfl
theorem yX{T e:bh}{l k g n h:Nat}(hT:BO P T=some (none,e))(hh:h<=n)(hc:0<P.cellsOf e):CS P s T (.vec l k g n) none (some (.int .i64 (h:Int))) none=some (.vec l k g h):=by unfold CS;simp only[hT];rw[if_pos ⟨by omega,by omega,hc⟩];simp
end
section
variable {P:bm}{fr:Fr}{s:St}
@[simp] theorem A88(e d c l q γ n:Nat)(ys:List (List V)):zQ P e d c fr s (.vec l q γ n) ys=wp [(l,q),(l,q+ID)] (apW P e d c fr s l q γ n ys (QY n ys (s.get l q))):=rfl
@[simp] theorem AR4(l k g i o:Nat):M8 (.eptr l k g i o)=some (.eptr l k g i o):=rfl
end
section
@[simp] theorem AIX{P:bm}{A:Ann}{kn:CF0}{n:Nat}:(BH P A kn n).cy=Z9 (AE P A kn n):=rfl
end
section
variable {P:bm}{A:Ann}{kn:CF0}{n:Nat}{fr:Fr}{s:St}
def oc2(d c:Nat)(fr:Fr)(s:St):Option V->Option XS->Option XS
 |some r,_=>some ⟨c+1,(d,true,r.ren (fun _=>c) s.up.length)::fr,s.put s.up.length d c .dead⟩
 |none,z=>z
@[simp] theorem A4F(d c:Nat)(r:V)(z:Option XS):oc2 d c fr s (some r) z=some ⟨c+1,(d,true,r.ren (fun _=>c) s.up.length)::fr,s.put s.up.length d c .dead⟩:=rfl
def oc1(d c:Nat)(fr:Fr)(s:St)(F:List V->Option V):Option (List V)->Option XS->Option XS
 |some vs,z=>oc2 d c fr s (F vs) z
 |none,z=>z
@[simp] theorem AFD(d c:Nat)(F:List V->Option V)(vs:List V)(z:Option XS):oc1 d c fr s F (some vs) z=oc2 d c fr s (F vs) z:=rfl
@[simp] theorem A4G{f:bp}(hS:F3 P f=false)(d c:Nat)(args:List bn):CR P (BH P A kn n) (some d) (.call true none (.func f) args) ⟨c,fr,s⟩ =
  oc1 d c fr s (fun vs=>FI P kn (AE P A kn n) f (vs.map weakV)) (E8 (CD fr) args) (QF (BH P A kn n).cf (BH P A kn n).cy (some d) (.func f) args ⟨c,fr,s⟩):=by
 show ZZ (BH P A kn n) true (some d) (.func f) args ⟨c,fr,s⟩=_
 unfold ZZ
 show(match HM (BH P A kn n).co (some d) (.func f) args ⟨c,fr,s⟩ with|some st'=>some st'|none=>_)=_
 unfold HM
 have hf:CD fr (.func f)=some (.fn f [] []):=rfl
 simp only[hf]
 cases E8 (CD fr) args with
 |none=>rfl
 |some vs=>
  simp only[AFD,bw,bx]
  have:(BH P A kn n).co f (vs.map weakV) d=(match FI P kn (AE P A kn n) f (vs.map weakV)with|some r=>some ⟨.dead,some r⟩|none=>none):=by show OP P kn (fun _ _ _=>none) (AE P A kn n) f _ d=_;unfold OP;simp only[hS];cases FI P kn (AE P A kn n) f (vs.map weakV)<;>rfl
  rw[this]
  cases FI P kn (AE P A kn n) f (vs.map weakV)with
  |none=>rfl
  |some r=>rfl
def od2(d c:Nat)(fr:Fr)(s:St):Option V->Option XS
 |some r=>some ⟨c+1,(d,true,r.ren (fun _=>c) s.up.length)::fr,s.put s.up.length d c .dead⟩
 |none=>none
@[simp] theorem A4H(d c:Nat)(r:V):od2 d c fr s (some r)=some ⟨c+1,(d,true,r.ren (fun _=>c) s.up.length)::fr,s.put s.up.length d c .dead⟩:=rfl
def od1(d c:Nat)(fr:Fr)(s:St)(F:List V->Option V):Option (List V)->Option XS
 |some vs=>od2 d c fr s (F vs)
 |none=>none
@[simp] theorem AFE(d c:Nat)(F:List V->Option V)(vs:List V):od1 d c fr s F (some vs)=od2 d c fr s (F vs):=rfl
@[simp] theorem AWU{f:bp}(hS:F3 P f=false)(d c:Nat)(args:List bn):DG P (BH P A kn n) (some d) (.call true none (.func f) args) ⟨c,fr,s⟩ =
  nw (od1 d c fr s (fun vs=>FI P kn (AE P A kn n) f (vs.map weakV)) (E8 (CD fr) args)):=by
 show TR (HM (BH P A kn n).co (some d) (.func f) args ⟨c,fr,s⟩)=_
 rw[GS]
 congr 1
 unfold HM
 have hf:CD fr (.func f)=some (.fn f [] []):=rfl
 simp only[hf]
 cases E8 (CD fr) args with
 |none=>rfl
 |some vs=>
  simp only[AFE,bw,bx]
  have:(BH P A kn n).co f (vs.map weakV) d=(match FI P kn (AE P A kn n) f (vs.map weakV)with|some r=>some ⟨.dead,some r⟩|none=>none):=by show OP P kn (fun _ _ _=>none) (AE P A kn n) f _ d=_;unfold OP;simp only[hS];cases FI P kn (AE P A kn n) f (vs.map weakV)<;>rfl
  rw[this]
  cases FI P kn (AE P A kn n) f (vs.map weakV)with
  |none=>rfl
  |some r=>rfl
end
section
variable {fr:Fr}{s:St}
@[simp] theorem AM7(l k g:Nat):BT s (.yld l k g)=some (.yld l k g):=rfl
@[simp] theorem AM8(f:Nat)(cs:List V):AY s (f+1) (.ref cs)=some (.ref cs):=rfl
@[simp] theorem A4I{P:bm}:FD P [] fr s=some (.tup []):=rfl
@[simp] theorem AM9(f:Nat):AY s (f+1) (.tup [])=some (.tup []):=rfl
@[simp] theorem AFF:CL .nilFunc=some (.raw .nilFunc):=rfl
@[simp] theorem AR5(f l k g:Nat):AF (f+1) (.yld l k g)=false:=rfl
@[simp] theorem A4J(l k g:Nat):weakV (.yld l k g)=.yld l k g:=rfl
@[simp] theorem A9A(d c l k g:Nat):zL d c fr s (some (.yld l k g))=some ⟨c+1,(d,true,.ptr s.up.length d c 0)::fr,s.put s.up.length d c (.box [.yld l k g])⟩:=rfl
@[simp] theorem A9B(F:List V->Option (List V))(g off:Nat)(g':Nat)(cs:List V):cp1 F g off (some (g',.box cs))=if g'=g then(F cs).map (fun ds=>V.ref (ds.drop off)) else none:=rfl
def mk4(P:bm)(d c:Nat)(fr:Fr)(s:St)(e:bh)(n m:Int):Option (List V)->Option XS
 |some z=>if 0<=n/\m=n/\z.length=P.cellsOf e/\n.toNat*P.bytesOf e<=140737488355328/\n.toNat<=maxLen then some ⟨c+1,(d,true,.vec s.up.length d c n.toNat)::fr,s.put s.up.length d c (.vec e (List.replicate n.toNat z))⟩ else none
 |none=>none
@[simp] theorem A4K{P:bm}(d c:Nat)(e:bh)(n m:Int)(z:List V):mk4 P d c fr s e n m (some z)=if 0<=n/\m=n/\z.length=P.cellsOf e/\n.toNat*P.bytesOf e<=140737488355328/\n.toNat<=maxLen then some ⟨c+1,(d,true,.vec s.up.length d c n.toNat)::fr,s.put s.up.length d c (.vec e (List.replicate n.toNat z))⟩ else none:=rfl
def mk3(P:bm)(d c:Nat)(fr:Fr)(s:St):Option (Option Nat×bh)->Option V->Option V->Option XS
 |some (none,e),some (.int _ n),some (.int _ m)=>mk4 P d c fr s e n m (B7 P e)
 |_,_,_=>none
@[simp] theorem AFG{P:bm}(d c:Nat)(e:bh)(k1 k2:cj)(n m:Int):mk3 P d c fr s (some (none,e)) (some (.int k1 n)) (some (.int k2 m))=mk4 P d c fr s e n m (B7 P e):=rfl
@[simp] theorem AWV{P:bm}{E:XE}(T:bh)(d c:Nat)(x y:bn):CR P E (some d) (.mkS T x y) ⟨c,fr,s⟩=mk3 P d c fr s (BO P T) (CD fr x) (CD fr y):=by
 show WL P (some d) T x y ⟨c,fr,s⟩=_;unfold WL;simp only;cases BO P T with
 |none=>cases CD fr x<;>cases CD fr y<;>rfl
 |some p=>
  obtain⟨k,e⟩:=p
  cases k with
  |some k=>cases CD fr x<;>cases CD fr y<;>rfl
  |none=>
   cases CD fr x with
   |none=>rfl
   |some a=>
    cases CD fr y with
    |none=>cases a<;>rfl
    |some z=>
     cases a with
     |int k1 n=>
      cases z with
      |int k2 m=>simp only[AFG];cases B7 P e<;>rfl
      |_=>rfl
     |_=>rfl
@[simp] theorem A9C{P:bm}(T:bh)(x y:bn)(r:bn->Option V):HW P (.mkS T x y) r=[]:=rfl
def rE(fr:Fr)(n γ:Nat)(r:Option XS):Option (Exit×XS):=match r with
 |some st=>match st.s.get n A9 with
  | some (γ',.loop _ _ _ _ _ ls)=>Bool.rec none (match ls with
   |.ready=>some (.normal,⟨st.c,fr,st.s.put n A9 γ .dead⟩)
   |.left .ret=>some (.ret,⟨st.c,fr,st.s.put n A9 γ .dead⟩)
   |.left (.exit id)=>some (.exit id,⟨st.c,fr,st.s.put n A9 γ .dead⟩)
   | _=>none) (bc γ' γ&&bj γ st.c)
  |_=>none
 |none=>none
theorem PO{P:bm}{A:Ann}{kn:CF0}{n N:Nat}{g:bn}{ps:List Tmp}{asg body:Code}{c:Nat}{up:List AA}{loc:AA}{f:bp}{first cap:List V}(h:CD fr g=some (.fn f first cap)) :
  VG (BH P A kn n).cf N g ps asg body ⟨c,fr,⟨up,loc⟩⟩=rE fr up.length c (G8 (BH P A kn n) none ⟨c+1,fr,⟨up,(A9,c,.loop fr ps asg body N .ready)::loc⟩⟩ f ((first++[V.yld up.length A9 c]++cap).map weakV)):=by
 unfold VG
 simp only[h]
 unfold G8 gN rE
 simp only[St.put,if_true,AA.put]
 cases (BH P A kn n).cf f ((first++[V.yld up.length A9 c]++cap).map weakV) ⟨c+1,fr,⟨up,(A9,c,.loop fr ps asg body N .ready)::loc⟩⟩ with
 |none=>rfl
 |some r=>rfl
theorem T4{n γ c:Nat}{fr' fr0:Fr}{s:St}{ps:List Tmp}{asg body:Code}{N:Nat}(h:s.get n A9=some (γ,.loop fr0 ps asg body N .ready))(hc:γ<c):rE fr n γ (some ⟨c,fr',s⟩)=some (.normal,⟨c,fr,s.put n A9 γ .dead⟩):=by
 unfold rE;simp only[h];have:(bc γ γ&&bj γ c)=true:=by simpa using hc
 rw[this]
@[simp] theorem AWW(t:St)(fr0:Fr)(ps:List Tmp)(asg body:Code)(N:Nat)(l:LS):CB t (.loop fr0 ps asg body N l)=.loop fr0 ps asg body N l:=rfl
theorem T5{rec:GR}{l q γ c N:Nat}{fr0:Fr}{ps:List Tmp}{asg body:Code}{vs:List V}(h:s.get l q=some (γ,.loop fr0 ps asg body N .ready))(hv:vs.length=ps.length)(hc:γ<c) :
  Z9 rec l q γ vs ⟨c,fr,s⟩=OQ fr l q γ (Z8 (rec N) l q γ body (rec N asg ⟨c,IQ fr0 ps vs,⟨s.up++[s.loc],[]⟩⟩)):=by
 unfold Z9
 simp only[h]
 have:(bc γ γ&&bc vs.length ps.length&&bj γ c)=true:=by simp[hv,hc]
 rw[this]
theorem GH{rec:bO}{l q γ c N:Nat}{fr0:Fr}{ps:List Tmp}{asg body body':Code}(h:s.get l q=some (γ,.loop fr0 ps asg body' N .ready))(hc:γ<c) :
  Z8 rec l q γ body (some (.normal,⟨c,fr,s⟩))=rec body ⟨c,fr,s.put l q γ (.loop fr0 ps asg body' N .busy)⟩:=by
 unfold Z8
 simp only[h]
 have:(bc γ γ&&bj γ c)=true:=by simp[hc]
 rw[this]
theorem QJ{fr':Fr}{l q γ c N:Nat}{fr0:Fr}{ps:List Tmp}{asg body:Code}{up u:List AA}{loc lc:AA}(h:St.get ⟨up,loc⟩ l q=some (γ,.loop fr0 ps asg body N .busy))(hu:BW up=some (u,lc))(hl:l<up.length)(hc:γ<c) :
  OQ fr l q γ (some (.normal,⟨c,fr',⟨up,loc⟩⟩))=some (.bool true,⟨c,fr,St.put ⟨u.map (AH ⟨up,loc⟩),AH ⟨up,loc⟩ lc⟩ l q γ (.loop fr0 ps asg body N .ready)⟩):=by
 unfold OQ
 simp only[h,hu]
 have:(bc γ γ&&bj l up.length&&bj γ c)=true:=by simp[hc,hl]
 rw[this]
 rfl
end
section
def tkU(z:Option XS)(d:Option Tmp)(st:XS):Option V->Option XS
 |some r=>Bool.rec z (D4 d st (some r)) (aJ r)
 |none=>z
@[simp] theorem A9D(z:Option XS)(d:Option Tmp)(st:XS)(k:cj)(n:Int):tkU z d st (some (.int k n))=D4 d st (some (.int k n)):=rfl
@[simp] theorem A4L(z:Option XS)(d:Option Tmp)(st:XS)(b:Bool):tkU z d st (some (.bool b))=D4 d st (some (.bool b)):=rfl
@[simp] theorem AWX(l k g n:Nat):weakC (.vec l k g n)=.vec l k g n:=rfl
@[simp] theorem yY(st:XS)(v:V):H2 st [] v=v:=rfl
@[simp] theorem qX(k:Nat)(ks:List Nat)(c:Nat)(fr:Fr)(up:List AA)(loc:AA)(v:V)(h:k<10000):H2 ⟨c,fr,⟨up,loc⟩⟩ (k::ks) v=H2 ⟨c,fr,⟨up,loc⟩⟩ ks (BD up.length k (loc.get k) 3 v):=by
 have:bj k 10000=true:=by simpa [bk]using h
 simp only[H2,this,cond_true]
@[simp] theorem FT(k:Nat)(ks:List Nat)(st:XS)(v:V)(h:¬k<10000):H2 st (k::ks) v=H2 st ks (BD (k / 10000-1) (k % 10000) (st.s.get (k / 10000-1) (k % 10000)) 3 v):=by
 have:bj k 10000=false:=by
  cases hb:bj k 10000 with
  |false=>rfl
  |true=>exact absurd (by simpa [bk]using hb) h
 simp only[H2,this,cond_false]
@[simp] theorem A9E{P:bm}{A:Ann}{kn:CF0}{n k:Nat}{us:List Nat}(d:Option Tmp)(st:XS)(f:bp)(args:List V):G8 (cfU (k::us) (BH P A kn n)) d st f args=tkU (G8 (BH P A kn n) d st f args) d st (FI P kn (AE P A kn n) f (args.map (H2 st (k::us)))):=by
 show(match mG (BH P A kn n).cf (BH P A kn n).c0 (k :: us) f args st with
  |some (r,st')=>some (⟨st'.c,putD st'.fr d true r,st'.s⟩:XS)
  | none=>none)=_
 unfold mG;have e:(BH P A kn n).c0=FI P kn (AE P A kn n):=rfl;rw[e];cases FI P kn (AE P A kn n) f (args.map (H2 st (k::us)))with
 |none=>rfl
 |some r=>
  show(match(Bool.rec ((BH P A kn n).cf f args st) (some (r,st)) (aJ r):Option (V×XS))with
   |some (r,st')=>some (⟨st'.c,putD st'.fr d true r,st'.s⟩:XS)
   | none=>none)=(Bool.rec (G8 (BH P A kn n) d st f args) (D4 d st (some r)) (aJ r):Option XS)
  cases aJ r<;>rfl
@[simp] theorem AR6(k:cj)(n:Int):gQ (.int k n)=true:=rfl
@[simp] theorem ANA(b:Bool):gQ (.bool b)=true:=rfl
end
theorem qY{j k:Nat}(h:j≠k)(γ γ2:Nat)(T T2:bh)(es fs:List (List V)):kl j (kl k [] ((pl j γ T es++pl k γ2 T2 fs).get k)) ((pl j γ T es++pl k γ2 T2 fs).get j)=pl j γ T es++pl k γ2 T2 fs:=by cases es<;>cases fs<;>simp[h,h.symm]
theorem XH{j k:Nat}(h:j≠k)(γ γ2:Nat)(T T2:bh)(es fs:List (List V)):(pl j γ T es++pl k γ2 T2 fs).get k=(pl k γ2 T2 fs).get k:=by cases es<;>cases fs<;>simp[h.symm]
theorem qZ{j k:Nat}(h:j≠k)(γ γ2:Nat)(T T2:bh)(es fs:List (List V))(M:AA):kl j M ((pl j γ T es++pl k γ2 T2 fs).get j)=pl j γ T es++M:=by cases es<;>cases fs<;>simp[h,h.symm]
theorem AKF{j k:Nat}(h:j≠k)(γ:Nat)(T:bh)(es:List (List V))(x:Nat×AX):(pl j γ T es++[(k,x)]).get k=some x:=by cases es<;>simp[h.symm]
theorem AR7{j k:Nat}(h:j≠k)(γ:Nat)(T:bh)(es:List (List V))(x:Nat×AX)(M:AA):kl j M ((pl j γ T es++[(k,x)]).get j)=pl j γ T es++M:=by cases es<;>simp[h,h.symm]
theorem XI{j k:Nat}(h:j≠k)(γ γ2:Nat)(T T2:bh)(es fs:List (List V)):(pl j γ T es++pl k γ2 T2 fs).get j=(pl j γ T es).get j:=by cases es<;>cases fs<;>simp[h]
theorem iB{j k m:Nat}(h1:j≠m)(h2:k≠m)(γ γ2:Nat)(T T2:bh)(es fs:List (List V)):(pl j γ T es++pl k γ2 T2 fs).get m=none:=by cases es<;>cases fs<;>simp[h1.symm,h2.symm]
theorem rA{j:Nat}(γ:Nat)(T:bh)(es:List (List V))(M:AA):kl j M ((pl j γ T es).get j)=pl j γ T es++M:=by cases es<;>simp
theorem OY{t:St}{T:bh}{es:List (List V)}(h:∀e∈es,∀v∈e,BT t v=some v):CB t (.vec T es)=.vec T es:=by
 have:B0 t (.vec T es)=some (.vec T es):=by unfold B0;simp only;rw[M3 fun e he=>M3 fun v hv=>h e he v hv]
 unfold CB;rw[this]
theorem yZ{t c l q γ n:Nat}{fr:Fr}{s:St}{U:bh}{es:List (List V)}(h:BR fr t=some (true,.vec l q γ n))(hg:s.get l q=some (γ,.vec U es))(hn:n<=es.length)(hc:γ<c):aZ (some t) ⟨c,fr,s⟩=⟨c,(t,true,.list false (es.take n))::fr,s.put l q γ .dead⟩:=by
 have hb:(bc γ γ&&Nat.ble n es.length&&bj γ c)=true:=by simp[bk,hn,hc,Nat.beq_eq]
 unfold aZ;simp only[h,hg,hb]
@[simp] theorem AR8{P:bm}{A:Ann}{kn:CF0}{n N l:Nat}{st:XS}:AE P A kn (n+1) N (.label l) st=some (.normal,st):=rfl
theorem KX{α:Type}(p:α->Bool):∀(l:List α),(!l.any fun x=>!p x)=l.all p
 |[]=>rfl
 |x::l=>by have:=KX p l;simp only[List.any_cons,List.all_cons,Bool.not_or,Bool.not_not,<-this]
section
variable {P:bm}{fr:Fr}{s:St}
def pt(k γ:Nat):List (List V)->V
 |[]=>.list true []
 |e::es=>.vec 0 k γ (e::es).length
@[simp] theorem BEG(k γ:Nat):pt k γ []=.list true []:=rfl
@[simp] theorem A9F(k γ:Nat)(e:List V)(es:List (List V)):pt k γ (e::es)=.vec 0 k γ (es.length+1):=rfl
@[simp] theorem BEH(e k c γ:Nat)(loc:AA)(es:List (List V))(y:List V)(ys:List (List V))(hl:AA.get loc k=(pl k γ e es).get k)(h1:es.all (fun y=>y.length==P.cellsOf e)=true)(h2:B8 P e es.length (y::ys)=true) :
  apV P e k c fr ⟨[],loc⟩ (pt k γ es) (y::ys)=some ⟨c+1,(k,true,pt k c (es++y::ys))::fr,⟨[],(k,c,.vec e (es++y::ys))::loc⟩⟩:=by
 cases es with
 |nil=>
  simp only[List.length_nil]at h2
  simp[h2,pt]
 |cons z es=>
  have h:=AT1 (P:=P) (fr:=fr) e k c γ loc (z::es) y ys hl h1 h2
  exact h
theorem zA{T:bh}(f:Nat)(loc:AA)(k γ:Nat)(es:List (List V))(hl:AA.get loc k=(pl k γ T es).get k):AY ⟨[],loc⟩ (f+1) (pt k γ es)=some (.list false es):=by
 cases es with
 |nil=>rfl
 |cons e es=>exact L5 (T:=T) f loc k γ (e::es) hl
@[simp] theorem AR9(f k γ:Nat)(T:bh)(es:List (List V)):AY ⟨[],pl k γ T es⟩ (f+1) (pt k γ es)=some (.list false es):=zA (T:=T) f _ k γ es rfl
@[simp] theorem AWY(k γ:Nat)(es:List (List V)):A5 (pt k γ es)=[pt k γ es]:=by cases es<;>rfl
@[simp] theorem AWZ(k γ:Nat)(es:List (List V)):A8 (pt k γ es)=true:=by cases es<;>rfl
end
@[simp] theorem A9G(st:XS):M0 [] st=st:=rfl
@[simp] theorem A4M(k:Nat)(ks:List Nat)(c:Nat)(fr:Fr)(up:List AA)(loc:AA)(h:k<1000):M0 (k::ks) ⟨c,fr,⟨up,loc⟩⟩=M0 ks ⟨c,NF up.length k (loc.get k) fr,⟨up,FV up.length k (loc.get k) loc⟩⟩:=by
 have h1:bj k 1000=true:=by simpa [bk]using h
 show M0 ks (uI k ⟨c,fr,⟨up,loc⟩⟩)=_;unfold uI;rw[h1];rfl
@[simp] theorem A4N(k:Nat)(ks:List Nat)(c:Nat)(fr:Fr)(up:List AA)(loc:AA)(h:2000000000000000<=k):M0 (k::ks) ⟨c,fr,⟨up,loc⟩⟩=M0 ks ⟨c,fr,⟨up,cO (k % 1000) loc⟩⟩:=by
 have h1:bj k 1000=false:=by rw[<-bb,bk];omega
 have h2:bj k 1000000000000000=false:=by rw[<-bb,bk];omega
 have h3:bj k 2000000000000000=false:=by rw[<-bb,bk];omega
 show M0 ks (uI k ⟨c,fr,⟨up,loc⟩⟩)=_;unfold uI;rw[h1,h2,h3];rfl
@[simp] theorem A9H(k:Nat):cO k []=[]:=rfl
@[simp] theorem A4O(k j g:Nat)(r:AX)(L:AA):cO k ((j,g,r)::L)=(j,g,if j=k then wkR r else r)::cO k L:=rfl
@[simp] theorem A9I(T:bh)(es:List (List V)):wkR (.vec T es)=.vec T (es.map (bg iQ)):=rfl
@[simp] theorem A9J(cs:List V):wkR (.box cs)=.box (cs.map iQ):=rfl
@[simp] theorem BEI(k γ:Nat)(T:bh)(es:List (List V)):cO k (pl k γ T es)=pl k γ T (es.map (bg iQ)):=by
 cases es with
 |nil=>rfl
 |cons e es=>simp[pl,cO]
@[simp] theorem AKG{k j:Nat}(h:j≠k)(γ:Nat)(T:bh)(es:List (List V)):cO k (pl j γ T es)=pl j γ T es:=by
 cases es with
 |nil=>rfl
 |cons e es=>simp[pl,cO,h]
@[simp] theorem BEJ(es:List (List V)):iQ (sl es)=.list false es:=by cases es<;>rfl
@[simp] theorem A9K:iQ .nil=.list false []:=rfl
@[simp] theorem A4P(b:Bool)(es:List (List V)):iQ (.list b es)=.list b es:=rfl
section
variable {l k:Nat}{o:Option (Nat×AX)}
def gtf(l k:Nat)(o:Option (Nat×AX)):Option (Bool×V)->Option (Bool×V)
 |some (c,v)=>some (c,BD l k o 3 v)
 |none=>none
@[simp] theorem A4Q(c:Bool)(v:V):gtf l k o (some (c,v))=some (c,BD l k o 3 v):=rfl
@[simp] theorem A4R:gtf l k o none=none:=rfl
@[simp] theorem AW0(fr:Fr)(j:Nat):BR (NF l k o fr) j=gtf l k o (BR fr j):=by
 rw[E5,E5,VI];cases fr.get j with
 |none=>rfl
 |some x=>rfl
end
@[simp] theorem A9L{k j:Nat}(h:j≠k)(r:Fr)(o:Option (Bool×V)):BR (kx k r o) j=BR r j:=by
 cases o with
 |none=>rfl
 |some x=>
  obtain⟨c,v⟩:=x
  simp[h]
end Go.Pg
