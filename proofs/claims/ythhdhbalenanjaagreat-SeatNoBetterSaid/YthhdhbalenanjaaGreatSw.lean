/- Rows told as lists, by simp. No program in sight. -/
import Derived.Test.YthhdhbalenanjaaGreatSx
noncomputable section
open Go renaming TypeId->bh,Program->bm,Operand->bn,FuncId->bp,IntKind->cj
open Nat renaming blt->bj,blt_eq->bq,beq->bf
open List renaming map_congr_left->bk,nil_append->bw,append_nil->bx,all_eq_true->bz,map_id->bc,map->bg
open Bool renaming not_eq_true->bb
set_option linter.unusedSimpArgs false
namespace Go.Pg
variable {P:bm}{l k:Nat}{o:Option (Nat×A0)}
@[simp] theorem A0W(st:XS):PT [] st=st:=rfl
@[simp] theorem AV8(k:Nat)(ks:List Nat)(c:Nat)(fr:Fr)(up:List AA)(loc:AA):PT (k::ks) ⟨c,fr,⟨up,loc⟩⟩=PT ks ⟨c,OE up.length k (loc.get k) fr,⟨up,FB up.length k (loc.get k) loc⟩⟩:=rfl
@[simp] theorem A0X:OE l k o []=[]:=rfl
@[simp] theorem AV9(j:Nat)(c:Bool)(v:V)(fr:Fr):OE l k o ((j,c,v)::fr)=(j,c,BK l k o 3 v)::OE l k o fr:=rfl
@[simp] theorem A0Y:FB l k o []=[]:=rfl
@[simp] theorem AWA(j g:Nat)(r:A0)(L:AA):FB l k o ((j,g,r)::L)=if j=k then FB l k o L else(j,g,KX l k o r)::FB l k o L:=rfl
@[simp] theorem A9A(γ:Nat)(T:bh)(es:List (List V))(L:AA):FB l k o (pl k γ T es++L)=FB l k o L:=by cases es<;>simp
@[simp] theorem A0Z(γ:Nat)(T:bh)(es:List (List V)):FB l k o (pl k γ T es)=[]:=by cases es<;>simp
theorem YB:∀(f g:Nat) (v:V),AH g v=true->BK l k o f v=v
 |0,_,_,_=>rfl
 |f+1,0,v,h=>by cases h
 |f+1,g+1,v,h=>by
  have lst:∀cs:List V,cs.all (AH g)=true->cs.map (BK l k o f)=cs:=by
   intro cs h;conv=>rhs;rw[<-bc cs]
   exact bk fun x hx=>YB f g x (bz.1 h x hx)
  cases v with
  |vec _ _ _ _=>cases h
  |ptr _ _ _ _=>cases h
  |agg cs=>simp only[BK];rw[lst cs h]
  |tup cs=>simp only[BK];rw[lst cs h]
  |_=>rfl
theorem vP{cs:List V}(h:cs.all (AH 9)=true)(f:Nat):cs.map (BK l k o f)=cs:=by
 conv=>rhs;rw[<-bc cs]
 exact bk fun x hx=>YB f 9 x (bz.1 h x hx)
theorem ACT{es:List (List V)}(h:(es.all fun e=>e.all (AH 9))=true)(f:Nat):es.map (bg (BK l k o f))=es:=by
 conv=>rhs;rw[<-bc es]
 exact bk fun x hx=>vP (bz.1 h x hx) f
@[simp] theorem ACU{j:Nat}(h:j≠k)(γ:Nat)(T:bh)(es:List (List V))(L:AA)(hc:(es.all fun e=>e.all (AH 9))=true):FB l k o (pl j γ T es++L)=pl j γ T es++FB l k o L:=by
 cases es with
 |nil=>rfl
 |cons e es=>
  have q:=ACT (l:=l) (k:=k) (o:=o) hc 3
  simp only[List.map_cons]at q
  simp[h,KX,q]
@[simp] theorem W8{j:Nat}(h:j≠k)(γ:Nat)(T:bh)(es:List (List V))(hc:(es.all fun e=>e.all (AH 9))=true):FB l k o (pl j γ T es)=pl j γ T es:=by have:=ACU (l:=l) (o:=o) h γ T es [] hc;simpa using this
@[simp] theorem A00(cs:List V):KX l k o (.box cs)=.box (cs.map (BK l k o 3)):=rfl
@[simp] theorem A01(T:bh)(es:List (List V)):KX l k o (.vec T es)=.vec T (es.map (bg (BK l k o 3))):=rfl
@[simp] theorem A02(es:List (V×V)):KX l k o (.map es)=.map es:=rfl
@[simp] theorem AWB:KX l k o .dead=.dead:=rfl
@[simp] theorem AWC(fr:List (Nat×Bool×V))(ps:List Tmp)(asg body:Code)(N:Nat)(st:LS):KX l k o (.loop fr ps asg body N st)=.loop fr ps asg body N st:=rfl
@[simp] theorem iW(f:Nat)(i:cj)(n:Int):BK l k o f (.int i n)=.int i n:=by cases f<;>rfl
@[simp] theorem AWD(f:Nat)(b:Bool):BK l k o f (.bool b)=.bool b:=by cases f<;>rfl
@[simp] theorem A03(f:Nat)(v:Value):BK l k o f (.raw v)=.raw v:=by cases f<;>rfl
@[simp] theorem AWE(f:Nat)(b:Bool)(es:List (List V)):BK l k o f (.list b es)=.list b es:=by cases f<;>rfl
@[simp] theorem A9B(f:Nat)(es:List (List V)):BK l k o f (sl es)=sl es:=by cases f<;>cases es<;>rfl
@[simp] theorem A04(f:Nat)(cs:List V):BK l k o f (.ref cs)=.ref cs:=by cases f<;>rfl
theorem ACV(f a b c d:Nat)(h:¬(a=l/\b=k)):BK l k o f (.ptr a b c d)=.ptr a b c d:=by
 cases f with
 |zero=>rfl
 |succ f=>
  simp only[BK]
  split
  ·rw[if_neg fun hh=>h ⟨hh.1,hh.2.1⟩]
  ·rfl
@[simp] theorem AWF(f a b c d:Nat)(h:¬b=k):BK l k o f (.ptr a b c d)=.ptr a b c d:=ACV f a b c d fun hh=>h hh.2
@[simp] theorem AWG(γ:Nat)(T:bh)(es:List (List V))(f a b c d:Nat):BK l k (some (γ,.vec T es)) f (.ptr a b c d)=.ptr a b c d:=by cases f<;>rfl
@[simp] theorem AWH(γ:Nat)(cs:List V)(f a b g off:Nat):BK l k (some (γ,.box cs)) (f+1) (.ptr a b g off)=if a=l/\b=k/\g=γ then .ref ((cs.map ON).drop off) else .ptr a b g off:=rfl
@[simp] theorem A9C(q:cj)(n:Int):ON (.int q n)=.int q n:=rfl
@[simp] theorem A05(b:Bool):ON (.bool b)=.bool b:=rfl
@[simp] theorem A06(b:Bool)(es:List (List V)):ON (.list b es)=.list b es:=rfl
@[simp] theorem BEH(es:List (List V)):ON (sl es)=sl es:=by cases es<;>rfl
@[simp] theorem A9D:ON .nil=.nil:=rfl
@[simp] theorem BEI(a b c:Nat):ON (.mp a b c)=.any:=rfl
@[simp] theorem A9E:ON .any=.any:=rfl
@[simp] theorem SQ(f:Nat):AH (f+1) .any=true:=rfl
@[simp] theorem A07:weakV .any=.any:=rfl
@[simp] theorem A08:weakC .any=.any:=rfl
@[simp] theorem A09(f:Nat):BK l k o f .any=.any:=by cases f<;>rfl
@[simp] theorem A9F(f a b c:Nat):BK l k o f (.mp a b c)=.mp a b c:=by cases f<;>rfl
@[simp] theorem A1A(f a b c:Nat):BK l k o f (.yld a b c)=.yld a b c:=by cases f<;>rfl
@[simp] theorem A9G(f:Nat)(g:bp)(xs ys:List V):BK l k o f (.fn g xs ys)=.fn g xs ys:=by cases f<;>rfl
@[simp] theorem ACW(f:Nat):BK l k o f .nil=.nil:=by cases f<;>rfl
@[simp] theorem A1B(f:Nat)(cs:List V):BK l k o (f+1) (.agg cs)=.agg (cs.map (BK l k o f)):=rfl
@[simp] theorem A1C(f:Nat)(cs:List V):BK l k o (f+1) (.tup cs)=.tup (cs.map (BK l k o f)):=rfl
@[simp] theorem A1D(γ:Nat)(T:bh)(es:List (List V))(f l' k' g m:Nat):BK l k (some (γ,.vec T es)) (f+1) (.vec l' k' g m)=if l'=l/\k'=k/\g=γ/\m=es.length then .list false es else .vec l' k' g m:=rfl
@[simp] theorem A9H(γ:Nat)(T:bh)(es:List (List V))(f:Nat):BK 0 k ((pl k γ T es).get k) (f+1) (pv k γ es)=sl es:=by
 cases es with
 |nil=>rfl
 |cons e es=>simp[pv,sl]
@[simp] theorem A1E(γ:Nat)(T:bh)(es:List (List V))(f:Nat):BK 0 k (some (γ,.vec T es)) (f+1) (pv k γ es)=sl es:=by
 cases es with
 |nil=>rfl
 |cons e es=>simp[pv,sl]
@[simp] theorem A1F{j:Nat}(h:j≠k)(γ:Nat)(es:List (List V))(f:Nat):BK l k o f (pv j γ es)=pv j γ es:=by
 cases es with
 |nil=>cases f<;>rfl
 |cons e es=>
  cases f with
  |zero=>rfl
  |succ f=>
   simp only[pv,BK]
   split
   ·rw[if_neg (fun hh=>h hh.2.1)]
   ·rfl
def oe2(d c:Nat)(fr:Fr)(s:St):Option Mk->Option XS->Option XS
 |some r,_=>some ⟨c+1,(d,true,r.val s.up.length d c)::fr,s.put s.up.length d c r.res⟩
 |none,z=>z
@[simp] theorem BEJ(d c:Nat)(fr:Fr)(s:St)(T:bh)(es:List (List V))(z:Option XS):oe2 d c fr s (some ⟨.vec T es,none⟩) z=some ⟨c+1,(d,true,.vec s.up.length d c es.length)::fr,s.put s.up.length d c (.vec T es)⟩:=rfl
def oe1(d c:Nat)(fr:Fr)(s:St)(F:List V->Option Mk):Option (List V)->Option XS->Option XS
 |some vs,z=>oe2 d c fr s (F vs) z
 |none,z=>z
@[simp] theorem AIL(d c:Nat)(fr:Fr)(s:St)(F:List V->Option Mk)(vs:List V)(z:Option XS):oe1 d c fr s F (some vs) z=oe2 d c fr s (F vs) z:=rfl
variable {A:Ann}{kn:CF0}{n:Nat}{fr:Fr}{s:St}
@[simp] theorem BEK{f:bp}(hS:H9 P f=true)(d c:Nat)(args:List bn):C7 P (BO P A kn n) (some d) (.call true none (.func f) args) ⟨c,fr,s⟩ =
  oe1 d c fr s (fun vs=>NX P (AE P A kn n) f (vs.map weakV)) (F4 (CP fr) args) (RH (BO P A kn n).cf (BO P A kn n).cy (some d) (.func f) args ⟨c,fr,s⟩):=by
 show cN (BO P A kn n) true (some d) (.func f) args ⟨c,fr,s⟩=_
 unfold cN
 show(match H6 (BO P A kn n).co (some d) (.func f) args ⟨c,fr,s⟩ with|some st'=>some st'|none=>_)=_
 unfold H6
 have hf:CP fr (.func f)=some (.fn f [] []):=rfl
 simp only[hf]
 cases F4 (CP fr) args with
 |none=>rfl
 |some vs=>
  simp only[AIL,bw,bx]
  have:(BO P A kn n).co f (vs.map weakV) d=NX P (AE P A kn n) f (vs.map weakV):=by show PR P kn (fun _ _ _=>none) (AE P A kn n) f _ d=_;unfold PR;simp only[hS]
  rw[this]
  cases NX P (AE P A kn n) f (vs.map weakV)with
  |none=>rfl
  |some r=>rfl
def of2(d c:Nat)(fr:Fr)(s:St):Option Mk->Option XS
 |some r=>some ⟨c+1,(d,true,r.val s.up.length d c)::fr,s.put s.up.length d c r.res⟩
 |none=>none
@[simp] theorem BEL(d c:Nat)(fr:Fr)(s:St)(T:bh)(es:List (List V)):of2 d c fr s (some ⟨.vec T es,none⟩)=some ⟨c+1,(d,true,.vec s.up.length d c es.length)::fr,s.put s.up.length d c (.vec T es)⟩:=rfl
def of1(d c:Nat)(fr:Fr)(s:St)(F:List V->Option Mk):Option (List V)->Option XS
 |some vs=>of2 d c fr s (F vs)
 |none=>none
@[simp] theorem AIM(d c:Nat)(fr:Fr)(s:St)(F:List V->Option Mk)(vs:List V):of1 d c fr s F (some vs)=of2 d c fr s (F vs):=rfl
@[simp] theorem A9I{f:bp}(hS:H9 P f=true)(d c:Nat)(args:List bn):DS P (BO P A kn n) (some d) (.call true none (.func f) args) ⟨c,fr,s⟩ =
  nw (of1 d c fr s (fun vs=>NX P (AE P A kn n) f (vs.map weakV)) (F4 (CP fr) args)):=by
 show VC (H6 (BO P A kn n).co (some d) (.func f) args ⟨c,fr,s⟩)=_
 rw[G7]
 congr 1
 unfold H6
 have hf:CP fr (.func f)=some (.fn f [] []):=rfl
 simp only[hf]
 cases F4 (CP fr) args with
 |none=>rfl
 |some vs=>
  simp only[AIM,bw,bx]
  have:(BO P A kn n).co f (vs.map weakV) d=NX P (AE P A kn n) f (vs.map weakV):=by show PR P kn (fun _ _ _=>none) (AE P A kn n) f _ d=_;unfold PR;simp only[hS]
  rw[this]
  cases NX P (AE P A kn n) f (vs.map weakV)with
  |none=>rfl
  |some r=>rfl
def A9J(P:bm)(fn:Func)(r:Option (Exit×XS)):Option Mk:=match r with
 |some (.ret,st)=>uO P fn st
 |some (.normal,st)=>uO P fn st
 |_=>none
@[simp] theorem A9K(fn:Func)(st:XS):A9J P fn (some (.ret,st))=uO P fn st:=rfl
@[simp] theorem ARL(fn:Func)(st:XS):A9J P fn (some (.normal,st))=uO P fn st:=rfl
end Go.Pg
namespace Go.Pg
section
@[simp] theorem DA{α:Type}(x:α):∀(l:List α),CL (l++[x])=some (l,x)
 |[]=>rfl
 |[y]=>rfl
 |y::z::l=>by have:=DA x (z::l);simp only[List.cons_append]at this|-;rw[YD,this];rfl
end
section
variable {P:bm}{E:XE}{d:Option Tmp}{c:Nat}{fr:Fr}{s:St}{r:bn->Option V}
@[simp] theorem AWI(T:bh)(x i:bn)(ok:Bool):JT P (mG (.lookup T x i ok)) s r=o2 (fun a b=>DW P s T a b ok) (r x) (r i):=by show((r x).bind fun a=>(r i).bind fun b=>DW P s T a b ok)=_;cases r x<;>cases r i<;>rfl
def up1(c:Nat)(fr:Fr)(s:St):Option (Nat×Nat×Nat×List (V×V))->Option XS
 |some (l,q,γ,es)=>Bool.rec none (some ⟨c,fr,s.put l q γ (.map es)⟩) (bj γ c)
 |none=>none
def up3(P:bm)(T:bh)(c:Nat)(fr:Fr)(s:St):Option V->Option V->Option V->Option XS
 |some m,some i,some v=>up1 c fr s (MP P s T m i v)
 |_,_,_=>none
@[simp] theorem A9L(T:bh)(m i v:V):up3 P T c fr s (some m) (some i) (some v)=up1 c fr s (MP P s T m i v):=rfl
theorem AIN(l q γ:Nat)(es:List (V×V))(h:γ<c):up1 c fr s (some (l,q,γ,es))=some ⟨c,fr,s.put l q γ (.map es)⟩:=by
 have:bj γ c=true:=by simpa [bq]using h
 show(Bool.rec none (some ⟨c,fr,s.put l q γ (.map es)⟩) (bj γ c):Option XS)=_;rw[this]
@[simp] theorem A1G(T:bh)(x i y:bn):C7 P E none (.upd T x i y) ⟨c,fr,s⟩=up3 P T c fr s (CP fr x) (CP fr i) (CP fr y):=by show ACB P none T x i y ⟨c,fr,s⟩=_;unfold ACB up3 up1;simp only;cases CP fr x<;>cases CP fr i<;>cases CP fr y<;>simp only;split<;>simp_all
@[simp] theorem A9M(x:bn):JT P (mG (.nilCheck x)) s r=o1 N7 (r x):=by show(r x).bind N7=_;cases r x<;>rfl
@[simp] theorem A1H(l k g o:Nat):N7 (.ptr l k g o)=some (.ptr l k g o):=rfl
@[simp] theorem A9N(x:bn)(f:bn->Option V):IC P (.oth (.nilCheck x)) f=[]:=rfl
@[simp] theorem A9O(T:bh)(x i:bn)(ok:Bool)(f:bn->Option V):IC P (.oth (.lookup T x i ok)) f=BD (f x):=rfl
@[simp] theorem AWJ(l k g:Nat):CA s (.mp l k g)=some (.mp l k g):=rfl
theorem N3{α:Type}{f:α->Option α}:∀{l:List α},(∀x∈l,f x=some x)->HF f l=some l
 |[],_=>rfl
 |x::l,h=>by have ih:=N3 (f:=f) (l:=l) fun y hy=>h y (by simp[hy]);simp only[HF,h x (by simp),ih]
theorem VK:∀(l:List AA) (b:AA),CL (l++[b])=some (l,b)
 |[],b=>by simp
 |[a],b=>by simp
 |a::a2::l,b=>by have:=VK (a2::l) b;simp only[List.cons_append]at this|-;simp[this]
@[simp] theorem A1I(a:AA)(l:List AA)(b:AA):CL (a::(l++[b]))=some (a::l,b):=VK (a::l) b
@[simp] theorem AWK(l k g:Nat):BD (some (.mp l k g))=[(l,k)]:=rfl
@[simp] theorem A1J(d:Nat):C7 P E (some d) (.mkM none) ⟨c,fr,s⟩=some ⟨c+1,(d,true,.mp s.up.length d c)::fr,s.put s.up.length d c (.map [])⟩:=rfl
end
section
variable {P:bm}{s:St}{r:bn->Option V}
@[simp] theorem AWL(T:bh)(x h:bn):JT P (mG (.slice T x none (some h) none)) s r=o2 (fun a b=>CH P s T a none (some b) none) (r x) (r h):=by show((r x).bind fun a=>((some none:Option (Option V))).bind fun l=>((r h).map some).bind fun h=>((some none:Option (Option V))).bind fun m=>CH P s T a l h m)=_;cases r x<;>cases r h<;>rfl
theorem dV{T e:bh}{es:List (List V)}{h:Int}{b:Bool}(hT:BZ P T=some (none,e))(hc:0<P.cellsOf e)(h1:0<=h)(h2:h<=es.length):CH P s T (.list b es) none (some (.int .i64 h)) none=some (.list false (es.take h.toNat)):=by simp only[CH,hT];rw[if_pos ⟨h1,h2,hc⟩]
end
section
variable {P:bm}{E:XE}{c:Nat}{fr:Fr}{s:St}{r:bn->Option V}
@[simp] theorem AWM(T:bh)(x l:bn):JT P (mG (.slice T x (some l) none none)) s r=o2 (fun a b=>CH P s T a (some b) none none) (r x) (r l):=by show((r x).bind fun a=>((r l).map some).bind fun l=>(some none).bind fun h=>(some none).bind fun m=>CH P s T a l h m)=_;cases r x<;>cases r l<;>rfl
theorem ACX{T e:bh}{l k g n h:Nat}(hT:BZ P T=some (none,e))(hh:h<=n)(hc:0<P.cellsOf e):CH P s T (.vec l k g n) none (some (.int .i64 (h:Int))) none=some (.vec l k g h):=by unfold CH;simp only[hT];rw[if_pos ⟨by omega,by omega,hc⟩];simp
end
section
variable {P:bm}{fr:Fr}{s:St}
@[simp] theorem BEN(e d c:Nat)(ys:List (List V))(h:B9 P e 0 ys=true):vZ P e d c fr s (.list true []) ys=some (⟨c+1,(d,true,.vec s.up.length d c ys.length)::fr,s.put s.up.length d c (.vec e ys)⟩,[(s.up.length,d),(s.up.length,d+GK)]):=by unfold vZ;simp[IZ,h]
@[simp] theorem BEO(e d c l q γ n:Nat)(ys:List (List V)):vZ P e d c fr s (.vec l q γ n) ys=wp [(l,q),(l,q+GK)] (apW P e d c fr s l q γ n ys (SA n ys (s.get l q))):=rfl
@[simp] theorem AWN(l k g i o:Nat):N7 (.eptr l k g i o)=some (.eptr l k g i o):=rfl
end
section
@[simp] theorem AMR{P:bm}{A:Ann}{kn:CF0}{n:Nat}:(BO P A kn n).cy=cV (AE P A kn n):=rfl
end
section
variable {P:bm}{A:Ann}{kn:CF0}{n:Nat}{fr:Fr}{s:St}
def oc2(d c:Nat)(fr:Fr)(s:St):Option V->Option XS->Option XS
 |some r,_=>some ⟨c+1,(d,true,r.ren (fun _=>c) s.up.length)::fr,s.put s.up.length d c .dead⟩
 |none,z=>z
@[simp] theorem A9P(d c:Nat)(r:V)(z:Option XS):oc2 d c fr s (some r) z=some ⟨c+1,(d,true,r.ren (fun _=>c) s.up.length)::fr,s.put s.up.length d c .dead⟩:=rfl
def oc1(d c:Nat)(fr:Fr)(s:St)(F:List V->Option V):Option (List V)->Option XS->Option XS
 |some vs,z=>oc2 d c fr s (F vs) z
 |none,z=>z
@[simp] theorem AIO(d c:Nat)(F:List V->Option V)(vs:List V)(z:Option XS):oc1 d c fr s F (some vs) z=oc2 d c fr s (F vs) z:=rfl
@[simp] theorem A9Q{f:bp}(hS:H9 P f=false)(d c:Nat)(args:List bn):C7 P (BO P A kn n) (some d) (.call true none (.func f) args) ⟨c,fr,s⟩ =
  oc1 d c fr s (fun vs=>F5 P kn (AE P A kn n) f (vs.map weakV)) (F4 (CP fr) args) (RH (BO P A kn n).cf (BO P A kn n).cy (some d) (.func f) args ⟨c,fr,s⟩):=by
 show cN (BO P A kn n) true (some d) (.func f) args ⟨c,fr,s⟩=_
 unfold cN
 show(match H6 (BO P A kn n).co (some d) (.func f) args ⟨c,fr,s⟩ with|some st'=>some st'|none=>_)=_
 unfold H6
 have hf:CP fr (.func f)=some (.fn f [] []):=rfl
 simp only[hf]
 cases F4 (CP fr) args with
 |none=>rfl
 |some vs=>
  simp only[AIO,bw,bx]
  have:(BO P A kn n).co f (vs.map weakV) d=(match F5 P kn (AE P A kn n) f (vs.map weakV)with|some r=>some ⟨.dead,some r⟩|none=>none):=by show PR P kn (fun _ _ _=>none) (AE P A kn n) f _ d=_;unfold PR;simp only[hS];cases F5 P kn (AE P A kn n) f (vs.map weakV)<;>rfl
  rw[this]
  cases F5 P kn (AE P A kn n) f (vs.map weakV)with
  |none=>rfl
  |some r=>rfl
def od2(d c:Nat)(fr:Fr)(s:St):Option V->Option XS
 |some r=>some ⟨c+1,(d,true,r.ren (fun _=>c) s.up.length)::fr,s.put s.up.length d c .dead⟩
 |none=>none
@[simp] theorem A9R(d c:Nat)(r:V):od2 d c fr s (some r)=some ⟨c+1,(d,true,r.ren (fun _=>c) s.up.length)::fr,s.put s.up.length d c .dead⟩:=rfl
def od1(d c:Nat)(fr:Fr)(s:St)(F:List V->Option V):Option (List V)->Option XS
 |some vs=>od2 d c fr s (F vs)
 |none=>none
@[simp] theorem AIP(d c:Nat)(F:List V->Option V)(vs:List V):od1 d c fr s F (some vs)=od2 d c fr s (F vs):=rfl
@[simp] theorem A1K{f:bp}(hS:H9 P f=false)(d c:Nat)(args:List bn):DS P (BO P A kn n) (some d) (.call true none (.func f) args) ⟨c,fr,s⟩ =
  nw (od1 d c fr s (fun vs=>F5 P kn (AE P A kn n) f (vs.map weakV)) (F4 (CP fr) args)):=by
 show VC (H6 (BO P A kn n).co (some d) (.func f) args ⟨c,fr,s⟩)=_
 rw[G7]
 congr 1
 unfold H6
 have hf:CP fr (.func f)=some (.fn f [] []):=rfl
 simp only[hf]
 cases F4 (CP fr) args with
 |none=>rfl
 |some vs=>
  simp only[AIP,bw,bx]
  have:(BO P A kn n).co f (vs.map weakV) d=(match F5 P kn (AE P A kn n) f (vs.map weakV)with|some r=>some ⟨.dead,some r⟩|none=>none):=by show PR P kn (fun _ _ _=>none) (AE P A kn n) f _ d=_;unfold PR;simp only[hS];cases F5 P kn (AE P A kn n) f (vs.map weakV)<;>rfl
  rw[this]
  cases F5 P kn (AE P A kn n) f (vs.map weakV)with
  |none=>rfl
  |some r=>rfl
end
section
variable {fr:Fr}{s:St}
@[simp] theorem ARM(l k g:Nat):CA s (.yld l k g)=some (.yld l k g):=rfl
@[simp] theorem ARN(f:Nat)(cs:List V):A7 s (f+1) (.ref cs)=some (.ref cs):=rfl
@[simp] theorem A9S{P:bm}:GB P [] fr s=some (.tup []):=rfl
@[simp] theorem ARO(f:Nat):A7 s (f+1) (.tup [])=some (.tup []):=rfl
@[simp] theorem AIQ:CS .nilFunc=some (.raw .nilFunc):=rfl
@[simp] theorem AWO(f l k g:Nat):AH (f+1) (.yld l k g)=false:=rfl
@[simp] theorem A9T(l k g:Nat):weakV (.yld l k g)=.yld l k g:=rfl
@[simp] theorem BEQ(d c l k g:Nat):bx1 d c fr s (some (.yld l k g))=some ⟨c+1,(d,true,.ptr s.up.length d c 0)::fr,s.put s.up.length d c (.box [.yld l k g])⟩:=rfl
@[simp] theorem BER(F:List V->Option (List V))(g off:Nat)(g':Nat)(cs:List V):cp1 F g off (some (g',.box cs))=if g'=g then(F cs).map (fun ds=>V.ref (ds.drop off)) else none:=rfl
def mk4(P:bm)(d c:Nat)(fr:Fr)(s:St)(e:bh)(n m:Int):Option (List V)->Option XS
 |some z=>if 0<=n/\m=n/\z.length=P.cellsOf e/\n.toNat*P.bytesOf e<=140737488355328/\n.toNat<=maxLen then some ⟨c+1,(d,true,.vec s.up.length d c n.toNat)::fr,s.put s.up.length d c (.vec e (List.replicate n.toNat z))⟩ else none
 |none=>none
@[simp] theorem A9U{P:bm}(d c:Nat)(e:bh)(n m:Int)(z:List V):mk4 P d c fr s e n m (some z)=if 0<=n/\m=n/\z.length=P.cellsOf e/\n.toNat*P.bytesOf e<=140737488355328/\n.toNat<=maxLen then some ⟨c+1,(d,true,.vec s.up.length d c n.toNat)::fr,s.put s.up.length d c (.vec e (List.replicate n.toNat z))⟩ else none:=rfl
def mk3(P:bm)(d c:Nat)(fr:Fr)(s:St):Option (Option Nat×bh)->Option V->Option V->Option XS
 |some (none,e),some (.int _ n),some (.int _ m)=>mk4 P d c fr s e n m (CC P e)
 |_,_,_=>none
@[simp] theorem AIR{P:bm}(d c:Nat)(e:bh)(k1 k2:cj)(n m:Int):mk3 P d c fr s (some (none,e)) (some (.int k1 n)) (some (.int k2 m))=mk4 P d c fr s e n m (CC P e):=rfl
@[simp] theorem A1L{P:bm}{E:XE}(T:bh)(d c:Nat)(x y:bn):C7 P E (some d) (.mkS T x y) ⟨c,fr,s⟩=mk3 P d c fr s (BZ P T) (CP fr x) (CP fr y):=by
 show X7 P (some d) T x y ⟨c,fr,s⟩=_;unfold X7;simp only;cases BZ P T with
 |none=>cases CP fr x<;>cases CP fr y<;>rfl
 |some p=>
  obtain⟨k,e⟩:=p
  cases k with
  |some k=>cases CP fr x<;>cases CP fr y<;>rfl
  |none=>
   cases CP fr x with
   |none=>rfl
   |some a=>
    cases CP fr y with
    |none=>cases a<;>rfl
    |some z=>
     cases a with
     |int k1 n=>
      cases z with
      |int k2 m=>simp only[AIR];cases CC P e<;>rfl
      |_=>rfl
     |_=>rfl
@[simp] theorem BES{P:bm}(T:bh)(x y:bn)(r:bn->Option V):IC P (.mkS T x y) r=[]:=rfl
def rE(fr:Fr)(n γ:Nat)(r:Option XS):Option (Exit×XS):=match r with
 |some st=>match st.s.get n BS with
  | some (γ',.loop _ _ _ _ _ ls)=>Bool.rec none (match ls with
   |.ready=>some (.normal,⟨st.c,fr,st.s.put n BS γ .dead⟩)
   |.left .ret=>some (.ret,⟨st.c,fr,st.s.put n BS γ .dead⟩)
   |.left (.exit id)=>some (.exit id,⟨st.c,fr,st.s.put n BS γ .dead⟩)
   | _=>none) (bf γ' γ&&bj γ st.c)
  |_=>none
 |none=>none
theorem W9{P:bm}{A:Ann}{kn:CF0}{n N:Nat}{g:bn}{ps:List Tmp}{asg body:Code}{c:Nat}{up:List AA}{loc:AA}{f:bp}{first cap:List V}(h:CP fr g=some (.fn f first cap)) :
  W0 (BO P A kn n).cf N g ps asg body ⟨c,fr,⟨up,loc⟩⟩=rE fr up.length c (G6 (BO P A kn n) none ⟨c+1,fr,⟨up,(BS,c,.loop fr ps asg body N .ready)::loc⟩⟩ f ((first++[V.yld up.length BS c]++cap).map weakV)):=by
 unfold W0
 simp only[h]
 unfold G6 kV rE
 simp only[St.put,if_true,AA.put]
 cases (BO P A kn n).cf f ((first++[V.yld up.length BS c]++cap).map weakV) ⟨c+1,fr,⟨up,(BS,c,.loop fr ps asg body N .ready)::loc⟩⟩ with
 |none=>rfl
 |some r=>rfl
theorem dW{n γ c:Nat}{fr' fr0:Fr}{s:St}{ps:List Tmp}{asg body:Code}{N:Nat}(h:s.get n BS=some (γ,.loop fr0 ps asg body N .ready))(hc:γ<c):rE fr n γ (some ⟨c,fr',s⟩)=some (.normal,⟨c,fr,s.put n BS γ .dead⟩):=by
 unfold rE;simp only[h];have:(bf γ γ&&bj γ c)=true:=by simpa using hc
 rw[this]
@[simp] theorem A1M(t:St)(fr0:Fr)(ps:List Tmp)(asg body:Code)(N:Nat)(l:LS):CO t (.loop fr0 ps asg body N l)=.loop fr0 ps asg body N l:=rfl
theorem Y4{rec:HI}{l q γ c N:Nat}{fr0:Fr}{ps:List Tmp}{asg body:Code}{vs:List V}(h:s.get l q=some (γ,.loop fr0 ps asg body N .ready))(hv:vs.length=ps.length)(hc:γ<c) :
  cV rec l q γ vs ⟨c,fr,s⟩=W1 fr l q γ (cU (rec N) l q γ body (rec N asg ⟨c,J2 fr0 ps vs,⟨s.up++[s.loc],[]⟩⟩)):=by
 unfold cV
 simp only[h]
 have:(bf γ γ&&bf vs.length ps.length&&bj γ c)=true:=by simp[hv,hc]
 rw[this]
theorem I8{rec:eR}{l q γ c N:Nat}{fr0:Fr}{ps:List Tmp}{asg body body':Code}(h:s.get l q=some (γ,.loop fr0 ps asg body' N .ready))(hc:γ<c) :
  cU rec l q γ body (some (.normal,⟨c,fr,s⟩))=rec body ⟨c,fr,s.put l q γ (.loop fr0 ps asg body' N .busy)⟩:=by
 unfold cU
 simp only[h]
 have:(bf γ γ&&bj γ c)=true:=by simp[hc]
 rw[this]
theorem RL{fr':Fr}{l q γ c N:Nat}{fr0:Fr}{ps:List Tmp}{asg body:Code}{up u:List AA}{loc lc:AA}(h:St.get ⟨up,loc⟩ l q=some (γ,.loop fr0 ps asg body N .busy))(hu:CL up=some (u,lc))(hl:l<up.length)(hc:γ<c) :
  W1 fr l q γ (some (.normal,⟨c,fr',⟨up,loc⟩⟩))=some (.bool true,⟨c,fr,St.put ⟨u.map (AK ⟨up,loc⟩),AK ⟨up,loc⟩ lc⟩ l q γ (.loop fr0 ps asg body N .ready)⟩):=by
 unfold W1
 simp only[h,hu]
 have:(bf γ γ&&bj l up.length&&bj γ c)=true:=by simp[hc,hl]
 rw[this]
 rfl
end
section
def tkU(z:Option XS)(d:Option Tmp)(st:XS):Option V->Option XS
 |some r=>Bool.rec z (EL d st (some r)) (dF r)
 |none=>z
@[simp] theorem BET(z:Option XS)(d:Option Tmp)(st:XS)(k:cj)(n:Int):tkU z d st (some (.int k n))=EL d st (some (.int k n)):=rfl
@[simp] theorem A9V(z:Option XS)(d:Option Tmp)(st:XS)(b:Bool):tkU z d st (some (.bool b))=EL d st (some (.bool b)):=rfl
@[simp] theorem A1N(l k g n:Nat):weakC (.vec l k g n)=.vec l k g n:=rfl
@[simp] theorem ACY(st:XS)(v:V):IP st [] v=v:=rfl
@[simp] theorem vQ(k:Nat)(ks:List Nat)(c:Nat)(fr:Fr)(up:List AA)(loc:AA)(v:V)(h:k<10000):IP ⟨c,fr,⟨up,loc⟩⟩ (k::ks) v=IP ⟨c,fr,⟨up,loc⟩⟩ ks (BK up.length k (loc.get k) 3 v):=by
 have:bj k 10000=true:=by simpa [bq]using h
 simp only[IP,this,cond_true]
@[simp] theorem GH(k:Nat)(ks:List Nat)(st:XS)(v:V)(h:¬k<10000):IP st (k::ks) v=IP st ks (BK (k / 10000-1) (k % 10000) (st.s.get (k / 10000-1) (k % 10000)) 3 v):=by
 have:bj k 10000=false:=by
  cases hb:bj k 10000 with
  |false=>rfl
  |true=>exact absurd (by simpa [bq]using hb) h
 simp only[IP,this,cond_false]
@[simp] theorem BEU{P:bm}{A:Ann}{kn:CF0}{n k:Nat}{us:List Nat}(d:Option Tmp)(st:XS)(f:bp)(args:List V):G6 (cfU (k::us) (BO P A kn n)) d st f args=tkU (G6 (BO P A kn n) d st f args) d st (F5 P kn (AE P A kn n) f (args.map (IP st (k::us)))):=by
 show(match qJ (BO P A kn n).cf (BO P A kn n).c0 (k :: us) f args st with
  |some (r,st')=>some (⟨st'.c,putD st'.fr d true r,st'.s⟩:XS)
  | none=>none)=_
 unfold qJ;have e:(BO P A kn n).c0=F5 P kn (AE P A kn n):=rfl;rw[e];cases F5 P kn (AE P A kn n) f (args.map (IP st (k::us)))with
 |none=>rfl
 |some r=>
  show(match(Bool.rec ((BO P A kn n).cf f args st) (some (r,st)) (dF r):Option (V×XS))with
   |some (r,st')=>some (⟨st'.c,putD st'.fr d true r,st'.s⟩:XS)
   | none=>none)=(Bool.rec (G6 (BO P A kn n) d st f args) (EL d st (some r)) (dF r):Option XS)
  cases dF r<;>rfl
@[simp] theorem AWP(k:cj)(n:Int):kZ (.int k n)=true:=rfl
@[simp] theorem ARP(b:Bool):kZ (.bool b)=true:=rfl
end
theorem K1{j k:Nat}(h:j≠k)(γ γ2:Nat)(T T2:bh)(es fs:List (List V)):kl j (kl k [] ((pl j γ T es++pl k γ2 T2 fs).get k)) ((pl j γ T es++pl k γ2 T2 fs).get j)=pl j γ T es++pl k γ2 T2 fs:=by cases es<;>cases fs<;>simp[h,h.symm]
theorem GU{j k:Nat}(h:j≠k)(γ γ2:Nat)(T T2:bh)(es fs:List (List V)):(pl j γ T es++pl k γ2 T2 fs).get k=(pl k γ2 T2 fs).get k:=by cases es<;>cases fs<;>simp[h.symm]
theorem K2{j k:Nat}(h:j≠k)(γ γ2:Nat)(T T2:bh)(es fs:List (List V))(M:AA):kl j M ((pl j γ T es++pl k γ2 T2 fs).get j)=pl j γ T es++M:=by cases es<;>cases fs<;>simp[h,h.symm]
theorem zM{j k:Nat}(h:j≠k)(γ:Nat)(T:bh)(es:List (List V))(x:Nat×A0):(pl j γ T es++[(k,x)]).get k=some x:=by cases es<;>simp[h.symm]
theorem AIS{j k:Nat}(h:j≠k)(γ:Nat)(T:bh)(es:List (List V))(x:Nat×A0)(M:AA):kl j M ((pl j γ T es++[(k,x)]).get j)=pl j γ T es++M:=by cases es<;>simp[h,h.symm]
theorem GV{j k:Nat}(h:j≠k)(γ γ2:Nat)(T T2:bh)(es fs:List (List V)):(pl j γ T es++pl k γ2 T2 fs).get j=(pl j γ T es).get j:=by cases es<;>cases fs<;>simp[h]
theorem IB{j k m:Nat}(h1:j≠m)(h2:k≠m)(γ γ2:Nat)(T T2:bh)(es fs:List (List V)):(pl j γ T es++pl k γ2 T2 fs).get m=none:=by cases es<;>cases fs<;>simp[h1.symm,h2.symm]
theorem K3{j:Nat}(γ:Nat)(T:bh)(es:List (List V))(M:AA):kl j M ((pl j γ T es).get j)=pl j γ T es++M:=by cases es<;>simp
theorem VL{t:St}{T:bh}{es:List (List V)}(h:∀e∈es,∀v∈e,CA t v=some v):CO t (.vec T es)=.vec T es:=by
 have:CG t (.vec T es)=some (.vec T es):=by unfold CG;simp only;rw[N3 fun e he=>N3 fun v hv=>h e he v hv]
 unfold CO;rw[this]
@[simp] theorem AWQ{P:bm}{A:Ann}{kn:CF0}{n N l:Nat}{st:XS}:AE P A kn (n+1) N (.label l) st=some (.normal,st):=rfl
theorem KB{α:Type}(p:α->Bool):∀(l:List α),(!l.any fun x=>!p x)=l.all p
 |[]=>rfl
 |x::l=>by have:=KB p l;simp only[List.any_cons,List.all_cons,Bool.not_or,Bool.not_not,<-this]
section
variable {P:bm}{fr:Fr}{s:St}
def pt(k γ:Nat):List (List V)->V
 |[]=>.list true []
 |e::es=>.vec 0 k γ (e::es).length
@[simp] theorem BKB(k γ:Nat):pt k γ []=.list true []:=rfl
@[simp] theorem BEV(k γ:Nat)(e:List V)(es:List (List V)):pt k γ (e::es)=.vec 0 k γ (es.length+1):=rfl
@[simp] theorem BKC(e k c γ:Nat)(loc:AA)(es:List (List V))(y:List V)(ys:List (List V))(hl:AA.get loc k=(pl k γ e es).get k)(h1:es.all (fun y=>y.length==P.cellsOf e)=true)(h2:B9 P e es.length (y::ys)=true) :
  apV P e k c fr ⟨[],loc⟩ (pt k γ es) (y::ys)=some ⟨c+1,(k,true,pt k c (es++y::ys))::fr,⟨[],(k,c,.vec e (es++y::ys))::loc⟩⟩:=by
 cases es with
 |nil=>
  simp only[List.length_nil]at h2
  simp[h2,pt]
 |cons z es=>
  have h:=AYK (P:=P) (fr:=fr) e k c γ loc (z::es) y ys hl h1 h2
  exact h
theorem ACZ{T:bh}(f:Nat)(loc:AA)(k γ:Nat)(es:List (List V))(hl:AA.get loc k=(pl k γ T es).get k):A7 ⟨[],loc⟩ (f+1) (pt k γ es)=some (.list false es):=by
 cases es with
 |nil=>rfl
 |cons e es=>exact QR (T:=T) f loc k γ (e::es) hl
@[simp] theorem AWR(f k γ:Nat)(T:bh)(es:List (List V)):A7 ⟨[],pl k γ T es⟩ (f+1) (pt k γ es)=some (.list false es):=ACZ (T:=T) f _ k γ es rfl
@[simp] theorem A1O(k γ:Nat)(es:List (List V)):BH (pt k γ es)=[pt k γ es]:=by cases es<;>rfl
@[simp] theorem A1P(k γ:Nat)(es:List (List V)):BI (pt k γ es)=true:=by cases es<;>rfl
end
@[simp] theorem BEW(st:XS):LU [] st=st:=rfl
@[simp] theorem A9W(k:Nat)(ks:List Nat)(c:Nat)(fr:Fr)(up:List AA)(loc:AA)(h:k<1000):LU (k::ks) ⟨c,fr,⟨up,loc⟩⟩=LU ks ⟨c,OE up.length k (loc.get k) fr,⟨up,FB up.length k (loc.get k) loc⟩⟩:=by
 have h1:bj k 1000=true:=by simpa [bq]using h
 show LU ks (yX k ⟨c,fr,⟨up,loc⟩⟩)=_;unfold yX;rw[h1];rfl
@[simp] theorem A9X(k:Nat)(ks:List Nat)(c:Nat)(fr:Fr)(up:List AA)(loc:AA)(h:2000000000000000<=k):LU (k::ks) ⟨c,fr,⟨up,loc⟩⟩=LU ks ⟨c,fr,⟨up,fP (k % 1000) loc⟩⟩:=by
 have h1:bj k 1000=false:=by rw[<-bb,bq];omega
 have h2:bj k 1000000000000000=false:=by rw[<-bb,bq];omega
 have h3:bj k 2000000000000000=false:=by rw[<-bb,bq];omega
 show LU ks (yX k ⟨c,fr,⟨up,loc⟩⟩)=_;unfold yX;rw[h1,h2,h3];rfl
@[simp] theorem BEX(k:Nat):fP k []=[]:=rfl
@[simp] theorem A9Y(k j g:Nat)(r:A0)(L:AA):fP k ((j,g,r)::L)=(j,g,if j=k then wkR r else r)::fP k L:=rfl
@[simp] theorem BEY(T:bh)(es:List (List V)):wkR (.vec T es)=.vec T (es.map (bg iO)):=rfl
@[simp] theorem BEZ(cs:List V):wkR (.box cs)=.box (cs.map iO):=rfl
@[simp] theorem BKD(k γ:Nat)(T:bh)(es:List (List V)):fP k (pl k γ T es)=pl k γ T (es.map (bg iO)):=by
 cases es with
 |nil=>rfl
 |cons e es=>simp[pl,fP]
@[simp] theorem AN8{k j:Nat}(h:j≠k)(γ:Nat)(T:bh)(es:List (List V)):fP k (pl j γ T es)=pl j γ T es:=by
 cases es with
 |nil=>rfl
 |cons e es=>simp[pl,fP,h]
@[simp] theorem BKE(es:List (List V)):iO (sl es)=.list false es:=by cases es<;>rfl
@[simp] theorem BE0:iO .nil=.list false []:=rfl
@[simp] theorem A9Z(b:Bool)(es:List (List V)):iO (.list b es)=.list b es:=rfl
section
variable {l k:Nat}{o:Option (Nat×A0)}
def gtf(l k:Nat)(o:Option (Nat×A0)):Option (Bool×V)->Option (Bool×V)
 |some (c,v)=>some (c,BK l k o 3 v)
 |none=>none
@[simp] theorem A90(c:Bool)(v:V):gtf l k o (some (c,v))=some (c,BK l k o 3 v):=rfl
@[simp] theorem A91:gtf l k o none=none:=rfl
@[simp] theorem A1Q(fr:Fr)(j:Nat):BC (OE l k o fr) j=gtf l k o (BC fr j):=by
 rw[FT,FT,W3];cases fr.get j with
 |none=>rfl
 |some x=>rfl
end
@[simp] theorem BE1{k j:Nat}(h:j≠k)(r:Fr)(o:Option (Bool×V)):BC (kx k r o) j=BC r j:=by
 cases o with
 |none=>rfl
 |some x=>
  obtain⟨c,v⟩:=x
  simp[h]
end Go.Pg
