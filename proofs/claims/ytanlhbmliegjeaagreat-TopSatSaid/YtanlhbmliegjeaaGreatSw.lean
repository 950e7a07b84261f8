/- Rows told as lists, by simp. No program in sight. -/
import Derived.Test.YtanlhbmliegjeaaGreatSx
noncomputable section
open Go renaming TypeId->bh,Program->bm,Operand->bn,FuncId->bp,IntKind->cj
open Nat renaming blt->bj,blt_eq->bk,beq->bc
open List renaming map_congr_left->bq,nil_append->bw,append_nil->bx,all_eq_true->bz,map_id->bf,map->bg
open Bool renaming not_eq_true->bb
set_option linter.unusedSimpArgs false
namespace Go.Pg
variable {P:bm}{l k:Nat}{o:Option (Nat×AX)}
@[simp] theorem AVT(st:XS):OP [] st=st:=rfl
@[simp] theorem ARL(k:Nat)(ks:List Nat)(c:Nat)(fr:Fr)(up:List AA)(loc:AA):OP (k::ks) ⟨c,fr,⟨up,loc⟩⟩=OP ks ⟨c,NK up.length k (loc.get k) fr,⟨up,FI up.length k (loc.get k) loc⟩⟩:=rfl
@[simp] theorem AVU:NK l k o []=[]:=rfl
@[simp] theorem ARM(j:Nat)(c:Bool)(v:V)(fr:Fr):NK l k o ((j,c,v)::fr)=(j,c,BA l k o 3 v)::NK l k o fr:=rfl
@[simp] theorem AVV:FI l k o []=[]:=rfl
@[simp] theorem ARN(j g:Nat)(r:AX)(L:AA):FI l k o ((j,g,r)::L)=if j=k then FI l k o L else(j,g,KF l k o r)::FI l k o L:=rfl
@[simp] theorem AVW(γ:Nat)(T:bh)(es:List (List V)):FI l k o (pl k γ T es)=[]:=by cases es<;>simp
theorem VW:∀(f g:Nat) (v:V),AG g v=true->BA l k o f v=v
 |0,_,_,_=>rfl
 |f+1,0,v,h=>by cases h
 |f+1,g+1,v,h=>by
  have lst:∀cs:List V,cs.all (AG g)=true->cs.map (BA l k o f)=cs:=by
   intro cs h;conv=>rhs;rw[<-bf cs]
   exact bq fun x hx=>VW f g x (bz.1 h x hx)
  cases v with
  |vec _ _ _ _=>cases h
  |ptr _ _ _ _=>cases h
  |agg cs=>simp only[BA];rw[lst cs h]
  |tup cs=>simp only[BA];rw[lst cs h]
  |_=>rfl
theorem sC{cs:List V}(h:cs.all (AG 9)=true)(f:Nat):cs.map (BA l k o f)=cs:=by
 conv=>rhs;rw[<-bf cs]
 exact bq fun x hx=>VW f 9 x (bz.1 h x hx)
theorem zS{es:List (List V)}(h:(es.all fun e=>e.all (AG 9))=true)(f:Nat):es.map (bg (BA l k o f))=es:=by
 conv=>rhs;rw[<-bf es]
 exact bq fun x hx=>sC (bz.1 h x hx) f
@[simp] theorem zT{j:Nat}(h:j≠k)(γ:Nat)(T:bh)(es:List (List V))(L:AA)(hc:(es.all fun e=>e.all (AG 9))=true):FI l k o (pl j γ T es++L)=pl j γ T es++FI l k o L:=by
 cases es with
 |nil=>rfl
 |cons e es=>
  have q:=zS (l:=l) (k:=k) (o:=o) hc 3
  simp only[List.map_cons]at q
  simp[h,KF,q]
@[simp] theorem eR{j:Nat}(h:j≠k)(γ:Nat)(T:bh)(es:List (List V))(hc:(es.all fun e=>e.all (AG 9))=true):FI l k o (pl j γ T es)=pl j γ T es:=by have:=zT (l:=l) (o:=o) h γ T es [] hc;simpa using this
@[simp] theorem AVX(cs:List V):KF l k o (.box cs)=.box (cs.map (BA l k o 3)):=rfl
@[simp] theorem AVY(T:bh)(es:List (List V)):KF l k o (.vec T es)=.vec T (es.map (bg (BA l k o 3))):=rfl
@[simp] theorem AVZ(es:List (V×V)):KF l k o (.map es)=.map es:=rfl
@[simp] theorem ARO:KF l k o .dead=.dead:=rfl
@[simp] theorem ARP(fr:List (Nat×Bool×V))(ps:List Tmp)(asg body:Code)(N:Nat)(st:LS):KF l k o (.loop fr ps asg body N st)=.loop fr ps asg body N st:=rfl
@[simp] theorem eS(f:Nat)(i:cj)(n:Int):BA l k o f (.int i n)=.int i n:=by cases f<;>rfl
@[simp] theorem ARQ(f:Nat)(b:Bool):BA l k o f (.bool b)=.bool b:=by cases f<;>rfl
@[simp] theorem AV0(f:Nat)(v:Value):BA l k o f (.raw v)=.raw v:=by cases f<;>rfl
@[simp] theorem ARR(f:Nat)(b:Bool)(es:List (List V)):BA l k o f (.list b es)=.list b es:=by cases f<;>rfl
@[simp] theorem A2U(f:Nat)(es:List (List V)):BA l k o f (sl es)=sl es:=by cases f<;>cases es<;>rfl
@[simp] theorem AV1(f:Nat)(cs:List V):BA l k o f (.ref cs)=.ref cs:=by cases f<;>rfl
theorem zU(f a b c d:Nat)(h:¬(a=l/\b=k)):BA l k o f (.ptr a b c d)=.ptr a b c d:=by
 cases f with
 |zero=>rfl
 |succ f=>
  simp only[BA]
  split
  ·rw[if_neg fun hh=>h ⟨hh.1,hh.2.1⟩]
  ·rfl
@[simp] theorem ARS(f a b c d:Nat)(h:¬b=k):BA l k o f (.ptr a b c d)=.ptr a b c d:=zU f a b c d fun hh=>h hh.2
@[simp] theorem ART(γ:Nat)(T:bh)(es:List (List V))(f a b c d:Nat):BA l k (some (γ,.vec T es)) f (.ptr a b c d)=.ptr a b c d:=by cases f<;>rfl
@[simp] theorem ARU(γ:Nat)(cs:List V)(f a b g off:Nat):BA l k (some (γ,.box cs)) (f+1) (.ptr a b g off)=if a=l/\b=k/\g=γ then .ref ((cs.map NO).drop off) else .ptr a b g off:=rfl
@[simp] theorem A2V(q:cj)(n:Int):NO (.int q n)=.int q n:=rfl
@[simp] theorem AV2(b:Bool):NO (.bool b)=.bool b:=rfl
@[simp] theorem AV3(b:Bool)(es:List (List V)):NO (.list b es)=.list b es:=rfl
@[simp] theorem A85(es:List (List V)):NO (sl es)=sl es:=by cases es<;>rfl
@[simp] theorem A2W:NO .nil=.nil:=rfl
@[simp] theorem A86(a b c:Nat):NO (.mp a b c)=.any:=rfl
@[simp] theorem A2X:NO .any=.any:=rfl
@[simp] theorem Q2(f:Nat):AG (f+1) .any=true:=rfl
@[simp] theorem AV4:weakV .any=.any:=rfl
@[simp] theorem AV5:weakC .any=.any:=rfl
@[simp] theorem AV6(f:Nat):BA l k o f .any=.any:=by cases f<;>rfl
@[simp] theorem A2Y(f a b c:Nat):BA l k o f (.mp a b c)=.mp a b c:=by cases f<;>rfl
@[simp] theorem AV7(f a b c:Nat):BA l k o f (.yld a b c)=.yld a b c:=by cases f<;>rfl
@[simp] theorem A2Z(f:Nat)(g:bp)(xs ys:List V):BA l k o f (.fn g xs ys)=.fn g xs ys:=by cases f<;>rfl
@[simp] theorem zV(f:Nat):BA l k o f .nil=.nil:=by cases f<;>rfl
@[simp] theorem AV8(f:Nat)(cs:List V):BA l k o (f+1) (.agg cs)=.agg (cs.map (BA l k o f)):=rfl
@[simp] theorem AV9(f:Nat)(cs:List V):BA l k o (f+1) (.tup cs)=.tup (cs.map (BA l k o f)):=rfl
@[simp] theorem AWA(γ:Nat)(T:bh)(es:List (List V))(f l' k' g m:Nat):BA l k (some (γ,.vec T es)) (f+1) (.vec l' k' g m)=if l'=l/\k'=k/\g=γ/\m=es.length then .list false es else .vec l' k' g m:=rfl
@[simp] theorem A20(γ:Nat)(T:bh)(es:List (List V))(f:Nat):BA 0 k ((pl k γ T es).get k) (f+1) (pv k γ es)=sl es:=by
 cases es with
 |nil=>rfl
 |cons e es=>simp[pv,sl]
@[simp] theorem AWB(γ:Nat)(T:bh)(es:List (List V))(f:Nat):BA 0 k (some (γ,.vec T es)) (f+1) (pv k γ es)=sl es:=by
 cases es with
 |nil=>rfl
 |cons e es=>simp[pv,sl]
@[simp] theorem AWC{j:Nat}(h:j≠k)(γ:Nat)(es:List (List V))(f:Nat):BA l k o f (pv j γ es)=pv j γ es:=by
 cases es with
 |nil=>cases f<;>rfl
 |cons e es=>
  cases f with
  |zero=>rfl
  |succ f=>
   simp only[pv,BA]
   split
   ·rw[if_neg (fun hh=>h hh.2.1)]
   ·rfl
def oe2(d c:Nat)(fr:Fr)(s:St):Option Mk->Option XS->Option XS
 |some r,_=>some ⟨c+1,(d,true,r.val s.up.length d c)::fr,s.put s.up.length d c r.res⟩
 |none,z=>z
@[simp] theorem A87(d c:Nat)(fr:Fr)(s:St)(T:bh)(es:List (List V))(z:Option XS):oe2 d c fr s (some ⟨.vec T es,none⟩) z=some ⟨c+1,(d,true,.vec s.up.length d c es.length)::fr,s.put s.up.length d c (.vec T es)⟩:=rfl
def oe1(d c:Nat)(fr:Fr)(s:St)(F:List V->Option Mk):Option (List V)->Option XS->Option XS
 |some vs,z=>oe2 d c fr s (F vs) z
 |none,z=>z
@[simp] theorem AE0(d c:Nat)(fr:Fr)(s:St)(F:List V->Option Mk)(vs:List V)(z:Option XS):oe1 d c fr s F (some vs) z=oe2 d c fr s (F vs) z:=rfl
variable {A:Ann}{kn:CF0}{n:Nat}{fr:Fr}{s:St}
@[simp] theorem A21{α:Type}(r:α)(z:Option α):orM (some r) z=some r:=rfl
@[simp] theorem A22{α:Type}(z:Option α):orM none z=z:=rfl
@[simp] theorem A88{f:bp}(hS:HS P f=true)(d c:Nat)(args:List bn):stepK P (BH P A kn n) (some d) (.call true none (.func f) args) ⟨c,fr,s⟩ =
  oe1 d c fr s (fun vs=>orM (KE P (AE P A kn n) f (vs.map weakV)) (koV P f (vs.map weakV))) (FJ (CH fr) args) (P7 (BH P A kn n).cf (BH P A kn n).cy (some d) (.func f) args ⟨c,fr,s⟩):=by
 show Z5 (BH P A kn n) true (some d) (.func f) args ⟨c,fr,s⟩=_
 unfold Z5
 show(match HQ (BH P A kn n).co (some d) (.func f) args ⟨c,fr,s⟩ with|some st'=>some st'|none=>_)=_
 unfold HQ
 have hf:CH fr (.func f)=some (.fn f [] []):=rfl
 simp only[hf]
 cases FJ (CH fr) args with
 |none=>rfl
 |some vs=>
  simp only[AE0,bw,bx]
  have:(BH P A kn n).co f (vs.map weakV) d=orM (KE P (AE P A kn n) f (vs.map weakV)) (koV P f (vs.map weakV)):=by show OM P kn (fun _ _ _=>none) (AE P A kn n) f _ d=_;unfold OM;simp only[hS]
  rw[this]
  cases orM (KE P (AE P A kn n) f (vs.map weakV)) (koV P f (vs.map weakV))with
  |none=>rfl
  |some r=>rfl
def of2(d c:Nat)(fr:Fr)(s:St):Option Mk->Option XS
 |some r=>some ⟨c+1,(d,true,r.val s.up.length d c)::fr,s.put s.up.length d c r.res⟩
 |none=>none
@[simp] theorem A89(d c:Nat)(fr:Fr)(s:St)(T:bh)(es:List (List V)):of2 d c fr s (some ⟨.vec T es,none⟩)=some ⟨c+1,(d,true,.vec s.up.length d c es.length)::fr,s.put s.up.length d c (.vec T es)⟩:=rfl
def of1(d c:Nat)(fr:Fr)(s:St)(F:List V->Option Mk):Option (List V)->Option XS
 |some vs=>of2 d c fr s (F vs)
 |none=>none
@[simp] theorem AE1(d c:Nat)(fr:Fr)(s:St)(F:List V->Option Mk)(vs:List V):of1 d c fr s F (some vs)=of2 d c fr s (F vs):=rfl
@[simp] theorem A23{f:bp}(hS:HS P f=true)(d c:Nat)(args:List bn):DG P (BH P A kn n) (some d) (.call true none (.func f) args) ⟨c,fr,s⟩ =
  nw (of1 d c fr s (fun vs=>orM (KE P (AE P A kn n) f (vs.map weakV)) (koV P f (vs.map weakV))) (FJ (CH fr) args)):=by
 show noW (HQ (BH P A kn n).co (some d) (.func f) args ⟨c,fr,s⟩)=_
 rw[F4]
 congr 1
 unfold HQ
 have hf:CH fr (.func f)=some (.fn f [] []):=rfl
 simp only[hf]
 cases FJ (CH fr) args with
 |none=>rfl
 |some vs=>
  simp only[AE1,bw,bx]
  have:(BH P A kn n).co f (vs.map weakV) d=orM (KE P (AE P A kn n) f (vs.map weakV)) (koV P f (vs.map weakV)):=by show OM P kn (fun _ _ _=>none) (AE P A kn n) f _ d=_;unfold OM;simp only[hS]
  rw[this]
  cases orM (KE P (AE P A kn n) f (vs.map weakV)) (koV P f (vs.map weakV))with
  |none=>rfl
  |some r=>rfl
def A24(P:bm)(fn:Func)(r:Option (Exit×XS)):Option Mk:=match r with
 |some (.ret,st)=>rD P fn st
 |some (.normal,st)=>rD P fn st
 |_=>none
@[simp] theorem A25(fn:Func)(st:XS):A24 P fn (some (.ret,st))=rD P fn st:=rfl
@[simp] theorem AM8(fn:Func)(st:XS):A24 P fn (some (.normal,st))=rD P fn st:=rfl
end Go.Pg
namespace Go.Pg
section
@[simp] theorem C9{α:Type}(x:α):∀(l:List α),CM (l++[x])=some (l,x)
 |[]=>rfl
 |[y]=>rfl
 |y::z::l=>by have:=C9 x (z::l);simp only[List.cons_append]at this|-;rw[VY,this];rfl
end
section
variable {P:bm}{E:XE}{d:Option Tmp}{c:Nat}{fr:Fr}{s:St}{r:bn->Option V}
@[simp] theorem ARV(T:bh)(x i:bn)(ok:Bool):IA P (cQ (.lookup T x i ok)) s r=o2 (fun a b=>DP P s T a b ok) (r x) (r i):=by show((r x).bind fun a=>(r i).bind fun b=>DP P s T a b ok)=_;cases r x<;>cases r i<;>rfl
def up1(c:Nat)(fr:Fr)(s:St):Option (Nat×Nat×Nat×List (V×V))->Option XS
 |some (l,q,γ,es)=>Bool.rec none (some ⟨c,fr,s.put l q γ (.map es)⟩) (bj γ c)
 |none=>none
def up3(P:bm)(T:bh)(c:Nat)(fr:Fr)(s:St):Option V->Option V->Option V->Option XS
 |some m,some i,some v=>up1 c fr s (LU P s T m i v)
 |_,_,_=>none
@[simp] theorem A26(T:bh)(m i v:V):up3 P T c fr s (some m) (some i) (some v)=up1 c fr s (LU P s T m i v):=rfl
theorem AE2(l q γ:Nat)(es:List (V×V))(h:γ<c):up1 c fr s (some (l,q,γ,es))=some ⟨c,fr,s.put l q γ (.map es)⟩:=by
 have:bj γ c=true:=by simpa [bk]using h
 show(Bool.rec none (some ⟨c,fr,s.put l q γ (.map es)⟩) (bj γ c):Option XS)=_;rw[this]
@[simp] theorem AWD(T:bh)(x i y:bn):stepK P E none (.upd T x i y) ⟨c,fr,s⟩=up3 P T c fr s (CH fr x) (CH fr i) (CH fr y):=by show yW P none T x i y ⟨c,fr,s⟩=_;unfold yW up3 up1;simp only;cases CH fr x<;>cases CH fr i<;>cases CH fr y<;>simp only;split<;>simp_all
@[simp] theorem A27(x:bn):IA P (cQ (.nilCheck x)) s r=o1 ND (r x):=by show(r x).bind ND=_;cases r x<;>rfl
@[simp] theorem AWE(l k g o:Nat):ND (.ptr l k g o)=some (.ptr l k g o):=rfl
@[simp] theorem A28(x:bn)(f:bn->Option V):GN P (.oth (.nilCheck x)) f=[]:=rfl
@[simp] theorem A29(T:bh)(x i:bn)(ok:Bool)(f:bn->Option V):GN P (.oth (.lookup T x i ok)) f=BM (f x):=rfl
@[simp] theorem ARW(l k g:Nat):BV s (.mp l k g)=some (.mp l k g):=rfl
theorem NA{α:Type}{f:α->Option α}:∀{l:List α},(∀x∈l,f x=some x)->GW f l=some l
 |[],_=>rfl
 |x::l,h=>by have ih:=NA (f:=f) (l:=l) fun y hy=>h y (by simp[hy]);simp only[GW,h x (by simp),ih]
theorem SZ:∀(l:List AA) (b:AA),CM (l++[b])=some (l,b)
 |[],b=>by simp
 |[a],b=>by simp
 |a::a2::l,b=>by have:=SZ (a2::l) b;simp only[List.cons_append]at this|-;simp[this]
@[simp] theorem AWF(a:AA)(l:List AA)(b:AA):CM (a::(l++[b]))=some (a::l,b):=SZ (a::l) b
@[simp] theorem ARX(l k g:Nat):BM (some (.mp l k g))=[(l,k)]:=rfl
@[simp] theorem AWG(d:Nat):stepK P E (some d) (.mkM none) ⟨c,fr,s⟩=some ⟨c+1,(d,true,.mp s.up.length d c)::fr,s.put s.up.length d c (.map [])⟩:=rfl
end
section
variable {P:bm}{s:St}{r:bn->Option V}
@[simp] theorem ARY(T:bh)(x h:bn):IA P (cQ (.slice T x none (some h) none)) s r=o2 (fun a b=>B0 P s T a none (some b) none) (r x) (r h):=by show((r x).bind fun a=>((some none:Option (Option V))).bind fun l=>((r h).map some).bind fun h=>((some none:Option (Option V))).bind fun m=>B0 P s T a l h m)=_;cases r x<;>cases r h<;>rfl
theorem sD{T e:bh}{es:List (List V)}{h:Int}{b:Bool}(hT:BO P T=some (none,e))(hc:0<P.cellsOf e)(h1:0<=h)(h2:h<=es.length):B0 P s T (.list b es) none (some (.int .i64 h)) none=some (.list false (es.take h.toNat)):=by simp only[B0,hT];rw[if_pos ⟨h1,h2,hc⟩]
end
section
variable {P:bm}{E:XE}{c:Nat}{fr:Fr}{s:St}{r:bn->Option V}
@[simp] theorem ARZ(T:bh)(x l:bn):IA P (cQ (.slice T x (some l) none none)) s r=o2 (fun a b=>B0 P s T a (some b) none none) (r x) (r l):=by show((r x).bind fun a=>((r l).map some).bind fun l=>(some none).bind fun h=>(some none).bind fun m=>B0 P s T a l h m)=_;cases r x<;>cases r l<;>rfl
theorem zW{T e:bh}{l k g n h:Nat}(hT:BO P T=some (none,e))(hh:h<=n)(hc:0<P.cellsOf e):B0 P s T (.vec l k g n) none (some (.int .i64 (h:Int))) none=some (.vec l k g h):=by unfold B0;simp only[hT];rw[if_pos ⟨by omega,by omega,hc⟩];simp
end
section
variable {P:bm}{fr:Fr}{s:St}
@[simp] theorem A9B(e d c l q γ n:Nat)(ys:List (List V)):adV P e d c fr s (.vec l q γ n) ys=wp [(l,q),(l,q+IL)] (apW P e d c fr s l q γ n ys (QN n ys (s.get l q))):=rfl
@[simp] theorem AR0(l k g i o:Nat):ND (.eptr l k g i o)=some (.eptr l k g i o):=rfl
end
section
@[simp] theorem AH3{P:bm}{A:Ann}{kn:CF0}{n:Nat}:(BH P A kn n).cy=aC (AE P A kn n):=rfl
end
section
variable {P:bm}{A:Ann}{kn:CF0}{n:Nat}{fr:Fr}{s:St}
def oc2(d c:Nat)(fr:Fr)(s:St):Option V->Option XS->Option XS
 |some r,_=>some ⟨c+1,(d,true,r.ren (fun _=>c) s.up.length)::fr,s.put s.up.length d c .dead⟩
 |none,z=>z
@[simp] theorem A3A(d c:Nat)(r:V)(z:Option XS):oc2 d c fr s (some r) z=some ⟨c+1,(d,true,r.ren (fun _=>c) s.up.length)::fr,s.put s.up.length d c .dead⟩:=rfl
def oc1(d c:Nat)(fr:Fr)(s:St)(F:List V->Option V):Option (List V)->Option XS->Option XS
 |some vs,z=>oc2 d c fr s (F vs) z
 |none,z=>z
@[simp] theorem AE3(d c:Nat)(F:List V->Option V)(vs:List V)(z:Option XS):oc1 d c fr s F (some vs) z=oc2 d c fr s (F vs) z:=rfl
@[simp] theorem A3B{f:bp}(hS:HS P f=false)(d c:Nat)(args:List bn):stepK P (BH P A kn n) (some d) (.call true none (.func f) args) ⟨c,fr,s⟩ =
  oc1 d c fr s (fun vs=>FO P kn (AE P A kn n) f (vs.map weakV)) (FJ (CH fr) args) (P7 (BH P A kn n).cf (BH P A kn n).cy (some d) (.func f) args ⟨c,fr,s⟩):=by
 show Z5 (BH P A kn n) true (some d) (.func f) args ⟨c,fr,s⟩=_
 unfold Z5
 show(match HQ (BH P A kn n).co (some d) (.func f) args ⟨c,fr,s⟩ with|some st'=>some st'|none=>_)=_
 unfold HQ
 have hf:CH fr (.func f)=some (.fn f [] []):=rfl
 simp only[hf]
 cases FJ (CH fr) args with
 |none=>rfl
 |some vs=>
  simp only[AE3,bw,bx]
  have:(BH P A kn n).co f (vs.map weakV) d=(match FO P kn (AE P A kn n) f (vs.map weakV)with|some r=>some ⟨.dead,some r⟩|none=>none):=by show OM P kn (fun _ _ _=>none) (AE P A kn n) f _ d=_;unfold OM;simp only[hS];cases FO P kn (AE P A kn n) f (vs.map weakV)<;>rfl
  rw[this]
  cases FO P kn (AE P A kn n) f (vs.map weakV)with
  |none=>rfl
  |some r=>rfl
def od2(d c:Nat)(fr:Fr)(s:St):Option V->Option XS
 |some r=>some ⟨c+1,(d,true,r.ren (fun _=>c) s.up.length)::fr,s.put s.up.length d c .dead⟩
 |none=>none
@[simp] theorem A3C(d c:Nat)(r:V):od2 d c fr s (some r)=some ⟨c+1,(d,true,r.ren (fun _=>c) s.up.length)::fr,s.put s.up.length d c .dead⟩:=rfl
def od1(d c:Nat)(fr:Fr)(s:St)(F:List V->Option V):Option (List V)->Option XS
 |some vs=>od2 d c fr s (F vs)
 |none=>none
@[simp] theorem AE4(d c:Nat)(F:List V->Option V)(vs:List V):od1 d c fr s F (some vs)=od2 d c fr s (F vs):=rfl
@[simp] theorem AWH{f:bp}(hS:HS P f=false)(d c:Nat)(args:List bn):DG P (BH P A kn n) (some d) (.call true none (.func f) args) ⟨c,fr,s⟩ =
  nw (od1 d c fr s (fun vs=>FO P kn (AE P A kn n) f (vs.map weakV)) (FJ (CH fr) args)):=by
 show noW (HQ (BH P A kn n).co (some d) (.func f) args ⟨c,fr,s⟩)=_
 rw[F4]
 congr 1
 unfold HQ
 have hf:CH fr (.func f)=some (.fn f [] []):=rfl
 simp only[hf]
 cases FJ (CH fr) args with
 |none=>rfl
 |some vs=>
  simp only[AE4,bw,bx]
  have:(BH P A kn n).co f (vs.map weakV) d=(match FO P kn (AE P A kn n) f (vs.map weakV)with|some r=>some ⟨.dead,some r⟩|none=>none):=by show OM P kn (fun _ _ _=>none) (AE P A kn n) f _ d=_;unfold OM;simp only[hS];cases FO P kn (AE P A kn n) f (vs.map weakV)<;>rfl
  rw[this]
  cases FO P kn (AE P A kn n) f (vs.map weakV)with
  |none=>rfl
  |some r=>rfl
end
section
variable {fr:Fr}{s:St}
@[simp] theorem AM9(l k g:Nat):BV s (.yld l k g)=some (.yld l k g):=rfl
@[simp] theorem ANA(f:Nat)(cs:List V):A1 s (f+1) (.ref cs)=some (.ref cs):=rfl
@[simp] theorem A3D{P:bm}:FV P [] fr s=some (.tup []):=rfl
@[simp] theorem ANB(f:Nat):A1 s (f+1) (.tup [])=some (.tup []):=rfl
@[simp] theorem AE5:CV .nilFunc=some (.raw .nilFunc):=rfl
@[simp] theorem AR1(f l k g:Nat):AG (f+1) (.yld l k g)=false:=rfl
@[simp] theorem A3E(l k g:Nat):weakV (.yld l k g)=.yld l k g:=rfl
@[simp] theorem A9D(d c l k g:Nat):bx1 d c fr s (some (.yld l k g))=some ⟨c+1,(d,true,.ptr s.up.length d c 0)::fr,s.put s.up.length d c (.box [.yld l k g])⟩:=rfl
@[simp] theorem A9E(F:List V->Option (List V))(g off:Nat)(g':Nat)(cs:List V):cp1 F g off (some (g',.box cs))=if g'=g then(F cs).map (fun ds=>V.ref (ds.drop off)) else none:=rfl
def mk4(P:bm)(d c:Nat)(fr:Fr)(s:St)(e:bh)(n m:Int):Option (List V)->Option XS
 |some z=>if 0<=n/\m=n/\z.length=P.cellsOf e/\n.toNat*P.bytesOf e<=140737488355328/\n.toNat<=maxLen then some ⟨c+1,(d,true,.vec s.up.length d c n.toNat)::fr,s.put s.up.length d c (.vec e (List.replicate n.toNat z))⟩ else none
 |none=>none
@[simp] theorem A3F{P:bm}(d c:Nat)(e:bh)(n m:Int)(z:List V):mk4 P d c fr s e n m (some z)=if 0<=n/\m=n/\z.length=P.cellsOf e/\n.toNat*P.bytesOf e<=140737488355328/\n.toNat<=maxLen then some ⟨c+1,(d,true,.vec s.up.length d c n.toNat)::fr,s.put s.up.length d c (.vec e (List.replicate n.toNat z))⟩ else none:=rfl
def mk3(P:bm)(d c:Nat)(fr:Fr)(s:St):Option (Option Nat×bh)->Option V->Option V->Option XS
 |some (none,e),some (.int _ n),some (.int _ m)=>mk4 P d c fr s e n m (CE P e)
 |_,_,_=>none
@[simp] theorem AE6{P:bm}(d c:Nat)(e:bh)(k1 k2:cj)(n m:Int):mk3 P d c fr s (some (none,e)) (some (.int k1 n)) (some (.int k2 m))=mk4 P d c fr s e n m (CE P e):=rfl
@[simp] theorem AWI{P:bm}{E:XE}(T:bh)(d c:Nat)(x y:bn):stepK P E (some d) (.mkS T x y) ⟨c,fr,s⟩=mk3 P d c fr s (BO P T) (CH fr x) (CH fr y):=by
 show VU P (some d) T x y ⟨c,fr,s⟩=_;unfold VU;simp only;cases BO P T with
 |none=>cases CH fr x<;>cases CH fr y<;>rfl
 |some p=>
  obtain⟨k,e⟩:=p
  cases k with
  |some k=>cases CH fr x<;>cases CH fr y<;>rfl
  |none=>
   cases CH fr x with
   |none=>rfl
   |some a=>
    cases CH fr y with
    |none=>cases a<;>rfl
    |some z=>
     cases a with
     |int k1 n=>
      cases z with
      |int k2 m=>simp only[AE6];cases CE P e<;>rfl
      |_=>rfl
     |_=>rfl
@[simp] theorem A9F{P:bm}(T:bh)(x y:bn)(r:bn->Option V):GN P (.mkS T x y) r=[]:=rfl
def rE(fr:Fr)(n γ:Nat)(r:Option XS):Option (Exit×XS):=match r with
 |some st=>match st.s.get n BJ with
  | some (γ',.loop _ _ _ _ _ ls)=>Bool.rec none (match ls with
   |.ready=>some (.normal,⟨st.c,fr,st.s.put n BJ γ .dead⟩)
   |.left .ret=>some (.ret,⟨st.c,fr,st.s.put n BJ γ .dead⟩)
   |.left (.exit id)=>some (.exit id,⟨st.c,fr,st.s.put n BJ γ .dead⟩)
   | _=>none) (bc γ' γ&&bj γ st.c)
  |_=>none
 |none=>none
theorem UV{P:bm}{A:Ann}{kn:CF0}{n N:Nat}{g:bn}{ps:List Tmp}{asg body:Code}{c:Nat}{up:List AA}{loc:AA}{f:bp}{first cap:List V}(h:CH fr g=some (.fn f first cap)) :
  UN (BH P A kn n).cf N g ps asg body ⟨c,fr,⟨up,loc⟩⟩=rE fr up.length c (GH (BH P A kn n) none ⟨c+1,fr,⟨up,(BJ,c,.loop fr ps asg body N .ready)::loc⟩⟩ f ((first++[V.yld up.length BJ c]++cap).map weakV)):=by
 unfold UN
 simp only[h]
 unfold GH gS rE
 simp only[St.put,if_true,AA.put]
 cases (BH P A kn n).cf f ((first++[V.yld up.length BJ c]++cap).map weakV) ⟨c+1,fr,⟨up,(BJ,c,.loop fr ps asg body N .ready)::loc⟩⟩ with
 |none=>rfl
 |some r=>rfl
theorem aY{n γ c:Nat}{fr' fr0:Fr}{s:St}{ps:List Tmp}{asg body:Code}{N:Nat}(h:s.get n BJ=some (γ,.loop fr0 ps asg body N .ready))(hc:γ<c):rE fr n γ (some ⟨c,fr',s⟩)=some (.normal,⟨c,fr,s.put n BJ γ .dead⟩):=by
 unfold rE;simp only[h];have:(bc γ γ&&bj γ c)=true:=by simpa using hc
 rw[this]
@[simp] theorem AWJ(t:St)(fr0:Fr)(ps:List Tmp)(asg body:Code)(N:Nat)(l:LS):CC t (.loop fr0 ps asg body N l)=.loop fr0 ps asg body N l:=rfl
theorem WO{rec:G5}{l q γ c N:Nat}{fr0:Fr}{ps:List Tmp}{asg body:Code}{vs:List V}(h:s.get l q=some (γ,.loop fr0 ps asg body N .ready))(hv:vs.length=ps.length)(hc:γ<c) :
  aC rec l q γ vs ⟨c,fr,s⟩=UO fr l q γ (aB (rec N) l q γ body (rec N asg ⟨c,JL fr0 ps vs,⟨s.up++[s.loc],[]⟩⟩)):=by
 unfold aC
 simp only[h]
 have:(bc γ γ&&bc vs.length ps.length&&bj γ c)=true:=by simp[hv,hc]
 rw[this]
theorem IM{rec:bP}{l q γ c N:Nat}{fr0:Fr}{ps:List Tmp}{asg body body':Code}(h:s.get l q=some (γ,.loop fr0 ps asg body' N .ready))(hc:γ<c) :
  aB rec l q γ body (some (.normal,⟨c,fr,s⟩))=rec body ⟨c,fr,s.put l q γ (.loop fr0 ps asg body' N .busy)⟩:=by
 unfold aB
 simp only[h]
 have:(bc γ γ&&bj γ c)=true:=by simp[hc]
 rw[this]
theorem QB{fr':Fr}{l q γ c N:Nat}{fr0:Fr}{ps:List Tmp}{asg body:Code}{up u:List AA}{loc lc:AA}(h:St.get ⟨up,loc⟩ l q=some (γ,.loop fr0 ps asg body N .busy))(hu:CM up=some (u,lc))(hl:l<up.length)(hc:γ<c) :
  UO fr l q γ (some (.normal,⟨c,fr',⟨up,loc⟩⟩))=some (.bool true,⟨c,fr,St.put ⟨u.map (AJ ⟨up,loc⟩),AJ ⟨up,loc⟩ lc⟩ l q γ (.loop fr0 ps asg body N .ready)⟩):=by
 unfold UO
 simp only[h,hu]
 have:(bc γ γ&&bj l up.length&&bj γ c)=true:=by simp[hc,hl]
 rw[this]
 rfl
end
section
def tkU(z:Option XS)(d:Option Tmp)(st:XS):Option V->Option XS
 |some r=>Bool.rec z (DT d st (some r)) (aM r)
 |none=>z
@[simp] theorem A9G(z:Option XS)(d:Option Tmp)(st:XS)(k:cj)(n:Int):tkU z d st (some (.int k n))=DT d st (some (.int k n)):=rfl
@[simp] theorem A3G(z:Option XS)(d:Option Tmp)(st:XS)(b:Bool):tkU z d st (some (.bool b))=DT d st (some (.bool b)):=rfl
@[simp] theorem AWK(l k g n:Nat):weakC (.vec l k g n)=.vec l k g n:=rfl
@[simp] theorem zX(st:XS)(v:V):H3 st [] v=v:=rfl
@[simp] theorem sE(k:Nat)(ks:List Nat)(c:Nat)(fr:Fr)(up:List AA)(loc:AA)(v:V)(h:k<10000):H3 ⟨c,fr,⟨up,loc⟩⟩ (k::ks) v=H3 ⟨c,fr,⟨up,loc⟩⟩ ks (BA up.length k (loc.get k) 3 v):=by
 have:bj k 10000=true:=by simpa [bk]using h
 simp only[H3,this,cond_true]
@[simp] theorem F0(k:Nat)(ks:List Nat)(st:XS)(v:V)(h:¬k<10000):H3 st (k::ks) v=H3 st ks (BA (k / 10000-1) (k % 10000) (st.s.get (k / 10000-1) (k % 10000)) 3 v):=by
 have:bj k 10000=false:=by
  cases hb:bj k 10000 with
  |false=>rfl
  |true=>exact absurd (by simpa [bk]using hb) h
 simp only[H3,this,cond_false]
@[simp] theorem A9H{P:bm}{A:Ann}{kn:CF0}{n k:Nat}{us:List Nat}(d:Option Tmp)(st:XS)(f:bp)(args:List V):GH (cfU (k::us) (BH P A kn n)) d st f args=tkU (GH (BH P A kn n) d st f args) d st (FO P kn (AE P A kn n) f (args.map (H3 st (k::us)))):=by
 show(match mX (BH P A kn n).cf (BH P A kn n).c0 (k :: us) f args st with
  |some (r,st')=>some (⟨st'.c,putD st'.fr d true r,st'.s⟩:XS)
  | none=>none)=_
 unfold mX;have e:(BH P A kn n).c0=FO P kn (AE P A kn n):=rfl;rw[e];cases FO P kn (AE P A kn n) f (args.map (H3 st (k::us)))with
 |none=>rfl
 |some r=>
  show(match(Bool.rec ((BH P A kn n).cf f args st) (some (r,st)) (aM r):Option (V×XS))with
   |some (r,st')=>some (⟨st'.c,putD st'.fr d true r,st'.s⟩:XS)
   | none=>none)=(Bool.rec (GH (BH P A kn n) d st f args) (DT d st (some r)) (aM r):Option XS)
  cases aM r<;>rfl
@[simp] theorem AR2(k:cj)(n:Int):gV (.int k n)=true:=rfl
@[simp] theorem ANC(b:Bool):gV (.bool b)=true:=rfl
end
theorem sF{j k:Nat}(h:j≠k)(γ γ2:Nat)(T T2:bh)(es fs:List (List V)):kl j (kl k [] ((pl j γ T es++pl k γ2 T2 fs).get k)) ((pl j γ T es++pl k γ2 T2 fs).get j)=pl j γ T es++pl k γ2 T2 fs:=by cases es<;>cases fs<;>simp[h,h.symm]
theorem WP{j k:Nat}(h:j≠k)(γ γ2:Nat)(T T2:bh)(es fs:List (List V)):(pl j γ T es++pl k γ2 T2 fs).get k=(pl k γ2 T2 fs).get k:=by cases es<;>cases fs<;>simp[h.symm]
theorem sG{j k:Nat}(h:j≠k)(γ γ2:Nat)(T T2:bh)(es fs:List (List V))(M:AA):kl j M ((pl j γ T es++pl k γ2 T2 fs).get j)=pl j γ T es++M:=by cases es<;>cases fs<;>simp[h,h.symm]
theorem AJL{j k:Nat}(h:j≠k)(γ:Nat)(T:bh)(es:List (List V))(x:Nat×AX):(pl j γ T es++[(k,x)]).get k=some x:=by cases es<;>simp[h.symm]
theorem AR3{j k:Nat}(h:j≠k)(γ:Nat)(T:bh)(es:List (List V))(x:Nat×AX)(M:AA):kl j M ((pl j γ T es++[(k,x)]).get j)=pl j γ T es++M:=by cases es<;>simp[h,h.symm]
theorem WQ{j k:Nat}(h:j≠k)(γ γ2:Nat)(T T2:bh)(es fs:List (List V)):(pl j γ T es++pl k γ2 T2 fs).get j=(pl j γ T es).get j:=by cases es<;>cases fs<;>simp[h]
theorem iG{j k m:Nat}(h1:j≠m)(h2:k≠m)(γ γ2:Nat)(T T2:bh)(es fs:List (List V)):(pl j γ T es++pl k γ2 T2 fs).get m=none:=by cases es<;>cases fs<;>simp[h1.symm,h2.symm]
theorem sH{j:Nat}(γ:Nat)(T:bh)(es:List (List V))(M:AA):kl j M ((pl j γ T es).get j)=pl j γ T es++M:=by cases es<;>simp
theorem L9{t:St}{T:bh}{es:List (List V)}(h:∀e∈es,∀v∈e,BV t v=some v):CC t (.vec T es)=.vec T es:=by
 have:CA t (.vec T es)=some (.vec T es):=by unfold CA;simp only;rw[NA fun e he=>NA fun v hv=>h e he v hv]
 unfold CC;rw[this]
theorem zY{t c l q γ n:Nat}{fr:Fr}{s:St}{U:bh}{es:List (List V)}(h:BQ fr t=some (true,.vec l q γ n))(hg:s.get l q=some (γ,.vec U es))(hn:n<=es.length)(hc:γ<c):S4 (some t) ⟨c,fr,s⟩=⟨c,(t,true,.list false (es.take n))::fr,s.put l q γ .dead⟩:=by
 have hb:(bc γ γ&&Nat.ble n es.length&&bj γ c)=true:=by simp[bk,hn,hc,Nat.beq_eq]
 unfold S4;simp only[h,hg,hb]
@[simp] theorem AR4{P:bm}{A:Ann}{kn:CF0}{n N l:Nat}{st:XS}:AE P A kn (n+1) N (.label l) st=some (.normal,st):=rfl
theorem JS{α:Type}(p:α->Bool):∀(l:List α),(!l.any fun x=>!p x)=l.all p
 |[]=>rfl
 |x::l=>by have:=JS p l;simp only[List.any_cons,List.all_cons,Bool.not_or,Bool.not_not,<-this]
section
variable {P:bm}{fr:Fr}{s:St}
def pt(k γ:Nat):List (List V)->V
 |[]=>.list true []
 |e::es=>.vec 0 k γ (e::es).length
@[simp] theorem BDK(k γ:Nat):pt k γ []=.list true []:=rfl
@[simp] theorem A9I(k γ:Nat)(e:List V)(es:List (List V)):pt k γ (e::es)=.vec 0 k γ (es.length+1):=rfl
@[simp] theorem BDL(e k c γ:Nat)(loc:AA)(es:List (List V))(y:List V)(ys:List (List V))(hl:AA.get loc k=(pl k γ e es).get k)(h1:es.all (fun y=>y.length==P.cellsOf e)=true)(h2:CG P e es.length (y::ys)=true) :
  apV P e k c fr ⟨[],loc⟩ (pt k γ es) (y::ys)=some ⟨c+1,(k,true,pt k c (es++y::ys))::fr,⟨[],(k,c,.vec e (es++y::ys))::loc⟩⟩:=by
 cases es with
 |nil=>
  simp only[List.length_nil]at h2
  simp[h2,pt]
 |cons z es=>
  have h:=ATZ (P:=P) (fr:=fr) e k c γ loc (z::es) y ys hl h1 h2
  exact h
theorem zZ{T:bh}(f:Nat)(loc:AA)(k γ:Nat)(es:List (List V))(hl:AA.get loc k=(pl k γ T es).get k):A1 ⟨[],loc⟩ (f+1) (pt k γ es)=some (.list false es):=by
 cases es with
 |nil=>rfl
 |cons e es=>exact PM (T:=T) f loc k γ (e::es) hl
@[simp] theorem AR5(f k γ:Nat)(T:bh)(es:List (List V)):A1 ⟨[],pl k γ T es⟩ (f+1) (pt k γ es)=some (.list false es):=zZ (T:=T) f _ k γ es rfl
@[simp] theorem AWL(k γ:Nat)(es:List (List V)):A8 (pt k γ es)=[pt k γ es]:=by cases es<;>rfl
@[simp] theorem AWM(k γ:Nat)(es:List (List V)):A9 (pt k γ es)=true:=by cases es<;>rfl
end
@[simp] theorem A9J(st:XS):K7 [] st=st:=rfl
@[simp] theorem A3H(k:Nat)(ks:List Nat)(c:Nat)(fr:Fr)(up:List AA)(loc:AA)(h:k<1000):K7 (k::ks) ⟨c,fr,⟨up,loc⟩⟩=K7 ks ⟨c,NK up.length k (loc.get k) fr,⟨up,FI up.length k (loc.get k) loc⟩⟩:=by
 have h1:bj k 1000=true:=by simpa [bk]using h
 show K7 ks (vJ k ⟨c,fr,⟨up,loc⟩⟩)=_;unfold vJ;rw[h1];rfl
@[simp] theorem A3I(k:Nat)(ks:List Nat)(c:Nat)(fr:Fr)(up:List AA)(loc:AA)(h:2000000000000000<=k):K7 (k::ks) ⟨c,fr,⟨up,loc⟩⟩=K7 ks ⟨c,fr,⟨up,cJ (k % 1000) loc⟩⟩:=by
 have h1:bj k 1000=false:=by rw[<-bb,bk];omega
 have h2:bj k 1000000000000000=false:=by rw[<-bb,bk];omega
 have h3:bj k 2000000000000000=false:=by rw[<-bb,bk];omega
 show K7 ks (vJ k ⟨c,fr,⟨up,loc⟩⟩)=_;unfold vJ;rw[h1,h2,h3];rfl
@[simp] theorem A9K(k:Nat):cJ k []=[]:=rfl
@[simp] theorem A3J(k j g:Nat)(r:AX)(L:AA):cJ k ((j,g,r)::L)=(j,g,if j=k then wkR r else r)::cJ k L:=rfl
@[simp] theorem A9L(T:bh)(es:List (List V)):wkR (.vec T es)=.vec T (es.map (bg jB)):=rfl
@[simp] theorem A9M(cs:List V):wkR (.box cs)=.box (cs.map jB):=rfl
@[simp] theorem BDM(k γ:Nat)(T:bh)(es:List (List V)):cJ k (pl k γ T es)=pl k γ T (es.map (bg jB)):=by
 cases es with
 |nil=>rfl
 |cons e es=>simp[pl,cJ]
@[simp] theorem AJM{k j:Nat}(h:j≠k)(γ:Nat)(T:bh)(es:List (List V)):cJ k (pl j γ T es)=pl j γ T es:=by
 cases es with
 |nil=>rfl
 |cons e es=>simp[pl,cJ,h]
@[simp] theorem BDN(es:List (List V)):jB (sl es)=.list false es:=by cases es<;>rfl
@[simp] theorem A9N:jB .nil=.list false []:=rfl
@[simp] theorem A3K(b:Bool)(es:List (List V)):jB (.list b es)=.list b es:=rfl
section
variable {l k:Nat}{o:Option (Nat×AX)}
def gtf(l k:Nat)(o:Option (Nat×AX)):Option (Bool×V)->Option (Bool×V)
 |some (c,v)=>some (c,BA l k o 3 v)
 |none=>none
@[simp] theorem A3L(c:Bool)(v:V):gtf l k o (some (c,v))=some (c,BA l k o 3 v):=rfl
@[simp] theorem A3M:gtf l k o none=none:=rfl
@[simp] theorem AWN(fr:Fr)(j:Nat):BQ (NK l k o fr) j=gtf l k o (BQ fr j):=by
 rw[FG,FG,UQ];cases fr.get j with
 |none=>rfl
 |some x=>rfl
end
@[simp] theorem A9O{k j:Nat}(h:j≠k)(r:Fr)(o:Option (Bool×V)):BQ (kx k r o) j=BQ r j:=by
 cases o with
 |none=>rfl
 |some x=>
  obtain⟨c,v⟩:=x
  simp[h]
end Go.Pg
