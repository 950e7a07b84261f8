/- Rows told as lists, by simp. No program in sight. -/
import Derived.Test.YtmnlpgjklibndaaGreatSx
noncomputable section
open Go renaming TypeId->bp,Operand->br,Program->bt,FuncId->cj,IntKind->ck
open Nat renaming blt->bj,blt_eq->bw,beq->bh
open List renaming map_congr_left->bq,nil_append->bx,append_nil->bz,all_eq_true->bc,map_id->bg,map->bn
open Bool renaming not_eq_true->bf
set_option linter.unusedSimpArgs false
namespace Go.Pg
variable {P:bt}{l k:Nat}{o:Option (Nat×AY)}
@[simp] theorem AOU(st:XS):SW [] st=st:=rfl
@[simp] theorem AKU(k:Nat)(ks:List Nat)(c:Nat)(fr:Fr)(up:List AB)(loc:AB):SW (k::ks) ⟨c,fr,⟨up,loc⟩⟩=SW ks ⟨c,LO up.length k (loc.get k) fr,⟨up,FY up.length k (loc.get k) loc⟩⟩:=rfl
@[simp] theorem AOV:LO l k o []=[]:=rfl
@[simp] theorem AKV(j:Nat)(c:Bool)(v:V)(fr:Fr):LO l k o ((j,c,v)::fr)=(j,c,BH l k o 3 v)::LO l k o fr:=rfl
@[simp] theorem AOW:FY l k o []=[]:=rfl
@[simp] theorem AKW(j g:Nat)(r:AY)(L:AB):FY l k o ((j,g,r)::L)=if j=k then FY l k o L else(j,g,IU l k o r)::FY l k o L:=rfl
theorem SY:∀(f g:Nat) (v:V),AL g v=true->BH l k o f v=v
 |0,_,_,_=>rfl
 |f+1,0,v,h=>by cases h
 |f+1,g+1,v,h=>by
  have lst:∀cs:List V,cs.all (AL g)=true->cs.map (BH l k o f)=cs:=by
   intro cs h;conv=>rhs;rw[<-bg cs]
   exact bq fun x hx=>SY f g x (bc.1 h x hx)
  cases v with
  |vec _ _ _ _=>cases h
  |ptr _ _ _ _=>cases h
  |agg cs=>simp only[BH];rw[lst cs h]
  |tup cs=>simp only[BH];rw[lst cs h]
  |_=>rfl
theorem lQ{cs:List V}(h:cs.all (AL 9)=true)(f:Nat):cs.map (BH l k o f)=cs:=by
 conv=>rhs;rw[<-bg cs]
 exact bq fun x hx=>SY f 9 x (bc.1 h x hx)
theorem sT{es:List (List V)}(h:(es.all fun e=>e.all (AL 9))=true)(f:Nat):es.map (bn (BH l k o f))=es:=by
 conv=>rhs;rw[<-bg es]
 exact bq fun x hx=>lQ (bc.1 h x hx) f
@[simp] theorem AOX{j:Nat}(h:j≠k)(γ:Nat)(T:bp)(es:List (List V))(L:AB)(hc:(es.all fun e=>e.all (AL 9))=true):FY l k o (pl j γ T es++L)=pl j γ T es++FY l k o L:=by
 cases es with
 |nil=>rfl
 |cons e es=>
  have q:=sT (l:=l) (k:=k) (o:=o) hc 3
  simp only[List.map_cons]at q
  simp[h,IU,q]
@[simp] theorem AOY(cs:List V):IU l k o (.box cs)=.box (cs.map (BH l k o 3)):=rfl
@[simp] theorem AOZ(T:bp)(es:List (List V)):IU l k o (.vec T es)=.vec T (es.map (bn (BH l k o 3))):=rfl
@[simp] theorem AO0(es:List (V×V)):IU l k o (.map es)=.map es:=rfl
@[simp] theorem AKX:IU l k o .dead=.dead:=rfl
@[simp] theorem AKY(fr:List (Nat×Bool×V))(ps:List Tmp)(asg body:Code)(N:Nat)(st:LS):IU l k o (.loop fr ps asg body N st)=.loop fr ps asg body N st:=rfl
@[simp] theorem AO1(f:Nat)(i:ck)(n:Int):BH l k o f (.int i n)=.int i n:=by cases f<;>rfl
@[simp] theorem AKZ(f:Nat)(b:Bool):BH l k o f (.bool b)=.bool b:=by cases f<;>rfl
@[simp] theorem AO2(f:Nat)(v:Value):BH l k o f (.raw v)=.raw v:=by cases f<;>rfl
@[simp] theorem AK0(f:Nat)(b:Bool)(es:List (List V)):BH l k o f (.list b es)=.list b es:=by cases f<;>rfl
@[simp] theorem AVW(f:Nat)(es:List (List V)):BH l k o f (sl es)=sl es:=by cases f<;>cases es<;>rfl
@[simp] theorem AO3(f:Nat)(cs:List V):BH l k o f (.ref cs)=.ref cs:=by cases f<;>rfl
theorem sU(f a b c d:Nat)(h:¬(a=l/\b=k)):BH l k o f (.ptr a b c d)=.ptr a b c d:=by
 cases f with
 |zero=>rfl
 |succ f=>
  simp only[BH]
  split
  ·rw[if_neg fun hh=>h ⟨hh.1,hh.2.1⟩]
  ·rfl
@[simp] theorem AK1(f a b c d:Nat)(h:¬b=k):BH l k o f (.ptr a b c d)=.ptr a b c d:=sU f a b c d fun hh=>h hh.2
@[simp] theorem AK2(γ:Nat)(T:bp)(es:List (List V))(f a b c d:Nat):BH l k (some (γ,.vec T es)) f (.ptr a b c d)=.ptr a b c d:=by cases f<;>rfl
@[simp] theorem AK3(γ:Nat)(cs:List V)(f a b g off:Nat):BH l k (some (γ,.box cs)) (f+1) (.ptr a b g off)=if a=l/\b=k/\g=γ then .ref ((cs.map KO).drop off) else .ptr a b g off:=rfl
@[simp] theorem AVX(q:ck)(n:Int):KO (.int q n)=.int q n:=rfl
@[simp] theorem AO4(b:Bool):KO (.bool b)=.bool b:=rfl
@[simp] theorem AO5(b:Bool)(es:List (List V)):KO (.list b es)=.list b es:=rfl
@[simp] theorem A00(es:List (List V)):KO (sl es)=sl es:=by cases es<;>rfl
@[simp] theorem AVY:KO .nil=.nil:=rfl
@[simp] theorem A01(a b c:Nat):KO (.mp a b c)=.any:=rfl
@[simp] theorem AVZ:KO .any=.any:=rfl
@[simp] theorem lR(f:Nat):AL (f+1) .any=true:=rfl
@[simp] theorem AO6:weakV .any=.any:=rfl
@[simp] theorem AO7:weakC .any=.any:=rfl
@[simp] theorem AO8(f:Nat):BH l k o f .any=.any:=by cases f<;>rfl
@[simp] theorem AV0(f a b c:Nat):BH l k o f (.mp a b c)=.mp a b c:=by cases f<;>rfl
@[simp] theorem AO9(f a b c:Nat):BH l k o f (.yld a b c)=.yld a b c:=by cases f<;>rfl
@[simp] theorem AV1(f:Nat)(g:cj)(xs ys:List V):BH l k o f (.fn g xs ys)=.fn g xs ys:=by cases f<;>rfl
@[simp] theorem APA(f:Nat):BH l k o f .nil=.nil:=by cases f<;>rfl
@[simp] theorem APB(f:Nat)(cs:List V):BH l k o (f+1) (.agg cs)=.agg (cs.map (BH l k o f)):=rfl
@[simp] theorem APC(f:Nat)(cs:List V):BH l k o (f+1) (.tup cs)=.tup (cs.map (BH l k o f)):=rfl
@[simp] theorem APD(γ:Nat)(T:bp)(es:List (List V))(f l' k' g m:Nat):BH l k (some (γ,.vec T es)) (f+1) (.vec l' k' g m)=if l'=l/\k'=k/\g=γ/\m=es.length then .list false es else .vec l' k' g m:=rfl
@[simp] theorem AV2(γ:Nat)(T:bp)(es:List (List V))(f:Nat):BH 0 k ((pl k γ T es).get k) (f+1) (pv k γ es)=sl es:=by
 cases es with
 |nil=>rfl
 |cons e es=>simp[pv,sl]
@[simp] theorem APE(γ:Nat)(T:bp)(es:List (List V))(f:Nat):BH 0 k (some (γ,.vec T es)) (f+1) (pv k γ es)=sl es:=by
 cases es with
 |nil=>rfl
 |cons e es=>simp[pv,sl]
@[simp] theorem APF{j:Nat}(h:j≠k)(γ:Nat)(es:List (List V))(f:Nat):BH l k o f (pv j γ es)=pv j γ es:=by
 cases es with
 |nil=>cases f<;>rfl
 |cons e es=>
  cases f with
  |zero=>rfl
  |succ f=>
   simp only[pv,BH]
   split
   ·rw[if_neg (fun hh=>h hh.2.1)]
   ·rfl
def oe2(d c:Nat)(fr:Fr)(s:St):Option Mk->Option XS->Option XS
 |some r,_=>some ⟨c+1,(d,true,r.val s.up.length d c)::fr,s.put s.up.length d c r.res⟩
 |none,z=>z
@[simp] theorem A02(d c:Nat)(fr:Fr)(s:St)(T:bp)(es:List (List V))(z:Option XS):oe2 d c fr s (some ⟨.vec T es,none⟩) z=some ⟨c+1,(d,true,.vec s.up.length d c es.length)::fr,s.put s.up.length d c (.vec T es)⟩:=rfl
def oe1(d c:Nat)(fr:Fr)(s:St)(F:List V->Option Mk):Option (List V)->Option XS->Option XS
 |some vs,z=>oe2 d c fr s (F vs) z
 |none,z=>z
@[simp] theorem zM(d c:Nat)(fr:Fr)(s:St)(F:List V->Option Mk)(vs:List V)(z:Option XS):oe1 d c fr s F (some vs) z=oe2 d c fr s (F vs) z:=rfl
variable {A:Ann}{kn:CF0}{n:Nat}{fr:Fr}{s:St}
@[simp] theorem AV3{α:Type}(r:α)(z:Option α):orM (some r) z=some r:=rfl
@[simp] theorem AV4{α:Type}(z:Option α):orM none z=z:=rfl
@[simp] theorem A03{f:cj}(hS:K5 P f=true)(d c:Nat)(args:List br):stepK P (BU P A kn n) (some d) (.call true none (.func f) args) ⟨c,fr,s⟩ =
  oe1 d c fr s (fun vs=>orM (IL P (AF P A kn n) f (vs.map weakV)) (koV P f (vs.map weakV))) (DU (BO fr) args) (QG (BU P A kn n).cf (BU P A kn n).cy (some d) (.func f) args ⟨c,fr,s⟩):=by
 show OJ (BU P A kn n) true (some d) (.func f) args ⟨c,fr,s⟩=_
 unfold OJ
 show(match EA (BU P A kn n).co (some d) (.func f) args ⟨c,fr,s⟩ with|some st'=>some st'|none=>_)=_
 unfold EA
 have hf:BO fr (.func f)=some (.fn f [] []):=rfl
 simp only[hf]
 cases DU (BO fr) args with
 |none=>rfl
 |some vs=>
  simp only[zM,bx,bz]
  have:(BU P A kn n).co f (vs.map weakV) d=orM (IL P (AF P A kn n) f (vs.map weakV)) (koV P f (vs.map weakV)):=by show IM P kn (fun _ _ _=>none) (AF P A kn n) f _ d=_;unfold IM;simp only[hS]
  rw[this]
  cases orM (IL P (AF P A kn n) f (vs.map weakV)) (koV P f (vs.map weakV))with
  |none=>rfl
  |some r=>rfl
def of2(d c:Nat)(fr:Fr)(s:St):Option Mk->Option XS
 |some r=>some ⟨c+1,(d,true,r.val s.up.length d c)::fr,s.put s.up.length d c r.res⟩
 |none=>none
@[simp] theorem A04(d c:Nat)(fr:Fr)(s:St)(T:bp)(es:List (List V)):of2 d c fr s (some ⟨.vec T es,none⟩)=some ⟨c+1,(d,true,.vec s.up.length d c es.length)::fr,s.put s.up.length d c (.vec T es)⟩:=rfl
def of1(d c:Nat)(fr:Fr)(s:St)(F:List V->Option Mk):Option (List V)->Option XS
 |some vs=>of2 d c fr s (F vs)
 |none=>none
@[simp] theorem zN(d c:Nat)(fr:Fr)(s:St)(F:List V->Option Mk)(vs:List V):of1 d c fr s F (some vs)=of2 d c fr s (F vs):=rfl
@[simp] theorem AV5{f:cj}(hS:K5 P f=true)(d c:Nat)(args:List br):B9 P (BU P A kn n) (some d) (.call true none (.func f) args) ⟨c,fr,s⟩ =
  nw (of1 d c fr s (fun vs=>orM (IL P (AF P A kn n) f (vs.map weakV)) (koV P f (vs.map weakV))) (DU (BO fr) args)):=by
 show noW (EA (BU P A kn n).co (some d) (.func f) args ⟨c,fr,s⟩)=_
 rw[EK]
 congr 1
 unfold EA
 have hf:BO fr (.func f)=some (.fn f [] []):=rfl
 simp only[hf]
 cases DU (BO fr) args with
 |none=>rfl
 |some vs=>
  simp only[zN,bx,bz]
  have:(BU P A kn n).co f (vs.map weakV) d=orM (IL P (AF P A kn n) f (vs.map weakV)) (koV P f (vs.map weakV)):=by show IM P kn (fun _ _ _=>none) (AF P A kn n) f _ d=_;unfold IM;simp only[hS]
  rw[this]
  cases orM (IL P (AF P A kn n) f (vs.map weakV)) (koV P f (vs.map weakV))with
  |none=>rfl
  |some r=>rfl
def AV6(P:bt)(fn:Func)(r:Option (Exit×XS)):Option Mk:=match r with
 |some (.ret,st)=>kH P fn st
 |some (.normal,st)=>kH P fn st
 |_=>none
@[simp] theorem AV7(fn:Func)(st:XS):AV6 P fn (some (.ret,st))=kH P fn st:=rfl
@[simp] theorem AGN(fn:Func)(st:XS):AV6 P fn (some (.normal,st))=kH P fn st:=rfl
end Go.Pg
namespace Go.Pg
section
@[simp] theorem unsnoc_snoc{α:Type}(x:α):∀(l:List α),DJ (l++[x])=some (l,x)
 |[]=>rfl
 |[y]=>rfl
 |y::z::l=>by have:=unsnoc_snoc x (z::l);simp only[List.cons_append]at this|-;rw[SZ,this];rfl
end
section
variable {P:bt}{E:XE}{d:Option Tmp}{c:Nat}{fr:Fr}{s:St}{r:br->Option V}
@[simp] theorem AK4(T:bp)(x i:br)(ok:Bool):H1 P (iU (.lookup T x i ok)) s r=o2 (fun a b=>CG P s T a b ok) (r x) (r i):=by show((r x).bind fun a=>(r i).bind fun b=>CG P s T a b ok)=_;cases r x<;>cases r i<;>rfl
def up1(c:Nat)(fr:Fr)(s:St):Option (Nat×Nat×Nat×List (V×V))->Option XS
 |some (l,q,γ,es)=>Bool.rec none (some ⟨c,fr,s.put l q γ (.map es)⟩) (bj γ c)
 |none=>none
def up3(P:bt)(T:bp)(c:Nat)(fr:Fr)(s:St):Option V->Option V->Option V->Option XS
 |some m,some i,some v=>up1 c fr s (ID P s T m i v)
 |_,_,_=>none
@[simp] theorem AV8(T:bp)(m i v:V):up3 P T c fr s (some m) (some i) (some v)=up1 c fr s (ID P s T m i v):=rfl
theorem gH(l q γ:Nat)(es:List (V×V))(h:γ<c):up1 c fr s (some (l,q,γ,es))=some ⟨c,fr,s.put l q γ (.map es)⟩:=by
 have:bj γ c=true:=by simpa [bw]using h
 show(Bool.rec none (some ⟨c,fr,s.put l q γ (.map es)⟩) (bj γ c):Option XS)=_;rw[this]
@[simp] theorem APG(T:bp)(x i y:br):stepK P E none (.upd T x i y) ⟨c,fr,s⟩=up3 P T c fr s (BO fr x) (BO fr i) (BO fr y):=by show sE P none T x i y ⟨c,fr,s⟩=_;unfold sE up3 up1;simp only;cases BO fr x<;>cases BO fr i<;>cases BO fr y<;>simp only;split<;>simp_all
@[simp] theorem AV9(x:br):H1 P (iU (.nilCheck x)) s r=o1 LJ (r x):=by show(r x).bind LJ=_;cases r x<;>rfl
@[simp] theorem APH(l k g o:Nat):LJ (.ptr l k g o)=some (.ptr l k g o):=rfl
@[simp] theorem API(cs:List V):LJ (.ref cs)=some (.ref cs):=rfl
@[simp] theorem AWA(x:br)(f:br->Option V):FD P (.oth (.nilCheck x)) f=[]:=rfl
@[simp] theorem AWB(T:bp)(x i:br)(ok:Bool)(f:br->Option V):FD P (.oth (.lookup T x i ok)) f=C6 (f x):=rfl
@[simp] theorem AK5(l k g:Nat):BM s (.mp l k g)=some (.mp l k g):=rfl
theorem IX{α:Type}{f:α->Option α}:∀{l:List α},(∀x∈l,f x=some x)->FW f l=some l
 |[],_=>rfl
 |x::l,h=>by have ih:=IX (f:=f) (l:=l) fun y hy=>h y (by simp[hy]);simp only[FW,h x (by simp),ih]
@[simp] theorem AK6(l k g:Nat):C6 (some (.mp l k g))=[(l,k)]:=rfl
@[simp] theorem APJ(d:Nat):stepK P E (some d) (.mkM none) ⟨c,fr,s⟩=some ⟨c+1,(d,true,.mp s.up.length d c)::fr,s.put s.up.length d c (.map [])⟩:=rfl
end
section
variable {P:bt}{s:St}{r:br->Option V}
@[simp] theorem AK7(T:bp)(x h:br):H1 P (iU (.slice T x none (some h) none)) s r=o2 (fun a b=>CI P s T a none (some b) none) (r x) (r h):=by show((r x).bind fun a=>((some none:Option (Option V))).bind fun l=>((r h).map some).bind fun h=>((some none:Option (Option V))).bind fun m=>CI P s T a l h m)=_;cases r x<;>cases r h<;>rfl
theorem lS{T e:bp}{es:List (List V)}{h:Int}{b:Bool}(hT:BK P T=some (none,e))(hc:0<P.cellsOf e)(h1:0<=h)(h2:h<=es.length):CI P s T (.list b es) none (some (.int .i64 h)) none=some (.list false (es.take h.toNat)):=by simp only[CI,hT];rw[if_pos ⟨h1,h2,hc⟩]
end
section
variable {P:bt}{E:XE}{c:Nat}{fr:Fr}{s:St}{r:br->Option V}
@[simp] theorem AK8(T:bp)(x l:br):H1 P (iU (.slice T x (some l) none none)) s r=o2 (fun a b=>CI P s T a (some b) none none) (r x) (r l):=by show((r x).bind fun a=>((r l).map some).bind fun l=>(some none).bind fun h=>(some none).bind fun m=>CI P s T a l h m)=_;cases r x<;>cases r l<;>rfl
end
section
variable {P:bt}{fr:Fr}{s:St}
@[simp] theorem A06(e d c l q γ n:Nat)(ys:List (List V)):adV P e d c fr s (.vec l q γ n) ys=wp [(l,q),(l,q+RK)] (apW P e d c fr s l q γ n ys (OY n ys (s.get l q))):=rfl
@[simp] theorem AK9(l k g i o:Nat):LJ (.eptr l k g i o)=some (.eptr l k g i o):=rfl
end
section
@[simp] theorem A07{P:bt}{A:Ann}{kn:CF0}{n:Nat}:(BU P A kn n).cy=kI (AF P A kn n):=rfl
end
section
variable {P:bt}{A:Ann}{kn:CF0}{n:Nat}{fr:Fr}{s:St}
def oc2(d c:Nat)(fr:Fr)(s:St):Option V->Option XS->Option XS
 |some r,_=>some ⟨c+1,(d,true,r.ren (fun _=>c) s.up.length)::fr,s.put s.up.length d c .dead⟩
 |none,z=>z
@[simp] theorem AWC(d c:Nat)(r:V)(z:Option XS):oc2 d c fr s (some r) z=some ⟨c+1,(d,true,r.ren (fun _=>c) s.up.length)::fr,s.put s.up.length d c .dead⟩:=rfl
def oc1(d c:Nat)(fr:Fr)(s:St)(F:List V->Option V):Option (List V)->Option XS->Option XS
 |some vs,z=>oc2 d c fr s (F vs) z
 |none,z=>z
@[simp] theorem zO(d c:Nat)(F:List V->Option V)(vs:List V)(z:Option XS):oc1 d c fr s F (some vs) z=oc2 d c fr s (F vs) z:=rfl
@[simp] theorem AWD{f:cj}(hS:K5 P f=false)(d c:Nat)(args:List br):stepK P (BU P A kn n) (some d) (.call true none (.func f) args) ⟨c,fr,s⟩ =
  oc1 d c fr s (fun vs=>EC P kn (AF P A kn n) f (vs.map weakV)) (DU (BO fr) args) (QG (BU P A kn n).cf (BU P A kn n).cy (some d) (.func f) args ⟨c,fr,s⟩):=by
 show OJ (BU P A kn n) true (some d) (.func f) args ⟨c,fr,s⟩=_
 unfold OJ
 show(match EA (BU P A kn n).co (some d) (.func f) args ⟨c,fr,s⟩ with|some st'=>some st'|none=>_)=_
 unfold EA
 have hf:BO fr (.func f)=some (.fn f [] []):=rfl
 simp only[hf]
 cases DU (BO fr) args with
 |none=>rfl
 |some vs=>
  simp only[zO,bx,bz]
  have:(BU P A kn n).co f (vs.map weakV) d=(match EC P kn (AF P A kn n) f (vs.map weakV)with|some r=>some ⟨.dead,some r⟩|none=>none):=by show IM P kn (fun _ _ _=>none) (AF P A kn n) f _ d=_;unfold IM;simp only[hS];cases EC P kn (AF P A kn n) f (vs.map weakV)<;>rfl
  rw[this]
  cases EC P kn (AF P A kn n) f (vs.map weakV)with
  |none=>rfl
  |some r=>rfl
def od2(d c:Nat)(fr:Fr)(s:St):Option V->Option XS
 |some r=>some ⟨c+1,(d,true,r.ren (fun _=>c) s.up.length)::fr,s.put s.up.length d c .dead⟩
 |none=>none
@[simp] theorem AWE(d c:Nat)(r:V):od2 d c fr s (some r)=some ⟨c+1,(d,true,r.ren (fun _=>c) s.up.length)::fr,s.put s.up.length d c .dead⟩:=rfl
def od1(d c:Nat)(fr:Fr)(s:St)(F:List V->Option V):Option (List V)->Option XS
 |some vs=>od2 d c fr s (F vs)
 |none=>none
@[simp] theorem zQ(d c:Nat)(F:List V->Option V)(vs:List V):od1 d c fr s F (some vs)=od2 d c fr s (F vs):=rfl
@[simp] theorem APK{f:cj}(hS:K5 P f=false)(d c:Nat)(args:List br):B9 P (BU P A kn n) (some d) (.call true none (.func f) args) ⟨c,fr,s⟩ =
  nw (od1 d c fr s (fun vs=>EC P kn (AF P A kn n) f (vs.map weakV)) (DU (BO fr) args)):=by
 show noW (EA (BU P A kn n).co (some d) (.func f) args ⟨c,fr,s⟩)=_
 rw[EK]
 congr 1
 unfold EA
 have hf:BO fr (.func f)=some (.fn f [] []):=rfl
 simp only[hf]
 cases DU (BO fr) args with
 |none=>rfl
 |some vs=>
  simp only[zQ,bx,bz]
  have:(BU P A kn n).co f (vs.map weakV) d=(match EC P kn (AF P A kn n) f (vs.map weakV)with|some r=>some ⟨.dead,some r⟩|none=>none):=by show IM P kn (fun _ _ _=>none) (AF P A kn n) f _ d=_;unfold IM;simp only[hS];cases EC P kn (AF P A kn n) f (vs.map weakV)<;>rfl
  rw[this]
  cases EC P kn (AF P A kn n) f (vs.map weakV)with
  |none=>rfl
  |some r=>rfl
end
section
variable {fr:Fr}{s:St}
@[simp] theorem AGO(l k g:Nat):BM s (.yld l k g)=some (.yld l k g):=rfl
@[simp] theorem AGP(f:Nat)(cs:List V):AV s (f+1) (.ref cs)=some (.ref cs):=rfl
@[simp] theorem AWF{P:bt}:E8 P [] fr s=some (.tup []):=rfl
@[simp] theorem AGQ(f:Nat):AV s (f+1) (.tup [])=some (.tup []):=rfl
@[simp] theorem zR:B4 .nilFunc=some (.raw .nilFunc):=rfl
@[simp] theorem ALA(f l k g:Nat):AL (f+1) (.yld l k g)=false:=rfl
@[simp] theorem AWG(l k g:Nat):weakV (.yld l k g)=.yld l k g:=rfl
@[simp] theorem A08(d c l k g:Nat):bx1 d c fr s (some (.yld l k g))=some ⟨c+1,(d,true,.ptr s.up.length d c 0)::fr,s.put s.up.length d c (.box [.yld l k g])⟩:=rfl
@[simp] theorem A09(F:List V->Option (List V))(g off:Nat)(g':Nat)(cs:List V):cp1 F g off (some (g',.box cs))=if g'=g then(F cs).map (fun ds=>V.ref (ds.drop off)) else none:=rfl
def mk4(P:bt)(d c:Nat)(fr:Fr)(s:St)(e:bp)(n m:Int):Option (List V)->Option XS
 |some z=>if 0<=n/\m=n/\z.length=P.cellsOf e/\n.toNat*P.bytesOf e<=140737488355328/\n.toNat<=maxLen then some ⟨c+1,(d,true,.vec s.up.length d c n.toNat)::fr,s.put s.up.length d c (.vec e (List.replicate n.toNat z))⟩ else none
 |none=>none
@[simp] theorem AWH{P:bt}(d c:Nat)(e:bp)(n m:Int)(z:List V):mk4 P d c fr s e n m (some z)=if 0<=n/\m=n/\z.length=P.cellsOf e/\n.toNat*P.bytesOf e<=140737488355328/\n.toNat<=maxLen then some ⟨c+1,(d,true,.vec s.up.length d c n.toNat)::fr,s.put s.up.length d c (.vec e (List.replicate n.toNat z))⟩ else none:=rfl
def mk3(P:bt)(d c:Nat)(fr:Fr)(s:St):Option (Option Nat×bp)->Option V->Option V->Option XS
 |some (none,e),some (.int _ n),some (.int _ m)=>mk4 P d c fr s e n m (B8 P e)
 |_,_,_=>none
@[simp] theorem zS{P:bt}(d c:Nat)(e:bp)(k1 k2:ck)(n m:Int):mk3 P d c fr s (some (none,e)) (some (.int k1 n)) (some (.int k2 m))=mk4 P d c fr s e n m (B8 P e):=rfl
@[simp] theorem APL{P:bt}{E:XE}(T:bp)(d c:Nat)(x y:br):stepK P E (some d) (.mkS T x y) ⟨c,fr,s⟩=mk3 P d c fr s (BK P T) (BO fr x) (BO fr y):=by
 show SU P (some d) T x y ⟨c,fr,s⟩=_;unfold SU;simp only;cases BK P T with
 |none=>cases BO fr x<;>cases BO fr y<;>rfl
 |some p=>
  obtain⟨k,e⟩:=p
  cases k with
  |some k=>cases BO fr x<;>cases BO fr y<;>rfl
  |none=>
   cases BO fr x with
   |none=>rfl
   |some a=>
    cases BO fr y with
    |none=>cases a<;>rfl
    |some z=>
     cases a with
     |int k1 n=>
      cases z with
      |int k2 m=>simp only[zS];cases B8 P e<;>rfl
      |_=>rfl
     |_=>rfl
theorem sV{P:bt}{A:Ann}{kn:CF0}{n:Nat}{f:cj}{d c:Nat}{x:br}{args:List br}{first cap vs:List V}{r:V}(hf:BO fr x=some (.fn f first cap))(hv:DU (BO fr) args=some vs)(hS:K5 P f=false)(hr:AL 9 r=true)(h:EC P kn (AF P A kn n) f ((first++vs++cap).map weakV)=some r) :
  B9 P (BU P A kn n) (some d) (.call true none x args) ⟨c,fr,s⟩=nw (ow3 d c fr s (some r)):=by
 show noW (EA (BU P A kn n).co (some d) x args ⟨c,fr,s⟩)=_
 unfold EA
 simp only[hf,hv]
 have:(BU P A kn n).co f ((first++vs++cap).map weakV) d=some ⟨.dead,some r⟩:=by show IM P kn (fun _ _ _=>none) (AF P A kn n) f _ d=_;unfold IM;simp only[hS,h]
 rw[this]
 simp only[Mk.val,BP 9 r hr,hO,EK]
@[simp] theorem A1A{P:bt}(T:bp)(x y:br)(r:br->Option V):FD P (.mkS T x y) r=[]:=rfl
def rE(fr:Fr)(n γ:Nat)(r:Option XS):Option (Exit×XS):=match r with
 |some st=>match st.s.get n CK with
  | some (γ',.loop _ _ _ _ _ ls)=>Bool.rec none (match ls with
   |.ready=>some (.normal,⟨st.c,fr,st.s.put n CK γ .dead⟩)
   |.left .ret=>some (.ret,⟨st.c,fr,st.s.put n CK γ .dead⟩)
   |.left (.exit id)=>some (.exit id,⟨st.c,fr,st.s.put n CK γ .dead⟩)
   | _=>none) (bh γ' γ&&bj γ st.c)
  |_=>none
 |none=>none
theorem sW{P:bt}{A:Ann}{kn:CF0}{n N:Nat}{g:br}{ps:List Tmp}{asg body:Code}{c:Nat}{up:List AB}{loc:AB}{f:cj}{first cap:List V}(h:BO fr g=some (.fn f first cap)) :
  RY (BU P A kn n).cf N g ps asg body ⟨c,fr,⟨up,loc⟩⟩=rE fr up.length c (NS (BU P A kn n) none ⟨c+1,fr,⟨up,(CK,c,.loop fr ps asg body N .ready)::loc⟩⟩ f ((first++[V.yld up.length CK c]++cap).map weakV)):=by
 unfold RY
 simp only[h]
 unfold NS aZ rE
 simp only[St.put,if_true,AB.put]
 cases (BU P A kn n).cf f ((first++[V.yld up.length CK c]++cap).map weakV) ⟨c+1,fr,⟨up,(CK,c,.loop fr ps asg body N .ready)::loc⟩⟩ with
 |none=>rfl
 |some r=>rfl
theorem zT{n γ c:Nat}{fr' fr0:Fr}{s:St}{ps:List Tmp}{asg body:Code}{N:Nat}(h:s.get n CK=some (γ,.loop fr0 ps asg body N .ready))(hc:γ<c):rE fr n γ (some ⟨c,fr',s⟩)=some (.normal,⟨c,fr,s.put n CK γ .dead⟩):=by
 unfold rE;simp only[h];have:(bh γ γ&&bj γ c)=true:=by simpa using hc
 rw[this]
@[simp] theorem APM(t:St)(fr0:Fr)(ps:List Tmp)(asg body:Code)(N:Nat)(l:LS):BT t (.loop fr0 ps asg body N l)=.loop fr0 ps asg body N l:=rfl
theorem oW{rec:FN}{l q γ c N:Nat}{fr0:Fr}{ps:List Tmp}{asg body:Code}{vs:List V}(h:s.get l q=some (γ,.loop fr0 ps asg body N .ready))(hv:vs.length=ps.length)(hc:γ<c) :
  kI rec l q γ vs ⟨c,fr,s⟩=V6 fr l q γ (V7 (rec N) l q γ body (rec N asg ⟨c,JE fr0 ps vs,⟨s.up++[s.loc],[]⟩⟩)):=by
 unfold kI
 simp only[h]
 have:(bh γ γ&&bh vs.length ps.length&&bj γ c)=true:=by simp[hv,hc]
 rw[this]
theorem OO{rec:SR}{l q γ c N:Nat}{fr0:Fr}{ps:List Tmp}{asg body body':Code}(h:s.get l q=some (γ,.loop fr0 ps asg body' N .ready))(hc:γ<c) :
  V7 rec l q γ body (some (.normal,⟨c,fr,s⟩))=rec body ⟨c,fr,s.put l q γ (.loop fr0 ps asg body' N .busy)⟩:=by
 unfold V7
 simp only[h]
 have:(bh γ γ&&bj γ c)=true:=by simp[hc]
 rw[this]
theorem OP{fr':Fr}{l q γ c N:Nat}{fr0:Fr}{ps:List Tmp}{asg body:Code}{up u:List AB}{loc lc:AB}(h:St.get ⟨up,loc⟩ l q=some (γ,.loop fr0 ps asg body N .busy))(hu:DJ up=some (u,lc))(hl:l<up.length)(hc:γ<c) :
  V6 fr l q γ (some (.normal,⟨c,fr',⟨up,loc⟩⟩))=some (.bool true,⟨c,fr,St.put ⟨u.map (A6 ⟨up,loc⟩),A6 ⟨up,loc⟩ lc⟩ l q γ (.loop fr0 ps asg body N .ready)⟩):=by
 unfold V6
 simp only[h,hu]
 have:(bh γ γ&&bj l up.length&&bj γ c)=true:=by simp[hc,hl]
 rw[this]
 rfl
end
section
def tkU(z:Option XS)(d:Option Tmp)(st:XS):Option V->Option XS
 |some r=>Bool.rec z (C4 d st (some r)) (WI r)
 |none=>z
@[simp] theorem A1B(z:Option XS)(d:Option Tmp)(st:XS)(k:ck)(n:Int):tkU z d st (some (.int k n))=C4 d st (some (.int k n)):=rfl
@[simp] theorem AWI(z:Option XS)(d:Option Tmp)(st:XS)(b:Bool):tkU z d st (some (.bool b))=C4 d st (some (.bool b)):=rfl
@[simp] theorem APN(l k g n:Nat):weakC (.vec l k g n)=.vec l k g n:=rfl
@[simp] theorem APO(st:XS)(v:V):OM st [] v=v:=rfl
@[simp] theorem APP(k:Nat)(ks:List Nat)(st:XS)(v:V)(h:¬k<10000):OM st (k::ks) v=OM st ks (BH (k / 10000-1) (k % 10000) (st.s.get (k / 10000-1) (k % 10000)) 3 v):=by
 have:bj k 10000=false:=by
  cases hb:bj k 10000 with
  |false=>rfl
  |true=>exact absurd (by simpa [bw]using hb) h
 simp only[OM,this,cond_false]
@[simp] theorem A1C{P:bt}{A:Ann}{kn:CF0}{n k:Nat}{us:List Nat}(d:Option Tmp)(st:XS)(f:cj)(args:List V):NS (cfU (k::us) (BU P A kn n)) d st f args=tkU (NS (BU P A kn n) d st f args) d st (EC P kn (AF P A kn n) f (args.map (OM st (k::us)))):=by
 show(match fS (BU P A kn n).cf (BU P A kn n).c0 (k :: us) f args st with
  |some (r,st')=>some (⟨st'.c,putD st'.fr d true r,st'.s⟩:XS)
  | none=>none)=_
 unfold fS;have e:(BU P A kn n).c0=EC P kn (AF P A kn n):=rfl;rw[e];cases EC P kn (AF P A kn n) f (args.map (OM st (k::us)))with
 |none=>rfl
 |some r=>
  show(match(Bool.rec ((BU P A kn n).cf f args st) (some (r,st)) (WI r):Option (V×XS))with
   |some (r,st')=>some (⟨st'.c,putD st'.fr d true r,st'.s⟩:XS)
   | none=>none)=(Bool.rec (NS (BU P A kn n) d st f args) (C4 d st (some r)) (WI r):Option XS)
  cases WI r<;>rfl
@[simp] theorem ALB(k:ck)(n:Int):bK (.int k n)=true:=rfl
@[simp] theorem AGR(b:Bool):bK (.bool b)=true:=rfl
end
theorem lT{j k:Nat}(h:j≠k)(γ γ2:Nat)(T T2:bp)(es fs:List (List V)):kl j (kl k [] ((pl j γ T es++pl k γ2 T2 fs).get k)) ((pl j γ T es++pl k γ2 T2 fs).get j)=pl j γ T es++pl k γ2 T2 fs:=by cases es<;>cases fs<;>simp[h,h.symm]
theorem UD{j k:Nat}(h:j≠k)(γ γ2:Nat)(T T2:bp)(es fs:List (List V)):(pl j γ T es++pl k γ2 T2 fs).get k=(pl k γ2 T2 fs).get k:=by cases es<;>cases fs<;>simp[h.symm]
theorem lU{j k:Nat}(h:j≠k)(γ γ2:Nat)(T T2:bp)(es fs:List (List V))(M:AB):kl j M ((pl j γ T es++pl k γ2 T2 fs).get j)=pl j γ T es++M:=by cases es<;>cases fs<;>simp[h,h.symm]
theorem bV{j k:Nat}(h:j≠k)(γ:Nat)(T:bp)(es:List (List V))(x:Nat×AY):(pl j γ T es++[(k,x)]).get k=some x:=by cases es<;>simp[h.symm]
theorem lV{j k:Nat}(h:j≠k)(γ:Nat)(T:bp)(es:List (List V))(x:Nat×AY)(M:AB):kl j M ((pl j γ T es++[(k,x)]).get j)=pl j γ T es++M:=by cases es<;>simp[h,h.symm]
theorem UE{j k:Nat}(h:j≠k)(γ γ2:Nat)(T T2:bp)(es fs:List (List V)):(pl j γ T es++pl k γ2 T2 fs).get j=(pl j γ T es).get j:=by cases es<;>cases fs<;>simp[h]
theorem bW{j k m:Nat}(h1:j≠m)(h2:k≠m)(γ γ2:Nat)(T T2:bp)(es fs:List (List V)):(pl j γ T es++pl k γ2 T2 fs).get m=none:=by cases es<;>cases fs<;>simp[h1.symm,h2.symm]
theorem lW{j:Nat}(γ:Nat)(T:bp)(es:List (List V))(M:AB):kl j M ((pl j γ T es).get j)=pl j γ T es++M:=by cases es<;>simp
theorem gJ{t:St}{T:bp}{es:List (List V)}(h:∀e∈es,∀v∈e,BM t v=some v):BT t (.vec T es)=.vec T es:=by
 have:BN t (.vec T es)=some (.vec T es):=by unfold BN;simp only;rw[IX fun e he=>IX fun v hv=>h e he v hv]
 unfold BT;rw[this]
@[simp] theorem ALC{P:bt}{A:Ann}{kn:CF0}{n N l:Nat}{st:XS}:AF P A kn (n+1) N (.label l) st=some (.normal,st):=rfl
theorem JN{α:Type}(p:α->Bool):∀(l:List α),(!l.any fun x=>!p x)=l.all p
 |[]=>rfl
 |x::l=>by have:=JN p l;simp only[List.any_cons,List.all_cons,Bool.not_or,Bool.not_not,<-this]
theorem H7{p q:Prop}[Decidable p][Decidable q](h:p↔¬q):decide p=!decide q:=by
 by_cases hq:q
 ·simp[hq,mt h.1]
 ·simp[hq,h.2 hq]
section
variable {P:bt}{fr:Fr}{s:St}
def pt(k γ:Nat):List (List V)->V
 |[]=>.list true []
 |e::es=>.vec 0 k γ (e::es).length
@[simp] theorem A57(k γ:Nat):pt k γ []=.list true []:=rfl
@[simp] theorem A1D(k γ:Nat)(e:List V)(es:List (List V)):pt k γ (e::es)=.vec 0 k γ (es.length+1):=rfl
theorem sX{T:bp}(f:Nat)(loc:AB)(k γ:Nat)(es:List (List V))(hl:AB.get loc k=(pl k γ T es).get k):AV ⟨[],loc⟩ (f+1) (pt k γ es)=some (.list false es):=by
 cases es with
 |nil=>rfl
 |cons e es=>exact J8 (T:=T) f loc k γ (e::es) hl
@[simp] theorem ALD(f k γ:Nat)(T:bp)(es:List (List V)):AV ⟨[],pl k γ T es⟩ (f+1) (pt k γ es)=some (.list false es):=sX (T:=T) f _ k γ es rfl
@[simp] theorem APQ(k γ:Nat)(es:List (List V)):A7 (pt k γ es)=[pt k γ es]:=by cases es<;>rfl
@[simp] theorem APR(k γ:Nat)(es:List (List V)):BC (pt k γ es)=true:=by cases es<;>rfl
end
@[simp] theorem A1E(st:XS):bP [] st=st:=rfl
@[simp] theorem AWJ(k:Nat)(ks:List Nat)(c:Nat)(fr:Fr)(up:List AB)(loc:AB)(h:k<1000):bP (k::ks) ⟨c,fr,⟨up,loc⟩⟩=bP ks ⟨c,LO up.length k (loc.get k) fr,⟨up,FY up.length k (loc.get k) loc⟩⟩:=by
 have h1:bj k 1000=true:=by simpa [bw]using h
 show bP ks (oM k ⟨c,fr,⟨up,loc⟩⟩)=_;unfold oM;rw[h1];rfl
@[simp] theorem AWK(k:Nat)(ks:List Nat)(c:Nat)(fr:Fr)(up:List AB)(loc:AB)(h:2000000000000000<=k)(h':k<3000000000000000):bP (k::ks) ⟨c,fr,⟨up,loc⟩⟩=bP ks ⟨c,fr,⟨up,XY (k % 1000) loc⟩⟩:=by
 have h1:bj k 1000=false:=by rw[<-bf,bw];omega
 have h2:bj k 1000000000000000=false:=by rw[<-bf,bw];omega
 have h3:bj k 2000000000000000=false:=by rw[<-bf,bw];omega
 show bP ks (oM k ⟨c,fr,⟨up,loc⟩⟩)=_;unfold oM;rw[h1,h2,h3,show bj k 3000000000000000=true by simpa [bw]using h'];rfl
@[simp] theorem A1F(k:Nat):XY k []=[]:=rfl
@[simp] theorem AWL(k j g:Nat)(r:AY)(L:AB):XY k ((j,g,r)::L)=(j,g,if j=k then uF r else r)::XY k L:=rfl
@[simp] theorem A1G(T:bp)(es:List (List V)):uF (.vec T es)=.vec T (es.map (bn cV)):=rfl
@[simp] theorem A1H(cs:List V):uF (.box cs)=.box (cs.map cV):=rfl
@[simp] theorem A58(k γ:Nat)(T:bp)(es:List (List V)):XY k (pl k γ T es)=pl k γ T (es.map (bn cV)):=by
 cases es with
 |nil=>rfl
 |cons e es=>simp[pl,XY]
@[simp] theorem AD5{k j:Nat}(h:j≠k)(γ:Nat)(T:bp)(es:List (List V)):XY k (pl j γ T es)=pl j γ T es:=by
 cases es with
 |nil=>rfl
 |cons e es=>simp[pl,XY,h]
@[simp] theorem ALE(es:List (List V)):cV (sl es)=.list false es:=by cases es<;>rfl
@[simp] theorem A1I:cV .nil=.list false []:=rfl
@[simp] theorem AWM(b:Bool)(es:List (List V)):cV (.list b es)=.list b es:=rfl
section
variable {l k:Nat}{o:Option (Nat×AY)}
def gtf(l k:Nat)(o:Option (Nat×AY)):Option (Bool×V)->Option (Bool×V)
 |some (c,v)=>some (c,BH l k o 3 v)
 |none=>none
@[simp] theorem AWN(c:Bool)(v:V):gtf l k o (some (c,v))=some (c,BH l k o 3 v):=rfl
@[simp] theorem AWO:gtf l k o none=none:=rfl
@[simp] theorem APS(fr:Fr)(j:Nat):EV (LO l k o fr) j=gtf l k o (EV fr j):=by
 rw[FI,FI,R1];cases fr.get j with
 |none=>rfl
 |some x=>rfl
end
@[simp] theorem A1J{k j:Nat}(h:j≠k)(r:Fr)(o:Option (Bool×V)):EV (kx k r o) j=EV r j:=by
 cases o with
 |none=>rfl
 |some x=>
  obtain⟨c,v⟩:=x
  simp[h]
end Go.Pg
