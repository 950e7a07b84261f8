/- Rows told as lists, by simp. No program in sight. -/
import Derived.Test.YtmnlpgjklibndaaGreatSx
noncomputable section
open Go renaming TypeId->br,Operand->bt,Program->cj,FuncId->ck,IntKind->cq
open Nat renaming blt->bj,blt_eq->bq,beq->bf
open List renaming map_congr_left->bw,nil_append->bx,append_nil->bz,all_eq_true->bc,replicate->bh,map_id->bn,map->bp
open Bool renaming not_eq_true->bg
set_option linter.unusedSimpArgs false
namespace Go.Pg
variable {P:cj}{l k:Nat}{o:Option (Nat×AZ)}
@[simp] theorem AU4(st:XS):U3 [] st=st:=rfl
@[simp] theorem AQN(k:Nat)(ks:List Nat)(c:Nat)(fr:Fr)(up:List AA)(loc:AA):U3 (k::ks) ⟨c,fr,⟨up,loc⟩⟩=U3 ks ⟨c,KE up.length k (loc.get k) fr,⟨up,FR up.length k (loc.get k) loc⟩⟩:=rfl
@[simp] theorem AU5:KE l k o []=[]:=rfl
@[simp] theorem AQO(j:Nat)(c:Bool)(v:V)(fr:Fr):KE l k o ((j,c,v)::fr)=(j,c,BH l k o 3 v)::KE l k o fr:=rfl
@[simp] theorem AU6:FR l k o []=[]:=rfl
@[simp] theorem AQP(j g:Nat)(r:AZ)(L:AA):FR l k o ((j,g,r)::L)=if j=k then FR l k o L else(j,g,JT l k o r)::FR l k o L:=rfl
theorem U4:∀(f g:Nat) (v:V),AK g v=true->BH l k o f v=v
 |0,_,_,_=>rfl
 |f+1,0,v,h=>by cases h
 |f+1,g+1,v,h=>by
  have lst:∀cs:List V,cs.all (AK g)=true->cs.map (BH l k o f)=cs:=by
   intro cs h;conv=>rhs;rw[<-bn cs]
   exact bw fun x hx=>U4 f g x (bc.1 h x hx)
  cases v with
  |vec _ _ _ _=>cases h
  |ptr _ _ _ _=>cases h
  |agg cs=>simp only[BH];rw[lst cs h]
  |tup cs=>simp only[BH];rw[lst cs h]
  |_=>rfl
theorem rR{cs:List V}(h:cs.all (AK 9)=true)(f:Nat):cs.map (BH l k o f)=cs:=by
 conv=>rhs;rw[<-bn cs]
 exact bw fun x hx=>U4 f 9 x (bc.1 h x hx)
theorem yO{es:List (List V)}(h:(es.all fun e=>e.all (AK 9))=true)(f:Nat):es.map (bp (BH l k o f))=es:=by
 conv=>rhs;rw[<-bn es]
 exact bw fun x hx=>rR (bc.1 h x hx) f
@[simp] theorem AU7{j:Nat}(h:j≠k)(γ:Nat)(T:br)(es:List (List V))(L:AA)(hc:(es.all fun e=>e.all (AK 9))=true):FR l k o (pl j γ T es++L)=pl j γ T es++FR l k o L:=by
 cases es with
 |nil=>rfl
 |cons e es=>
  have q:=yO (l:=l) (k:=k) (o:=o) hc 3
  simp only[List.map_cons]at q
  simp[h,JT,q]
@[simp] theorem AU8(cs:List V):JT l k o (.box cs)=.box (cs.map (BH l k o 3)):=rfl
@[simp] theorem AU9(T:br)(es:List (List V)):JT l k o (.vec T es)=.vec T (es.map (bp (BH l k o 3))):=rfl
@[simp] theorem AVA(es:List (V×V)):JT l k o (.map es)=.map es:=rfl
@[simp] theorem AQQ:JT l k o .dead=.dead:=rfl
@[simp] theorem AQR(fr:List (Nat×Bool×V))(ps:List Tmp)(asg body:Code)(N:Nat)(st:LS):JT l k o (.loop fr ps asg body N st)=.loop fr ps asg body N st:=rfl
@[simp] theorem AVB(f:Nat)(i:cq)(n:Int):BH l k o f (.int i n)=.int i n:=by cases f<;>rfl
@[simp] theorem AQS(f:Nat)(b:Bool):BH l k o f (.bool b)=.bool b:=by cases f<;>rfl
@[simp] theorem AVC(f:Nat)(v:Value):BH l k o f (.raw v)=.raw v:=by cases f<;>rfl
@[simp] theorem AQT(f:Nat)(b:Bool)(es:List (List V)):BH l k o f (.list b es)=.list b es:=by cases f<;>rfl
@[simp] theorem A2K(f:Nat)(es:List (List V)):BH l k o f (sl es)=sl es:=by cases f<;>cases es<;>rfl
@[simp] theorem AVD(f:Nat)(cs:List V):BH l k o f (.ref cs)=.ref cs:=by cases f<;>rfl
theorem yP(f a b c d:Nat)(h:¬(a=l/\b=k)):BH l k o f (.ptr a b c d)=.ptr a b c d:=by
 cases f with
 |zero=>rfl
 |succ f=>
  simp only[BH]
  split
  ·rw[if_neg fun hh=>h ⟨hh.1,hh.2.1⟩]
  ·rfl
@[simp] theorem AQU(f a b c d:Nat)(h:¬b=k):BH l k o f (.ptr a b c d)=.ptr a b c d:=yP f a b c d fun hh=>h hh.2
@[simp] theorem AQV(γ:Nat)(T:br)(es:List (List V))(f a b c d:Nat):BH l k (some (γ,.vec T es)) f (.ptr a b c d)=.ptr a b c d:=by cases f<;>rfl
@[simp] theorem AQW(γ:Nat)(cs:List V)(f a b g off:Nat):BH l k (some (γ,.box cs)) (f+1) (.ptr a b g off)=if a=l/\b=k/\g=γ then .ref ((cs.map L6).drop off) else .ptr a b g off:=rfl
@[simp] theorem A2L(q:cq)(n:Int):L6 (.int q n)=.int q n:=rfl
@[simp] theorem AVE(b:Bool):L6 (.bool b)=.bool b:=rfl
@[simp] theorem AVF(b:Bool)(es:List (List V)):L6 (.list b es)=.list b es:=rfl
@[simp] theorem A7R(es:List (List V)):L6 (sl es)=sl es:=by cases es<;>rfl
@[simp] theorem A2M:L6 .nil=.nil:=rfl
@[simp] theorem A7S(a b c:Nat):L6 (.mp a b c)=.any:=rfl
@[simp] theorem A2N:L6 .any=.any:=rfl
@[simp] theorem rS(f:Nat):AK (f+1) .any=true:=rfl
@[simp] theorem AVG:weakV .any=.any:=rfl
@[simp] theorem AVH:weakC .any=.any:=rfl
@[simp] theorem AVI(f:Nat):BH l k o f .any=.any:=by cases f<;>rfl
@[simp] theorem A2O(f a b c:Nat):BH l k o f (.mp a b c)=.mp a b c:=by cases f<;>rfl
@[simp] theorem AVJ(f a b c:Nat):BH l k o f (.yld a b c)=.yld a b c:=by cases f<;>rfl
@[simp] theorem A2P(f:Nat)(g:ck)(xs ys:List V):BH l k o f (.fn g xs ys)=.fn g xs ys:=by cases f<;>rfl
@[simp] theorem AVK(f:Nat):BH l k o f .nil=.nil:=by cases f<;>rfl
@[simp] theorem AVL(f:Nat)(cs:List V):BH l k o (f+1) (.agg cs)=.agg (cs.map (BH l k o f)):=rfl
@[simp] theorem AVM(f:Nat)(cs:List V):BH l k o (f+1) (.tup cs)=.tup (cs.map (BH l k o f)):=rfl
@[simp] theorem AVN(γ:Nat)(T:br)(es:List (List V))(f l' k' g m:Nat):BH l k (some (γ,.vec T es)) (f+1) (.vec l' k' g m)=if l'=l/\k'=k/\g=γ/\m=es.length then .list false es else .vec l' k' g m:=rfl
@[simp] theorem A2Q(γ:Nat)(T:br)(es:List (List V))(f:Nat):BH 0 k ((pl k γ T es).get k) (f+1) (pv k γ es)=sl es:=by
 cases es with
 |nil=>rfl
 |cons e es=>simp[pv,sl]
@[simp] theorem AVO(γ:Nat)(T:br)(es:List (List V))(f:Nat):BH 0 k (some (γ,.vec T es)) (f+1) (pv k γ es)=sl es:=by
 cases es with
 |nil=>rfl
 |cons e es=>simp[pv,sl]
@[simp] theorem AVP{j:Nat}(h:j≠k)(γ:Nat)(es:List (List V))(f:Nat):BH l k o f (pv j γ es)=pv j γ es:=by
 cases es with
 |nil=>cases f<;>rfl
 |cons e es=>
  cases f with
  |zero=>rfl
  |succ f=>
   simp only[pv,BH]
   split
   ·rw[if_neg (fun hh=>h hh.2.1)]
   ·rfl
def oe2(d c:Nat)(fr:Fr)(s:St):Option Mk->Option XS->Option XS
 |some r,_=>some ⟨c+1,(d,true,r.val s.up.length d c)::fr,s.put s.up.length d c r.res⟩
 |none,z=>z
@[simp] theorem A7T(d c:Nat)(fr:Fr)(s:St)(T:br)(es:List (List V))(z:Option XS):oe2 d c fr s (some ⟨.vec T es,none⟩) z=some ⟨c+1,(d,true,.vec s.up.length d c es.length)::fr,s.put s.up.length d c (.vec T es)⟩:=rfl
def oe1(d c:Nat)(fr:Fr)(s:St)(F:List V->Option Mk):Option (List V)->Option XS->Option XS
 |some vs,z=>oe2 d c fr s (F vs) z
 |none,z=>z
@[simp] theorem AEM(d c:Nat)(fr:Fr)(s:St)(F:List V->Option Mk)(vs:List V)(z:Option XS):oe1 d c fr s F (some vs) z=oe2 d c fr s (F vs) z:=rfl
variable {A:Ann}{kn:CF0}{n:Nat}{fr:Fr}{s:St}
@[simp] theorem A2R{α:Type}(r:α)(z:Option α):orM (some r) z=some r:=rfl
@[simp] theorem A2S{α:Type}(z:Option α):orM none z=z:=rfl
@[simp] theorem A7U{f:ck}(hS:IZ P f=true)(d c:Nat)(args:List bt):stepK P (BS P A kn n) (some d) (.call true none (.func f) args) ⟨c,fr,s⟩ =
  oe1 d c fr s (fun vs=>orM (EO P (AG P A kn n) f (vs.map weakV)) (pU P f (vs.map weakV))) (EE (BV fr) args) (SC (BS P A kn n).cf (BS P A kn n).cy (some d) (.func f) args ⟨c,fr,s⟩):=by
 show P4 (BS P A kn n) true (some d) (.func f) args ⟨c,fr,s⟩=_
 unfold P4
 show(match EV (BS P A kn n).co (some d) (.func f) args ⟨c,fr,s⟩ with|some st'=>some st'|none=>_)=_
 unfold EV
 have hf:BV fr (.func f)=some (.fn f [] []):=rfl
 simp only[hf]
 cases EE (BV fr) args with
 |none=>rfl
 |some vs=>
  simp only[AEM,bx,bz]
  have:(BS P A kn n).co f (vs.map weakV) d=orM (EO P (AG P A kn n) f (vs.map weakV)) (pU P f (vs.map weakV)):=by show IM P kn (fun _ _ _=>none) (AG P A kn n) f _ d=_;unfold IM;simp only[hS]
  rw[this]
  cases orM (EO P (AG P A kn n) f (vs.map weakV)) (pU P f (vs.map weakV))with
  |none=>rfl
  |some r=>rfl
def of2(d c:Nat)(fr:Fr)(s:St):Option Mk->Option XS
 |some r=>some ⟨c+1,(d,true,r.val s.up.length d c)::fr,s.put s.up.length d c r.res⟩
 |none=>none
@[simp] theorem A7V(d c:Nat)(fr:Fr)(s:St)(T:br)(es:List (List V)):of2 d c fr s (some ⟨.vec T es,none⟩)=some ⟨c+1,(d,true,.vec s.up.length d c es.length)::fr,s.put s.up.length d c (.vec T es)⟩:=rfl
def of1(d c:Nat)(fr:Fr)(s:St)(F:List V->Option Mk):Option (List V)->Option XS
 |some vs=>of2 d c fr s (F vs)
 |none=>none
@[simp] theorem AEN(d c:Nat)(fr:Fr)(s:St)(F:List V->Option Mk)(vs:List V):of1 d c fr s F (some vs)=of2 d c fr s (F vs):=rfl
@[simp] theorem A2T{f:ck}(hS:IZ P f=true)(d c:Nat)(args:List bt):CT P (BS P A kn n) (some d) (.call true none (.func f) args) ⟨c,fr,s⟩ =
  nw (of1 d c fr s (fun vs=>orM (EO P (AG P A kn n) f (vs.map weakV)) (pU P f (vs.map weakV))) (EE (BV fr) args)):=by
 show noW (EV (BS P A kn n).co (some d) (.func f) args ⟨c,fr,s⟩)=_
 rw[E6]
 congr 1
 unfold EV
 have hf:BV fr (.func f)=some (.fn f [] []):=rfl
 simp only[hf]
 cases EE (BV fr) args with
 |none=>rfl
 |some vs=>
  simp only[AEN,bx,bz]
  have:(BS P A kn n).co f (vs.map weakV) d=orM (EO P (AG P A kn n) f (vs.map weakV)) (pU P f (vs.map weakV)):=by show IM P kn (fun _ _ _=>none) (AG P A kn n) f _ d=_;unfold IM;simp only[hS]
  rw[this]
  cases orM (EO P (AG P A kn n) f (vs.map weakV)) (pU P f (vs.map weakV))with
  |none=>rfl
  |some r=>rfl
def AQX(P:cj)(fn:Func)(r:Option (Exit×XS)):Option Mk:=match r with
 |some (.ret,st)=>lJ P fn st
 |some (.normal,st)=>lJ P fn st
 |_=>none
@[simp] theorem A2U(fn:Func)(st:XS):AQX P fn (some (.ret,st))=lJ P fn st:=rfl
@[simp] theorem AL0(fn:Func)(st:XS):AQX P fn (some (.normal,st))=lJ P fn st:=rfl
theorem cY{f:ck}{fn:Func}{c:Code}{args:List V}{rec:FU}(hf:P.funcs[f]? = some fn)(hb:fn.body=some c)(hs:Nat.ble args.length fn.ntmps=true)(hcl:args.all (AK 9)=true) :
  EO P rec f args=AQX P fn (rec fn.ntmps c ⟨0,AH 0 args,⟨[],[]⟩⟩):=by
 unfold EO UZ lI
 rw[hcl,hf]
 simp only[hb,hs]
 generalize rec fn.ntmps c ⟨0,AH 0 args,⟨[],[]⟩⟩=q
 cases q with
 |none=>rfl
 |some q=>
  obtain⟨e,st⟩:=q
  cases e<;>rfl
def rO(P:cj)(fn:Func)(st:XS)(v:Option V):Option Mk:=match v with
 | some (.vec l k γ n)=>Bool.rec none (match st.s.loc.get k with
  |some (γ',.vec T es)=>Bool.rec none (some ⟨.vec T es,none⟩) (bf γ' γ&&bf n es.length&&es.all fun e=>e.all (AK 9))
  | _=>none) (bf l st.s.up.length)
 | some v=>Bool.rec none (match fn.resultTypes.toList with
  |[R]=>match BK P R with
   |some (none,T)=>some ⟨.vec T [],none⟩
   |_=>none
  | _=>none) (VD v)
 |none=>none
theorem vA(fn:Func)(st:XS):lJ P fn st=rO P fn st (FT P fn.results.toList st.fr st.s):=rfl
theorem AL1{fn:Func}{R T:br}(h1:fn.resultTypes.toList=[R])(h2:BK P R=some (none,T))(c:Nat)(fr:Fr)(loc:AA)(k γ:Nat)(es:List (List V))(hl:loc.get k=(pl k γ T es).get k)(hc:(es.all fun e=>e.all (AK 9))=true):rO P fn ⟨c,fr,⟨[],loc⟩⟩ (some (pv k γ es))=some ⟨.vec T es,none⟩:=by
 cases es with
 |nil=>
  show(Bool.rec none (match fn.resultTypes.toList with
   |[R]=>match BK P R with
    |some (none,T)=>some ⟨.vec T [],none⟩
    |_=>none
   | _=>none) true:Option Mk)=_
  rw[h1]
  simp only[h2]
 |cons e es=>
  have hl:loc.get k=some (γ,.vec T (e::es)):=by rw[hl];simp
  simp only[pv,rO,hl,hc,List.length_nil,Bool.and_true]
  simp
end Go.Pg
namespace Go.Pg
section
@[simp] theorem unsnoc_snoc{α:Type}(x:α):∀(l:List α),CV (l++[x])=some (l,x)
 |[]=>rfl
 |[y]=>rfl
 |y::z::l=>by have:=unsnoc_snoc x (z::l);simp only[List.cons_append]at this|-;rw[U5,this];rfl
end
section
variable {P:cj}{E:XE}{d:Option Tmp}{c:Nat}{fr:Fr}{s:St}{r:bt->Option V}
@[simp] theorem AQY(T:br)(x i:bt)(ok:Bool):IU P (mL (.lookup T x i ok)) s r=o2 (fun a b=>CM P s T a b ok) (r x) (r i):=by show((r x).bind fun a=>(r i).bind fun b=>CM P s T a b ok)=_;cases r x<;>cases r i<;>rfl
def up1(c:Nat)(fr:Fr)(s:St):Option (Nat×Nat×Nat×List (V×V))->Option XS
 |some (l,q,γ,es)=>Bool.rec none (some ⟨c,fr,s.put l q γ (.map es)⟩) (bj γ c)
 |none=>none
def up3(P:cj)(T:br)(c:Nat)(fr:Fr)(s:St):Option V->Option V->Option V->Option XS
 |some m,some i,some v=>up1 c fr s (IE P s T m i v)
 |_,_,_=>none
@[simp] theorem A2V(T:br)(m i v:V):up3 P T c fr s (some m) (some i) (some v)=up1 c fr s (IE P s T m i v):=rfl
theorem Y8(l q γ:Nat)(es:List (V×V))(h:γ<c):up1 c fr s (some (l,q,γ,es))=some ⟨c,fr,s.put l q γ (.map es)⟩:=by
 have:bj γ c=true:=by simpa [bq]using h
 show(Bool.rec none (some ⟨c,fr,s.put l q γ (.map es)⟩) (bj γ c):Option XS)=_;rw[this]
@[simp] theorem AVQ(T:br)(x i y:bt):stepK P E none (.upd T x i y) ⟨c,fr,s⟩=up3 P T c fr s (BV fr x) (BV fr i) (BV fr y):=by show yC P none T x i y ⟨c,fr,s⟩=_;unfold yC up3 up1;simp only;cases BV fr x<;>cases BV fr i<;>cases BV fr y<;>simp only;split<;>simp_all
@[simp] theorem A2W(x:bt):IU P (mL (.nilCheck x)) s r=o1 M6 (r x):=by show(r x).bind M6=_;cases r x<;>rfl
@[simp] theorem AVR(l k g o:Nat):M6 (.ptr l k g o)=some (.ptr l k g o):=rfl
@[simp] theorem AVS(cs:List V):M6 (.ref cs)=some (.ref cs):=rfl
@[simp] theorem A2X(x:bt)(f:bt->Option V):F5 P (.oth (.nilCheck x)) f=[]:=rfl
@[simp] theorem A2Y(T:br)(x i:bt)(ok:Bool)(f:bt->Option V):F5 P (.oth (.lookup T x i ok)) f=BU (f x):=rfl
@[simp] theorem AQZ(l k g:Nat):BT s (.mp l k g)=some (.mp l k g):=rfl
theorem H4{α:Type}{f:α->Option α}:∀{l:List α},(∀x∈l,f x=some x)->GP f l=some l
 |[],_=>rfl
 |x::l,h=>by have ih:=H4 (f:=f) (l:=l) fun y hy=>h y (by simp[hy]);simp only[GP,h x (by simp),ih]
theorem SO:∀(l:List AA) (b:AA),CV (l++[b])=some (l,b)
 |[],b=>by simp
 |[a],b=>by simp
 |a::a2::l,b=>by have:=SO (a2::l) b;simp only[List.cons_append]at this|-;simp[this]
@[simp] theorem AVT(a:AA)(l:List AA)(b:AA):CV (a::(l++[b]))=some (a::l,b):=SO (a::l) b
@[simp] theorem AQ0(l k g:Nat):BU (some (.mp l k g))=[(l,k)]:=rfl
@[simp] theorem AVU(d:Nat):stepK P E (some d) (.mkM none) ⟨c,fr,s⟩=some ⟨c+1,(d,true,.mp s.up.length d c)::fr,s.put s.up.length d c (.map [])⟩:=rfl
end
section
variable {P:cj}{s:St}{r:bt->Option V}
@[simp] theorem AQ1(T:br)(x h:bt):IU P (mL (.slice T x none (some h) none)) s r=o2 (fun a b=>CC P s T a none (some b) none) (r x) (r h):=by show((r x).bind fun a=>((some none:Option (Option V))).bind fun l=>((r h).map some).bind fun h=>((some none:Option (Option V))).bind fun m=>CC P s T a l h m)=_;cases r x<;>cases r h<;>rfl
theorem rT{T e:br}{es:List (List V)}{h:Int}{b:Bool}(hT:BK P T=some (none,e))(hc:0<P.cellsOf e)(h1:0<=h)(h2:h<=es.length):CC P s T (.list b es) none (some (.int .i64 h)) none=some (.list false (es.take h.toNat)):=by simp only[CC,hT];rw[if_pos ⟨h1,h2,hc⟩]
end
section
variable {P:cj}{E:XE}{c:Nat}{fr:Fr}{s:St}{r:bt->Option V}
@[simp] theorem AQ2(T:br)(x l:bt):IU P (mL (.slice T x (some l) none none)) s r=o2 (fun a b=>CC P s T a (some b) none none) (r x) (r l):=by show((r x).bind fun a=>((r l).map some).bind fun l=>(some none).bind fun h=>(some none).bind fun m=>CC P s T a l h m)=_;cases r x<;>cases r l<;>rfl
theorem yQ{T e U:br}{es:List (List V)}{l k g n i:Nat}(hT:BK P T=some (none,e))(hg:s.get l k=some (g,.vec U es))(ha:es.all (fun x=>x.length==P.cellsOf e)=true)(hn:es≠[])(hi:i<=n)(hc:0<P.cellsOf e) :
  CC P s T (.vec l k g n) (some (.int .i64 (i:Int))) none none=some (.vtl l k g i (n-i)):=by
 unfold CC
 simp only[hT,hg]
 rw[if_pos ⟨trivial,ha,hn,by omega,by omega,hc⟩]
 simp
theorem yR{T e:br}{l k g n h:Nat}(hT:BK P T=some (none,e))(hh:h<=n)(hc:0<P.cellsOf e):CC P s T (.vec l k g n) none (some (.int .i64 (h:Int))) none=some (.vec l k g h):=by unfold CC;simp only[hT];rw[if_pos ⟨by omega,by omega,hc⟩];simp
theorem yS{T e:br}{x:bt}{es:List (List V)}{z:List V}{l q γ i n:Nat}(hT:BK P T=some (none,e))(hx:BV fr x=some (.vtl l q γ i n))(hg:s.get l q=some (γ,.vec e es))(hz:BZ P e=some z)(hn:i+n<=es.length)(ha:es.all (fun y=>y.length==z.length)=true)(hc:γ<c) :
  stepK P E none (.clr [x] [T]) ⟨c,fr,s⟩=some ⟨c,fr,s.put l q γ (.vec e (es.take i++bh n z++es.drop (i+n)))⟩:=by
 show TZ P none [x] [T] ⟨c,fr,s⟩=_
 have hb:(bf γ γ&&bf e e&&Nat.ble (i+n) es.length&&es.all (fun y=>y.length==z.length)&&bj γ c)=true:=by rw[ha];simp[bq,hn,hc,Nat.beq_eq]
 unfold TZ
 simp only[hT,hx,hg,hz,hb]
end
section
variable {P:cj}{fr:Fr}{s:St}
@[simp] theorem A7X(e d c:Nat)(ys:List (List V))(h:B8 P e 0 ys=true):zH P e d c fr s (.list true []) ys=some (⟨c+1,(d,true,.vec s.up.length d c ys.length)::fr,s.put s.up.length d c (.vec e ys)⟩,[(s.up.length,d),(s.up.length,d+NT)]):=by unfold zH;simp[IG,h]
@[simp] theorem A7Y(e d c l q γ n:Nat)(ys:List (List V)):zH P e d c fr s (.vec l q γ n) ys=wp [(l,q),(l,q+NT)] (apW P e d c fr s l q γ n ys (QM n ys (s.get l q))):=rfl
@[simp] theorem AQ3(l k g i o:Nat):M6 (.eptr l k g i o)=some (.eptr l k g i o):=rfl
end
section
@[simp] theorem A7Z{P:cj}{A:Ann}{kn:CF0}{n:Nat}:(BS P A kn n).cy=fJ (AG P A kn n):=rfl
end
section
variable {P:cj}{A:Ann}{kn:CF0}{n:Nat}{fr:Fr}{s:St}
def oc2(d c:Nat)(fr:Fr)(s:St):Option V->Option XS->Option XS
 |some r,_=>some ⟨c+1,(d,true,r.ren (fun _=>c) s.up.length)::fr,s.put s.up.length d c .dead⟩
 |none,z=>z
@[simp] theorem A2Z(d c:Nat)(r:V)(z:Option XS):oc2 d c fr s (some r) z=some ⟨c+1,(d,true,r.ren (fun _=>c) s.up.length)::fr,s.put s.up.length d c .dead⟩:=rfl
def oc1(d c:Nat)(fr:Fr)(s:St)(F:List V->Option V):Option (List V)->Option XS->Option XS
 |some vs,z=>oc2 d c fr s (F vs) z
 |none,z=>z
@[simp] theorem AEO(d c:Nat)(F:List V->Option V)(vs:List V)(z:Option XS):oc1 d c fr s F (some vs) z=oc2 d c fr s (F vs) z:=rfl
@[simp] theorem A20{f:ck}(hS:IZ P f=false)(d c:Nat)(args:List bt):stepK P (BS P A kn n) (some d) (.call true none (.func f) args) ⟨c,fr,s⟩ =
  oc1 d c fr s (fun vs=>EY P kn (AG P A kn n) f (vs.map weakV)) (EE (BV fr) args) (SC (BS P A kn n).cf (BS P A kn n).cy (some d) (.func f) args ⟨c,fr,s⟩):=by
 show P4 (BS P A kn n) true (some d) (.func f) args ⟨c,fr,s⟩=_
 unfold P4
 show(match EV (BS P A kn n).co (some d) (.func f) args ⟨c,fr,s⟩ with|some st'=>some st'|none=>_)=_
 unfold EV
 have hf:BV fr (.func f)=some (.fn f [] []):=rfl
 simp only[hf]
 cases EE (BV fr) args with
 |none=>rfl
 |some vs=>
  simp only[AEO,bx,bz]
  have:(BS P A kn n).co f (vs.map weakV) d=(match EY P kn (AG P A kn n) f (vs.map weakV)with|some r=>some ⟨.dead,some r⟩|none=>none):=by show IM P kn (fun _ _ _=>none) (AG P A kn n) f _ d=_;unfold IM;simp only[hS];cases EY P kn (AG P A kn n) f (vs.map weakV)<;>rfl
  rw[this]
  cases EY P kn (AG P A kn n) f (vs.map weakV)with
  |none=>rfl
  |some r=>rfl
def od2(d c:Nat)(fr:Fr)(s:St):Option V->Option XS
 |some r=>some ⟨c+1,(d,true,r.ren (fun _=>c) s.up.length)::fr,s.put s.up.length d c .dead⟩
 |none=>none
@[simp] theorem A21(d c:Nat)(r:V):od2 d c fr s (some r)=some ⟨c+1,(d,true,r.ren (fun _=>c) s.up.length)::fr,s.put s.up.length d c .dead⟩:=rfl
def od1(d c:Nat)(fr:Fr)(s:St)(F:List V->Option V):Option (List V)->Option XS
 |some vs=>od2 d c fr s (F vs)
 |none=>none
@[simp] theorem AEP(d c:Nat)(F:List V->Option V)(vs:List V):od1 d c fr s F (some vs)=od2 d c fr s (F vs):=rfl
@[simp] theorem AVV{f:ck}(hS:IZ P f=false)(d c:Nat)(args:List bt):CT P (BS P A kn n) (some d) (.call true none (.func f) args) ⟨c,fr,s⟩ =
  nw (od1 d c fr s (fun vs=>EY P kn (AG P A kn n) f (vs.map weakV)) (EE (BV fr) args)):=by
 show noW (EV (BS P A kn n).co (some d) (.func f) args ⟨c,fr,s⟩)=_
 rw[E6]
 congr 1
 unfold EV
 have hf:BV fr (.func f)=some (.fn f [] []):=rfl
 simp only[hf]
 cases EE (BV fr) args with
 |none=>rfl
 |some vs=>
  simp only[AEP,bx,bz]
  have:(BS P A kn n).co f (vs.map weakV) d=(match EY P kn (AG P A kn n) f (vs.map weakV)with|some r=>some ⟨.dead,some r⟩|none=>none):=by show IM P kn (fun _ _ _=>none) (AG P A kn n) f _ d=_;unfold IM;simp only[hS];cases EY P kn (AG P A kn n) f (vs.map weakV)<;>rfl
  rw[this]
  cases EY P kn (AG P A kn n) f (vs.map weakV)with
  |none=>rfl
  |some r=>rfl
end
section
variable {fr:Fr}{s:St}
@[simp] theorem AL2(l k g:Nat):BT s (.yld l k g)=some (.yld l k g):=rfl
@[simp] theorem AL3(f:Nat)(cs:List V):AX s (f+1) (.ref cs)=some (.ref cs):=rfl
@[simp] theorem A22{P:cj}:FT P [] fr s=some (.tup []):=rfl
@[simp] theorem AL4(f:Nat):AX s (f+1) (.tup [])=some (.tup []):=rfl
@[simp] theorem AEQ:CH .nilFunc=some (.raw .nilFunc):=rfl
@[simp] theorem AQ4(f l k g:Nat):AK (f+1) (.yld l k g)=false:=rfl
@[simp] theorem A23(l k g:Nat):weakV (.yld l k g)=.yld l k g:=rfl
@[simp] theorem A70(d c l k g:Nat):bx1 d c fr s (some (.yld l k g))=some ⟨c+1,(d,true,.ptr s.up.length d c 0)::fr,s.put s.up.length d c (.box [.yld l k g])⟩:=rfl
@[simp] theorem A71(F:List V->Option (List V))(g off:Nat)(g':Nat)(cs:List V):cp1 F g off (some (g',.box cs))=if g'=g then(F cs).map (fun ds=>V.ref (ds.drop off)) else none:=rfl
def mk4(P:cj)(d c:Nat)(fr:Fr)(s:St)(e:br)(n m:Int):Option (List V)->Option XS
 |some z=>if 0<=n/\m=n/\z.length=P.cellsOf e/\n.toNat*P.bytesOf e<=140737488355328/\n.toNat<=maxLen then some ⟨c+1,(d,true,.vec s.up.length d c n.toNat)::fr,s.put s.up.length d c (.vec e (bh n.toNat z))⟩ else none
 |none=>none
@[simp] theorem A24{P:cj}(d c:Nat)(e:br)(n m:Int)(z:List V):mk4 P d c fr s e n m (some z)=if 0<=n/\m=n/\z.length=P.cellsOf e/\n.toNat*P.bytesOf e<=140737488355328/\n.toNat<=maxLen then some ⟨c+1,(d,true,.vec s.up.length d c n.toNat)::fr,s.put s.up.length d c (.vec e (bh n.toNat z))⟩ else none:=rfl
def mk3(P:cj)(d c:Nat)(fr:Fr)(s:St):Option (Option Nat×br)->Option V->Option V->Option XS
 |some (none,e),some (.int _ n),some (.int _ m)=>mk4 P d c fr s e n m (BZ P e)
 |_,_,_=>none
@[simp] theorem AER{P:cj}(d c:Nat)(e:br)(k1 k2:cq)(n m:Int):mk3 P d c fr s (some (none,e)) (some (.int k1 n)) (some (.int k2 m))=mk4 P d c fr s e n m (BZ P e):=rfl
@[simp] theorem AVW{P:cj}{E:XE}(T:br)(d c:Nat)(x y:bt):stepK P E (some d) (.mkS T x y) ⟨c,fr,s⟩=mk3 P d c fr s (BK P T) (BV fr x) (BV fr y):=by
 show U1 P (some d) T x y ⟨c,fr,s⟩=_;unfold U1;simp only;cases BK P T with
 |none=>cases BV fr x<;>cases BV fr y<;>rfl
 |some p=>
  obtain⟨k,e⟩:=p
  cases k with
  |some k=>cases BV fr x<;>cases BV fr y<;>rfl
  |none=>
   cases BV fr x with
   |none=>rfl
   |some a=>
    cases BV fr y with
    |none=>cases a<;>rfl
    |some z=>
     cases a with
     |int k1 n=>
      cases z with
      |int k2 m=>simp only[AER];cases BZ P e<;>rfl
      |_=>rfl
     |_=>rfl
theorem yT{P:cj}{A:Ann}{kn:CF0}{n:Nat}{f:ck}{d c:Nat}{x:bt}{args:List bt}{first cap vs:List V}{r:V}(hf:BV fr x=some (.fn f first cap))(hv:EE (BV fr) args=some vs)(hS:IZ P f=false)(hr:AK 9 r=true)(h:EY P kn (AG P A kn n) f ((first++vs++cap).map weakV)=some r) :
  CT P (BS P A kn n) (some d) (.call true none x args) ⟨c,fr,s⟩=nw (ow3 d c fr s (some r)):=by
 show noW (EV (BS P A kn n).co (some d) x args ⟨c,fr,s⟩)=_
 unfold EV
 simp only[hf,hv]
 have:(BS P A kn n).co f ((first++vs++cap).map weakV) d=some ⟨.dead,some r⟩:=by show IM P kn (fun _ _ _=>none) (AG P A kn n) f _ d=_;unfold IM;simp only[hS,h]
 rw[this]
 simp only[Mk.val,BX 9 r hr,nD,E6]
@[simp] theorem A72{P:cj}(T:br)(x y:bt)(r:bt->Option V):F5 P (.mkS T x y) r=[]:=rfl
def rE(fr:Fr)(n γ:Nat)(r:Option XS):Option (Exit×XS):=match r with
 |some st=>match st.s.get n A7 with
  | some (γ',.loop _ _ _ _ _ ls)=>Bool.rec none (match ls with
   |.ready=>some (.normal,⟨st.c,fr,st.s.put n A7 γ .dead⟩)
   |.left .ret=>some (.ret,⟨st.c,fr,st.s.put n A7 γ .dead⟩)
   |.left (.exit id)=>some (.exit id,⟨st.c,fr,st.s.put n A7 γ .dead⟩)
   | _=>none) (bf γ' γ&&bj γ st.c)
  |_=>none
 |none=>none
theorem O9{P:cj}{A:Ann}{kn:CF0}{n N:Nat}{g:bt}{ps:List Tmp}{asg body:Code}{c:Nat}{up:List AA}{loc:AA}{f:ck}{first cap:List V}(h:BV fr g=some (.fn f first cap)) :
  TV (BS P A kn n).cf N g ps asg body ⟨c,fr,⟨up,loc⟩⟩=rE fr up.length c (MU (BS P A kn n) none ⟨c+1,fr,⟨up,(A7,c,.loop fr ps asg body N .ready)::loc⟩⟩ f ((first++[V.yld up.length A7 c]++cap).map weakV)):=by
 unfold TV
 simp only[h]
 unfold MU fG rE
 simp only[St.put,if_true,AA.put]
 cases (BS P A kn n).cf f ((first++[V.yld up.length A7 c]++cap).map weakV) ⟨c+1,fr,⟨up,(A7,c,.loop fr ps asg body N .ready)::loc⟩⟩ with
 |none=>rfl
 |some r=>rfl
theorem SP{n γ c:Nat}{fr' fr0:Fr}{s:St}{ps:List Tmp}{asg body:Code}{N:Nat}(h:s.get n A7=some (γ,.loop fr0 ps asg body N .ready))(hc:γ<c):rE fr n γ (some ⟨c,fr',s⟩)=some (.normal,⟨c,fr,s.put n A7 γ .dead⟩):=by
 unfold rE;simp only[h];have:(bf γ γ&&bj γ c)=true:=by simpa using hc
 rw[this]
@[simp] theorem AVX(t:St)(fr0:Fr)(ps:List Tmp)(asg body:Code)(N:Nat)(l:LS):BN t (.loop fr0 ps asg body N l)=.loop fr0 ps asg body N l:=rfl
theorem MS{rec:FU}{l q γ c N:Nat}{fr0:Fr}{ps:List Tmp}{asg body:Code}{vs:List V}(h:s.get l q=some (γ,.loop fr0 ps asg body N .ready))(hv:vs.length=ps.length)(hc:γ<c) :
  fJ rec l q γ vs ⟨c,fr,s⟩=YO fr l q γ (YP (rec N) l q γ body (rec N asg ⟨c,G6 fr0 ps vs,⟨s.up++[s.loc],[]⟩⟩)):=by
 unfold fJ
 simp only[h]
 have:(bf γ γ&&bf vs.length ps.length&&bj γ c)=true:=by simp[hv,hc]
 rw[this]
theorem EG{rec:UY}{l q γ c N:Nat}{fr0:Fr}{ps:List Tmp}{asg body body':Code}(h:s.get l q=some (γ,.loop fr0 ps asg body' N .ready))(hc:γ<c) :
  YP rec l q γ body (some (.normal,⟨c,fr,s⟩))=rec body ⟨c,fr,s.put l q γ (.loop fr0 ps asg body' N .busy)⟩:=by
 unfold YP
 simp only[h]
 have:(bf γ γ&&bj γ c)=true:=by simp[hc]
 rw[this]
theorem EH{fr':Fr}{l q γ c N:Nat}{fr0:Fr}{ps:List Tmp}{asg body:Code}{up u:List AA}{loc lc:AA}(h:St.get ⟨up,loc⟩ l q=some (γ,.loop fr0 ps asg body N .busy))(hu:CV up=some (u,lc))(hl:l<up.length)(hc:γ<c) :
  YO fr l q γ (some (.normal,⟨c,fr',⟨up,loc⟩⟩))=some (.bool true,⟨c,fr,St.put ⟨u.map (AO ⟨up,loc⟩),AO ⟨up,loc⟩ lc⟩ l q γ (.loop fr0 ps asg body N .ready)⟩):=by
 unfold YO
 simp only[h,hu]
 have:(bf γ γ&&bj l up.length&&bj γ c)=true:=by simp[hc,hl]
 rw[this]
 rfl
end
section
def tkU(z:Option XS)(d:Option Tmp)(st:XS):Option V->Option XS
 |some r=>Bool.rec z (DH d st (some r)) (Y0 r)
 |none=>z
@[simp] theorem A73(z:Option XS)(d:Option Tmp)(st:XS)(k:cq)(n:Int):tkU z d st (some (.int k n))=DH d st (some (.int k n)):=rfl
@[simp] theorem A25(z:Option XS)(d:Option Tmp)(st:XS)(b:Bool):tkU z d st (some (.bool b))=DH d st (some (.bool b)):=rfl
@[simp] theorem AVY(l k g n:Nat):weakC (.vec l k g n)=.vec l k g n:=rfl
@[simp] theorem AVZ(st:XS)(v:V):P7 st [] v=v:=rfl
@[simp] theorem AV0(k:Nat)(ks:List Nat)(st:XS)(v:V)(h:¬k<10000):P7 st (k::ks) v=P7 st ks (BH (k / 10000-1) (k % 10000) (st.s.get (k / 10000-1) (k % 10000)) 3 v):=by
 have:bj k 10000=false:=by
  cases hb:bj k 10000 with
  |false=>rfl
  |true=>exact absurd (by simpa [bq]using hb) h
 simp only[P7,this,cond_false]
@[simp] theorem A74{P:cj}{A:Ann}{kn:CF0}{n k:Nat}{us:List Nat}(d:Option Tmp)(st:XS)(f:ck)(args:List V):MU (cfU (k::us) (BS P A kn n)) d st f args=tkU (MU (BS P A kn n) d st f args) d st (EY P kn (AG P A kn n) f (args.map (P7 st (k::us)))):=by
 show(match lW (BS P A kn n).cf (BS P A kn n).c0 (k :: us) f args st with
  |some (r,st')=>some (⟨st'.c,putD st'.fr d true r,st'.s⟩:XS)
  | none=>none)=_
 unfold lW;have e:(BS P A kn n).c0=EY P kn (AG P A kn n):=rfl;rw[e];cases EY P kn (AG P A kn n) f (args.map (P7 st (k::us)))with
 |none=>rfl
 |some r=>
  show(match(Bool.rec ((BS P A kn n).cf f args st) (some (r,st)) (Y0 r):Option (V×XS))with
   |some (r,st')=>some (⟨st'.c,putD st'.fr d true r,st'.s⟩:XS)
   | none=>none)=(Bool.rec (MU (BS P A kn n) d st f args) (DH d st (some r)) (Y0 r):Option XS)
  cases Y0 r<;>rfl
@[simp] theorem AQ5(k:cq)(n:Int):fR (.int k n)=true:=rfl
@[simp] theorem AL5(b:Bool):fR (.bool b)=true:=rfl
end
theorem SQ{t:St}{T:br}{es:List (List V)}(h:∀e∈es,∀v∈e,BT t v=some v):BN t (.vec T es)=.vec T es:=by
 have:BO t (.vec T es)=some (.vec T es):=by unfold BO;simp only;rw[H4 fun e he=>H4 fun v hv=>h e he v hv]
 unfold BN;rw[this]
@[simp] theorem AQ6{P:cj}{A:Ann}{kn:CF0}{n N l:Nat}{st:XS}:AG P A kn (n+1) N (.label l) st=some (.normal,st):=rfl
theorem KG{α:Type}(p:α->Bool):∀(l:List α),(!l.any fun x=>!p x)=l.all p
 |[]=>rfl
 |x::l=>by have:=KG p l;simp only[List.any_cons,List.all_cons,Bool.not_or,Bool.not_not,<-this]
theorem JE{p q:Prop}[Decidable p][Decidable q](h:p↔¬q):decide p=!decide q:=by
 by_cases hq:q
 ·simp[hq,mt h.1]
 ·simp[hq,h.2 hq]
section
variable {P:cj}{fr:Fr}{s:St}
def pt(k γ:Nat):List (List V)->V
 |[]=>.list true []
 |e::es=>.vec 0 k γ (e::es).length
@[simp] theorem BC8(k γ:Nat):pt k γ []=.list true []:=rfl
@[simp] theorem A75(k γ:Nat)(e:List V)(es:List (List V)):pt k γ (e::es)=.vec 0 k γ (es.length+1):=rfl
theorem yU{T:br}(f:Nat)(loc:AA)(k γ:Nat)(es:List (List V))(hl:AA.get loc k=(pl k γ T es).get k):AX ⟨[],loc⟩ (f+1) (pt k γ es)=some (.list false es):=by
 cases es with
 |nil=>rfl
 |cons e es=>exact UB (T:=T) f loc k γ (e::es) hl
@[simp] theorem AQ7(f k γ:Nat)(T:br)(es:List (List V)):AX ⟨[],pl k γ T es⟩ (f+1) (pt k γ es)=some (.list false es):=yU (T:=T) f _ k γ es rfl
@[simp] theorem AV1(k γ:Nat)(es:List (List V)):A8 (pt k γ es)=[pt k γ es]:=by cases es<;>rfl
@[simp] theorem AV2(k γ:Nat)(es:List (List V)):A9 (pt k γ es)=true:=by cases es<;>rfl
end
@[simp] theorem A76(st:XS):T5 [] st=st:=rfl
@[simp] theorem A26(k:Nat)(ks:List Nat)(c:Nat)(fr:Fr)(up:List AA)(loc:AA)(h:k<1000):T5 (k::ks) ⟨c,fr,⟨up,loc⟩⟩=T5 ks ⟨c,KE up.length k (loc.get k) fr,⟨up,FR up.length k (loc.get k) loc⟩⟩:=by
 have h1:bj k 1000=true:=by simpa [bq]using h
 show T5 ks (uQ k ⟨c,fr,⟨up,loc⟩⟩)=_;unfold uQ;rw[h1];rfl
@[simp] theorem A27(k:Nat)(ks:List Nat)(c:Nat)(fr:Fr)(up:List AA)(loc:AA)(h:2000000000000000<=k)(h':k<3000000000000000):T5 (k::ks) ⟨c,fr,⟨up,loc⟩⟩=T5 ks ⟨c,fr,⟨up,aR (k % 1000) loc⟩⟩:=by
 have h1:bj k 1000=false:=by rw[<-bg,bq];omega
 have h2:bj k 1000000000000000=false:=by rw[<-bg,bq];omega
 have h3:bj k 2000000000000000=false:=by rw[<-bg,bq];omega
 show T5 ks (uQ k ⟨c,fr,⟨up,loc⟩⟩)=_;unfold uQ;rw[h1,h2,h3,show bj k 3000000000000000=true by simpa [bq]using h'];rfl
@[simp] theorem A77(k:Nat):aR k []=[]:=rfl
@[simp] theorem A28(k j g:Nat)(r:AZ)(L:AA):aR k ((j,g,r)::L)=(j,g,if j=k then wkR r else r)::aR k L:=rfl
@[simp] theorem A78(T:br)(es:List (List V)):wkR (.vec T es)=.vec T (es.map (bp cT)):=rfl
@[simp] theorem A79(cs:List V):wkR (.box cs)=.box (cs.map cT):=rfl
@[simp] theorem BC9(k γ:Nat)(T:br)(es:List (List V)):aR k (pl k γ T es)=pl k γ T (es.map (bp cT)):=by
 cases es with
 |nil=>rfl
 |cons e es=>simp[pl,aR]
@[simp] theorem AI4{k j:Nat}(h:j≠k)(γ:Nat)(T:br)(es:List (List V)):aR k (pl j γ T es)=pl j γ T es:=by
 cases es with
 |nil=>rfl
 |cons e es=>simp[pl,aR,h]
@[simp] theorem AQ8(es:List (List V)):cT (sl es)=.list false es:=by cases es<;>rfl
@[simp] theorem A8A:cT .nil=.list false []:=rfl
@[simp] theorem A29(b:Bool)(es:List (List V)):cT (.list b es)=.list b es:=rfl
section
variable {l k:Nat}{o:Option (Nat×AZ)}
def gtf(l k:Nat)(o:Option (Nat×AZ)):Option (Bool×V)->Option (Bool×V)
 |some (c,v)=>some (c,BH l k o 3 v)
 |none=>none
@[simp] theorem A3A(c:Bool)(v:V):gtf l k o (some (c,v))=some (c,BH l k o 3 v):=rfl
@[simp] theorem A3B:gtf l k o none=none:=rfl
@[simp] theorem AV3(fr:Fr)(j:Nat):E5 (KE l k o fr) j=gtf l k o (E5 fr j):=by
 rw[F9,F9,T1];cases fr.get j with
 |none=>rfl
 |some x=>rfl
end
@[simp] theorem A8B{k j:Nat}(h:j≠k)(r:Fr)(o:Option (Bool×V)):E5 (kx k r o) j=E5 r j:=by
 cases o with
 |none=>rfl
 |some x=>
  obtain⟨c,v⟩:=x
  simp[h]
end Go.Pg
