/- Rows told as lists, by simp. No program in sight. -/
import Derived.Test.YtmnlpgjklibndaaGreatSx
noncomputable section
open Go renaming TypeId->br,Operand->bt,Program->cj,FuncId->ck,IntKind->cq
open Nat renaming blt->bj,blt_eq->bq,beq->bf
open List renaming map_congr_left->bw,nil_append->bx,append_nil->bz,all_eq_true->bc,replicate->bh,map_id->bn,map->bp
open Bool renaming not_eq_true->bg
set_option linter.unusedSimpArgs false
namespace Go.Pg
variable {P:cj}{l k:Nat}{o:Option (Nat×AZ)}
@[simp] theorem ATE(st:XS):UA [] st=st:=rfl
@[simp] theorem AO1(k:Nat)(ks:List Nat)(c:Nat)(fr:Fr)(up:List AA)(loc:AA):UA (k::ks) ⟨c,fr,⟨up,loc⟩⟩=UA ks ⟨c,J0 up.length k (loc.get k) fr,⟨up,FH up.length k (loc.get k) loc⟩⟩:=rfl
@[simp] theorem ATF:J0 l k o []=[]:=rfl
@[simp] theorem AO2(j:Nat)(c:Bool)(v:V)(fr:Fr):J0 l k o ((j,c,v)::fr)=(j,c,BH l k o 3 v)::J0 l k o fr:=rfl
@[simp] theorem ATG:FH l k o []=[]:=rfl
@[simp] theorem AO3(j g:Nat)(r:AZ)(L:AA):FH l k o ((j,g,r)::L)=if j=k then FH l k o L else(j,g,JE l k o r)::FH l k o L:=rfl
theorem UB:∀(f g:Nat) (v:V),AK g v=true->BH l k o f v=v
 |0,_,_,_=>rfl
 |f+1,0,v,h=>by cases h
 |f+1,g+1,v,h=>by
  have lst:∀cs:List V,cs.all (AK g)=true->cs.map (BH l k o f)=cs:=by
   intro cs h;conv=>rhs;rw[<-bn cs]
   exact bw fun x hx=>UB f g x (bc.1 h x hx)
  cases v with
  |vec _ _ _ _=>cases h
  |ptr _ _ _ _=>cases h
  |agg cs=>simp only[BH];rw[lst cs h]
  |tup cs=>simp only[BH];rw[lst cs h]
  |_=>rfl
theorem pG{cs:List V}(h:cs.all (AK 9)=true)(f:Nat):cs.map (BH l k o f)=cs:=by
 conv=>rhs;rw[<-bn cs]
 exact bw fun x hx=>UB f 9 x (bc.1 h x hx)
theorem wL{es:List (List V)}(h:(es.all fun e=>e.all (AK 9))=true)(f:Nat):es.map (bp (BH l k o f))=es:=by
 conv=>rhs;rw[<-bn es]
 exact bw fun x hx=>pG (bc.1 h x hx) f
@[simp] theorem ATH{j:Nat}(h:j≠k)(γ:Nat)(T:br)(es:List (List V))(L:AA)(hc:(es.all fun e=>e.all (AK 9))=true):FH l k o (pl j γ T es++L)=pl j γ T es++FH l k o L:=by
 cases es with
 |nil=>rfl
 |cons e es=>
  have q:=wL (l:=l) (k:=k) (o:=o) hc 3
  simp only[List.map_cons]at q
  simp[h,JE,q]
@[simp] theorem ATI(cs:List V):JE l k o (.box cs)=.box (cs.map (BH l k o 3)):=rfl
@[simp] theorem ATJ(T:br)(es:List (List V)):JE l k o (.vec T es)=.vec T (es.map (bp (BH l k o 3))):=rfl
@[simp] theorem ATK(es:List (V×V)):JE l k o (.map es)=.map es:=rfl
@[simp] theorem AO4:JE l k o .dead=.dead:=rfl
@[simp] theorem AO5(fr:List (Nat×Bool×V))(ps:List Tmp)(asg body:Code)(N:Nat)(st:LS):JE l k o (.loop fr ps asg body N st)=.loop fr ps asg body N st:=rfl
@[simp] theorem ATL(f:Nat)(i:cq)(n:Int):BH l k o f (.int i n)=.int i n:=by cases f<;>rfl
@[simp] theorem AO6(f:Nat)(b:Bool):BH l k o f (.bool b)=.bool b:=by cases f<;>rfl
@[simp] theorem ATM(f:Nat)(v:Value):BH l k o f (.raw v)=.raw v:=by cases f<;>rfl
@[simp] theorem AO7(f:Nat)(b:Bool)(es:List (List V)):BH l k o f (.list b es)=.list b es:=by cases f<;>rfl
@[simp] theorem A0S(f:Nat)(es:List (List V)):BH l k o f (sl es)=sl es:=by cases f<;>cases es<;>rfl
@[simp] theorem ATN(f:Nat)(cs:List V):BH l k o f (.ref cs)=.ref cs:=by cases f<;>rfl
theorem wM(f a b c d:Nat)(h:¬(a=l/\b=k)):BH l k o f (.ptr a b c d)=.ptr a b c d:=by
 cases f with
 |zero=>rfl
 |succ f=>
  simp only[BH]
  split
  ·rw[if_neg fun hh=>h ⟨hh.1,hh.2.1⟩]
  ·rfl
@[simp] theorem AO8(f a b c d:Nat)(h:¬b=k):BH l k o f (.ptr a b c d)=.ptr a b c d:=wM f a b c d fun hh=>h hh.2
@[simp] theorem AO9(γ:Nat)(T:br)(es:List (List V))(f a b c d:Nat):BH l k (some (γ,.vec T es)) f (.ptr a b c d)=.ptr a b c d:=by cases f<;>rfl
@[simp] theorem APA(γ:Nat)(cs:List V)(f a b g off:Nat):BH l k (some (γ,.box cs)) (f+1) (.ptr a b g off)=if a=l/\b=k/\g=γ then .ref ((cs.map LH).drop off) else .ptr a b g off:=rfl
@[simp] theorem A0T(q:cq)(n:Int):LH (.int q n)=.int q n:=rfl
@[simp] theorem ATO(b:Bool):LH (.bool b)=.bool b:=rfl
@[simp] theorem ATP(b:Bool)(es:List (List V)):LH (.list b es)=.list b es:=rfl
@[simp] theorem A51(es:List (List V)):LH (sl es)=sl es:=by cases es<;>rfl
@[simp] theorem A0U:LH .nil=.nil:=rfl
@[simp] theorem A52(a b c:Nat):LH (.mp a b c)=.any:=rfl
@[simp] theorem A0V:LH .any=.any:=rfl
@[simp] theorem pH(f:Nat):AK (f+1) .any=true:=rfl
@[simp] theorem ATQ:weakV .any=.any:=rfl
@[simp] theorem ATR:weakC .any=.any:=rfl
@[simp] theorem ATS(f:Nat):BH l k o f .any=.any:=by cases f<;>rfl
@[simp] theorem A0W(f a b c:Nat):BH l k o f (.mp a b c)=.mp a b c:=by cases f<;>rfl
@[simp] theorem ATT(f a b c:Nat):BH l k o f (.yld a b c)=.yld a b c:=by cases f<;>rfl
@[simp] theorem A0X(f:Nat)(g:ck)(xs ys:List V):BH l k o f (.fn g xs ys)=.fn g xs ys:=by cases f<;>rfl
@[simp] theorem ATU(f:Nat):BH l k o f .nil=.nil:=by cases f<;>rfl
@[simp] theorem ATV(f:Nat)(cs:List V):BH l k o (f+1) (.agg cs)=.agg (cs.map (BH l k o f)):=rfl
@[simp] theorem ATW(f:Nat)(cs:List V):BH l k o (f+1) (.tup cs)=.tup (cs.map (BH l k o f)):=rfl
@[simp] theorem ATX(γ:Nat)(T:br)(es:List (List V))(f l' k' g m:Nat):BH l k (some (γ,.vec T es)) (f+1) (.vec l' k' g m)=if l'=l/\k'=k/\g=γ/\m=es.length then .list false es else .vec l' k' g m:=rfl
@[simp] theorem A0Y(γ:Nat)(T:br)(es:List (List V))(f:Nat):BH 0 k ((pl k γ T es).get k) (f+1) (pv k γ es)=sl es:=by
 cases es with
 |nil=>rfl
 |cons e es=>simp[pv,sl]
@[simp] theorem ATY(γ:Nat)(T:br)(es:List (List V))(f:Nat):BH 0 k (some (γ,.vec T es)) (f+1) (pv k γ es)=sl es:=by
 cases es with
 |nil=>rfl
 |cons e es=>simp[pv,sl]
@[simp] theorem ATZ{j:Nat}(h:j≠k)(γ:Nat)(es:List (List V))(f:Nat):BH l k o f (pv j γ es)=pv j γ es:=by
 cases es with
 |nil=>cases f<;>rfl
 |cons e es=>
  cases f with
  |zero=>rfl
  |succ f=>
   simp only[pv,BH]
   split
   ·rw[if_neg (fun hh=>h hh.2.1)]
   ·rfl
def oe2(d c:Nat)(fr:Fr)(s:St):Option Mk->Option XS->Option XS
 |some r,_=>some ⟨c+1,(d,true,r.val s.up.length d c)::fr,s.put s.up.length d c r.res⟩
 |none,z=>z
@[simp] theorem A53(d c:Nat)(fr:Fr)(s:St)(T:br)(es:List (List V))(z:Option XS):oe2 d c fr s (some ⟨.vec T es,none⟩) z=some ⟨c+1,(d,true,.vec s.up.length d c es.length)::fr,s.put s.up.length d c (.vec T es)⟩:=rfl
def oe1(d c:Nat)(fr:Fr)(s:St)(F:List V->Option Mk):Option (List V)->Option XS->Option XS
 |some vs,z=>oe2 d c fr s (F vs) z
 |none,z=>z
@[simp] theorem AC5(d c:Nat)(fr:Fr)(s:St)(F:List V->Option Mk)(vs:List V)(z:Option XS):oe1 d c fr s F (some vs) z=oe2 d c fr s (F vs) z:=rfl
variable {A:Ann}{kn:CF0}{n:Nat}{fr:Fr}{s:St}
@[simp] theorem A0Z{α:Type}(r:α)(z:Option α):orM (some r) z=some r:=rfl
@[simp] theorem A00{α:Type}(z:Option α):orM none z=z:=rfl
@[simp] theorem A54{f:ck}(hS:II P f=true)(d c:Nat)(args:List bt):stepK P (BR P A kn n) (some d) (.call true none (.func f) args) ⟨c,fr,s⟩ =
  oe1 d c fr s (fun vs=>orM (EG P (AG P A kn n) f (vs.map weakV)) (oD P f (vs.map weakV))) (D6 (BT fr) args) (RI (BR P A kn n).cf (BR P A kn n).cy (some d) (.func f) args ⟨c,fr,s⟩):=by
 show PI (BR P A kn n) true (some d) (.func f) args ⟨c,fr,s⟩=_
 unfold PI
 show(match EO (BR P A kn n).co (some d) (.func f) args ⟨c,fr,s⟩ with|some st'=>some st'|none=>_)=_
 unfold EO
 have hf:BT fr (.func f)=some (.fn f [] []):=rfl
 simp only[hf]
 cases D6 (BT fr) args with
 |none=>rfl
 |some vs=>
  simp only[AC5,bx,bz]
  have:(BR P A kn n).co f (vs.map weakV) d=orM (EG P (AG P A kn n) f (vs.map weakV)) (oD P f (vs.map weakV)):=by show IA P kn (fun _ _ _=>none) (AG P A kn n) f _ d=_;unfold IA;simp only[hS]
  rw[this]
  cases orM (EG P (AG P A kn n) f (vs.map weakV)) (oD P f (vs.map weakV))with
  |none=>rfl
  |some r=>rfl
def of2(d c:Nat)(fr:Fr)(s:St):Option Mk->Option XS
 |some r=>some ⟨c+1,(d,true,r.val s.up.length d c)::fr,s.put s.up.length d c r.res⟩
 |none=>none
@[simp] theorem A55(d c:Nat)(fr:Fr)(s:St)(T:br)(es:List (List V)):of2 d c fr s (some ⟨.vec T es,none⟩)=some ⟨c+1,(d,true,.vec s.up.length d c es.length)::fr,s.put s.up.length d c (.vec T es)⟩:=rfl
def of1(d c:Nat)(fr:Fr)(s:St)(F:List V->Option Mk):Option (List V)->Option XS
 |some vs=>of2 d c fr s (F vs)
 |none=>none
@[simp] theorem AC6(d c:Nat)(fr:Fr)(s:St)(F:List V->Option Mk)(vs:List V):of1 d c fr s F (some vs)=of2 d c fr s (F vs):=rfl
@[simp] theorem A01{f:ck}(hS:II P f=true)(d c:Nat)(args:List bt):CL P (BR P A kn n) (some d) (.call true none (.func f) args) ⟨c,fr,s⟩ =
  nw (of1 d c fr s (fun vs=>orM (EG P (AG P A kn n) f (vs.map weakV)) (oD P f (vs.map weakV))) (D6 (BT fr) args)):=by
 show noW (EO (BR P A kn n).co (some d) (.func f) args ⟨c,fr,s⟩)=_
 rw[EZ]
 congr 1
 unfold EO
 have hf:BT fr (.func f)=some (.fn f [] []):=rfl
 simp only[hf]
 cases D6 (BT fr) args with
 |none=>rfl
 |some vs=>
  simp only[AC6,bx,bz]
  have:(BR P A kn n).co f (vs.map weakV) d=orM (EG P (AG P A kn n) f (vs.map weakV)) (oD P f (vs.map weakV)):=by show IA P kn (fun _ _ _=>none) (AG P A kn n) f _ d=_;unfold IA;simp only[hS]
  rw[this]
  cases orM (EG P (AG P A kn n) f (vs.map weakV)) (oD P f (vs.map weakV))with
  |none=>rfl
  |some r=>rfl
def APB(P:cj)(fn:Func)(r:Option (Exit×XS)):Option Mk:=match r with
 |some (.ret,st)=>jO P fn st
 |some (.normal,st)=>jO P fn st
 |_=>none
@[simp] theorem A02(fn:Func)(st:XS):APB P fn (some (.ret,st))=jO P fn st:=rfl
@[simp] theorem AKF(fn:Func)(st:XS):APB P fn (some (.normal,st))=jO P fn st:=rfl
theorem bR{f:ck}{fn:Func}{c:Code}{args:List V}{rec:FK}(hf:P.funcs[f]? = some fn)(hb:fn.body=some c)(hs:Nat.ble args.length fn.ntmps=true)(hcl:args.all (AK 9)=true) :
  EG P rec f args=APB P fn (rec fn.ntmps c ⟨0,AH 0 args,⟨[],[]⟩⟩):=by
 unfold EG T6 jN
 rw[hcl,hf]
 simp only[hb,hs]
 generalize rec fn.ntmps c ⟨0,AH 0 args,⟨[],[]⟩⟩=q
 cases q with
 |none=>rfl
 |some q=>
  obtain⟨e,st⟩:=q
  cases e<;>rfl
def rO(P:cj)(fn:Func)(st:XS)(v:Option V):Option Mk:=match v with
 | some (.vec l k γ n)=>Bool.rec none (match st.s.loc.get k with
  |some (γ',.vec T es)=>Bool.rec none (some ⟨.vec T es,none⟩) (bf γ' γ&&bf n es.length&&es.all fun e=>e.all (AK 9))
  | _=>none) (bf l st.s.up.length)
 | some v=>Bool.rec none (match fn.resultTypes.toList with
  |[R]=>match BJ P R with
   |some (none,T)=>some ⟨.vec T [],none⟩
   |_=>none
  | _=>none) (UJ v)
 |none=>none
theorem tC(fn:Func)(st:XS):jO P fn st=rO P fn st (FJ P fn.results.toList st.fr st.s):=rfl
theorem AKG{fn:Func}{R T:br}(h1:fn.resultTypes.toList=[R])(h2:BJ P R=some (none,T))(c:Nat)(fr:Fr)(loc:AA)(k γ:Nat)(es:List (List V))(hl:loc.get k=(pl k γ T es).get k)(hc:(es.all fun e=>e.all (AK 9))=true):rO P fn ⟨c,fr,⟨[],loc⟩⟩ (some (pv k γ es))=some ⟨.vec T es,none⟩:=by
 cases es with
 |nil=>
  show(Bool.rec none (match fn.resultTypes.toList with
   |[R]=>match BJ P R with
    |some (none,T)=>some ⟨.vec T [],none⟩
    |_=>none
   | _=>none) true:Option Mk)=_
  rw[h1]
  simp only[h2]
 |cons e es=>
  have hl:loc.get k=some (γ,.vec T (e::es)):=by rw[hl];simp
  simp only[pv,rO,hl,hc,List.length_nil,Bool.and_true]
  simp
end Go.Pg
namespace Go.Pg
section
@[simp] theorem unsnoc_snoc{α:Type}(x:α):∀(l:List α),CM (l++[x])=some (l,x)
 |[]=>rfl
 |[y]=>rfl
 |y::z::l=>by have:=unsnoc_snoc x (z::l);simp only[List.cons_append]at this|-;rw[UC,this];rfl
end
section
variable {P:cj}{E:XE}{d:Option Tmp}{c:Nat}{fr:Fr}{s:St}{r:bt->Option V}
@[simp] theorem APC(T:br)(x i:bt)(ok:Bool):ID P (kU (.lookup T x i ok)) s r=o2 (fun a b=>CG P s T a b ok) (r x) (r i):=by show((r x).bind fun a=>(r i).bind fun b=>CG P s T a b ok)=_;cases r x<;>cases r i<;>rfl
def up1(c:Nat)(fr:Fr)(s:St):Option (Nat×Nat×Nat×List (V×V))->Option XS
 |some (l,q,γ,es)=>Bool.rec none (some ⟨c,fr,s.put l q γ (.map es)⟩) (bj γ c)
 |none=>none
def up3(P:cj)(T:br)(c:Nat)(fr:Fr)(s:St):Option V->Option V->Option V->Option XS
 |some m,some i,some v=>up1 c fr s (H4 P s T m i v)
 |_,_,_=>none
@[simp] theorem A03(T:br)(m i v:V):up3 P T c fr s (some m) (some i) (some v)=up1 c fr s (H4 P s T m i v):=rfl
theorem YC(l q γ:Nat)(es:List (V×V))(h:γ<c):up1 c fr s (some (l,q,γ,es))=some ⟨c,fr,s.put l q γ (.map es)⟩:=by
 have:bj γ c=true:=by simpa [bq]using h
 show(Bool.rec none (some ⟨c,fr,s.put l q γ (.map es)⟩) (bj γ c):Option XS)=_;rw[this]
@[simp] theorem AT0(T:br)(x i y:bt):stepK P E none (.upd T x i y) ⟨c,fr,s⟩=up3 P T c fr s (BT fr x) (BT fr i) (BT fr y):=by show vZ P none T x i y ⟨c,fr,s⟩=_;unfold vZ up3 up1;simp only;cases BT fr x<;>cases BT fr i<;>cases BT fr y<;>simp only;split<;>simp_all
@[simp] theorem A04(x:bt):ID P (kU (.nilCheck x)) s r=o1 MO (r x):=by show(r x).bind MO=_;cases r x<;>rfl
@[simp] theorem AT1(l k g o:Nat):MO (.ptr l k g o)=some (.ptr l k g o):=rfl
@[simp] theorem AT2(cs:List V):MO (.ref cs)=some (.ref cs):=rfl
@[simp] theorem A05(x:bt)(f:bt->Option V):FV P (.oth (.nilCheck x)) f=[]:=rfl
@[simp] theorem A06(T:br)(x i:bt)(ok:Bool)(f:bt->Option V):FV P (.oth (.lookup T x i ok)) f=C5 (f x):=rfl
@[simp] theorem APD(l k g:Nat):BQ s (.mp l k g)=some (.mp l k g):=rfl
theorem HT{α:Type}{f:α->Option α}:∀{l:List α},(∀x∈l,f x=some x)->GD f l=some l
 |[],_=>rfl
 |x::l,h=>by have ih:=HT (f:=f) (l:=l) fun y hy=>h y (by simp[hy]);simp only[GD,h x (by simp),ih]
theorem RT:∀(l:List AA) (b:AA),CM (l++[b])=some (l,b)
 |[],b=>by simp
 |[a],b=>by simp
 |a::a2::l,b=>by have:=RT (a2::l) b;simp only[List.cons_append]at this|-;simp[this]
@[simp] theorem AT3(a:AA)(l:List AA)(b:AA):CM (a::(l++[b]))=some (a::l,b):=RT (a::l) b
@[simp] theorem APE(l k g:Nat):C5 (some (.mp l k g))=[(l,k)]:=rfl
@[simp] theorem AT4(d:Nat):stepK P E (some d) (.mkM none) ⟨c,fr,s⟩=some ⟨c+1,(d,true,.mp s.up.length d c)::fr,s.put s.up.length d c (.map [])⟩:=rfl
end
section
variable {P:cj}{s:St}{r:bt->Option V}
@[simp] theorem APF(T:br)(x h:bt):ID P (kU (.slice T x none (some h) none)) s r=o2 (fun a b=>B7 P s T a none (some b) none) (r x) (r h):=by show((r x).bind fun a=>((some none:Option (Option V))).bind fun l=>((r h).map some).bind fun h=>((some none:Option (Option V))).bind fun m=>B7 P s T a l h m)=_;cases r x<;>cases r h<;>rfl
theorem pI{T e:br}{es:List (List V)}{h:Int}{b:Bool}(hT:BJ P T=some (none,e))(hc:0<P.cellsOf e)(h1:0<=h)(h2:h<=es.length):B7 P s T (.list b es) none (some (.int .i64 h)) none=some (.list false (es.take h.toNat)):=by simp only[B7,hT];rw[if_pos ⟨h1,h2,hc⟩]
end
section
variable {P:cj}{E:XE}{c:Nat}{fr:Fr}{s:St}{r:bt->Option V}
@[simp] theorem APG(T:br)(x l:bt):ID P (kU (.slice T x (some l) none none)) s r=o2 (fun a b=>B7 P s T a (some b) none none) (r x) (r l):=by show((r x).bind fun a=>((r l).map some).bind fun l=>(some none).bind fun h=>(some none).bind fun m=>B7 P s T a l h m)=_;cases r x<;>cases r l<;>rfl
theorem wN{T e U:br}{es:List (List V)}{l k g n i:Nat}(hT:BJ P T=some (none,e))(hg:s.get l k=some (g,.vec U es))(ha:es.all (fun x=>x.length==P.cellsOf e)=true)(hn:es≠[])(hi:i<=n)(hc:0<P.cellsOf e) :
  B7 P s T (.vec l k g n) (some (.int .i64 (i:Int))) none none=some (.vtl l k g i (n-i)):=by
 unfold B7
 simp only[hT,hg]
 rw[if_pos ⟨trivial,ha,hn,by omega,by omega,hc⟩]
 simp
theorem wO{T e:br}{l k g n h:Nat}(hT:BJ P T=some (none,e))(hh:h<=n)(hc:0<P.cellsOf e):B7 P s T (.vec l k g n) none (some (.int .i64 (h:Int))) none=some (.vec l k g h):=by unfold B7;simp only[hT];rw[if_pos ⟨by omega,by omega,hc⟩];simp
theorem wP{T e:br}{x:bt}{es:List (List V)}{z:List V}{l q γ i n:Nat}(hT:BJ P T=some (none,e))(hx:BT fr x=some (.vtl l q γ i n))(hg:s.get l q=some (γ,.vec e es))(hz:BZ P e=some z)(hn:i+n<=es.length)(ha:es.all (fun y=>y.length==z.length)=true)(hc:γ<c) :
  stepK P E none (.clr [x] [T]) ⟨c,fr,s⟩=some ⟨c,fr,s.put l q γ (.vec e (es.take i++bh n z++es.drop (i+n)))⟩:=by
 show S7 P none [x] [T] ⟨c,fr,s⟩=_
 have hb:(bf γ γ&&bf e e&&Nat.ble (i+n) es.length&&es.all (fun y=>y.length==z.length)&&bj γ c)=true:=by rw[ha];simp[bq,hn,hc,Nat.beq_eq]
 unfold S7
 simp only[hT,hx,hg,hz,hb]
end
section
variable {P:cj}{fr:Fr}{s:St}
@[simp] theorem A57(e d c l q γ n:Nat)(ys:List (List V)):adV P e d c fr s (.vec l q γ n) ys=wp [(l,q),(l,q+SA)] (apW P e d c fr s l q γ n ys (PY n ys (s.get l q))):=rfl
@[simp] theorem APH(l k g i o:Nat):MO (.eptr l k g i o)=some (.eptr l k g i o):=rfl
end
section
@[simp] theorem A58{P:cj}{A:Ann}{kn:CF0}{n:Nat}:(BR P A kn n).cy=eB (AG P A kn n):=rfl
end
section
variable {P:cj}{A:Ann}{kn:CF0}{n:Nat}{fr:Fr}{s:St}
def oc2(d c:Nat)(fr:Fr)(s:St):Option V->Option XS->Option XS
 |some r,_=>some ⟨c+1,(d,true,r.ren (fun _=>c) s.up.length)::fr,s.put s.up.length d c .dead⟩
 |none,z=>z
@[simp] theorem A07(d c:Nat)(r:V)(z:Option XS):oc2 d c fr s (some r) z=some ⟨c+1,(d,true,r.ren (fun _=>c) s.up.length)::fr,s.put s.up.length d c .dead⟩:=rfl
def oc1(d c:Nat)(fr:Fr)(s:St)(F:List V->Option V):Option (List V)->Option XS->Option XS
 |some vs,z=>oc2 d c fr s (F vs) z
 |none,z=>z
@[simp] theorem AC7(d c:Nat)(F:List V->Option V)(vs:List V)(z:Option XS):oc1 d c fr s F (some vs) z=oc2 d c fr s (F vs) z:=rfl
@[simp] theorem A08{f:ck}(hS:II P f=false)(d c:Nat)(args:List bt):stepK P (BR P A kn n) (some d) (.call true none (.func f) args) ⟨c,fr,s⟩ =
  oc1 d c fr s (fun vs=>EQ P kn (AG P A kn n) f (vs.map weakV)) (D6 (BT fr) args) (RI (BR P A kn n).cf (BR P A kn n).cy (some d) (.func f) args ⟨c,fr,s⟩):=by
 show PI (BR P A kn n) true (some d) (.func f) args ⟨c,fr,s⟩=_
 unfold PI
 show(match EO (BR P A kn n).co (some d) (.func f) args ⟨c,fr,s⟩ with|some st'=>some st'|none=>_)=_
 unfold EO
 have hf:BT fr (.func f)=some (.fn f [] []):=rfl
 simp only[hf]
 cases D6 (BT fr) args with
 |none=>rfl
 |some vs=>
  simp only[AC7,bx,bz]
  have:(BR P A kn n).co f (vs.map weakV) d=(match EQ P kn (AG P A kn n) f (vs.map weakV)with|some r=>some ⟨.dead,some r⟩|none=>none):=by show IA P kn (fun _ _ _=>none) (AG P A kn n) f _ d=_;unfold IA;simp only[hS];cases EQ P kn (AG P A kn n) f (vs.map weakV)<;>rfl
  rw[this]
  cases EQ P kn (AG P A kn n) f (vs.map weakV)with
  |none=>rfl
  |some r=>rfl
def od2(d c:Nat)(fr:Fr)(s:St):Option V->Option XS
 |some r=>some ⟨c+1,(d,true,r.ren (fun _=>c) s.up.length)::fr,s.put s.up.length d c .dead⟩
 |none=>none
@[simp] theorem A09(d c:Nat)(r:V):od2 d c fr s (some r)=some ⟨c+1,(d,true,r.ren (fun _=>c) s.up.length)::fr,s.put s.up.length d c .dead⟩:=rfl
def od1(d c:Nat)(fr:Fr)(s:St)(F:List V->Option V):Option (List V)->Option XS
 |some vs=>od2 d c fr s (F vs)
 |none=>none
@[simp] theorem AC8(d c:Nat)(F:List V->Option V)(vs:List V):od1 d c fr s F (some vs)=od2 d c fr s (F vs):=rfl
@[simp] theorem AT5{f:ck}(hS:II P f=false)(d c:Nat)(args:List bt):CL P (BR P A kn n) (some d) (.call true none (.func f) args) ⟨c,fr,s⟩ =
  nw (od1 d c fr s (fun vs=>EQ P kn (AG P A kn n) f (vs.map weakV)) (D6 (BT fr) args)):=by
 show noW (EO (BR P A kn n).co (some d) (.func f) args ⟨c,fr,s⟩)=_
 rw[EZ]
 congr 1
 unfold EO
 have hf:BT fr (.func f)=some (.fn f [] []):=rfl
 simp only[hf]
 cases D6 (BT fr) args with
 |none=>rfl
 |some vs=>
  simp only[AC8,bx,bz]
  have:(BR P A kn n).co f (vs.map weakV) d=(match EQ P kn (AG P A kn n) f (vs.map weakV)with|some r=>some ⟨.dead,some r⟩|none=>none):=by show IA P kn (fun _ _ _=>none) (AG P A kn n) f _ d=_;unfold IA;simp only[hS];cases EQ P kn (AG P A kn n) f (vs.map weakV)<;>rfl
  rw[this]
  cases EQ P kn (AG P A kn n) f (vs.map weakV)with
  |none=>rfl
  |some r=>rfl
end
section
variable {fr:Fr}{s:St}
@[simp] theorem AKH(l k g:Nat):BQ s (.yld l k g)=some (.yld l k g):=rfl
@[simp] theorem AKI(f:Nat)(cs:List V):AX s (f+1) (.ref cs)=some (.ref cs):=rfl
@[simp] theorem A1A{P:cj}:FJ P [] fr s=some (.tup []):=rfl
@[simp] theorem AKJ(f:Nat):AX s (f+1) (.tup [])=some (.tup []):=rfl
@[simp] theorem AC9:CB .nilFunc=some (.raw .nilFunc):=rfl
@[simp] theorem API(f l k g:Nat):AK (f+1) (.yld l k g)=false:=rfl
@[simp] theorem A1B(l k g:Nat):weakV (.yld l k g)=.yld l k g:=rfl
@[simp] theorem A59(d c l k g:Nat):bx1 d c fr s (some (.yld l k g))=some ⟨c+1,(d,true,.ptr s.up.length d c 0)::fr,s.put s.up.length d c (.box [.yld l k g])⟩:=rfl
@[simp] theorem A6A(F:List V->Option (List V))(g off:Nat)(g':Nat)(cs:List V):cp1 F g off (some (g',.box cs))=if g'=g then(F cs).map (fun ds=>V.ref (ds.drop off)) else none:=rfl
def mk4(P:cj)(d c:Nat)(fr:Fr)(s:St)(e:br)(n m:Int):Option (List V)->Option XS
 |some z=>if 0<=n/\m=n/\z.length=P.cellsOf e/\n.toNat*P.bytesOf e<=140737488355328/\n.toNat<=maxLen then some ⟨c+1,(d,true,.vec s.up.length d c n.toNat)::fr,s.put s.up.length d c (.vec e (bh n.toNat z))⟩ else none
 |none=>none
@[simp] theorem A1C{P:cj}(d c:Nat)(e:br)(n m:Int)(z:List V):mk4 P d c fr s e n m (some z)=if 0<=n/\m=n/\z.length=P.cellsOf e/\n.toNat*P.bytesOf e<=140737488355328/\n.toNat<=maxLen then some ⟨c+1,(d,true,.vec s.up.length d c n.toNat)::fr,s.put s.up.length d c (.vec e (bh n.toNat z))⟩ else none:=rfl
def mk3(P:cj)(d c:Nat)(fr:Fr)(s:St):Option (Option Nat×br)->Option V->Option V->Option XS
 |some (none,e),some (.int _ n),some (.int _ m)=>mk4 P d c fr s e n m (BZ P e)
 |_,_,_=>none
@[simp] theorem ADA{P:cj}(d c:Nat)(e:br)(k1 k2:cq)(n m:Int):mk3 P d c fr s (some (none,e)) (some (.int k1 n)) (some (.int k2 m))=mk4 P d c fr s e n m (BZ P e):=rfl
@[simp] theorem AT6{P:cj}{E:XE}(T:br)(d c:Nat)(x y:bt):stepK P E (some d) (.mkS T x y) ⟨c,fr,s⟩=mk3 P d c fr s (BJ P T) (BT fr x) (BT fr y):=by
 show T8 P (some d) T x y ⟨c,fr,s⟩=_;unfold T8;simp only;cases BJ P T with
 |none=>cases BT fr x<;>cases BT fr y<;>rfl
 |some p=>
  obtain⟨k,e⟩:=p
  cases k with
  |some k=>cases BT fr x<;>cases BT fr y<;>rfl
  |none=>
   cases BT fr x with
   |none=>rfl
   |some a=>
    cases BT fr y with
    |none=>cases a<;>rfl
    |some z=>
     cases a with
     |int k1 n=>
      cases z with
      |int k2 m=>simp only[ADA];cases BZ P e<;>rfl
      |_=>rfl
     |_=>rfl
theorem wQ{P:cj}{A:Ann}{kn:CF0}{n:Nat}{f:ck}{d c:Nat}{x:bt}{args:List bt}{first cap vs:List V}{r:V}(hf:BT fr x=some (.fn f first cap))(hv:D6 (BT fr) args=some vs)(hS:II P f=false)(hr:AK 9 r=true)(h:EQ P kn (AG P A kn n) f ((first++vs++cap).map weakV)=some r) :
  CL P (BR P A kn n) (some d) (.call true none x args) ⟨c,fr,s⟩=nw (ow3 d c fr s (some r)):=by
 show noW (EO (BR P A kn n).co (some d) x args ⟨c,fr,s⟩)=_
 unfold EO
 simp only[hf,hv]
 have:(BR P A kn n).co f ((first++vs++cap).map weakV) d=some ⟨.dead,some r⟩:=by show IA P kn (fun _ _ _=>none) (AG P A kn n) f _ d=_;unfold IA;simp only[hS,h]
 rw[this]
 simp only[Mk.val,BV 9 r hr,lN,EZ]
@[simp] theorem A6B{P:cj}(T:br)(x y:bt)(r:bt->Option V):FV P (.mkS T x y) r=[]:=rfl
def rE(fr:Fr)(n γ:Nat)(r:Option XS):Option (Exit×XS):=match r with
 |some st=>match st.s.get n A7 with
  | some (γ',.loop _ _ _ _ _ ls)=>Bool.rec none (match ls with
   |.ready=>some (.normal,⟨st.c,fr,st.s.put n A7 γ .dead⟩)
   |.left .ret=>some (.ret,⟨st.c,fr,st.s.put n A7 γ .dead⟩)
   |.left (.exit id)=>some (.exit id,⟨st.c,fr,st.s.put n A7 γ .dead⟩)
   | _=>none) (bf γ' γ&&bj γ st.c)
  |_=>none
 |none=>none
theorem ON{P:cj}{A:Ann}{kn:CF0}{n N:Nat}{g:bt}{ps:List Tmp}{asg body:Code}{c:Nat}{up:List AA}{loc:AA}{f:ck}{first cap:List V}(h:BT fr g=some (.fn f first cap)) :
  S3 (BR P A kn n).cf N g ps asg body ⟨c,fr,⟨up,loc⟩⟩=rE fr up.length c (ME (BR P A kn n) none ⟨c+1,fr,⟨up,(A7,c,.loop fr ps asg body N .ready)::loc⟩⟩ f ((first++[V.yld up.length A7 c]++cap).map weakV)):=by
 unfold S3
 simp only[h]
 unfold ME dY rE
 simp only[St.put,if_true,AA.put]
 cases (BR P A kn n).cf f ((first++[V.yld up.length A7 c]++cap).map weakV) ⟨c+1,fr,⟨up,(A7,c,.loop fr ps asg body N .ready)::loc⟩⟩ with
 |none=>rfl
 |some r=>rfl
theorem RU{n γ c:Nat}{fr' fr0:Fr}{s:St}{ps:List Tmp}{asg body:Code}{N:Nat}(h:s.get n A7=some (γ,.loop fr0 ps asg body N .ready))(hc:γ<c):rE fr n γ (some ⟨c,fr',s⟩)=some (.normal,⟨c,fr,s.put n A7 γ .dead⟩):=by
 unfold rE;simp only[h];have:(bf γ γ&&bj γ c)=true:=by simpa using hc
 rw[this]
@[simp] theorem AT7(t:St)(fr0:Fr)(ps:List Tmp)(asg body:Code)(N:Nat)(l:LS):BM t (.loop fr0 ps asg body N l)=.loop fr0 ps asg body N l:=rfl
theorem MC{rec:FK}{l q γ c N:Nat}{fr0:Fr}{ps:List Tmp}{asg body:Code}{vs:List V}(h:s.get l q=some (γ,.loop fr0 ps asg body N .ready))(hv:vs.length=ps.length)(hc:γ<c) :
  eB rec l q γ vs ⟨c,fr,s⟩=XR fr l q γ (XT (rec N) l q γ body (rec N asg ⟨c,GO fr0 ps vs,⟨s.up++[s.loc],[]⟩⟩)):=by
 unfold eB
 simp only[h]
 have:(bf γ γ&&bf vs.length ps.length&&bj γ c)=true:=by simp[hv,hc]
 rw[this]
theorem D8{rec:T5}{l q γ c N:Nat}{fr0:Fr}{ps:List Tmp}{asg body body':Code}(h:s.get l q=some (γ,.loop fr0 ps asg body' N .ready))(hc:γ<c) :
  XT rec l q γ body (some (.normal,⟨c,fr,s⟩))=rec body ⟨c,fr,s.put l q γ (.loop fr0 ps asg body' N .busy)⟩:=by
 unfold XT
 simp only[h]
 have:(bf γ γ&&bj γ c)=true:=by simp[hc]
 rw[this]
theorem D9{fr':Fr}{l q γ c N:Nat}{fr0:Fr}{ps:List Tmp}{asg body:Code}{up u:List AA}{loc lc:AA}(h:St.get ⟨up,loc⟩ l q=some (γ,.loop fr0 ps asg body N .busy))(hu:CM up=some (u,lc))(hl:l<up.length)(hc:γ<c) :
  XR fr l q γ (some (.normal,⟨c,fr',⟨up,loc⟩⟩))=some (.bool true,⟨c,fr,St.put ⟨u.map (AN ⟨up,loc⟩),AN ⟨up,loc⟩ lc⟩ l q γ (.loop fr0 ps asg body N .ready)⟩):=by
 unfold XR
 simp only[h,hu]
 have:(bf γ γ&&bj l up.length&&bj γ c)=true:=by simp[hc,hl]
 rw[this]
 rfl
end
section
def tkU(z:Option XS)(d:Option Tmp)(st:XS):Option V->Option XS
 |some r=>Bool.rec z (DA d st (some r)) (X4 r)
 |none=>z
@[simp] theorem A6C(z:Option XS)(d:Option Tmp)(st:XS)(k:cq)(n:Int):tkU z d st (some (.int k n))=DA d st (some (.int k n)):=rfl
@[simp] theorem A1D(z:Option XS)(d:Option Tmp)(st:XS)(b:Bool):tkU z d st (some (.bool b))=DA d st (some (.bool b)):=rfl
@[simp] theorem AT8(l k g n:Nat):weakC (.vec l k g n)=.vec l k g n:=rfl
@[simp] theorem AT9(st:XS)(v:V):PL st [] v=v:=rfl
@[simp] theorem AUA(k:Nat)(ks:List Nat)(st:XS)(v:V)(h:¬k<10000):PL st (k::ks) v=PL st ks (BH (k / 10000-1) (k % 10000) (st.s.get (k / 10000-1) (k % 10000)) 3 v):=by
 have:bj k 10000=false:=by
  cases hb:bj k 10000 with
  |false=>rfl
  |true=>exact absurd (by simpa [bq]using hb) h
 simp only[PL,this,cond_false]
@[simp] theorem A6D{P:cj}{A:Ann}{kn:CF0}{n k:Nat}{us:List Nat}(d:Option Tmp)(st:XS)(f:ck)(args:List V):ME (cfU (k::us) (BR P A kn n)) d st f args=tkU (ME (BR P A kn n) d st f args) d st (EQ P kn (AG P A kn n) f (args.map (PL st (k::us)))):=by
 show(match kD (BR P A kn n).cf (BR P A kn n).c0 (k :: us) f args st with
  |some (r,st')=>some (⟨st'.c,putD st'.fr d true r,st'.s⟩:XS)
  | none=>none)=_
 unfold kD;have e:(BR P A kn n).c0=EQ P kn (AG P A kn n):=rfl;rw[e];cases EQ P kn (AG P A kn n) f (args.map (PL st (k::us)))with
 |none=>rfl
 |some r=>
  show(match(Bool.rec ((BR P A kn n).cf f args st) (some (r,st)) (X4 r):Option (V×XS))with
   |some (r,st')=>some (⟨st'.c,putD st'.fr d true r,st'.s⟩:XS)
   | none=>none)=(Bool.rec (ME (BR P A kn n) d st f args) (DA d st (some r)) (X4 r):Option XS)
  cases X4 r<;>rfl
@[simp] theorem APJ(k:cq)(n:Int):eJ (.int k n)=true:=rfl
@[simp] theorem AKK(b:Bool):eJ (.bool b)=true:=rfl
end
theorem RV{t:St}{T:br}{es:List (List V)}(h:∀e∈es,∀v∈e,BQ t v=some v):BM t (.vec T es)=.vec T es:=by
 have:BN t (.vec T es)=some (.vec T es):=by unfold BN;simp only;rw[HT fun e he=>HT fun v hv=>h e he v hv]
 unfold BM;rw[this]
@[simp] theorem APK{P:cj}{A:Ann}{kn:CF0}{n N l:Nat}{st:XS}:AG P A kn (n+1) N (.label l) st=some (.normal,st):=rfl
theorem J2{α:Type}(p:α->Bool):∀(l:List α),(!l.any fun x=>!p x)=l.all p
 |[]=>rfl
 |x::l=>by have:=J2 p l;simp only[List.any_cons,List.all_cons,Bool.not_or,Bool.not_not,<-this]
theorem I2{p q:Prop}[Decidable p][Decidable q](h:p↔¬q):decide p=!decide q:=by
 by_cases hq:q
 ·simp[hq,mt h.1]
 ·simp[hq,h.2 hq]
section
variable {P:cj}{fr:Fr}{s:St}
def pt(k γ:Nat):List (List V)->V
 |[]=>.list true []
 |e::es=>.vec 0 k γ (e::es).length
@[simp] theorem BBE(k γ:Nat):pt k γ []=.list true []:=rfl
@[simp] theorem A6E(k γ:Nat)(e:List V)(es:List (List V)):pt k γ (e::es)=.vec 0 k γ (es.length+1):=rfl
theorem wR{T:br}(f:Nat)(loc:AA)(k γ:Nat)(es:List (List V))(hl:AA.get loc k=(pl k γ T es).get k):AX ⟨[],loc⟩ (f+1) (pt k γ es)=some (.list false es):=by
 cases es with
 |nil=>rfl
 |cons e es=>exact TH (T:=T) f loc k γ (e::es) hl
@[simp] theorem APL(f k γ:Nat)(T:br)(es:List (List V)):AX ⟨[],pl k γ T es⟩ (f+1) (pt k γ es)=some (.list false es):=wR (T:=T) f _ k γ es rfl
@[simp] theorem AUB(k γ:Nat)(es:List (List V)):A8 (pt k γ es)=[pt k γ es]:=by cases es<;>rfl
@[simp] theorem AUC(k γ:Nat)(es:List (List V)):A9 (pt k γ es)=true:=by cases es<;>rfl
end
@[simp] theorem A6F(st:XS):ZB [] st=st:=rfl
@[simp] theorem A1E(k:Nat)(ks:List Nat)(c:Nat)(fr:Fr)(up:List AA)(loc:AA)(h:k<1000):ZB (k::ks) ⟨c,fr,⟨up,loc⟩⟩=ZB ks ⟨c,J0 up.length k (loc.get k) fr,⟨up,FH up.length k (loc.get k) loc⟩⟩:=by
 have h1:bj k 1000=true:=by simpa [bq]using h
 show ZB ks (sS k ⟨c,fr,⟨up,loc⟩⟩)=_;unfold sS;rw[h1];rfl
@[simp] theorem A1F(k:Nat)(ks:List Nat)(c:Nat)(fr:Fr)(up:List AA)(loc:AA)(h:2000000000000000<=k)(h':k<3000000000000000):ZB (k::ks) ⟨c,fr,⟨up,loc⟩⟩=ZB ks ⟨c,fr,⟨up,ZR (k % 1000) loc⟩⟩:=by
 have h1:bj k 1000=false:=by rw[<-bg,bq];omega
 have h2:bj k 1000000000000000=false:=by rw[<-bg,bq];omega
 have h3:bj k 2000000000000000=false:=by rw[<-bg,bq];omega
 show ZB ks (sS k ⟨c,fr,⟨up,loc⟩⟩)=_;unfold sS;rw[h1,h2,h3,show bj k 3000000000000000=true by simpa [bq]using h'];rfl
@[simp] theorem A6G(k:Nat):ZR k []=[]:=rfl
@[simp] theorem A1G(k j g:Nat)(r:AZ)(L:AA):ZR k ((j,g,r)::L)=(j,g,if j=k then xY r else r)::ZR k L:=rfl
@[simp] theorem A6H(T:br)(es:List (List V)):xY (.vec T es)=.vec T (es.map (bp fT)):=rfl
@[simp] theorem A6I(cs:List V):xY (.box cs)=.box (cs.map fT):=rfl
@[simp] theorem BBF(k γ:Nat)(T:br)(es:List (List V)):ZR k (pl k γ T es)=pl k γ T (es.map (bp fT)):=by
 cases es with
 |nil=>rfl
 |cons e es=>simp[pl,ZR]
@[simp] theorem AHR{k j:Nat}(h:j≠k)(γ:Nat)(T:br)(es:List (List V)):ZR k (pl j γ T es)=pl j γ T es:=by
 cases es with
 |nil=>rfl
 |cons e es=>simp[pl,ZR,h]
@[simp] theorem APM(es:List (List V)):fT (sl es)=.list false es:=by cases es<;>rfl
@[simp] theorem A6J:fT .nil=.list false []:=rfl
@[simp] theorem A1H(b:Bool)(es:List (List V)):fT (.list b es)=.list b es:=rfl
section
variable {l k:Nat}{o:Option (Nat×AZ)}
def gtf(l k:Nat)(o:Option (Nat×AZ)):Option (Bool×V)->Option (Bool×V)
 |some (c,v)=>some (c,BH l k o 3 v)
 |none=>none
@[simp] theorem A1I(c:Bool)(v:V):gtf l k o (some (c,v))=some (c,BH l k o 3 v):=rfl
@[simp] theorem A1J:gtf l k o none=none:=rfl
@[simp] theorem AUD(fr:Fr)(j:Nat):EX (J0 l k o fr) j=gtf l k o (EX fr j):=by
 rw[F0,F0,S8];cases fr.get j with
 |none=>rfl
 |some x=>rfl
end
@[simp] theorem A6K{k j:Nat}(h:j≠k)(r:Fr)(o:Option (Bool×V)):EX (kx k r o) j=EX r j:=by
 cases o with
 |none=>rfl
 |some x=>
  obtain⟨c,v⟩:=x
  simp[h]
end Go.Pg
