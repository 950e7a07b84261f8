/- Rows told as lists, by simp. No program in sight. -/
import Derived.Test.YthhdhbalenanjaaGreatSx
noncomputable section
open Go renaming TypeId->bm,Program->bn,Operand->bp,FuncId->cj,IntKind->ck
open Nat renaming blt->bj,blt_eq->bk,beq->bf
open List renaming map_congr_left->bq,nil_append->bw,append_nil->bx,all_eq_true->bz,map_id->bg,map->bh
open Bool renaming not_eq_true->bc
set_option linter.unusedSimpArgs false
namespace Go.Pg
variable {P:bn}{l k:Nat}{o:Option (Nat×AX)}
@[simp] theorem AWH(st:XS):O6 [] st=st:=rfl
@[simp] theorem AR1(k:Nat)(ks:List Nat)(c:Nat)(fr:Fr)(up:List AA)(loc:AA):O6 (k::ks) ⟨c,fr,⟨up,loc⟩⟩=O6 ks ⟨c,NU up.length k (loc.get k) fr,⟨up,GH up.length k (loc.get k) loc⟩⟩:=rfl
@[simp] theorem AWI:NU l k o []=[]:=rfl
@[simp] theorem AR2(j:Nat)(c:Bool)(v:V)(fr:Fr):NU l k o ((j,c,v)::fr)=(j,c,BF l k o 3 v)::NU l k o fr:=rfl
@[simp] theorem AWJ:GH l k o []=[]:=rfl
@[simp] theorem AR3(j g:Nat)(r:AX)(L:AA):GH l k o ((j,g,r)::L)=if j=k then GH l k o L else(j,g,KX l k o r)::GH l k o L:=rfl
theorem W0:∀(f g:Nat) (v:V),AG g v=true->BF l k o f v=v
 |0,_,_,_=>rfl
 |f+1,0,v,h=>by cases h
 |f+1,g+1,v,h=>by
  have lst:∀cs:List V,cs.all (AG g)=true->cs.map (BF l k o f)=cs:=by
   intro cs h;conv=>rhs;rw[<-bg cs]
   exact bq fun x hx=>W0 f g x (bz.1 h x hx)
  cases v with
  |vec _ _ _ _=>cases h
  |ptr _ _ _ _=>cases h
  |agg cs=>simp only[BF];rw[lst cs h]
  |tup cs=>simp only[BF];rw[lst cs h]
  |_=>rfl
theorem rU{cs:List V}(h:cs.all (AG 9)=true)(f:Nat):cs.map (BF l k o f)=cs:=by
 conv=>rhs;rw[<-bg cs]
 exact bq fun x hx=>W0 f 9 x (bz.1 h x hx)
theorem zO{es:List (List V)}(h:(es.all fun e=>e.all (AG 9))=true)(f:Nat):es.map (bh (BF l k o f))=es:=by
 conv=>rhs;rw[<-bg es]
 exact bq fun x hx=>rU (bz.1 h x hx) f
@[simp] theorem zQ{j:Nat}(h:j≠k)(γ:Nat)(T:bm)(es:List (List V))(L:AA)(hc:(es.all fun e=>e.all (AG 9))=true):GH l k o (pl j γ T es++L)=pl j γ T es++GH l k o L:=by
 cases es with
 |nil=>rfl
 |cons e es=>
  have q:=zO (l:=l) (k:=k) (o:=o) hc 3
  simp only[List.map_cons]at q
  simp[h,KX,q]
@[simp] theorem zR{j:Nat}(h:j≠k)(γ:Nat)(T:bm)(es:List (List V))(hc:(es.all fun e=>e.all (AG 9))=true):GH l k o (pl j γ T es)=pl j γ T es:=by have:=zQ (l:=l) (o:=o) h γ T es [] hc;simpa using this
@[simp] theorem AWK(cs:List V):KX l k o (.box cs)=.box (cs.map (BF l k o 3)):=rfl
@[simp] theorem AWL(T:bm)(es:List (List V)):KX l k o (.vec T es)=.vec T (es.map (bh (BF l k o 3))):=rfl
@[simp] theorem AWM(es:List (V×V)):KX l k o (.map es)=.map es:=rfl
@[simp] theorem AR4:KX l k o .dead=.dead:=rfl
@[simp] theorem AR5(fr:List (Nat×Bool×V))(ps:List Tmp)(asg body:Code)(N:Nat)(st:LS):KX l k o (.loop fr ps asg body N st)=.loop fr ps asg body N st:=rfl
@[simp] theorem fD(f:Nat)(i:ck)(n:Int):BF l k o f (.int i n)=.int i n:=by cases f<;>rfl
@[simp] theorem AR6(f:Nat)(b:Bool):BF l k o f (.bool b)=.bool b:=by cases f<;>rfl
@[simp] theorem AWN(f:Nat)(v:Value):BF l k o f (.raw v)=.raw v:=by cases f<;>rfl
@[simp] theorem AR7(f:Nat)(b:Bool)(es:List (List V)):BF l k o f (.list b es)=.list b es:=by cases f<;>rfl
@[simp] theorem A39(f:Nat)(es:List (List V)):BF l k o f (sl es)=sl es:=by cases f<;>cases es<;>rfl
@[simp] theorem AWO(f:Nat)(cs:List V):BF l k o f (.ref cs)=.ref cs:=by cases f<;>rfl
theorem zS(f a b c d:Nat)(h:¬(a=l/\b=k)):BF l k o f (.ptr a b c d)=.ptr a b c d:=by
 cases f with
 |zero=>rfl
 |succ f=>
  simp only[BF]
  split
  ·rw[if_neg fun hh=>h ⟨hh.1,hh.2.1⟩]
  ·rfl
@[simp] theorem AR8(f a b c d:Nat)(h:¬b=k):BF l k o f (.ptr a b c d)=.ptr a b c d:=zS f a b c d fun hh=>h hh.2
@[simp] theorem AR9(γ:Nat)(T:bm)(es:List (List V))(f a b c d:Nat):BF l k (some (γ,.vec T es)) f (.ptr a b c d)=.ptr a b c d:=by cases f<;>rfl
@[simp] theorem ASA(γ:Nat)(cs:List V)(f a b g off:Nat):BF l k (some (γ,.box cs)) (f+1) (.ptr a b g off)=if a=l/\b=k/\g=γ then .ref ((cs.map N7).drop off) else .ptr a b g off:=rfl
@[simp] theorem A4A(q:ck)(n:Int):N7 (.int q n)=.int q n:=rfl
@[simp] theorem AWP(b:Bool):N7 (.bool b)=.bool b:=rfl
@[simp] theorem AWQ(b:Bool)(es:List (List V)):N7 (.list b es)=.list b es:=rfl
@[simp] theorem A89(es:List (List V)):N7 (sl es)=sl es:=by cases es<;>rfl
@[simp] theorem A4B:N7 .nil=.nil:=rfl
@[simp] theorem A9A(a b c:Nat):N7 (.mp a b c)=.any:=rfl
@[simp] theorem A4C:N7 .any=.any:=rfl
@[simp] theorem bL(f:Nat):AG (f+1) .any=true:=rfl
@[simp] theorem AWR:weakV .any=.any:=rfl
@[simp] theorem AWS:weakC .any=.any:=rfl
@[simp] theorem AWT(f:Nat):BF l k o f .any=.any:=by cases f<;>rfl
@[simp] theorem A4D(f a b c:Nat):BF l k o f (.mp a b c)=.mp a b c:=by cases f<;>rfl
@[simp] theorem AWU(f a b c:Nat):BF l k o f (.yld a b c)=.yld a b c:=by cases f<;>rfl
@[simp] theorem A4E(f:Nat)(g:cj)(xs ys:List V):BF l k o f (.fn g xs ys)=.fn g xs ys:=by cases f<;>rfl
@[simp] theorem zT(f:Nat):BF l k o f .nil=.nil:=by cases f<;>rfl
@[simp] theorem AWV(f:Nat)(cs:List V):BF l k o (f+1) (.agg cs)=.agg (cs.map (BF l k o f)):=rfl
@[simp] theorem AWW(f:Nat)(cs:List V):BF l k o (f+1) (.tup cs)=.tup (cs.map (BF l k o f)):=rfl
@[simp] theorem AWX(γ:Nat)(T:bm)(es:List (List V))(f l' k' g m:Nat):BF l k (some (γ,.vec T es)) (f+1) (.vec l' k' g m)=if l'=l/\k'=k/\g=γ/\m=es.length then .list false es else .vec l' k' g m:=rfl
@[simp] theorem A4F(γ:Nat)(T:bm)(es:List (List V))(f:Nat):BF 0 k ((pl k γ T es).get k) (f+1) (pv k γ es)=sl es:=by
 cases es with
 |nil=>rfl
 |cons e es=>simp[pv,sl]
@[simp] theorem AWY(γ:Nat)(T:bm)(es:List (List V))(f:Nat):BF 0 k (some (γ,.vec T es)) (f+1) (pv k γ es)=sl es:=by
 cases es with
 |nil=>rfl
 |cons e es=>simp[pv,sl]
@[simp] theorem AWZ{j:Nat}(h:j≠k)(γ:Nat)(es:List (List V))(f:Nat):BF l k o f (pv j γ es)=pv j γ es:=by
 cases es with
 |nil=>cases f<;>rfl
 |cons e es=>
  cases f with
  |zero=>rfl
  |succ f=>
   simp only[pv,BF]
   split
   ·rw[if_neg (fun hh=>h hh.2.1)]
   ·rfl
def oe2(d c:Nat)(fr:Fr)(s:St):Option Mk->Option XS->Option XS
 |some r,_=>some ⟨c+1,(d,true,r.val s.up.length d c)::fr,s.put s.up.length d c r.res⟩
 |none,z=>z
@[simp] theorem A9B(d c:Nat)(fr:Fr)(s:St)(T:bm)(es:List (List V))(z:Option XS):oe2 d c fr s (some ⟨.vec T es,none⟩) z=some ⟨c+1,(d,true,.vec s.up.length d c es.length)::fr,s.put s.up.length d c (.vec T es)⟩:=rfl
def oe1(d c:Nat)(fr:Fr)(s:St)(F:List V->Option Mk):Option (List V)->Option XS->Option XS
 |some vs,z=>oe2 d c fr s (F vs) z
 |none,z=>z
@[simp] theorem AFV(d c:Nat)(fr:Fr)(s:St)(F:List V->Option Mk)(vs:List V)(z:Option XS):oe1 d c fr s F (some vs) z=oe2 d c fr s (F vs) z:=rfl
variable {A:Ann}{kn:CF0}{n:Nat}{fr:Fr}{s:St}
@[simp] theorem A4G{α:Type}(r:α)(z:Option α):orM (some r) z=some r:=rfl
@[simp] theorem A4H{α:Type}(z:Option α):orM none z=z:=rfl
@[simp] theorem A9C{f:cj}(hS:GL P f=true)(d c:Nat)(args:List bp):CX P (BL P A kn n) (some d) (.call true none (.func f) args) ⟨c,fr,s⟩ =
  oe1 d c fr s (fun vs=>orM (H8 P (AF P A kn n) f (vs.map weakV)) (koV P f (vs.map weakV))) (FT (CI fr) args) (QT (BL P A kn n).cf (BL P A kn n).cy (some d) (.func f) args ⟨c,fr,s⟩):=by
 show aE (BL P A kn n) true (some d) (.func f) args ⟨c,fr,s⟩=_
 unfold aE
 show(match H5 (BL P A kn n).co (some d) (.func f) args ⟨c,fr,s⟩ with|some st'=>some st'|none=>_)=_
 unfold H5
 have hf:CI fr (.func f)=some (.fn f [] []):=rfl
 simp only[hf]
 cases FT (CI fr) args with
 |none=>rfl
 |some vs=>
  simp only[AFV,bw,bx]
  have:(BL P A kn n).co f (vs.map weakV) d=orM (H8 P (AF P A kn n) f (vs.map weakV)) (koV P f (vs.map weakV)):=by show O3 P kn (fun _ _ _=>none) (AF P A kn n) f _ d=_;unfold O3;simp only[hS]
  rw[this]
  cases orM (H8 P (AF P A kn n) f (vs.map weakV)) (koV P f (vs.map weakV))with
  |none=>rfl
  |some r=>rfl
def of2(d c:Nat)(fr:Fr)(s:St):Option Mk->Option XS
 |some r=>some ⟨c+1,(d,true,r.val s.up.length d c)::fr,s.put s.up.length d c r.res⟩
 |none=>none
@[simp] theorem A9D(d c:Nat)(fr:Fr)(s:St)(T:bm)(es:List (List V)):of2 d c fr s (some ⟨.vec T es,none⟩)=some ⟨c+1,(d,true,.vec s.up.length d c es.length)::fr,s.put s.up.length d c (.vec T es)⟩:=rfl
def of1(d c:Nat)(fr:Fr)(s:St)(F:List V->Option Mk):Option (List V)->Option XS
 |some vs=>of2 d c fr s (F vs)
 |none=>none
@[simp] theorem AFW(d c:Nat)(fr:Fr)(s:St)(F:List V->Option Mk)(vs:List V):of1 d c fr s F (some vs)=of2 d c fr s (F vs):=rfl
@[simp] theorem A4I{f:cj}(hS:GL P f=true)(d c:Nat)(args:List bp):DP P (BL P A kn n) (some d) (.call true none (.func f) args) ⟨c,fr,s⟩ =
  nw (of1 d c fr s (fun vs=>orM (H8 P (AF P A kn n) f (vs.map weakV)) (koV P f (vs.map weakV))) (FT (CI fr) args)):=by
 show T3 (H5 (BL P A kn n).co (some d) (.func f) args ⟨c,fr,s⟩)=_
 rw[HE]
 congr 1
 unfold H5
 have hf:CI fr (.func f)=some (.fn f [] []):=rfl
 simp only[hf]
 cases FT (CI fr) args with
 |none=>rfl
 |some vs=>
  simp only[AFW,bw,bx]
  have:(BL P A kn n).co f (vs.map weakV) d=orM (H8 P (AF P A kn n) f (vs.map weakV)) (koV P f (vs.map weakV)):=by show O3 P kn (fun _ _ _=>none) (AF P A kn n) f _ d=_;unfold O3;simp only[hS]
  rw[this]
  cases orM (H8 P (AF P A kn n) f (vs.map weakV)) (koV P f (vs.map weakV))with
  |none=>rfl
  |some r=>rfl
def ASB(P:bn)(fn:Func)(r:Option (Exit×XS)):Option Mk:=match r with
 |some (.ret,st)=>mT P fn st
 |some (.normal,st)=>mT P fn st
 |_=>none
@[simp] theorem A4J(fn:Func)(st:XS):ASB P fn (some (.ret,st))=mT P fn st:=rfl
@[simp] theorem ANM(fn:Func)(st:XS):ASB P fn (some (.normal,st))=mT P fn st:=rfl
theorem zU{f:cj}{fn:Func}{c:Code}{args:List V}{rec:HD}(hf:P.funcs[f]? = some fn)(hb:fn.body=some c)(hs:Nat.ble args.length fn.ntmps=true)(hcl:args.all (AG 9)=true) :
  H8 P rec f args=ASB P fn (rec fn.ntmps c ⟨0,AD 0 args,⟨[],[]⟩⟩):=by
 unfold H8 WZ mS
 rw[hcl,hf]
 simp only[hb,hs]
 generalize rec fn.ntmps c ⟨0,AD 0 args,⟨[],[]⟩⟩=q
 cases q with
 |none=>rfl
 |some q=>
  obtain⟨e,st⟩:=q
  cases e<;>rfl
def rO(P:bn)(fn:Func)(st:XS)(v:Option V):Option Mk:=match v with
 | some (.vec l k γ n)=>Bool.rec none (match st.s.loc.get k with
  |some (γ',.vec T es)=>Bool.rec none (some ⟨.vec T es,none⟩) (bf γ' γ&&bf n es.length&&es.all fun e=>e.all (AG 9))
  | _=>none) (bf l st.s.up.length)
 | some v=>Bool.rec none (match fn.resultTypes.toList with
  |[R]=>match BO P R with
   |some (none,T)=>some ⟨.vec T [],none⟩
   |_=>none
  | _=>none) (W8 v)
 |none=>none
theorem vU(fn:Func)(st:XS):mT P fn st=rO P fn st (F0 P fn.results.toList st.fr st.s):=rfl
theorem ANN{fn:Func}{R T:bm}(h1:fn.resultTypes.toList=[R])(h2:BO P R=some (none,T))(c:Nat)(fr:Fr)(loc:AA)(k γ:Nat)(es:List (List V))(hl:loc.get k=(pl k γ T es).get k)(hc:(es.all fun e=>e.all (AG 9))=true):rO P fn ⟨c,fr,⟨[],loc⟩⟩ (some (pv k γ es))=some ⟨.vec T es,none⟩:=by
 cases es with
 |nil=>
  show(Bool.rec none (match fn.resultTypes.toList with
   |[R]=>match BO P R with
    |some (none,T)=>some ⟨.vec T [],none⟩
    |_=>none
   | _=>none) true:Option Mk)=_
  rw[h1]
  simp only[h2]
 |cons e es=>
  have hl:loc.get k=some (γ,.vec T (e::es)):=by rw[hl];simp
  simp only[pv,rO,hl,hc,List.length_nil,Bool.and_true]
  simp
end Go.Pg
namespace Go.Pg
section
@[simp] theorem unsnoc_snoc{α:Type}(x:α):∀(l:List α),B5 (l++[x])=some (l,x)
 |[]=>rfl
 |[y]=>rfl
 |y::z::l=>by have:=unsnoc_snoc x (z::l);simp only[List.cons_append]at this|-;rw[W2,this];rfl
end
section
variable {P:bn}{E:XE}{d:Option Tmp}{c:Nat}{fr:Fr}{s:St}{r:bp->Option V}
@[simp] theorem ASC(T:bm)(x i:bp)(ok:Bool):J0 P (nN (.lookup T x i ok)) s r=o2 (fun a b=>DT P s T a b ok) (r x) (r i):=by show((r x).bind fun a=>(r i).bind fun b=>DT P s T a b ok)=_;cases r x<;>cases r i<;>rfl
def up1(c:Nat)(fr:Fr)(s:St):Option (Nat×Nat×Nat×List (V×V))->Option XS
 |some (l,q,γ,es)=>Bool.rec none (some ⟨c,fr,s.put l q γ (.map es)⟩) (bj γ c)
 |none=>none
def up3(P:bn)(T:bm)(c:Nat)(fr:Fr)(s:St):Option V->Option V->Option V->Option XS
 |some m,some i,some v=>up1 c fr s (ME P s T m i v)
 |_,_,_=>none
@[simp] theorem A4K(T:bm)(m i v:V):up3 P T c fr s (some m) (some i) (some v)=up1 c fr s (ME P s T m i v):=rfl
theorem AFX(l q γ:Nat)(es:List (V×V))(h:γ<c):up1 c fr s (some (l,q,γ,es))=some ⟨c,fr,s.put l q γ (.map es)⟩:=by
 have:bj γ c=true:=by simpa [bk]using h
 show(Bool.rec none (some ⟨c,fr,s.put l q γ (.map es)⟩) (bj γ c):Option XS)=_;rw[this]
@[simp] theorem AW0(T:bm)(x i y:bp):CX P E none (.upd T x i y) ⟨c,fr,s⟩=up3 P T c fr s (CI fr x) (CI fr i) (CI fr y):=by show yV P none T x i y ⟨c,fr,s⟩=_;unfold yV up3 up1;simp only;cases CI fr x<;>cases CI fr i<;>cases CI fr y<;>simp only;split<;>simp_all
@[simp] theorem A4L(x:bp):J0 P (nN (.nilCheck x)) s r=o1 NN (r x):=by show(r x).bind NN=_;cases r x<;>rfl
@[simp] theorem AW1(l k g o:Nat):NN (.ptr l k g o)=some (.ptr l k g o):=rfl
@[simp] theorem A4M(x:bp)(f:bp->Option V):IL P (.oth (.nilCheck x)) f=[]:=rfl
@[simp] theorem A4N(T:bm)(x i:bp)(ok:Bool)(f:bp->Option V):IL P (.oth (.lookup T x i ok)) f=A0 (f x):=rfl
@[simp] theorem ASD(l k g:Nat):BV s (.mp l k g)=some (.mp l k g):=rfl
theorem NH{α:Type}{f:α->Option α}:∀{l:List α},(∀x∈l,f x=some x)->HM f l=some l
 |[],_=>rfl
 |x::l,h=>by have ih:=NH (f:=f) (l:=l) fun y hy=>h y (by simp[hy]);simp only[HM,h x (by simp),ih]
theorem UA:∀(l:List AA) (b:AA),B5 (l++[b])=some (l,b)
 |[],b=>by simp
 |[a],b=>by simp
 |a::a2::l,b=>by have:=UA (a2::l) b;simp only[List.cons_append]at this|-;simp[this]
@[simp] theorem AW2(a:AA)(l:List AA)(b:AA):B5 (a::(l++[b]))=some (a::l,b):=UA (a::l) b
@[simp] theorem ASE(l k g:Nat):A0 (some (.mp l k g))=[(l,k)]:=rfl
@[simp] theorem AW3(d:Nat):CX P E (some d) (.mkM none) ⟨c,fr,s⟩=some ⟨c+1,(d,true,.mp s.up.length d c)::fr,s.put s.up.length d c (.map [])⟩:=rfl
end
section
variable {P:bn}{s:St}{r:bp->Option V}
@[simp] theorem ASF(T:bm)(x h:bp):J0 P (nN (.slice T x none (some h) none)) s r=o2 (fun a b=>C0 P s T a none (some b) none) (r x) (r h):=by show((r x).bind fun a=>((some none:Option (Option V))).bind fun l=>((r h).map some).bind fun h=>((some none:Option (Option V))).bind fun m=>C0 P s T a l h m)=_;cases r x<;>cases r h<;>rfl
end
section
variable {P:bn}{E:XE}{c:Nat}{fr:Fr}{s:St}{r:bp->Option V}
@[simp] theorem ASG(T:bm)(x l:bp):J0 P (nN (.slice T x (some l) none none)) s r=o2 (fun a b=>C0 P s T a (some b) none none) (r x) (r l):=by show((r x).bind fun a=>((r l).map some).bind fun l=>(some none).bind fun h=>(some none).bind fun m=>C0 P s T a l h m)=_;cases r x<;>cases r l<;>rfl
theorem zV{T e:bm}{l k g n h:Nat}(hT:BO P T=some (none,e))(hh:h<=n)(hc:0<P.cellsOf e):C0 P s T (.vec l k g n) none (some (.int .i64 (h:Int))) none=some (.vec l k g h):=by unfold C0;simp only[hT];rw[if_pos ⟨by omega,by omega,hc⟩];simp
end
section
variable {P:bn}{fr:Fr}{s:St}
@[simp] theorem A9F(e d c:Nat)(ys:List (List V))(h:BZ P e 0 ys=true):sH P e d c fr s (.list true []) ys=some (⟨c+1,(d,true,.vec s.up.length d c ys.length)::fr,s.put s.up.length d c (.vec e ys)⟩,[(s.up.length,d),(s.up.length,d+FE)]):=by unfold sH;simp[I3,h]
@[simp] theorem A9G(e d c l q γ n:Nat)(ys:List (List V)):sH P e d c fr s (.vec l q γ n) ys=wp [(l,q),(l,q+FE)] (apW P e d c fr s l q γ n ys (RA n ys (s.get l q))):=rfl
@[simp] theorem ASH(l k g i o:Nat):NN (.eptr l k g i o)=some (.eptr l k g i o):=rfl
end
section
@[simp] theorem AJJ{P:bn}{A:Ann}{kn:CF0}{n:Nat}:(BL P A kn n).cy=aK (AF P A kn n):=rfl
end
section
variable {P:bn}{A:Ann}{kn:CF0}{n:Nat}{fr:Fr}{s:St}
def oc2(d c:Nat)(fr:Fr)(s:St):Option V->Option XS->Option XS
 |some r,_=>some ⟨c+1,(d,true,r.ren (fun _=>c) s.up.length)::fr,s.put s.up.length d c .dead⟩
 |none,z=>z
@[simp] theorem A4O(d c:Nat)(r:V)(z:Option XS):oc2 d c fr s (some r) z=some ⟨c+1,(d,true,r.ren (fun _=>c) s.up.length)::fr,s.put s.up.length d c .dead⟩:=rfl
def oc1(d c:Nat)(fr:Fr)(s:St)(F:List V->Option V):Option (List V)->Option XS->Option XS
 |some vs,z=>oc2 d c fr s (F vs) z
 |none,z=>z
@[simp] theorem AFY(d c:Nat)(F:List V->Option V)(vs:List V)(z:Option XS):oc1 d c fr s F (some vs) z=oc2 d c fr s (F vs) z:=rfl
@[simp] theorem A4P{f:cj}(hS:GL P f=false)(d c:Nat)(args:List bp):CX P (BL P A kn n) (some d) (.call true none (.func f) args) ⟨c,fr,s⟩ =
  oc1 d c fr s (fun vs=>F4 P kn (AF P A kn n) f (vs.map weakV)) (FT (CI fr) args) (QT (BL P A kn n).cf (BL P A kn n).cy (some d) (.func f) args ⟨c,fr,s⟩):=by
 show aE (BL P A kn n) true (some d) (.func f) args ⟨c,fr,s⟩=_
 unfold aE
 show(match H5 (BL P A kn n).co (some d) (.func f) args ⟨c,fr,s⟩ with|some st'=>some st'|none=>_)=_
 unfold H5
 have hf:CI fr (.func f)=some (.fn f [] []):=rfl
 simp only[hf]
 cases FT (CI fr) args with
 |none=>rfl
 |some vs=>
  simp only[AFY,bw,bx]
  have:(BL P A kn n).co f (vs.map weakV) d=(match F4 P kn (AF P A kn n) f (vs.map weakV)with|some r=>some ⟨.dead,some r⟩|none=>none):=by show O3 P kn (fun _ _ _=>none) (AF P A kn n) f _ d=_;unfold O3;simp only[hS];cases F4 P kn (AF P A kn n) f (vs.map weakV)<;>rfl
  rw[this]
  cases F4 P kn (AF P A kn n) f (vs.map weakV)with
  |none=>rfl
  |some r=>rfl
def od2(d c:Nat)(fr:Fr)(s:St):Option V->Option XS
 |some r=>some ⟨c+1,(d,true,r.ren (fun _=>c) s.up.length)::fr,s.put s.up.length d c .dead⟩
 |none=>none
@[simp] theorem A4Q(d c:Nat)(r:V):od2 d c fr s (some r)=some ⟨c+1,(d,true,r.ren (fun _=>c) s.up.length)::fr,s.put s.up.length d c .dead⟩:=rfl
def od1(d c:Nat)(fr:Fr)(s:St)(F:List V->Option V):Option (List V)->Option XS
 |some vs=>od2 d c fr s (F vs)
 |none=>none
@[simp] theorem AFZ(d c:Nat)(F:List V->Option V)(vs:List V):od1 d c fr s F (some vs)=od2 d c fr s (F vs):=rfl
@[simp] theorem AW4{f:cj}(hS:GL P f=false)(d c:Nat)(args:List bp):DP P (BL P A kn n) (some d) (.call true none (.func f) args) ⟨c,fr,s⟩ =
  nw (od1 d c fr s (fun vs=>F4 P kn (AF P A kn n) f (vs.map weakV)) (FT (CI fr) args)):=by
 show T3 (H5 (BL P A kn n).co (some d) (.func f) args ⟨c,fr,s⟩)=_
 rw[HE]
 congr 1
 unfold H5
 have hf:CI fr (.func f)=some (.fn f [] []):=rfl
 simp only[hf]
 cases FT (CI fr) args with
 |none=>rfl
 |some vs=>
  simp only[AFZ,bw,bx]
  have:(BL P A kn n).co f (vs.map weakV) d=(match F4 P kn (AF P A kn n) f (vs.map weakV)with|some r=>some ⟨.dead,some r⟩|none=>none):=by show O3 P kn (fun _ _ _=>none) (AF P A kn n) f _ d=_;unfold O3;simp only[hS];cases F4 P kn (AF P A kn n) f (vs.map weakV)<;>rfl
  rw[this]
  cases F4 P kn (AF P A kn n) f (vs.map weakV)with
  |none=>rfl
  |some r=>rfl
end
section
variable {fr:Fr}{s:St}
@[simp] theorem ANO(l k g:Nat):BV s (.yld l k g)=some (.yld l k g):=rfl
@[simp] theorem ANP(f:Nat)(cs:List V):A1 s (f+1) (.ref cs)=some (.ref cs):=rfl
@[simp] theorem A4R{P:bn}:F0 P [] fr s=some (.tup []):=rfl
@[simp] theorem ANQ(f:Nat):A1 s (f+1) (.tup [])=some (.tup []):=rfl
@[simp] theorem AF0:CP .nilFunc=some (.raw .nilFunc):=rfl
@[simp] theorem ASI(f l k g:Nat):AG (f+1) (.yld l k g)=false:=rfl
@[simp] theorem A4S(l k g:Nat):weakV (.yld l k g)=.yld l k g:=rfl
@[simp] theorem A9I(d c l k g:Nat):bx1 d c fr s (some (.yld l k g))=some ⟨c+1,(d,true,.ptr s.up.length d c 0)::fr,s.put s.up.length d c (.box [.yld l k g])⟩:=rfl
@[simp] theorem A9J(F:List V->Option (List V))(g off:Nat)(g':Nat)(cs:List V):cp1 F g off (some (g',.box cs))=if g'=g then(F cs).map (fun ds=>V.ref (ds.drop off)) else none:=rfl
def mk4(P:bn)(d c:Nat)(fr:Fr)(s:St)(e:bm)(n m:Int):Option (List V)->Option XS
 |some z=>if 0<=n/\m=n/\z.length=P.cellsOf e/\n.toNat*P.bytesOf e<=140737488355328/\n.toNat<=maxLen then some ⟨c+1,(d,true,.vec s.up.length d c n.toNat)::fr,s.put s.up.length d c (.vec e (List.replicate n.toNat z))⟩ else none
 |none=>none
@[simp] theorem A4T{P:bn}(d c:Nat)(e:bm)(n m:Int)(z:List V):mk4 P d c fr s e n m (some z)=if 0<=n/\m=n/\z.length=P.cellsOf e/\n.toNat*P.bytesOf e<=140737488355328/\n.toNat<=maxLen then some ⟨c+1,(d,true,.vec s.up.length d c n.toNat)::fr,s.put s.up.length d c (.vec e (List.replicate n.toNat z))⟩ else none:=rfl
def mk3(P:bn)(d c:Nat)(fr:Fr)(s:St):Option (Option Nat×bm)->Option V->Option V->Option XS
 |some (none,e),some (.int _ n),some (.int _ m)=>mk4 P d c fr s e n m (B9 P e)
 |_,_,_=>none
@[simp] theorem AF1{P:bn}(d c:Nat)(e:bm)(k1 k2:ck)(n m:Int):mk3 P d c fr s (some (none,e)) (some (.int k1 n)) (some (.int k2 m))=mk4 P d c fr s e n m (B9 P e):=rfl
@[simp] theorem AW5{P:bn}{E:XE}(T:bm)(d c:Nat)(x y:bp):CX P E (some d) (.mkS T x y) ⟨c,fr,s⟩=mk3 P d c fr s (BO P T) (CI fr x) (CI fr y):=by
 show WX P (some d) T x y ⟨c,fr,s⟩=_;unfold WX;simp only;cases BO P T with
 |none=>cases CI fr x<;>cases CI fr y<;>rfl
 |some p=>
  obtain⟨k,e⟩:=p
  cases k with
  |some k=>cases CI fr x<;>cases CI fr y<;>rfl
  |none=>
   cases CI fr x with
   |none=>rfl
   |some a=>
    cases CI fr y with
    |none=>cases a<;>rfl
    |some z=>
     cases a with
     |int k1 n=>
      cases z with
      |int k2 m=>simp only[AF1];cases B9 P e<;>rfl
      |_=>rfl
     |_=>rfl
@[simp] theorem A9K{P:bn}(T:bm)(x y:bp)(r:bp->Option V):IL P (.mkS T x y) r=[]:=rfl
def rE(fr:Fr)(n γ:Nat)(r:Option XS):Option (Exit×XS):=match r with
 |some st=>match st.s.get n BE with
  | some (γ',.loop _ _ _ _ _ ls)=>Bool.rec none (match ls with
   |.ready=>some (.normal,⟨st.c,fr,st.s.put n BE γ .dead⟩)
   |.left .ret=>some (.ret,⟨st.c,fr,st.s.put n BE γ .dead⟩)
   |.left (.exit id)=>some (.exit id,⟨st.c,fr,st.s.put n BE γ .dead⟩)
   | _=>none) (bf γ' γ&&bj γ st.c)
  |_=>none
 |none=>none
theorem P0{P:bn}{A:Ann}{kn:CF0}{n N:Nat}{g:bp}{ps:List Tmp}{asg body:Code}{c:Nat}{up:List AA}{loc:AA}{f:cj}{first cap:List V}(h:CI fr g=some (.fn f first cap)) :
  VO (BL P A kn n).cf N g ps asg body ⟨c,fr,⟨up,loc⟩⟩=rE fr up.length c (HQ (BL P A kn n) none ⟨c+1,fr,⟨up,(BE,c,.loop fr ps asg body N .ready)::loc⟩⟩ f ((first++[V.yld up.length BE c]++cap).map weakV)):=by
 unfold VO
 simp only[h]
 unfold HQ iD rE
 simp only[St.put,if_true,AA.put]
 cases (BL P A kn n).cf f ((first++[V.yld up.length BE c]++cap).map weakV) ⟨c+1,fr,⟨up,(BE,c,.loop fr ps asg body N .ready)::loc⟩⟩ with
 |none=>rfl
 |some r=>rfl
theorem UB{n γ c:Nat}{fr' fr0:Fr}{s:St}{ps:List Tmp}{asg body:Code}{N:Nat}(h:s.get n BE=some (γ,.loop fr0 ps asg body N .ready))(hc:γ<c):rE fr n γ (some ⟨c,fr',s⟩)=some (.normal,⟨c,fr,s.put n BE γ .dead⟩):=by
 unfold rE;simp only[h];have:(bf γ γ&&bj γ c)=true:=by simpa using hc
 rw[this]
@[simp] theorem AW6(t:St)(fr0:Fr)(ps:List Tmp)(asg body:Code)(N:Nat)(l:LS):CG t (.loop fr0 ps asg body N l)=.loop fr0 ps asg body N l:=rfl
theorem UC{rec:HD}{l q γ c N:Nat}{fr0:Fr}{ps:List Tmp}{asg body:Code}{vs:List V}(h:s.get l q=some (γ,.loop fr0 ps asg body N .ready))(hv:vs.length=ps.length)(hc:γ<c) :
  aK rec l q γ vs ⟨c,fr,s⟩=O4 fr l q γ (aJ (rec N) l q γ body (rec N asg ⟨c,JK fr0 ps vs,⟨s.up++[s.loc],[]⟩⟩)):=by
 unfold aK
 simp only[h]
 have:(bf γ γ&&bf vs.length ps.length&&bj γ c)=true:=by simp[hv,hc]
 rw[this]
theorem G4{rec:cD}{l q γ c N:Nat}{fr0:Fr}{ps:List Tmp}{asg body body':Code}(h:s.get l q=some (γ,.loop fr0 ps asg body' N .ready))(hc:γ<c) :
  aJ rec l q γ body (some (.normal,⟨c,fr,s⟩))=rec body ⟨c,fr,s.put l q γ (.loop fr0 ps asg body' N .busy)⟩:=by
 unfold aJ
 simp only[h]
 have:(bf γ γ&&bj γ c)=true:=by simp[hc]
 rw[this]
theorem QY{fr':Fr}{l q γ c N:Nat}{fr0:Fr}{ps:List Tmp}{asg body:Code}{up u:List AA}{loc lc:AA}(h:St.get ⟨up,loc⟩ l q=some (γ,.loop fr0 ps asg body N .busy))(hu:B5 up=some (u,lc))(hl:l<up.length)(hc:γ<c) :
  O4 fr l q γ (some (.normal,⟨c,fr',⟨up,loc⟩⟩))=some (.bool true,⟨c,fr,St.put ⟨u.map (AJ ⟨up,loc⟩),AJ ⟨up,loc⟩ lc⟩ l q γ (.loop fr0 ps asg body N .ready)⟩):=by
 unfold O4
 simp only[h,hu]
 have:(bf γ γ&&bj l up.length&&bj γ c)=true:=by simp[hc,hl]
 rw[this]
 rfl
end
section
def tkU(z:Option XS)(d:Option Tmp)(st:XS):Option V->Option XS
 |some r=>Bool.rec z (EG d st (some r)) (aU r)
 |none=>z
@[simp] theorem A9L(z:Option XS)(d:Option Tmp)(st:XS)(k:ck)(n:Int):tkU z d st (some (.int k n))=EG d st (some (.int k n)):=rfl
@[simp] theorem A4U(z:Option XS)(d:Option Tmp)(st:XS)(b:Bool):tkU z d st (some (.bool b))=EG d st (some (.bool b)):=rfl
@[simp] theorem AW7(l k g n:Nat):weakC (.vec l k g n)=.vec l k g n:=rfl
@[simp] theorem zW(st:XS)(v:V):IW st [] v=v:=rfl
@[simp] theorem rV(k:Nat)(ks:List Nat)(c:Nat)(fr:Fr)(up:List AA)(loc:AA)(v:V)(h:k<10000):IW ⟨c,fr,⟨up,loc⟩⟩ (k::ks) v=IW ⟨c,fr,⟨up,loc⟩⟩ ks (BF up.length k (loc.get k) 3 v):=by
 have:bj k 10000=true:=by simpa [bk]using h
 simp only[IW,this,cond_true]
@[simp] theorem GD(k:Nat)(ks:List Nat)(st:XS)(v:V)(h:¬k<10000):IW st (k::ks) v=IW st ks (BF (k / 10000-1) (k % 10000) (st.s.get (k / 10000-1) (k % 10000)) 3 v):=by
 have:bj k 10000=false:=by
  cases hb:bj k 10000 with
  |false=>rfl
  |true=>exact absurd (by simpa [bk]using hb) h
 simp only[IW,this,cond_false]
@[simp] theorem A9M{P:bn}{A:Ann}{kn:CF0}{n k:Nat}{us:List Nat}(d:Option Tmp)(st:XS)(f:cj)(args:List V):HQ (cfU (k::us) (BL P A kn n)) d st f args=tkU (HQ (BL P A kn n) d st f args) d st (F4 P kn (AF P A kn n) f (args.map (IW st (k::us)))):=by
 show(match mX (BL P A kn n).cf (BL P A kn n).c0 (k :: us) f args st with
  |some (r,st')=>some (⟨st'.c,putD st'.fr d true r,st'.s⟩:XS)
  | none=>none)=_
 unfold mX;have e:(BL P A kn n).c0=F4 P kn (AF P A kn n):=rfl;rw[e];cases F4 P kn (AF P A kn n) f (args.map (IW st (k::us)))with
 |none=>rfl
 |some r=>
  show(match(Bool.rec ((BL P A kn n).cf f args st) (some (r,st)) (aU r):Option (V×XS))with
   |some (r,st')=>some (⟨st'.c,putD st'.fr d true r,st'.s⟩:XS)
   | none=>none)=(Bool.rec (HQ (BL P A kn n) d st f args) (EG d st (some r)) (aU r):Option XS)
  cases aU r<;>rfl
@[simp] theorem ASJ(k:ck)(n:Int):iG (.int k n)=true:=rfl
@[simp] theorem ANR(b:Bool):iG (.bool b)=true:=rfl
end
theorem rW{j k:Nat}(h:j≠k)(γ γ2:Nat)(T T2:bm)(es fs:List (List V)):kl j (kl k [] ((pl j γ T es++pl k γ2 T2 fs).get k)) ((pl j γ T es++pl k γ2 T2 fs).get j)=pl j γ T es++pl k γ2 T2 fs:=by cases es<;>cases fs<;>simp[h,h.symm]
theorem XV{j k:Nat}(h:j≠k)(γ γ2:Nat)(T T2:bm)(es fs:List (List V)):(pl j γ T es++pl k γ2 T2 fs).get k=(pl k γ2 T2 fs).get k:=by cases es<;>cases fs<;>simp[h.symm]
theorem rX{j k:Nat}(h:j≠k)(γ γ2:Nat)(T T2:bm)(es fs:List (List V))(M:AA):kl j M ((pl j γ T es++pl k γ2 T2 fs).get j)=pl j γ T es++M:=by cases es<;>cases fs<;>simp[h,h.symm]
theorem AK1{j k:Nat}(h:j≠k)(γ:Nat)(T:bm)(es:List (List V))(x:Nat×AX):(pl j γ T es++[(k,x)]).get k=some x:=by cases es<;>simp[h.symm]
theorem ASK{j k:Nat}(h:j≠k)(γ:Nat)(T:bm)(es:List (List V))(x:Nat×AX)(M:AA):kl j M ((pl j γ T es++[(k,x)]).get j)=pl j γ T es++M:=by cases es<;>simp[h,h.symm]
theorem XW{j k:Nat}(h:j≠k)(γ γ2:Nat)(T T2:bm)(es fs:List (List V)):(pl j γ T es++pl k γ2 T2 fs).get j=(pl j γ T es).get j:=by cases es<;>cases fs<;>simp[h]
theorem iU{j k m:Nat}(h1:j≠m)(h2:k≠m)(γ γ2:Nat)(T T2:bm)(es fs:List (List V)):(pl j γ T es++pl k γ2 T2 fs).get m=none:=by cases es<;>cases fs<;>simp[h1.symm,h2.symm]
theorem rY{j:Nat}(γ:Nat)(T:bm)(es:List (List V))(M:AA):kl j M ((pl j γ T es).get j)=pl j γ T es++M:=by cases es<;>simp
theorem PC{t:St}{T:bm}{es:List (List V)}(h:∀e∈es,∀v∈e,BV t v=some v):CG t (.vec T es)=.vec T es:=by
 have:B7 t (.vec T es)=some (.vec T es):=by unfold B7;simp only;rw[NH fun e he=>NH fun v hv=>h e he v hv]
 unfold CG;rw[this]
theorem zX{t c l q γ n:Nat}{fr:Fr}{s:St}{U:bm}{es:List (List V)}(h:BS fr t=some (true,.vec l q γ n))(hg:s.get l q=some (γ,.vec U es))(hn:n<=es.length)(hc:γ<c):bM (some t) ⟨c,fr,s⟩=⟨c,(t,true,.list false (es.take n))::fr,s.put l q γ .dead⟩:=by
 have hb:(bf γ γ&&Nat.ble n es.length&&bj γ c)=true:=by simp[bk,hn,hc,Nat.beq_eq]
 unfold bM;simp only[h,hg,hb]
@[simp] theorem ASL{P:bn}{A:Ann}{kn:CF0}{n N l:Nat}{st:XS}:AF P A kn (n+1) N (.label l) st=some (.normal,st):=rfl
theorem LL{α:Type}(p:α->Bool):∀(l:List α),(!l.any fun x=>!p x)=l.all p
 |[]=>rfl
 |x::l=>by have:=LL p l;simp only[List.any_cons,List.all_cons,Bool.not_or,Bool.not_not,<-this]
section
variable {P:bn}{fr:Fr}{s:St}
def pt(k γ:Nat):List (List V)->V
 |[]=>.list true []
 |e::es=>.vec 0 k γ (e::es).length
@[simp] theorem BES(k γ:Nat):pt k γ []=.list true []:=rfl
@[simp] theorem A9N(k γ:Nat)(e:List V)(es:List (List V)):pt k γ (e::es)=.vec 0 k γ (es.length+1):=rfl
@[simp] theorem BET(e k c γ:Nat)(loc:AA)(es:List (List V))(y:List V)(ys:List (List V))(hl:AA.get loc k=(pl k γ e es).get k)(h1:es.all (fun y=>y.length==P.cellsOf e)=true)(h2:BZ P e es.length (y::ys)=true) :
  apV P e k c fr ⟨[],loc⟩ (pt k γ es) (y::ys)=some ⟨c+1,(k,true,pt k c (es++y::ys))::fr,⟨[],(k,c,.vec e (es++y::ys))::loc⟩⟩:=by
 cases es with
 |nil=>
  simp only[List.length_nil]at h2
  simp[h2,pt]
 |cons z es=>
  have h:=AUE (P:=P) (fr:=fr) e k c γ loc (z::es) y ys hl h1 h2
  exact h
theorem zY{T:bm}(f:Nat)(loc:AA)(k γ:Nat)(es:List (List V))(hl:AA.get loc k=(pl k γ T es).get k):A1 ⟨[],loc⟩ (f+1) (pt k γ es)=some (.list false es):=by
 cases es with
 |nil=>rfl
 |cons e es=>exact P2 (T:=T) f loc k γ (e::es) hl
@[simp] theorem ASM(f k γ:Nat)(T:bm)(es:List (List V)):A1 ⟨[],pl k γ T es⟩ (f+1) (pt k γ es)=some (.list false es):=zY (T:=T) f _ k γ es rfl
@[simp] theorem AW8(k γ:Nat)(es:List (List V)):A7 (pt k γ es)=[pt k γ es]:=by cases es<;>rfl
@[simp] theorem AW9(k γ:Nat)(es:List (List V)):BD (pt k γ es)=true:=by cases es<;>rfl
end
@[simp] theorem A9O(st:XS):LR [] st=st:=rfl
@[simp] theorem A4V(k:Nat)(ks:List Nat)(c:Nat)(fr:Fr)(up:List AA)(loc:AA)(h:k<1000):LR (k::ks) ⟨c,fr,⟨up,loc⟩⟩=LR ks ⟨c,NU up.length k (loc.get k) fr,⟨up,GH up.length k (loc.get k) loc⟩⟩:=by
 have h1:bj k 1000=true:=by simpa [bk]using h
 show LR ks (vE k ⟨c,fr,⟨up,loc⟩⟩)=_;unfold vE;rw[h1];rfl
@[simp] theorem A4W(k:Nat)(ks:List Nat)(c:Nat)(fr:Fr)(up:List AA)(loc:AA)(h:2000000000000000<=k):LR (k::ks) ⟨c,fr,⟨up,loc⟩⟩=LR ks ⟨c,fr,⟨up,dB (k % 1000) loc⟩⟩:=by
 have h1:bj k 1000=false:=by rw[<-bc,bk];omega
 have h2:bj k 1000000000000000=false:=by rw[<-bc,bk];omega
 have h3:bj k 2000000000000000=false:=by rw[<-bc,bk];omega
 show LR ks (vE k ⟨c,fr,⟨up,loc⟩⟩)=_;unfold vE;rw[h1,h2,h3];rfl
@[simp] theorem A9P(k:Nat):dB k []=[]:=rfl
@[simp] theorem A4X(k j g:Nat)(r:AX)(L:AA):dB k ((j,g,r)::L)=(j,g,if j=k then wkR r else r)::dB k L:=rfl
@[simp] theorem A9Q(T:bm)(es:List (List V)):wkR (.vec T es)=.vec T (es.map (bh jI)):=rfl
@[simp] theorem A9R(cs:List V):wkR (.box cs)=.box (cs.map jI):=rfl
@[simp] theorem BEU(k γ:Nat)(T:bm)(es:List (List V)):dB k (pl k γ T es)=pl k γ T (es.map (bh jI)):=by
 cases es with
 |nil=>rfl
 |cons e es=>simp[pl,dB]
@[simp] theorem AK2{k j:Nat}(h:j≠k)(γ:Nat)(T:bm)(es:List (List V)):dB k (pl j γ T es)=pl j γ T es:=by
 cases es with
 |nil=>rfl
 |cons e es=>simp[pl,dB,h]
@[simp] theorem BEV(es:List (List V)):jI (sl es)=.list false es:=by cases es<;>rfl
@[simp] theorem A9S:jI .nil=.list false []:=rfl
@[simp] theorem A4Y(b:Bool)(es:List (List V)):jI (.list b es)=.list b es:=rfl
section
variable {l k:Nat}{o:Option (Nat×AX)}
def gtf(l k:Nat)(o:Option (Nat×AX)):Option (Bool×V)->Option (Bool×V)
 |some (c,v)=>some (c,BF l k o 3 v)
 |none=>none
@[simp] theorem A4Z(c:Bool)(v:V):gtf l k o (some (c,v))=some (c,BF l k o 3 v):=rfl
@[simp] theorem A40:gtf l k o none=none:=rfl
@[simp] theorem AXA(fr:Fr)(j:Nat):BS (NU l k o fr) j=gtf l k o (BS fr j):=by
 rw[FM,FM,VQ];cases fr.get j with
 |none=>rfl
 |some x=>rfl
end
@[simp] theorem A9T{k j:Nat}(h:j≠k)(r:Fr)(o:Option (Bool×V)):BS (kx k r o) j=BS r j:=by
 cases o with
 |none=>rfl
 |some x=>
  obtain⟨c,v⟩:=x
  simp[h]
end Go.Pg
