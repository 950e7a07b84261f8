/- Rows told as lists, by simp. No program in sight. -/
import Derived.Test.YthhdhbalenanjaaGreatSx
noncomputable section
open Go renaming TypeId->bg,Program->bh,Operand->bm,FuncId->bn
open Nat renaming blt->bj,blt_eq->bk,beq->bc
open List renaming map_congr_left->bq,all_eq_true->bw,nil_append->bz,append_nil->bb,map_id->bf
open Bool renaming not_eq_true->bx
set_option linter.unusedSimpArgs false
namespace Go.Pg
variable {P:bh}{l k:Nat}{o:Option (Nat×AV)}
@[simp] theorem AU8(st:XS):TV [] st=st:=rfl
@[simp] theorem AU9:QE l k o []=[]:=rfl
@[simp] theorem ARE(j:Nat)(c:Bool)(v:V)(fr:Fr):QE l k o ((j,c,v)::fr)=(j,c,BG l k o 3 v)::QE l k o fr:=rfl
@[simp] theorem AVA:F9 l k o []=[]:=rfl
@[simp] theorem ARF(j g:Nat)(r:AV)(L:AA):F9 l k o ((j,g,r)::L)=if j=k then F9 l k o L else(j,g,KU l k o r)::F9 l k o L:=rfl
theorem WR:∀(f g:Nat) (v:V),AG g v=true->BG l k o f v=v
 |0,_,_,_=>rfl
 |f+1,0,v,h=>by cases h
 |f+1,g+1,v,h=>by
  have lst:∀cs:List V,cs.all (AG g)=true->cs.map (BG l k o f)=cs:=by
   intro cs h;conv=>rhs;rw[<-bf cs]
   exact bq fun x hx=>WR f g x (bw.1 h x hx)
  cases v with
  |vec _ _ _ _=>cases h
  |ptr _ _ _ _=>cases h
  |agg cs=>simp only[BG];rw[lst cs h]
  |tup cs=>simp only[BG];rw[lst cs h]
  |_=>rfl
theorem rP{cs:List V}(h:cs.all (AG 9)=true)(f:Nat):cs.map (BG l k o f)=cs:=by
 conv=>rhs;rw[<-bf cs]
 exact bq fun x hx=>WR f 9 x (bw.1 h x hx)
theorem zC{es:List (List V)}(h:(es.all fun e=>e.all (AG 9))=true)(f:Nat):es.map (List.map (BG l k o f))=es:=by
 conv=>rhs;rw[<-bf es]
 exact bq fun x hx=>rP (bw.1 h x hx) f
@[simp] theorem zD{j:Nat}(h:j≠k)(γ:Nat)(T:bg)(es:List (List V))(L:AA)(hc:(es.all fun e=>e.all (AG 9))=true):F9 l k o (pl j γ T es++L)=pl j γ T es++F9 l k o L:=by
 cases es with
 |nil=>rfl
 |cons e es=>
  have q:=zC (l:=l) (k:=k) (o:=o) hc 3
  simp only[List.map_cons]at q
  simp[h,KU,q]
@[simp] theorem zE{j:Nat}(h:j≠k)(γ:Nat)(T:bg)(es:List (List V))(hc:(es.all fun e=>e.all (AG 9))=true):F9 l k o (pl j γ T es)=pl j γ T es:=by have:=zD (l:=l) (o:=o) h γ T es [] hc;simpa using this
@[simp] theorem AVB(cs:List V):KU l k o (.box cs)=.box (cs.map (BG l k o 3)):=rfl
@[simp] theorem AVC(T:bg)(es:List (List V)):KU l k o (.vec T es)=.vec T (es.map (List.map (BG l k o 3))):=rfl
@[simp] theorem AVD(es:List (V×V)):KU l k o (.map es)=.map es:=rfl
@[simp] theorem ARG:KU l k o .dead=.dead:=rfl
@[simp] theorem eV(f:Nat)(i:IntKind)(n:Int):BG l k o f (.int i n)=.int i n:=by cases f<;>rfl
@[simp] theorem ARH(f:Nat)(b:Bool):BG l k o f (.bool b)=.bool b:=by cases f<;>rfl
@[simp] theorem ARI(f:Nat)(b:Bool)(es:List (List V)):BG l k o f (.list b es)=.list b es:=by cases f<;>rfl
@[simp] theorem A19(f:Nat)(es:List (List V)):BG l k o f (sl es)=sl es:=by cases f<;>cases es<;>rfl
@[simp] theorem AVE(f:Nat)(cs:List V):BG l k o f (.ref cs)=.ref cs:=by cases f<;>rfl
theorem zF(f a b c d:Nat)(h:¬(a=l/\b=k)):BG l k o f (.ptr a b c d)=.ptr a b c d:=by
 cases f with
 |zero=>rfl
 |succ f=>
  simp only[BG]
  split
  ·rw[if_neg fun hh=>h ⟨hh.1,hh.2.1⟩]
  ·rfl
@[simp] theorem ARJ(f a b c d:Nat)(h:¬b=k):BG l k o f (.ptr a b c d)=.ptr a b c d:=zF f a b c d fun hh=>h hh.2
@[simp] theorem ARK(γ:Nat)(cs:List V)(f a b g off:Nat):BG l k (some (γ,.box cs)) (f+1) (.ptr a b g off)=if a=l/\b=k/\g=γ then .ref ((cs.map TA).drop off) else .ptr a b g off:=rfl
@[simp] theorem A2A(q:IntKind)(n:Int):TA (.int q n)=.int q n:=rfl
@[simp] theorem AVF(b:Bool)(es:List (List V)):TA (.list b es)=.list b es:=rfl
@[simp] theorem A6Q(a b c:Nat):TA (.mp a b c)=.any:=rfl
@[simp] theorem ARL(f:Nat):AG (f+1) .any=true:=rfl
@[simp] theorem A2B(f a b c:Nat):BG l k o f (.mp a b c)=.mp a b c:=by cases f<;>rfl
@[simp] theorem A2C(f:Nat)(g:bn)(xs ys:List V):BG l k o f (.fn g xs ys)=.fn g xs ys:=by cases f<;>rfl
@[simp] theorem zG(f:Nat):BG l k o f .nil=.nil:=by cases f<;>rfl
@[simp] theorem AVG(f:Nat)(cs:List V):BG l k o (f+1) (.agg cs)=.agg (cs.map (BG l k o f)):=rfl
@[simp] theorem AVH(γ:Nat)(T:bg)(es:List (List V))(f l' k' g m:Nat):BG l k (some (γ,.vec T es)) (f+1) (.vec l' k' g m)=if l'=l/\k'=k/\g=γ/\m=es.length then .list false es else .vec l' k' g m:=rfl
@[simp] theorem AVI{j:Nat}(h:j≠k)(γ:Nat)(es:List (List V))(f:Nat):BG l k o f (pv j γ es)=pv j γ es:=by
 cases es with
 |nil=>cases f<;>rfl
 |cons e es=>
  cases f with
  |zero=>rfl
  |succ f=>
   simp only[pv,BG]
   split
   ·rw[if_neg (fun hh=>h hh.2.1)]
   ·rfl
variable {A:Ann}{kn:CF0}{n:Nat}{fr:Fr}{s:St}
@[simp] theorem A2D{α:Type}(r:α)(z:Option α):orM (some r) z=some r:=rfl
@[simp] theorem A2E{α:Type}(z:Option α):orM none z=z:=rfl
def of2(d c:Nat)(fr:Fr)(s:St):Option Mk->Option XS
 |some r=>some ⟨c+1,(d,true,r.val s.up.length d c)::fr,s.put s.up.length d c r.res⟩
 |none=>none
@[simp] theorem A6R(d c:Nat)(fr:Fr)(s:St)(T:bg)(es:List (List V)):of2 d c fr s (some ⟨.vec T es,none⟩)=some ⟨c+1,(d,true,.vec s.up.length d c es.length)::fr,s.put s.up.length d c (.vec T es)⟩:=rfl
def of1(d c:Nat)(fr:Fr)(s:St)(F:List V->Option Mk):Option (List V)->Option XS
 |some vs=>of2 d c fr s (F vs)
 |none=>none
@[simp] theorem AFJ(d c:Nat)(fr:Fr)(s:St)(F:List V->Option Mk)(vs:List V):of1 d c fr s F (some vs)=of2 d c fr s (F vs):=rfl
@[simp] theorem A2F{f:bn}(hS:JA P f=true)(d c:Nat)(args:List bm):DG P (BH P A kn n) (some d) (.call true none (.func f) args) ⟨c,fr,s⟩ =
  nw (of1 d c fr s (fun vs=>orM (GO P (AF P A kn n) f (vs.map weakV)) (koV P f (vs.map weakV))) (FQ (CK fr) args)):=by
 show TP (I9 (BH P A kn n).co (some d) (.func f) args ⟨c,fr,s⟩)=_
 rw[GP]
 congr 1
 unfold I9
 have hf:CK fr (.func f)=some (.fn f [] []):=rfl
 simp only[hf]
 cases FQ (CK fr) args with
 |none=>rfl
 |some vs=>
  simp only[AFJ,bz,bb]
  have:(BH P A kn n).co f (vs.map weakV) d=orM (GO P (AF P A kn n) f (vs.map weakV)) (koV P f (vs.map weakV)):=by show TU P kn (fun _ _ _=>none) (AF P A kn n) f _ d=_;unfold TU;simp only[hS]
  rw[this]
  cases orM (GO P (AF P A kn n) f (vs.map weakV)) (koV P f (vs.map weakV))with
  |none=>rfl
  |some r=>rfl
def A2G(P:bh)(fn:Func)(r:Option (Exit×XS)):Option Mk:=match r with
 |some (.ret,st)=>qK P fn st
 |some (.normal,st)=>qK P fn st
 |_=>none
@[simp] theorem A2H(fn:Func)(st:XS):A2G P fn (some (.ret,st))=qK P fn st:=rfl
theorem eW{f:bn}{fn:Func}{c:Code}{args:List V}{rec:F8}(hf:P.funcs[f]? = some fn)(hb:fn.body=some c)(hs:Nat.ble args.length fn.ntmps=true)(hcl:args.all (AG 9)=true) :
  GO P rec f args=A2G P fn (rec fn.ntmps c ⟨0,AD 0 args,⟨[],[]⟩⟩):=by
 unfold GO WQ mJ
 rw[hcl,hf]
 simp only[hb,hs]
 generalize rec fn.ntmps c ⟨0,AD 0 args,⟨[],[]⟩⟩=q
 cases q with
 |none=>rfl
 |some q=>
  obtain⟨e,st⟩:=q
  cases e<;>rfl
def rO(P:bh)(fn:Func)(st:XS)(v:Option V):Option Mk:=match v with
 | some (.vec l k γ n)=>Bool.rec none (match st.s.loc.get k with
  |some (γ',.vec T es)=>Bool.rec none (some ⟨.vec T es,none⟩) (bc γ' γ&&bc n es.length&&es.all fun e=>e.all (AG 9))
  | _=>none) (bc l st.s.up.length)
 | some v=>Bool.rec none (match fn.resultTypes.toList with
  |[R]=>match BQ P R with
   |some (none,T)=>some ⟨.vec T [],none⟩
   |_=>none
  | _=>none) (WZ v)
 |none=>none
theorem iL(fn:Func)(st:XS):qK P fn st=rO P fn st (FM P fn.results.toList st.fr st.s):=rfl
theorem AFK{fn:Func}{R T:bg}(h1:fn.resultTypes.toList=[R])(h2:BQ P R=some (none,T))(c:Nat)(fr:Fr)(loc:AA)(k γ:Nat)(es:List (List V))(hl:loc.get k=(pl k γ T es).get k)(hc:(es.all fun e=>e.all (AG 9))=true):rO P fn ⟨c,fr,⟨[],loc⟩⟩ (some (pv k γ es))=some ⟨.vec T es,none⟩:=by
 cases es with
 |nil=>
  show(Bool.rec none (match fn.resultTypes.toList with
   |[R]=>match BQ P R with
    |some (none,T)=>some ⟨.vec T [],none⟩
    |_=>none
   | _=>none) true:Option Mk)=_
  rw[h1]
  simp only[h2]
 |cons e es=>
  have hl:loc.get k=some (γ,.vec T (e::es)):=by rw[hl];simp
  simp only[pv,rO,hl,hc,List.length_nil,Bool.and_true]
  simp
end Go.Pg
namespace Go.Pg
section
@[simp] theorem unsnoc_snoc{α:Type}(x:α):∀(l:List α),B9 (l++[x])=some (l,x)
 |[]=>rfl
 |[y]=>rfl
 |y::z::l=>by have:=unsnoc_snoc x (z::l);simp only[List.cons_append]at this|-;rw[WT,this];rfl
end
section
variable {P:bh}{E:XE}{d:Option Tmp}{c:Nat}{fr:Fr}{s:St}{r:bm->Option V}
@[simp] theorem ARM(T:bg)(x i:bm)(ok:Bool):JH P (oI (.lookup T x i ok)) s r=o2 (fun a b=>DK P s T a b ok) (r x) (r i):=by show((r x).bind fun a=>(r i).bind fun b=>DK P s T a b ok)=_;cases r x<;>cases r i<;>rfl
def up1(c:Nat)(fr:Fr)(s:St):Option (Nat×Nat×Nat×List (V×V))->Option XS
 |some (l,q,γ,es)=>Bool.rec none (some ⟨c,fr,s.put l q γ (.map es)⟩) (bj γ c)
 |none=>none
def up3(P:bh)(T:bg)(c:Nat)(fr:Fr)(s:St):Option V->Option V->Option V->Option XS
 |some m,some i,some v=>up1 c fr s (LK P s T m i v)
 |_,_,_=>none
@[simp] theorem A2I(T:bg)(m i v:V):up3 P T c fr s (some m) (some i) (some v)=up1 c fr s (LK P s T m i v):=rfl
theorem AFL(l q γ:Nat)(es:List (V×V))(h:γ<c):up1 c fr s (some (l,q,γ,es))=some ⟨c,fr,s.put l q γ (.map es)⟩:=by
 have:bj γ c=true:=by simpa [bk]using h
 show(Bool.rec none (some ⟨c,fr,s.put l q γ (.map es)⟩) (bj γ c):Option XS)=_;rw[this]
@[simp] theorem AVJ(T:bg)(x i y:bm):CX P E none (.upd T x i y) ⟨c,fr,s⟩=up3 P T c fr s (CK fr x) (CK fr i) (CK fr y):=by show yJ P none T x i y ⟨c,fr,s⟩=_;unfold yJ up3 up1;simp only;cases CK fr x<;>cases CK fr i<;>cases CK fr y<;>simp only;split<;>simp_all
@[simp] theorem A2J(x:bm):JH P (oI (.nilCheck x)) s r=o1 N7 (r x):=by show(r x).bind N7=_;cases r x<;>rfl
@[simp] theorem AVK(l k g o:Nat):N7 (.ptr l k g o)=some (.ptr l k g o):=rfl
@[simp] theorem A2K(x:bm)(f:bm->Option V):HX P (.oth (.nilCheck x)) f=[]:=rfl
@[simp] theorem A2L(T:bg)(x i:bm)(ok:Bool)(f:bm->Option V):HX P (.oth (.lookup T x i ok)) f=BO (f x):=rfl
@[simp] theorem ARN(l k g:Nat):BW s (.mp l k g)=some (.mp l k g):=rfl
theorem M1{α:Type}{f:α->Option α}:∀{l:List α},(∀x∈l,f x=some x)->G4 f l=some l
 |[],_=>rfl
 |x::l,h=>by have ih:=M1 (f:=f) (l:=l) fun y hy=>h y (by simp[hy]);simp only[G4,h x (by simp),ih]
theorem T4:∀(l:List AA) (b:AA),B9 (l++[b])=some (l,b)
 |[],b=>by simp
 |[a],b=>by simp
 |a::a2::l,b=>by have:=T4 (a2::l) b;simp only[List.cons_append]at this|-;simp[this]
@[simp] theorem AVL(a:AA)(l:List AA)(b:AA):B9 (a::(l++[b]))=some (a::l,b):=T4 (a::l) b
@[simp] theorem AVM(d:Nat):CX P E (some d) (.mkM none) ⟨c,fr,s⟩=some ⟨c+1,(d,true,.mp s.up.length d c)::fr,s.put s.up.length d c (.map [])⟩:=rfl
end
section
variable {P:bh}{s:St}{r:bm->Option V}
@[simp] theorem ARO(T:bg)(x h:bm):JH P (oI (.slice T x none (some h) none)) s r=o2 (fun a b=>C4 P s T a none (some b) none) (r x) (r h):=by show((r x).bind fun a=>((some none:Option (Option V))).bind fun l=>((r h).map some).bind fun h=>((some none:Option (Option V))).bind fun m=>C4 P s T a l h m)=_;cases r x<;>cases r h<;>rfl
end
section
variable {P:bh}{E:XE}{c:Nat}{fr:Fr}{s:St}{r:bm->Option V}
theorem zH{T e:bg}{l k g n h:Nat}(hT:BQ P T=some (none,e))(hh:h<=n)(hc:0<P.cellsOf e):C4 P s T (.vec l k g n) none (some (.int .i64 (h:Int))) none=some (.vec l k g h):=by unfold C4;simp only[hT];rw[if_pos ⟨by omega,by omega,hc⟩];simp
end
section
variable {P:bh}{fr:Fr}{s:St}
@[simp] theorem A6T(e d c:Nat)(ys:List (List V))(h:B0 P e 0 ys=true):sB P e d c fr s (.list true []) ys=some (⟨c+1,(d,true,.vec s.up.length d c ys.length)::fr,s.put s.up.length d c (.vec e ys)⟩,[(s.up.length,d),(s.up.length,d+IE)]):=by unfold sB;simp[H7,h]
@[simp] theorem A6U(e d c l q γ n:Nat)(ys:List (List V)):sB P e d c fr s (.vec l q γ n) ys=wp [(l,q),(l,q+IE)] (apW P e d c fr s l q γ n ys (S6 n ys (s.get l q))):=rfl
end
section
@[simp] theorem AI7{P:bh}{A:Ann}{kn:CF0}{n:Nat}:(BH P A kn n).cy=aJ (AF P A kn n):=rfl
end
section
variable {P:bh}{A:Ann}{kn:CF0}{n:Nat}{fr:Fr}{s:St}
def oc2(d c:Nat)(fr:Fr)(s:St):Option V->Option XS->Option XS
 |some r,_=>some ⟨c+1,(d,true,r.ren (fun _=>c) s.up.length)::fr,s.put s.up.length d c .dead⟩
 |none,z=>z
@[simp] theorem A2M(d c:Nat)(r:V)(z:Option XS):oc2 d c fr s (some r) z=some ⟨c+1,(d,true,r.ren (fun _=>c) s.up.length)::fr,s.put s.up.length d c .dead⟩:=rfl
def oc1(d c:Nat)(fr:Fr)(s:St)(F:List V->Option V):Option (List V)->Option XS->Option XS
 |some vs,z=>oc2 d c fr s (F vs) z
 |none,z=>z
@[simp] theorem AFM(d c:Nat)(F:List V->Option V)(vs:List V)(z:Option XS):oc1 d c fr s F (some vs) z=oc2 d c fr s (F vs) z:=rfl
@[simp] theorem A2N{f:bn}(hS:JA P f=false)(d c:Nat)(args:List bm):CX P (BH P A kn n) (some d) (.call true none (.func f) args) ⟨c,fr,s⟩ =
  oc1 d c fr s (fun vs=>FI P kn (AF P A kn n) f (vs.map weakV)) (FQ (CK fr) args) (TO (BH P A kn n).cf (BH P A kn n).cy (some d) (.func f) args ⟨c,fr,s⟩):=by
 show mF (BH P A kn n) true (some d) (.func f) args ⟨c,fr,s⟩=_
 unfold mF
 show(match I9 (BH P A kn n).co (some d) (.func f) args ⟨c,fr,s⟩ with|some st'=>some st'|none=>_)=_
 unfold I9
 have hf:CK fr (.func f)=some (.fn f [] []):=rfl
 simp only[hf]
 cases FQ (CK fr) args with
 |none=>rfl
 |some vs=>
  simp only[AFM,bz,bb]
  have:(BH P A kn n).co f (vs.map weakV) d=(match FI P kn (AF P A kn n) f (vs.map weakV)with|some r=>some ⟨.dead,some r⟩|none=>none):=by show TU P kn (fun _ _ _=>none) (AF P A kn n) f _ d=_;unfold TU;simp only[hS];cases FI P kn (AF P A kn n) f (vs.map weakV)<;>rfl
  rw[this]
  cases FI P kn (AF P A kn n) f (vs.map weakV)with
  |none=>rfl
  |some r=>rfl
def od2(d c:Nat)(fr:Fr)(s:St):Option V->Option XS
 |some r=>some ⟨c+1,(d,true,r.ren (fun _=>c) s.up.length)::fr,s.put s.up.length d c .dead⟩
 |none=>none
@[simp] theorem A2O(d c:Nat)(r:V):od2 d c fr s (some r)=some ⟨c+1,(d,true,r.ren (fun _=>c) s.up.length)::fr,s.put s.up.length d c .dead⟩:=rfl
def od1(d c:Nat)(fr:Fr)(s:St)(F:List V->Option V):Option (List V)->Option XS
 |some vs=>od2 d c fr s (F vs)
 |none=>none
@[simp] theorem AFN(d c:Nat)(F:List V->Option V)(vs:List V):od1 d c fr s F (some vs)=od2 d c fr s (F vs):=rfl
@[simp] theorem AVN{f:bn}(hS:JA P f=false)(d c:Nat)(args:List bm):DG P (BH P A kn n) (some d) (.call true none (.func f) args) ⟨c,fr,s⟩ =
  nw (od1 d c fr s (fun vs=>FI P kn (AF P A kn n) f (vs.map weakV)) (FQ (CK fr) args)):=by
 show TP (I9 (BH P A kn n).co (some d) (.func f) args ⟨c,fr,s⟩)=_
 rw[GP]
 congr 1
 unfold I9
 have hf:CK fr (.func f)=some (.fn f [] []):=rfl
 simp only[hf]
 cases FQ (CK fr) args with
 |none=>rfl
 |some vs=>
  simp only[AFN,bz,bb]
  have:(BH P A kn n).co f (vs.map weakV) d=(match FI P kn (AF P A kn n) f (vs.map weakV)with|some r=>some ⟨.dead,some r⟩|none=>none):=by show TU P kn (fun _ _ _=>none) (AF P A kn n) f _ d=_;unfold TU;simp only[hS];cases FI P kn (AF P A kn n) f (vs.map weakV)<;>rfl
  rw[this]
  cases FI P kn (AF P A kn n) f (vs.map weakV)with
  |none=>rfl
  |some r=>rfl
end
section
variable {fr:Fr}{s:St}
@[simp] theorem AM8(l k g:Nat):BW s (.yld l k g)=some (.yld l k g):=rfl
@[simp] theorem AM9(f:Nat)(cs:List V):AY s (f+1) (.ref cs)=some (.ref cs):=rfl
@[simp] theorem A2P{P:bh}:FM P [] fr s=some (.tup []):=rfl
@[simp] theorem AFO:CN .nilFunc=some (.raw .nilFunc):=rfl
@[simp] theorem ARP(f l k g:Nat):AG (f+1) (.yld l k g)=false:=rfl
@[simp] theorem A2Q(l k g:Nat):weakV (.yld l k g)=.yld l k g:=rfl
@[simp] theorem A6W(d c l k g:Nat):bx1 d c fr s (some (.yld l k g))=some ⟨c+1,(d,true,.ptr s.up.length d c 0)::fr,s.put s.up.length d c (.box [.yld l k g])⟩:=rfl
@[simp] theorem A6X(F:List V->Option (List V))(g off:Nat)(g':Nat)(cs:List V):cp1 F g off (some (g',.box cs))=if g'=g then(F cs).map (fun ds=>V.ref (ds.drop off)) else none:=rfl
def mk4(P:bh)(d c:Nat)(fr:Fr)(s:St)(e:bg)(n m:Int):Option (List V)->Option XS
 |some z=>if 0<=n/\m=n/\z.length=P.cellsOf e/\n.toNat*P.bytesOf e<=140737488355328/\n.toNat<=maxLen then some ⟨c+1,(d,true,.vec s.up.length d c n.toNat)::fr,s.put s.up.length d c (.vec e (List.replicate n.toNat z))⟩ else none
 |none=>none
@[simp] theorem A2R{P:bh}(d c:Nat)(e:bg)(n m:Int)(z:List V):mk4 P d c fr s e n m (some z)=if 0<=n/\m=n/\z.length=P.cellsOf e/\n.toNat*P.bytesOf e<=140737488355328/\n.toNat<=maxLen then some ⟨c+1,(d,true,.vec s.up.length d c n.toNat)::fr,s.put s.up.length d c (.vec e (List.replicate n.toNat z))⟩ else none:=rfl
def mk3(P:bh)(d c:Nat)(fr:Fr)(s:St):Option (Option Nat×bg)->Option V->Option V->Option XS
 |some (none,e),some (.int _ n),some (.int _ m)=>mk4 P d c fr s e n m (CA P e)
 |_,_,_=>none
@[simp] theorem AFP{P:bh}(d c:Nat)(e:bg)(k1 k2:IntKind)(n m:Int):mk3 P d c fr s (some (none,e)) (some (.int k1 n)) (some (.int k2 m))=mk4 P d c fr s e n m (CA P e):=rfl
@[simp] theorem AVO{P:bh}{E:XE}(T:bg)(d c:Nat)(x y:bm):CX P E (some d) (.mkS T x y) ⟨c,fr,s⟩=mk3 P d c fr s (BQ P T) (CK fr x) (CK fr y):=by
 show WO P (some d) T x y ⟨c,fr,s⟩=_;unfold WO;simp only;cases BQ P T with
 |none=>cases CK fr x<;>cases CK fr y<;>rfl
 |some p=>
  obtain⟨k,e⟩:=p
  cases k with
  |some k=>cases CK fr x<;>cases CK fr y<;>rfl
  |none=>
   cases CK fr x with
   |none=>rfl
   |some a=>
    cases CK fr y with
    |none=>cases a<;>rfl
    |some z=>
     cases a with
     |int k1 n=>
      cases z with
      |int k2 m=>simp only[AFP];cases CA P e<;>rfl
      |_=>rfl
     |_=>rfl
@[simp] theorem A6Y{P:bh}(T:bg)(x y:bm)(r:bm->Option V):HX P (.mkS T x y) r=[]:=rfl
def rE(fr:Fr)(n γ:Nat)(r:Option XS):Option (Exit×XS):=match r with
 |some st=>match st.s.get n A8 with
  | some (γ',.loop _ _ _ _ _ ls)=>Bool.rec none (match ls with
   |.ready=>some (.normal,⟨st.c,fr,st.s.put n A8 γ .dead⟩)
   |.left .ret=>some (.ret,⟨st.c,fr,st.s.put n A8 γ .dead⟩)
   |.left (.exit id)=>some (.exit id,⟨st.c,fr,st.s.put n A8 γ .dead⟩)
   | _=>none) (bc γ' γ&&bj γ st.c)
  |_=>none
 |none=>none
theorem PJ{P:bh}{A:Ann}{kn:CF0}{n N:Nat}{g:bm}{ps:List Tmp}{asg body:Code}{c:Nat}{up:List AA}{loc:AA}{f:bn}{first cap:List V}(h:CK fr g=some (.fn f first cap)) :
  VJ (BH P A kn n).cf N g ps asg body ⟨c,fr,⟨up,loc⟩⟩=rE fr up.length c (G7 (BH P A kn n) none ⟨c+1,fr,⟨up,(A8,c,.loop fr ps asg body N .ready)::loc⟩⟩ f ((first++[V.yld up.length A8 c]++cap).map weakV)):=by
 unfold VJ
 simp only[h]
 unfold G7 gV rE
 simp only[St.put,if_true,AA.put]
 cases (BH P A kn n).cf f ((first++[V.yld up.length A8 c]++cap).map weakV) ⟨c+1,fr,⟨up,(A8,c,.loop fr ps asg body N .ready)::loc⟩⟩ with
 |none=>rfl
 |some r=>rfl
theorem T5{n γ c:Nat}{fr' fr0:Fr}{s:St}{ps:List Tmp}{asg body:Code}{N:Nat}(h:s.get n A8=some (γ,.loop fr0 ps asg body N .ready))(hc:γ<c):rE fr n γ (some ⟨c,fr',s⟩)=some (.normal,⟨c,fr,s.put n A8 γ .dead⟩):=by
 unfold rE;simp only[h];have:(bc γ γ&&bj γ c)=true:=by simpa using hc
 rw[this]
@[simp] theorem AVP(t:St)(fr0:Fr)(ps:List Tmp)(asg body:Code)(N:Nat)(l:LS):CH t (.loop fr0 ps asg body N l)=.loop fr0 ps asg body N l:=rfl
theorem T6{rec:F8}{l q γ c N:Nat}{fr0:Fr}{ps:List Tmp}{asg body:Code}{vs:List V}(h:s.get l q=some (γ,.loop fr0 ps asg body N .ready))(hv:vs.length=ps.length)(hc:γ<c) :
  aJ rec l q γ vs ⟨c,fr,s⟩=ON fr l q γ (aI (rec N) l q γ body (rec N asg ⟨c,IU fr0 ps vs,⟨s.up++[s.loc],[]⟩⟩)):=by
 unfold aJ
 simp only[h]
 have:(bc γ γ&&bc vs.length ps.length&&bj γ c)=true:=by simp[hv,hc]
 rw[this]
theorem GC{rec:cM}{l q γ c N:Nat}{fr0:Fr}{ps:List Tmp}{asg body body':Code}(h:s.get l q=some (γ,.loop fr0 ps asg body' N .ready))(hc:γ<c) :
  aI rec l q γ body (some (.normal,⟨c,fr,s⟩))=rec body ⟨c,fr,s.put l q γ (.loop fr0 ps asg body' N .busy)⟩:=by
 unfold aI
 simp only[h]
 have:(bc γ γ&&bj γ c)=true:=by simp[hc]
 rw[this]
theorem QF{fr':Fr}{l q γ c N:Nat}{fr0:Fr}{ps:List Tmp}{asg body:Code}{up u:List AA}{loc lc:AA}(h:St.get ⟨up,loc⟩ l q=some (γ,.loop fr0 ps asg body N .busy))(hu:B9 up=some (u,lc))(hl:l<up.length)(hc:γ<c) :
  ON fr l q γ (some (.normal,⟨c,fr',⟨up,loc⟩⟩))=some (.bool true,⟨c,fr,St.put ⟨u.map (AH ⟨up,loc⟩),AH ⟨up,loc⟩ lc⟩ l q γ (.loop fr0 ps asg body N .ready)⟩):=by
 unfold ON
 simp only[h,hu]
 have:(bc γ γ&&bj l up.length&&bj γ c)=true:=by simp[hc,hl]
 rw[this]
 rfl
end
section
def tkU(z:Option XS)(d:Option Tmp)(st:XS):Option V->Option XS
 |some r=>Bool.rec z (EV d st (some r)) (aS r)
 |none=>z
@[simp] theorem A2S(z:Option XS)(d:Option Tmp)(st:XS)(b:Bool):tkU z d st (some (.bool b))=EV d st (some (.bool b)):=rfl
@[simp] theorem zI(st:XS)(v:V):H3 st [] v=v:=rfl
@[simp] theorem rQ(k:Nat)(ks:List Nat)(c:Nat)(fr:Fr)(up:List AA)(loc:AA)(v:V)(h:k<10000):H3 ⟨c,fr,⟨up,loc⟩⟩ (k::ks) v=H3 ⟨c,fr,⟨up,loc⟩⟩ ks (BG up.length k (loc.get k) 3 v):=by
 have:bj k 10000=true:=by simpa [bk]using h
 simp only[H3,this,cond_true]
@[simp] theorem FS(k:Nat)(ks:List Nat)(st:XS)(v:V)(h:¬k<10000):H3 st (k::ks) v=H3 st ks (BG (k / 10000-1) (k % 10000) (st.s.get (k / 10000-1) (k % 10000)) 3 v):=by
 have:bj k 10000=false:=by
  cases hb:bj k 10000 with
  |false=>rfl
  |true=>exact absurd (by simpa [bk]using hb) h
 simp only[H3,this,cond_false]
@[simp] theorem A6Z{P:bh}{A:Ann}{kn:CF0}{n k:Nat}{us:List Nat}(d:Option Tmp)(st:XS)(f:bn)(args:List V):G7 (cfU (k::us) (BH P A kn n)) d st f args=tkU (G7 (BH P A kn n) d st f args) d st (FI P kn (AF P A kn n) f (args.map (H3 st (k::us)))):=by
 show(match mN (BH P A kn n).cf (BH P A kn n).c0 (k :: us) f args st with
  |some (r,st')=>some (⟨st'.c,putD st'.fr d true r,st'.s⟩:XS)
  | none=>none)=_
 unfold mN;have e:(BH P A kn n).c0=FI P kn (AF P A kn n):=rfl;rw[e];cases FI P kn (AF P A kn n) f (args.map (H3 st (k::us)))with
 |none=>rfl
 |some r=>
  show(match(Bool.rec ((BH P A kn n).cf f args st) (some (r,st)) (aS r):Option (V×XS))with
   |some (r,st')=>some (⟨st'.c,putD st'.fr d true r,st'.s⟩:XS)
   | none=>none)=(Bool.rec (G7 (BH P A kn n) d st f args) (EV d st (some r)) (aS r):Option XS)
  cases aS r<;>rfl
end
theorem XQ{j k:Nat}(h:j≠k)(γ γ2:Nat)(T T2:bg)(es fs:List (List V)):(pl j γ T es++pl k γ2 T2 fs).get k=(pl k γ2 T2 fs).get k:=by cases es<;>cases fs<;>simp[h.symm]
theorem AKN{j k:Nat}(h:j≠k)(γ:Nat)(T:bg)(es:List (List V))(x:Nat×AV):(pl j γ T es++[(k,x)]).get k=some x:=by cases es<;>simp[h.symm]
theorem ARQ{j k:Nat}(h:j≠k)(γ:Nat)(T:bg)(es:List (List V))(x:Nat×AV)(M:AA):kl j M ((pl j γ T es++[(k,x)]).get j)=pl j γ T es++M:=by cases es<;>simp[h]
theorem XR{j k:Nat}(h:j≠k)(γ γ2:Nat)(T T2:bg)(es fs:List (List V)):(pl j γ T es++pl k γ2 T2 fs).get j=(pl j γ T es).get j:=by cases es<;>cases fs<;>simp[h]
theorem iM{j k m:Nat}(h1:j≠m)(h2:k≠m)(γ γ2:Nat)(T T2:bg)(es fs:List (List V)):(pl j γ T es++pl k γ2 T2 fs).get m=none:=by cases es<;>cases fs<;>simp[h1.symm,h2.symm]
theorem rR{j:Nat}(γ:Nat)(T:bg)(es:List (List V))(M:AA):kl j M ((pl j γ T es).get j)=pl j γ T es++M:=by cases es<;>simp
theorem OV{t:St}{T:bg}{es:List (List V)}(h:∀e∈es,∀v∈e,BW t v=some v):CH t (.vec T es)=.vec T es:=by
 have:CB t (.vec T es)=some (.vec T es):=by unfold CB;simp only;rw[M1 fun e he=>M1 fun v hv=>h e he v hv]
 unfold CH;rw[this]
theorem zJ{t c l q γ n:Nat}{fr:Fr}{s:St}{U:bg}{es:List (List V)}(h:BL fr t=some (true,.vec l q γ n))(hg:s.get l q=some (γ,.vec U es))(hn:n<=es.length)(hc:γ<c):bG (some t) ⟨c,fr,s⟩=⟨c,(t,true,.list false (es.take n))::fr,s.put l q γ .dead⟩:=by
 have hb:(bc γ γ&&Nat.ble n es.length&&bj γ c)=true:=by simp[bk,hn,hc]
 unfold bG;simp only[h,hg,hb]
@[simp] theorem ARR{P:bh}{A:Ann}{kn:CF0}{n N l:Nat}{st:XS}:AF P A kn (n+1) N (.label l) st=some (.normal,st):=rfl
theorem KX{α:Type}(p:α->Bool):∀(l:List α),(!l.any fun x=>!p x)=l.all p
 |[]=>rfl
 |x::l=>by have:=KX p l;simp only[List.any_cons,List.all_cons,Bool.not_or,Bool.not_not,<-this]
section
variable {P:bh}{fr:Fr}{s:St}
def pt(k γ:Nat):List (List V)->V
 |[]=>.list true []
 |e::es=>.vec 0 k γ (e::es).length
@[simp] theorem BBZ(k γ:Nat):pt k γ []=.list true []:=rfl
@[simp] theorem BB0(e k c γ:Nat)(loc:AA)(es:List (List V))(y:List V)(ys:List (List V))(hl:AA.get loc k=(pl k γ e es).get k)(h1:es.all (fun y=>y.length==P.cellsOf e)=true)(h2:B0 P e es.length (y::ys)=true) :
  apV P e k c fr ⟨[],loc⟩ (pt k γ es) (y::ys)=some ⟨c+1,(k,true,pt k c (es++y::ys))::fr,⟨[],(k,c,.vec e (es++y::ys))::loc⟩⟩:=by
 cases es with
 |nil=>
  simp only[List.length_nil]at h2
  simp[h2,pt]
 |cons z es=>
  have h:=ATC (P:=P) (fr:=fr) e k c γ loc (z::es) y ys hl h1 h2
  exact h
theorem zK{T:bg}(f:Nat)(loc:AA)(k γ:Nat)(es:List (List V))(hl:AA.get loc k=(pl k γ T es).get k):AY ⟨[],loc⟩ (f+1) (pt k γ es)=some (.list false es):=by
 cases es with
 |nil=>rfl
 |cons e es=>exact PL (T:=T) f loc k γ (e::es) hl
@[simp] theorem ARS(f k γ:Nat)(T:bg)(es:List (List V)):AY ⟨[],pl k γ T es⟩ (f+1) (pt k γ es)=some (.list false es):=zK (T:=T) f _ k γ es rfl
end
@[simp] theorem A60(st:XS):LU [] st=st:=rfl
@[simp] theorem A2T(k:Nat)(ks:List Nat)(c:Nat)(fr:Fr)(up:List AA)(loc:AA)(h:k<1000):LU (k::ks) ⟨c,fr,⟨up,loc⟩⟩=LU ks ⟨c,QE up.length k (loc.get k) fr,⟨up,F9 up.length k (loc.get k) loc⟩⟩:=by
 have h1:bj k 1000=true:=by simpa [bk]using h
 show LU ks (uU k ⟨c,fr,⟨up,loc⟩⟩)=_;unfold uU;rw[h1];rfl
@[simp] theorem A2U(k:Nat)(ks:List Nat)(c:Nat)(fr:Fr)(up:List AA)(loc:AA)(h:2000000000000000<=k):LU (k::ks) ⟨c,fr,⟨up,loc⟩⟩=LU ks ⟨c,fr,⟨up,mQ (k % 1000) loc⟩⟩:=by
 have h1:bj k 1000=false:=by rw[<-bx,bk];omega
 have h2:bj k 1000000000000000=false:=by rw[<-bx,bk];omega
 have h3:bj k 2000000000000000=false:=by rw[<-bx,bk];omega
 show LU ks (uU k ⟨c,fr,⟨up,loc⟩⟩)=_;unfold uU;rw[h1,h2,h3];rfl
@[simp] theorem A61(k:Nat):mQ k []=[]:=rfl
@[simp] theorem A2V(k j g:Nat)(r:AV)(L:AA):mQ k ((j,g,r)::L)=(j,g,if j=k then wkR r else r)::mQ k L:=rfl
@[simp] theorem A62(T:bg)(es:List (List V)):wkR (.vec T es)=.vec T (es.map (List.map uR)):=rfl
@[simp] theorem A2W(b:Bool)(es:List (List V)):uR (.list b es)=.list b es:=rfl
section
variable {l k:Nat}{o:Option (Nat×AV)}
end
@[simp] theorem A63{k j:Nat}(h:j≠k)(r:Fr)(o:Option (Bool×V)):BL (kx k r o) j=BL r j:=by
 cases o with
 |none=>rfl
 |some x=>
  obtain⟨c,v⟩:=x
  simp[h]
end Go.Pg
