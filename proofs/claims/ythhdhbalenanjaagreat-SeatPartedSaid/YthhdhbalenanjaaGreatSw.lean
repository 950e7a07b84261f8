/- Rows told as lists, by simp. No program in sight. -/
import Derived.Test.YthhdhbalenanjaaGreatSx
noncomputable section
open Go renaming TypeId->bh,Program->bm,Operand->bn,FuncId->bp,IntKind->cj
open Nat renaming blt->bj,blt_eq->bk,beq->bc
open List renaming map_congr_left->bq,nil_append->bw,append_nil->bx,all_eq_true->bz,map_id->bf,map->bg
open Bool renaming not_eq_true->bb
set_option linter.unusedSimpArgs false
namespace Go.Pg
variable {P:bm}{l k:Nat}{o:Option (Nat×AX)}
@[simp] theorem AUT(st:XS):OJ [] st=st:=rfl
@[simp] theorem AQE(k:Nat)(ks:List Nat)(c:Nat)(fr:Fr)(up:List AA)(loc:AA):OJ (k::ks) ⟨c,fr,⟨up,loc⟩⟩=OJ ks ⟨c,M8 up.length k (loc.get k) fr,⟨up,FO up.length k (loc.get k) loc⟩⟩:=rfl
@[simp] theorem AUU:M8 l k o []=[]:=rfl
@[simp] theorem AQF(j:Nat)(c:Bool)(v:V)(fr:Fr):M8 l k o ((j,c,v)::fr)=(j,c,BD l k o 3 v)::M8 l k o fr:=rfl
@[simp] theorem AUV:FO l k o []=[]:=rfl
@[simp] theorem AQG(j g:Nat)(r:AX)(L:AA):FO l k o ((j,g,r)::L)=if j=k then FO l k o L else(j,g,J3 l k o r)::FO l k o L:=rfl
theorem V6:∀(f g:Nat) (v:V),AE g v=true->BD l k o f v=v
 |0,_,_,_=>rfl
 |f+1,0,v,h=>by cases h
 |f+1,g+1,v,h=>by
  have lst:∀cs:List V,cs.all (AE g)=true->cs.map (BD l k o f)=cs:=by
   intro cs h;conv=>rhs;rw[<-bf cs]
   exact bq fun x hx=>V6 f g x (bz.1 h x hx)
  cases v with
  |vec _ _ _ _=>cases h
  |ptr _ _ _ _=>cases h
  |agg cs=>simp only[BD];rw[lst cs h]
  |tup cs=>simp only[BD];rw[lst cs h]
  |_=>rfl
theorem pX{cs:List V}(h:cs.all (AE 9)=true)(f:Nat):cs.map (BD l k o f)=cs:=by
 conv=>rhs;rw[<-bf cs]
 exact bq fun x hx=>V6 f 9 x (bz.1 h x hx)
theorem xM{es:List (List V)}(h:(es.all fun e=>e.all (AE 9))=true)(f:Nat):es.map (bg (BD l k o f))=es:=by
 conv=>rhs;rw[<-bf es]
 exact bq fun x hx=>pX (bz.1 h x hx) f
@[simp] theorem xN{j:Nat}(h:j≠k)(γ:Nat)(T:bh)(es:List (List V))(L:AA)(hc:(es.all fun e=>e.all (AE 9))=true):FO l k o (pl j γ T es++L)=pl j γ T es++FO l k o L:=by
 cases es with
 |nil=>rfl
 |cons e es=>
  have q:=xM (l:=l) (k:=k) (o:=o) hc 3
  simp only[List.map_cons]at q
  simp[h,J3,q]
@[simp] theorem xO{j:Nat}(h:j≠k)(γ:Nat)(T:bh)(es:List (List V))(hc:(es.all fun e=>e.all (AE 9))=true):FO l k o (pl j γ T es)=pl j γ T es:=by have:=xN (l:=l) (o:=o) h γ T es [] hc;simpa using this
@[simp] theorem AUW(cs:List V):J3 l k o (.box cs)=.box (cs.map (BD l k o 3)):=rfl
@[simp] theorem AUX(T:bh)(es:List (List V)):J3 l k o (.vec T es)=.vec T (es.map (bg (BD l k o 3))):=rfl
@[simp] theorem AUY(es:List (V×V)):J3 l k o (.map es)=.map es:=rfl
@[simp] theorem AQH:J3 l k o .dead=.dead:=rfl
@[simp] theorem AQI(fr:List (Nat×Bool×V))(ps:List Tmp)(asg body:Code)(N:Nat)(st:LS):J3 l k o (.loop fr ps asg body N st)=.loop fr ps asg body N st:=rfl
@[simp] theorem dN(f:Nat)(i:cj)(n:Int):BD l k o f (.int i n)=.int i n:=by cases f<;>rfl
@[simp] theorem AQJ(f:Nat)(b:Bool):BD l k o f (.bool b)=.bool b:=by cases f<;>rfl
@[simp] theorem AUZ(f:Nat)(v:Value):BD l k o f (.raw v)=.raw v:=by cases f<;>rfl
@[simp] theorem AQK(f:Nat)(b:Bool)(es:List (List V)):BD l k o f (.list b es)=.list b es:=by cases f<;>rfl
@[simp] theorem A2G(f:Nat)(es:List (List V)):BD l k o f (sl es)=sl es:=by cases f<;>cases es<;>rfl
@[simp] theorem AU0(f:Nat)(cs:List V):BD l k o f (.ref cs)=.ref cs:=by cases f<;>rfl
theorem xP(f a b c d:Nat)(h:¬(a=l/\b=k)):BD l k o f (.ptr a b c d)=.ptr a b c d:=by
 cases f with
 |zero=>rfl
 |succ f=>
  simp only[BD]
  split
  ·rw[if_neg fun hh=>h ⟨hh.1,hh.2.1⟩]
  ·rfl
@[simp] theorem AQL(f a b c d:Nat)(h:¬b=k):BD l k o f (.ptr a b c d)=.ptr a b c d:=xP f a b c d fun hh=>h hh.2
@[simp] theorem AQM(γ:Nat)(T:bh)(es:List (List V))(f a b c d:Nat):BD l k (some (γ,.vec T es)) f (.ptr a b c d)=.ptr a b c d:=by cases f<;>rfl
@[simp] theorem AQN(γ:Nat)(cs:List V)(f a b g off:Nat):BD l k (some (γ,.box cs)) (f+1) (.ptr a b g off)=if a=l/\b=k/\g=γ then .ref ((cs.map NG).drop off) else .ptr a b g off:=rfl
@[simp] theorem A2H(q:cj)(n:Int):NG (.int q n)=.int q n:=rfl
@[simp] theorem AU1(b:Bool):NG (.bool b)=.bool b:=rfl
@[simp] theorem AU2(b:Bool)(es:List (List V)):NG (.list b es)=.list b es:=rfl
@[simp] theorem A7C(es:List (List V)):NG (sl es)=sl es:=by cases es<;>rfl
@[simp] theorem A2I:NG .nil=.nil:=rfl
@[simp] theorem A7D(a b c:Nat):NG (.mp a b c)=.any:=rfl
@[simp] theorem A2J:NG .any=.any:=rfl
@[simp] theorem Z9(f:Nat):AE (f+1) .any=true:=rfl
@[simp] theorem AU3:weakV .any=.any:=rfl
@[simp] theorem AU4:weakC .any=.any:=rfl
@[simp] theorem AU5(f:Nat):BD l k o f .any=.any:=by cases f<;>rfl
@[simp] theorem A2K(f a b c:Nat):BD l k o f (.mp a b c)=.mp a b c:=by cases f<;>rfl
@[simp] theorem AU6(f a b c:Nat):BD l k o f (.yld a b c)=.yld a b c:=by cases f<;>rfl
@[simp] theorem A2L(f:Nat)(g:bp)(xs ys:List V):BD l k o f (.fn g xs ys)=.fn g xs ys:=by cases f<;>rfl
@[simp] theorem xQ(f:Nat):BD l k o f .nil=.nil:=by cases f<;>rfl
@[simp] theorem AU7(f:Nat)(cs:List V):BD l k o (f+1) (.agg cs)=.agg (cs.map (BD l k o f)):=rfl
@[simp] theorem AU8(f:Nat)(cs:List V):BD l k o (f+1) (.tup cs)=.tup (cs.map (BD l k o f)):=rfl
@[simp] theorem AU9(γ:Nat)(T:bh)(es:List (List V))(f l' k' g m:Nat):BD l k (some (γ,.vec T es)) (f+1) (.vec l' k' g m)=if l'=l/\k'=k/\g=γ/\m=es.length then .list false es else .vec l' k' g m:=rfl
@[simp] theorem A2M(γ:Nat)(T:bh)(es:List (List V))(f:Nat):BD 0 k ((pl k γ T es).get k) (f+1) (pv k γ es)=sl es:=by
 cases es with
 |nil=>rfl
 |cons e es=>simp[pv,sl]
@[simp] theorem AVA(γ:Nat)(T:bh)(es:List (List V))(f:Nat):BD 0 k (some (γ,.vec T es)) (f+1) (pv k γ es)=sl es:=by
 cases es with
 |nil=>rfl
 |cons e es=>simp[pv,sl]
@[simp] theorem AVB{j:Nat}(h:j≠k)(γ:Nat)(es:List (List V))(f:Nat):BD l k o f (pv j γ es)=pv j γ es:=by
 cases es with
 |nil=>cases f<;>rfl
 |cons e es=>
  cases f with
  |zero=>rfl
  |succ f=>
   simp only[pv,BD]
   split
   ·rw[if_neg (fun hh=>h hh.2.1)]
   ·rfl
def oe2(d c:Nat)(fr:Fr)(s:St):Option Mk->Option XS->Option XS
 |some r,_=>some ⟨c+1,(d,true,r.val s.up.length d c)::fr,s.put s.up.length d c r.res⟩
 |none,z=>z
@[simp] theorem A7E(d c:Nat)(fr:Fr)(s:St)(T:bh)(es:List (List V))(z:Option XS):oe2 d c fr s (some ⟨.vec T es,none⟩) z=some ⟨c+1,(d,true,.vec s.up.length d c es.length)::fr,s.put s.up.length d c (.vec T es)⟩:=rfl
def oe1(d c:Nat)(fr:Fr)(s:St)(F:List V->Option Mk):Option (List V)->Option XS->Option XS
 |some vs,z=>oe2 d c fr s (F vs) z
 |none,z=>z
@[simp] theorem AD9(d c:Nat)(fr:Fr)(s:St)(F:List V->Option Mk)(vs:List V)(z:Option XS):oe1 d c fr s F (some vs) z=oe2 d c fr s (F vs) z:=rfl
variable {A:Ann}{kn:CF0}{n:Nat}{fr:Fr}{s:St}
@[simp] theorem A7F{f:bp}(hS:GK P f=true)(d c:Nat)(args:List bn):CT P (BI P A kn n) (some d) (.call true none (.func f) args) ⟨c,fr,s⟩ =
  oe1 d c fr s (fun vs=>I5 P (AF P A kn n) f (vs.map weakV)) (E5 (CG fr) args) (P3 (BI P A kn n).cf (BI P A kn n).cy (some d) (.func f) args ⟨c,fr,s⟩):=by
 show ZF (BI P A kn n) true (some d) (.func f) args ⟨c,fr,s⟩=_
 unfold ZF
 show(match HF (BI P A kn n).co (some d) (.func f) args ⟨c,fr,s⟩ with|some st'=>some st'|none=>_)=_
 unfold HF
 have hf:CG fr (.func f)=some (.fn f [] []):=rfl
 simp only[hf]
 cases E5 (CG fr) args with
 |none=>rfl
 |some vs=>
  simp only[AD9,bw,bx]
  have:(BI P A kn n).co f (vs.map weakV) d=I5 P (AF P A kn n) f (vs.map weakV):=by show OG P kn (fun _ _ _=>none) (AF P A kn n) f _ d=_;unfold OG;simp only[hS]
  rw[this]
  cases I5 P (AF P A kn n) f (vs.map weakV)with
  |none=>rfl
  |some r=>rfl
def of2(d c:Nat)(fr:Fr)(s:St):Option Mk->Option XS
 |some r=>some ⟨c+1,(d,true,r.val s.up.length d c)::fr,s.put s.up.length d c r.res⟩
 |none=>none
@[simp] theorem A7G(d c:Nat)(fr:Fr)(s:St)(T:bh)(es:List (List V)):of2 d c fr s (some ⟨.vec T es,none⟩)=some ⟨c+1,(d,true,.vec s.up.length d c es.length)::fr,s.put s.up.length d c (.vec T es)⟩:=rfl
def of1(d c:Nat)(fr:Fr)(s:St)(F:List V->Option Mk):Option (List V)->Option XS
 |some vs=>of2 d c fr s (F vs)
 |none=>none
@[simp] theorem AEA(d c:Nat)(fr:Fr)(s:St)(F:List V->Option Mk)(vs:List V):of1 d c fr s F (some vs)=of2 d c fr s (F vs):=rfl
@[simp] theorem A2N{f:bp}(hS:GK P f=true)(d c:Nat)(args:List bn):DG P (BI P A kn n) (some d) (.call true none (.func f) args) ⟨c,fr,s⟩ =
  nw (of1 d c fr s (fun vs=>I5 P (AF P A kn n) f (vs.map weakV)) (E5 (CG fr) args)):=by
 show TB (HF (BI P A kn n).co (some d) (.func f) args ⟨c,fr,s⟩)=_
 rw[GL]
 congr 1
 unfold HF
 have hf:CG fr (.func f)=some (.fn f [] []):=rfl
 simp only[hf]
 cases E5 (CG fr) args with
 |none=>rfl
 |some vs=>
  simp only[AEA,bw,bx]
  have:(BI P A kn n).co f (vs.map weakV) d=I5 P (AF P A kn n) f (vs.map weakV):=by show OG P kn (fun _ _ _=>none) (AF P A kn n) f _ d=_;unfold OG;simp only[hS]
  rw[this]
  cases I5 P (AF P A kn n) f (vs.map weakV)with
  |none=>rfl
  |some r=>rfl
def AQO(P:bm)(fn:Func)(r:Option (Exit×XS)):Option Mk:=match r with
 |some (.ret,st)=>lD P fn st
 |some (.normal,st)=>lD P fn st
 |_=>none
@[simp] theorem A2O(fn:Func)(st:XS):AQO P fn (some (.ret,st))=lD P fn st:=rfl
@[simp] theorem ALY(fn:Func)(st:XS):AQO P fn (some (.normal,st))=lD P fn st:=rfl
theorem xR{f:bp}{fn:Func}{c:Code}{args:List V}{rec:GJ}(hf:P.funcs[f]? = some fn)(hb:fn.body=some c)(hs:Nat.ble args.length fn.ntmps=true)(hcl:args.all (AE 9)=true) :
  I5 P rec f args=AQO P fn (rec fn.ntmps c ⟨0,AD 0 args,⟨[],[]⟩⟩):=by
 unfold I5 V5 lC
 rw[hcl,hf]
 simp only[hb,hs]
 generalize rec fn.ntmps c ⟨0,AD 0 args,⟨[],[]⟩⟩=q
 cases q with
 |none=>rfl
 |some q=>
  obtain⟨e,st⟩:=q
  cases e<;>rfl
def rO(P:bm)(fn:Func)(st:XS)(v:Option V):Option Mk:=match v with
 | some (.vec l k γ n)=>Bool.rec none (match st.s.loc.get k with
  |some (γ',.vec T es)=>Bool.rec none (some ⟨.vec T es,none⟩) (bc γ' γ&&bc n es.length&&es.all fun e=>e.all (AE 9))
  | _=>none) (bc l st.s.up.length)
 | some v=>Bool.rec none (match fn.resultTypes.toList with
  |[R]=>match BO P R with
   |some (none,T)=>some ⟨.vec T [],none⟩
   |_=>none
  | _=>none) (WE v)
 |none=>none
theorem AJA(fn:Func)(st:XS):lD P fn st=rO P fn st (E8 P fn.results.toList st.fr st.s):=rfl
theorem ALZ{fn:Func}{R T:bh}(h1:fn.resultTypes.toList=[R])(h2:BO P R=some (none,T))(c:Nat)(fr:Fr)(loc:AA)(k γ:Nat)(es:List (List V))(hl:loc.get k=(pl k γ T es).get k)(hc:(es.all fun e=>e.all (AE 9))=true):rO P fn ⟨c,fr,⟨[],loc⟩⟩ (some (pv k γ es))=some ⟨.vec T es,none⟩:=by
 cases es with
 |nil=>
  show(Bool.rec none (match fn.resultTypes.toList with
   |[R]=>match BO P R with
    |some (none,T)=>some ⟨.vec T [],none⟩
    |_=>none
   | _=>none) true:Option Mk)=_
  rw[h1]
  simp only[h2]
 |cons e es=>
  have hl:loc.get k=some (γ,.vec T (e::es)):=by rw[hl];simp
  simp only[pv,rO,hl,hc,List.length_nil,Bool.and_true]
  simp
end Go.Pg
namespace Go.Pg
section
@[simp] theorem CK{α:Type}(x:α):∀(l:List α),BZ (l++[x])=some (l,x)
 |[]=>rfl
 |[y]=>rfl
 |y::z::l=>by have:=CK x (z::l);simp only[List.cons_append]at this|-;rw[V8,this];rfl
end
section
variable {P:bm}{E:XE}{d:Option Tmp}{c:Nat}{fr:Fr}{s:St}{r:bn->Option V}
@[simp] theorem AQP(T:bh)(x i:bn)(ok:Bool):I9 P (lY (.lookup T x i ok)) s r=o2 (fun a b=>DK P s T a b ok) (r x) (r i):=by show((r x).bind fun a=>(r i).bind fun b=>DK P s T a b ok)=_;cases r x<;>cases r i<;>rfl
def up1(c:Nat)(fr:Fr)(s:St):Option (Nat×Nat×Nat×List (V×V))->Option XS
 |some (l,q,γ,es)=>Bool.rec none (some ⟨c,fr,s.put l q γ (.map es)⟩) (bj γ c)
 |none=>none
def up3(P:bm)(T:bh)(c:Nat)(fr:Fr)(s:St):Option V->Option V->Option V->Option XS
 |some m,some i,some v=>up1 c fr s (LG P s T m i v)
 |_,_,_=>none
@[simp] theorem A2P(T:bh)(m i v:V):up3 P T c fr s (some m) (some i) (some v)=up1 c fr s (LG P s T m i v):=rfl
theorem AEB(l q γ:Nat)(es:List (V×V))(h:γ<c):up1 c fr s (some (l,q,γ,es))=some ⟨c,fr,s.put l q γ (.map es)⟩:=by
 have:bj γ c=true:=by simpa [bk]using h
 show(Bool.rec none (some ⟨c,fr,s.put l q γ (.map es)⟩) (bj γ c):Option XS)=_;rw[this]
@[simp] theorem AVC(T:bh)(x i y:bn):CT P E none (.upd T x i y) ⟨c,fr,s⟩=up3 P T c fr s (CG fr x) (CG fr i) (CG fr y):=by show wU P none T x i y ⟨c,fr,s⟩=_;unfold wU up3 up1;simp only;cases CG fr x<;>cases CG fr i<;>cases CG fr y<;>simp only;split<;>simp_all
@[simp] theorem A2Q(x:bn):I9 P (lY (.nilCheck x)) s r=o1 M1 (r x):=by show(r x).bind M1=_;cases r x<;>rfl
@[simp] theorem AVD(l k g o:Nat):M1 (.ptr l k g o)=some (.ptr l k g o):=rfl
@[simp] theorem A2R(x:bn)(f:bn->Option V):HS P (.oth (.nilCheck x)) f=[]:=rfl
@[simp] theorem A2S(T:bh)(x i:bn)(ok:Bool)(f:bn->Option V):HS P (.oth (.lookup T x i ok)) f=BF (f x):=rfl
@[simp] theorem AQQ(l k g:Nat):BU s (.mp l k g)=some (.mp l k g):=rfl
theorem MX{α:Type}{f:α->Option α}:∀{l:List α},(∀x∈l,f x=some x)->GR f l=some l
 |[],_=>rfl
 |x::l,h=>by have ih:=MX (f:=f) (l:=l) fun y hy=>h y (by simp[hy]);simp only[GR,h x (by simp),ih]
theorem TJ:∀(l:List AA) (b:AA),BZ (l++[b])=some (l,b)
 |[],b=>by simp
 |[a],b=>by simp
 |a::a2::l,b=>by have:=TJ (a2::l) b;simp only[List.cons_append]at this|-;simp[this]
@[simp] theorem AVE(a:AA)(l:List AA)(b:AA):BZ (a::(l++[b]))=some (a::l,b):=TJ (a::l) b
@[simp] theorem AQR(l k g:Nat):BF (some (.mp l k g))=[(l,k)]:=rfl
@[simp] theorem AVF(d:Nat):CT P E (some d) (.mkM none) ⟨c,fr,s⟩=some ⟨c+1,(d,true,.mp s.up.length d c)::fr,s.put s.up.length d c (.map [])⟩:=rfl
end
section
variable {P:bm}{s:St}{r:bn->Option V}
@[simp] theorem AQS(T:bh)(x h:bn):I9 P (lY (.slice T x none (some h) none)) s r=o2 (fun a b=>CU P s T a none (some b) none) (r x) (r h):=by show((r x).bind fun a=>((some none:Option (Option V))).bind fun l=>((r h).map some).bind fun h=>((some none:Option (Option V))).bind fun m=>CU P s T a l h m)=_;cases r x<;>cases r h<;>rfl
end
section
variable {P:bm}{E:XE}{c:Nat}{fr:Fr}{s:St}{r:bn->Option V}
@[simp] theorem AQT(T:bh)(x l:bn):I9 P (lY (.slice T x (some l) none none)) s r=o2 (fun a b=>CU P s T a (some b) none none) (r x) (r l):=by show((r x).bind fun a=>((r l).map some).bind fun l=>(some none).bind fun h=>(some none).bind fun m=>CU P s T a l h m)=_;cases r x<;>cases r l<;>rfl
theorem xS{T e:bh}{l k g n h:Nat}(hT:BO P T=some (none,e))(hh:h<=n)(hc:0<P.cellsOf e):CU P s T (.vec l k g n) none (some (.int .i64 (h:Int))) none=some (.vec l k g h):=by unfold CU;simp only[hT];rw[if_pos ⟨by omega,by omega,hc⟩];simp
end
section
variable {P:bm}{fr:Fr}{s:St}
@[simp] theorem A7I(e d c l q γ n:Nat)(ys:List (List V)):yI P e d c fr s (.vec l q γ n) ys=wp [(l,q),(l,q+HO)] (apW P e d c fr s l q γ n ys (QE n ys (s.get l q))):=rfl
@[simp] theorem AQU(l k g i o:Nat):M1 (.eptr l k g i o)=some (.eptr l k g i o):=rfl
end
section
@[simp] theorem AHT{P:bm}{A:Ann}{kn:CF0}{n:Nat}:(BI P A kn n).cy=ZL (AF P A kn n):=rfl
end
section
variable {P:bm}{A:Ann}{kn:CF0}{n:Nat}{fr:Fr}{s:St}
def oc2(d c:Nat)(fr:Fr)(s:St):Option V->Option XS->Option XS
 |some r,_=>some ⟨c+1,(d,true,r.ren (fun _=>c) s.up.length)::fr,s.put s.up.length d c .dead⟩
 |none,z=>z
@[simp] theorem A2T(d c:Nat)(r:V)(z:Option XS):oc2 d c fr s (some r) z=some ⟨c+1,(d,true,r.ren (fun _=>c) s.up.length)::fr,s.put s.up.length d c .dead⟩:=rfl
def oc1(d c:Nat)(fr:Fr)(s:St)(F:List V->Option V):Option (List V)->Option XS->Option XS
 |some vs,z=>oc2 d c fr s (F vs) z
 |none,z=>z
@[simp] theorem AEC(d c:Nat)(F:List V->Option V)(vs:List V)(z:Option XS):oc1 d c fr s F (some vs) z=oc2 d c fr s (F vs) z:=rfl
@[simp] theorem A2U{f:bp}(hS:GK P f=false)(d c:Nat)(args:List bn):CT P (BI P A kn n) (some d) (.call true none (.func f) args) ⟨c,fr,s⟩ =
  oc1 d c fr s (fun vs=>FC P kn (AF P A kn n) f (vs.map weakV)) (E5 (CG fr) args) (P3 (BI P A kn n).cf (BI P A kn n).cy (some d) (.func f) args ⟨c,fr,s⟩):=by
 show ZF (BI P A kn n) true (some d) (.func f) args ⟨c,fr,s⟩=_
 unfold ZF
 show(match HF (BI P A kn n).co (some d) (.func f) args ⟨c,fr,s⟩ with|some st'=>some st'|none=>_)=_
 unfold HF
 have hf:CG fr (.func f)=some (.fn f [] []):=rfl
 simp only[hf]
 cases E5 (CG fr) args with
 |none=>rfl
 |some vs=>
  simp only[AEC,bw,bx]
  have:(BI P A kn n).co f (vs.map weakV) d=(match FC P kn (AF P A kn n) f (vs.map weakV)with|some r=>some ⟨.dead,some r⟩|none=>none):=by show OG P kn (fun _ _ _=>none) (AF P A kn n) f _ d=_;unfold OG;simp only[hS];cases FC P kn (AF P A kn n) f (vs.map weakV)<;>rfl
  rw[this]
  cases FC P kn (AF P A kn n) f (vs.map weakV)with
  |none=>rfl
  |some r=>rfl
def od2(d c:Nat)(fr:Fr)(s:St):Option V->Option XS
 |some r=>some ⟨c+1,(d,true,r.ren (fun _=>c) s.up.length)::fr,s.put s.up.length d c .dead⟩
 |none=>none
@[simp] theorem A2V(d c:Nat)(r:V):od2 d c fr s (some r)=some ⟨c+1,(d,true,r.ren (fun _=>c) s.up.length)::fr,s.put s.up.length d c .dead⟩:=rfl
def od1(d c:Nat)(fr:Fr)(s:St)(F:List V->Option V):Option (List V)->Option XS
 |some vs=>od2 d c fr s (F vs)
 |none=>none
@[simp] theorem AED(d c:Nat)(F:List V->Option V)(vs:List V):od1 d c fr s F (some vs)=od2 d c fr s (F vs):=rfl
@[simp] theorem AVG{f:bp}(hS:GK P f=false)(d c:Nat)(args:List bn):DG P (BI P A kn n) (some d) (.call true none (.func f) args) ⟨c,fr,s⟩ =
  nw (od1 d c fr s (fun vs=>FC P kn (AF P A kn n) f (vs.map weakV)) (E5 (CG fr) args)):=by
 show TB (HF (BI P A kn n).co (some d) (.func f) args ⟨c,fr,s⟩)=_
 rw[GL]
 congr 1
 unfold HF
 have hf:CG fr (.func f)=some (.fn f [] []):=rfl
 simp only[hf]
 cases E5 (CG fr) args with
 |none=>rfl
 |some vs=>
  simp only[AED,bw,bx]
  have:(BI P A kn n).co f (vs.map weakV) d=(match FC P kn (AF P A kn n) f (vs.map weakV)with|some r=>some ⟨.dead,some r⟩|none=>none):=by show OG P kn (fun _ _ _=>none) (AF P A kn n) f _ d=_;unfold OG;simp only[hS];cases FC P kn (AF P A kn n) f (vs.map weakV)<;>rfl
  rw[this]
  cases FC P kn (AF P A kn n) f (vs.map weakV)with
  |none=>rfl
  |some r=>rfl
end
section
variable {fr:Fr}{s:St}
@[simp] theorem AL0(l k g:Nat):BU s (.yld l k g)=some (.yld l k g):=rfl
@[simp] theorem AL1(f:Nat)(cs:List V):AY s (f+1) (.ref cs)=some (.ref cs):=rfl
@[simp] theorem A2W{P:bm}:E8 P [] fr s=some (.tup []):=rfl
@[simp] theorem AL2(f:Nat):AY s (f+1) (.tup [])=some (.tup []):=rfl
@[simp] theorem AEE:CM .nilFunc=some (.raw .nilFunc):=rfl
@[simp] theorem AQV(f l k g:Nat):AE (f+1) (.yld l k g)=false:=rfl
@[simp] theorem A2X(l k g:Nat):weakV (.yld l k g)=.yld l k g:=rfl
@[simp] theorem A7K(d c l k g:Nat):yF d c fr s (some (.yld l k g))=some ⟨c+1,(d,true,.ptr s.up.length d c 0)::fr,s.put s.up.length d c (.box [.yld l k g])⟩:=rfl
@[simp] theorem A7L(F:List V->Option (List V))(g off:Nat)(g':Nat)(cs:List V):cp1 F g off (some (g',.box cs))=if g'=g then(F cs).map (fun ds=>V.ref (ds.drop off)) else none:=rfl
def mk4(P:bm)(d c:Nat)(fr:Fr)(s:St)(e:bh)(n m:Int):Option (List V)->Option XS
 |some z=>if 0<=n/\m=n/\z.length=P.cellsOf e/\n.toNat*P.bytesOf e<=140737488355328/\n.toNat<=maxLen then some ⟨c+1,(d,true,.vec s.up.length d c n.toNat)::fr,s.put s.up.length d c (.vec e (List.replicate n.toNat z))⟩ else none
 |none=>none
@[simp] theorem A2Y{P:bm}(d c:Nat)(e:bh)(n m:Int)(z:List V):mk4 P d c fr s e n m (some z)=if 0<=n/\m=n/\z.length=P.cellsOf e/\n.toNat*P.bytesOf e<=140737488355328/\n.toNat<=maxLen then some ⟨c+1,(d,true,.vec s.up.length d c n.toNat)::fr,s.put s.up.length d c (.vec e (List.replicate n.toNat z))⟩ else none:=rfl
def mk3(P:bm)(d c:Nat)(fr:Fr)(s:St):Option (Option Nat×bh)->Option V->Option V->Option XS
 |some (none,e),some (.int _ n),some (.int _ m)=>mk4 P d c fr s e n m (CB P e)
 |_,_,_=>none
@[simp] theorem AEF{P:bm}(d c:Nat)(e:bh)(k1 k2:cj)(n m:Int):mk3 P d c fr s (some (none,e)) (some (.int k1 n)) (some (.int k2 m))=mk4 P d c fr s e n m (CB P e):=rfl
@[simp] theorem AVH{P:bm}{E:XE}(T:bh)(d c:Nat)(x y:bn):CT P E (some d) (.mkS T x y) ⟨c,fr,s⟩=mk3 P d c fr s (BO P T) (CG fr x) (CG fr y):=by
 show V3 P (some d) T x y ⟨c,fr,s⟩=_;unfold V3;simp only;cases BO P T with
 |none=>cases CG fr x<;>cases CG fr y<;>rfl
 |some p=>
  obtain⟨k,e⟩:=p
  cases k with
  |some k=>cases CG fr x<;>cases CG fr y<;>rfl
  |none=>
   cases CG fr x with
   |none=>rfl
   |some a=>
    cases CG fr y with
    |none=>cases a<;>rfl
    |some z=>
     cases a with
     |int k1 n=>
      cases z with
      |int k2 m=>simp only[AEF];cases CB P e<;>rfl
      |_=>rfl
     |_=>rfl
@[simp] theorem A7M{P:bm}(T:bh)(x y:bn)(r:bn->Option V):HS P (.mkS T x y) r=[]:=rfl
def rE(fr:Fr)(n γ:Nat)(r:Option XS):Option (Exit×XS):=match r with
 |some st=>match st.s.get n BA with
  | some (γ',.loop _ _ _ _ _ ls)=>Bool.rec none (match ls with
   |.ready=>some (.normal,⟨st.c,fr,st.s.put n BA γ .dead⟩)
   |.left .ret=>some (.ret,⟨st.c,fr,st.s.put n BA γ .dead⟩)
   |.left (.exit id)=>some (.exit id,⟨st.c,fr,st.s.put n BA γ .dead⟩)
   | _=>none) (bc γ' γ&&bj γ st.c)
  |_=>none
 |none=>none
theorem PE{P:bm}{A:Ann}{kn:CF0}{n N:Nat}{g:bn}{ps:List Tmp}{asg body:Code}{c:Nat}{up:List AA}{loc:AA}{f:bp}{first cap:List V}(h:CG fr g=some (.fn f first cap)) :
  U1 (BI P A kn n).cf N g ps asg body ⟨c,fr,⟨up,loc⟩⟩=rE fr up.length c (HK (BI P A kn n) none ⟨c+1,fr,⟨up,(BA,c,.loop fr ps asg body N .ready)::loc⟩⟩ f ((first++[V.yld up.length BA c]++cap).map weakV)):=by
 unfold U1
 simp only[h]
 unfold HK fJ rE
 simp only[St.put,if_true,AA.put]
 cases (BI P A kn n).cf f ((first++[V.yld up.length BA c]++cap).map weakV) ⟨c+1,fr,⟨up,(BA,c,.loop fr ps asg body N .ready)::loc⟩⟩ with
 |none=>rfl
 |some r=>rfl
theorem TK{n γ c:Nat}{fr' fr0:Fr}{s:St}{ps:List Tmp}{asg body:Code}{N:Nat}(h:s.get n BA=some (γ,.loop fr0 ps asg body N .ready))(hc:γ<c):rE fr n γ (some ⟨c,fr',s⟩)=some (.normal,⟨c,fr,s.put n BA γ .dead⟩):=by
 unfold rE;simp only[h];have:(bc γ γ&&bj γ c)=true:=by simpa using hc
 rw[this]
@[simp] theorem AVI(t:St)(fr0:Fr)(ps:List Tmp)(asg body:Code)(N:Nat)(l:LS):CE t (.loop fr0 ps asg body N l)=.loop fr0 ps asg body N l:=rfl
theorem TL{rec:GJ}{l q γ c N:Nat}{fr0:Fr}{ps:List Tmp}{asg body:Code}{vs:List V}(h:s.get l q=some (γ,.loop fr0 ps asg body N .ready))(hv:vs.length=ps.length)(hc:γ<c) :
  ZL rec l q γ vs ⟨c,fr,s⟩=OH fr l q γ (ZK (rec N) l q γ body (rec N asg ⟨c,II fr0 ps vs,⟨s.up++[s.loc],[]⟩⟩)):=by
 unfold ZL
 simp only[h]
 have:(bc γ γ&&bc vs.length ps.length&&bj γ c)=true:=by simp[hv,hc]
 rw[this]
theorem F7{rec:aP}{l q γ c N:Nat}{fr0:Fr}{ps:List Tmp}{asg body body':Code}(h:s.get l q=some (γ,.loop fr0 ps asg body' N .ready))(hc:γ<c) :
  ZK rec l q γ body (some (.normal,⟨c,fr,s⟩))=rec body ⟨c,fr,s.put l q γ (.loop fr0 ps asg body' N .busy)⟩:=by
 unfold ZK
 simp only[h]
 have:(bc γ γ&&bj γ c)=true:=by simp[hc]
 rw[this]
theorem P7{fr':Fr}{l q γ c N:Nat}{fr0:Fr}{ps:List Tmp}{asg body:Code}{up u:List AA}{loc lc:AA}(h:St.get ⟨up,loc⟩ l q=some (γ,.loop fr0 ps asg body N .busy))(hu:BZ up=some (u,lc))(hl:l<up.length)(hc:γ<c) :
  OH fr l q γ (some (.normal,⟨c,fr',⟨up,loc⟩⟩))=some (.bool true,⟨c,fr,St.put ⟨u.map (AH ⟨up,loc⟩),AH ⟨up,loc⟩ lc⟩ l q γ (.loop fr0 ps asg body N .ready)⟩):=by
 unfold OH
 simp only[h,hu]
 have:(bc γ γ&&bj l up.length&&bj γ c)=true:=by simp[hc,hl]
 rw[this]
 rfl
end
section
def tkU(z:Option XS)(d:Option Tmp)(st:XS):Option V->Option XS
 |some r=>Bool.rec z (D0 d st (some r)) (ZV r)
 |none=>z
@[simp] theorem A7N(z:Option XS)(d:Option Tmp)(st:XS)(k:cj)(n:Int):tkU z d st (some (.int k n))=D0 d st (some (.int k n)):=rfl
@[simp] theorem A2Z(z:Option XS)(d:Option Tmp)(st:XS)(b:Bool):tkU z d st (some (.bool b))=D0 d st (some (.bool b)):=rfl
@[simp] theorem AVJ(l k g n:Nat):weakC (.vec l k g n)=.vec l k g n:=rfl
@[simp] theorem xT(st:XS)(v:V):HY st [] v=v:=rfl
@[simp] theorem pY(k:Nat)(ks:List Nat)(c:Nat)(fr:Fr)(up:List AA)(loc:AA)(v:V)(h:k<10000):HY ⟨c,fr,⟨up,loc⟩⟩ (k::ks) v=HY ⟨c,fr,⟨up,loc⟩⟩ ks (BD up.length k (loc.get k) 3 v):=by
 have:bj k 10000=true:=by simpa [bk]using h
 simp only[HY,this,cond_true]
@[simp] theorem FM(k:Nat)(ks:List Nat)(st:XS)(v:V)(h:¬k<10000):HY st (k::ks) v=HY st ks (BD (k / 10000-1) (k % 10000) (st.s.get (k / 10000-1) (k % 10000)) 3 v):=by
 have:bj k 10000=false:=by
  cases hb:bj k 10000 with
  |false=>rfl
  |true=>exact absurd (by simpa [bk]using hb) h
 simp only[HY,this,cond_false]
@[simp] theorem A7O{P:bm}{A:Ann}{kn:CF0}{n k:Nat}{us:List Nat}(d:Option Tmp)(st:XS)(f:bp)(args:List V):HK (cfU (k::us) (BI P A kn n)) d st f args=tkU (HK (BI P A kn n) d st f args) d st (FC P kn (AF P A kn n) f (args.map (HY st (k::us)))):=by
 show(match lH (BI P A kn n).cf (BI P A kn n).c0 (k :: us) f args st with
  |some (r,st')=>some (⟨st'.c,putD st'.fr d true r,st'.s⟩:XS)
  | none=>none)=_
 unfold lH;have e:(BI P A kn n).c0=FC P kn (AF P A kn n):=rfl;rw[e];cases FC P kn (AF P A kn n) f (args.map (HY st (k::us)))with
 |none=>rfl
 |some r=>
  show(match(Bool.rec ((BI P A kn n).cf f args st) (some (r,st)) (ZV r):Option (V×XS))with
   |some (r,st')=>some (⟨st'.c,putD st'.fr d true r,st'.s⟩:XS)
   | none=>none)=(Bool.rec (HK (BI P A kn n) d st f args) (D0 d st (some r)) (ZV r):Option XS)
  cases ZV r<;>rfl
@[simp] theorem AQW(k:cj)(n:Int):fM (.int k n)=true:=rfl
@[simp] theorem AL3(b:Bool):fM (.bool b)=true:=rfl
end
theorem pZ{j k:Nat}(h:j≠k)(γ γ2:Nat)(T T2:bh)(es fs:List (List V)):kl j (kl k [] ((pl j γ T es++pl k γ2 T2 fs).get k)) ((pl j γ T es++pl k γ2 T2 fs).get j)=pl j γ T es++pl k γ2 T2 fs:=by cases es<;>cases fs<;>simp[h,h.symm]
theorem W0{j k:Nat}(h:j≠k)(γ γ2:Nat)(T T2:bh)(es fs:List (List V)):(pl j γ T es++pl k γ2 T2 fs).get k=(pl k γ2 T2 fs).get k:=by cases es<;>cases fs<;>simp[h.symm]
theorem qD{j k:Nat}(h:j≠k)(γ γ2:Nat)(T T2:bh)(es fs:List (List V))(M:AA):kl j M ((pl j γ T es++pl k γ2 T2 fs).get j)=pl j γ T es++M:=by cases es<;>cases fs<;>simp[h,h.symm]
theorem AJB{j k:Nat}(h:j≠k)(γ:Nat)(T:bh)(es:List (List V))(x:Nat×AX):(pl j γ T es++[(k,x)]).get k=some x:=by cases es<;>simp[h.symm]
theorem AQX{j k:Nat}(h:j≠k)(γ:Nat)(T:bh)(es:List (List V))(x:Nat×AX)(M:AA):kl j M ((pl j γ T es++[(k,x)]).get j)=pl j γ T es++M:=by cases es<;>simp[h,h.symm]
theorem W1{j k:Nat}(h:j≠k)(γ γ2:Nat)(T T2:bh)(es fs:List (List V)):(pl j γ T es++pl k γ2 T2 fs).get j=(pl j γ T es).get j:=by cases es<;>cases fs<;>simp[h]
theorem fZ{j k m:Nat}(h1:j≠m)(h2:k≠m)(γ γ2:Nat)(T T2:bh)(es fs:List (List V)):(pl j γ T es++pl k γ2 T2 fs).get m=none:=by cases es<;>cases fs<;>simp[h1.symm,h2.symm]
theorem qE{j:Nat}(γ:Nat)(T:bh)(es:List (List V))(M:AA):kl j M ((pl j γ T es).get j)=pl j γ T es++M:=by cases es<;>simp
theorem OQ{t:St}{T:bh}{es:List (List V)}(h:∀e∈es,∀v∈e,BU t v=some v):CE t (.vec T es)=.vec T es:=by
 have:B7 t (.vec T es)=some (.vec T es):=by unfold B7;simp only;rw[MX fun e he=>MX fun v hv=>h e he v hv]
 unfold CE;rw[this]
theorem xU{t c l q γ n:Nat}{fr:Fr}{s:St}{U:bh}{es:List (List V)}(h:BS fr t=some (true,.vec l q γ n))(hg:s.get l q=some (γ,.vec U es))(hn:n<=es.length)(hc:γ<c):aA (some t) ⟨c,fr,s⟩=⟨c,(t,true,.list false (es.take n))::fr,s.put l q γ .dead⟩:=by
 have hb:(bc γ γ&&Nat.ble n es.length&&bj γ c)=true:=by simp[bk,hn,hc,Nat.beq_eq]
 unfold aA;simp only[h,hg,hb]
@[simp] theorem AQY{P:bm}{A:Ann}{kn:CF0}{n N l:Nat}{st:XS}:AF P A kn (n+1) N (.label l) st=some (.normal,st):=rfl
theorem KO{α:Type}(p:α->Bool):∀(l:List α),(!l.any fun x=>!p x)=l.all p
 |[]=>rfl
 |x::l=>by have:=KO p l;simp only[List.any_cons,List.all_cons,Bool.not_or,Bool.not_not,<-this]
section
variable {P:bm}{fr:Fr}{s:St}
def pt(k γ:Nat):List (List V)->V
 |[]=>.list true []
 |e::es=>.vec 0 k γ (e::es).length
@[simp] theorem BCO(k γ:Nat):pt k γ []=.list true []:=rfl
@[simp] theorem A7P(k γ:Nat)(e:List V)(es:List (List V)):pt k γ (e::es)=.vec 0 k γ (es.length+1):=rfl
@[simp] theorem BCP(e k c γ:Nat)(loc:AA)(es:List (List V))(y:List V)(ys:List (List V))(hl:AA.get loc k=(pl k γ e es).get k)(h1:es.all (fun y=>y.length==P.cellsOf e)=true)(h2:B9 P e es.length (y::ys)=true) :
  yZ P e k c fr ⟨[],loc⟩ (pt k γ es) (y::ys)=some ⟨c+1,(k,true,pt k c (es++y::ys))::fr,⟨[],(k,c,.vec e (es++y::ys))::loc⟩⟩:=by
 cases es with
 |nil=>
  simp only[List.length_nil]at h2
  simp[h2,pt]
 |cons z es=>
  have h:=ASR (P:=P) (fr:=fr) e k c γ loc (z::es) y ys hl h1 h2
  exact h
theorem xV{T:bh}(f:Nat)(loc:AA)(k γ:Nat)(es:List (List V))(hl:AA.get loc k=(pl k γ T es).get k):AY ⟨[],loc⟩ (f+1) (pt k γ es)=some (.list false es):=by
 cases es with
 |nil=>rfl
 |cons e es=>exact LR (T:=T) f loc k γ (e::es) hl
@[simp] theorem AQZ(f k γ:Nat)(T:bh)(es:List (List V)):AY ⟨[],pl k γ T es⟩ (f+1) (pt k γ es)=some (.list false es):=xV (T:=T) f _ k γ es rfl
@[simp] theorem AVK(k γ:Nat)(es:List (List V)):A7 (pt k γ es)=[pt k γ es]:=by cases es<;>rfl
@[simp] theorem AVL(k γ:Nat)(es:List (List V)):BC (pt k γ es)=true:=by cases es<;>rfl
end
@[simp] theorem A7Q(st:XS):MV [] st=st:=rfl
@[simp] theorem A20(k:Nat)(ks:List Nat)(c:Nat)(fr:Fr)(up:List AA)(loc:AA)(h:k<1000):MV (k::ks) ⟨c,fr,⟨up,loc⟩⟩=MV ks ⟨c,M8 up.length k (loc.get k) fr,⟨up,FO up.length k (loc.get k) loc⟩⟩:=by
 have h1:bj k 1000=true:=by simpa [bk]using h
 show MV ks (tJ k ⟨c,fr,⟨up,loc⟩⟩)=_;unfold tJ;rw[h1];rfl
@[simp] theorem A21(k:Nat)(ks:List Nat)(c:Nat)(fr:Fr)(up:List AA)(loc:AA)(h:2000000000000000<=k):MV (k::ks) ⟨c,fr,⟨up,loc⟩⟩=MV ks ⟨c,fr,⟨up,bM (k % 1000) loc⟩⟩:=by
 have h1:bj k 1000=false:=by rw[<-bb,bk];omega
 have h2:bj k 1000000000000000=false:=by rw[<-bb,bk];omega
 have h3:bj k 2000000000000000=false:=by rw[<-bb,bk];omega
 show MV ks (tJ k ⟨c,fr,⟨up,loc⟩⟩)=_;unfold tJ;rw[h1,h2,h3];rfl
@[simp] theorem A7R(k:Nat):bM k []=[]:=rfl
@[simp] theorem A22(k j g:Nat)(r:AX)(L:AA):bM k ((j,g,r)::L)=(j,g,if j=k then yW r else r)::bM k L:=rfl
@[simp] theorem A7S(T:bh)(es:List (List V)):yW (.vec T es)=.vec T (es.map (bg gT)):=rfl
@[simp] theorem A7T(cs:List V):yW (.box cs)=.box (cs.map gT):=rfl
@[simp] theorem BCQ(k γ:Nat)(T:bh)(es:List (List V)):bM k (pl k γ T es)=pl k γ T (es.map (bg gT)):=by
 cases es with
 |nil=>rfl
 |cons e es=>simp[pl,bM]
@[simp] theorem AJC{k j:Nat}(h:j≠k)(γ:Nat)(T:bh)(es:List (List V)):bM k (pl j γ T es)=pl j γ T es:=by
 cases es with
 |nil=>rfl
 |cons e es=>simp[pl,bM,h]
@[simp] theorem BCR(es:List (List V)):gT (sl es)=.list false es:=by cases es<;>rfl
@[simp] theorem A7U:gT .nil=.list false []:=rfl
@[simp] theorem A23(b:Bool)(es:List (List V)):gT (.list b es)=.list b es:=rfl
section
variable {l k:Nat}{o:Option (Nat×AX)}
def gtf(l k:Nat)(o:Option (Nat×AX)):Option (Bool×V)->Option (Bool×V)
 |some (c,v)=>some (c,BD l k o 3 v)
 |none=>none
@[simp] theorem A24(c:Bool)(v:V):gtf l k o (some (c,v))=some (c,BD l k o 3 v):=rfl
@[simp] theorem A25:gtf l k o none=none:=rfl
@[simp] theorem AVM(fr:Fr)(j:Nat):BS (M8 l k o fr) j=gtf l k o (BS fr j):=by
 rw[E2,E2,U3];cases fr.get j with
 |none=>rfl
 |some x=>rfl
end
@[simp] theorem A7V{k j:Nat}(h:j≠k)(r:Fr)(o:Option (Bool×V)):BS (kx k r o) j=BS r j:=by
 cases o with
 |none=>rfl
 |some x=>
  obtain⟨c,v⟩:=x
  simp[h]
end Go.Pg
