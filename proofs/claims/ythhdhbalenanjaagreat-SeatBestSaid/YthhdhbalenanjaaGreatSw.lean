/- Rows told as lists, by simp. No program in sight. -/
import Derived.Test.YthhdhbalenanjaaGreatSx
noncomputable section
open Go renaming TypeId->bc,Program->bf,Operand->bg
open Nat renaming blt->bj,blt_eq->bq,beq->bb
open List renaming map_congr_left->bk,all_eq_true->bw,map_id->bz
open Bool renaming not_eq_true->bx
set_option linter.unusedSimpArgs false
namespace Go.Pg
variable {P:bf}{l k:Nat}{o:Option (Nat×A1)}
@[simp] theorem AZW(st:XS):VE [] st=st:=rfl
@[simp] theorem AZX:RL l k o []=[]:=rfl
@[simp] theorem AVW(j:Nat)(c:Bool)(v:V)(fr:Fr):RL l k o ((j,c,v)::fr)=(j,c,BL l k o 3 v)::RL l k o fr:=rfl
@[simp] theorem AZY:E8 l k o []=[]:=rfl
@[simp] theorem AVX(j g:Nat)(r:A1)(L:AA):E8 l k o ((j,g,r)::L)=if j=k then E8 l k o L else(j,g,LI l k o r)::E8 l k o L:=rfl
@[simp] theorem A7R(γ:Nat)(T:bc)(es:List (List V))(L:AA):E8 l k o (pl k γ T es++L)=E8 l k o L:=by cases es<;>simp
@[simp] theorem AZZ(γ:Nat)(T:bc)(es:List (List V)):E8 l k o (pl k γ T es)=[]:=by cases es<;>simp
theorem P0:∀(f g:Nat) (v:V),AG g v=true->BL l k o f v=v
 |0,_,_,_=>rfl
 |f+1,0,v,h=>by cases h
 |f+1,g+1,v,h=>by
  have lst:∀cs:List V,cs.all (AG g)=true->cs.map (BL l k o f)=cs:=by
   intro cs h;conv=>rhs;rw[<-bz cs]
   exact bk fun x hx=>P0 f g x (bw.1 h x hx)
  cases v with
  |vec _ _ _ _=>cases h
  |ptr _ _ _ _=>cases h
  |agg cs=>simp only[BL];rw[lst cs h]
  |tup cs=>simp only[BL];rw[lst cs h]
  |_=>rfl
theorem vP{cs:List V}(h:cs.all (AG 9)=true)(f:Nat):cs.map (BL l k o f)=cs:=by
 conv=>rhs;rw[<-bz cs]
 exact bk fun x hx=>P0 f 9 x (bw.1 h x hx)
theorem ACW{es:List (List V)}(h:(es.all fun e=>e.all (AG 9))=true)(f:Nat):es.map (List.map (BL l k o f))=es:=by
 conv=>rhs;rw[<-bz es]
 exact bk fun x hx=>vP (bw.1 h x hx) f
@[simp] theorem ACX{j:Nat}(h:j≠k)(γ:Nat)(T:bc)(es:List (List V))(L:AA)(hc:(es.all fun e=>e.all (AG 9))=true):E8 l k o (pl j γ T es++L)=pl j γ T es++E8 l k o L:=by
 cases es with
 |nil=>rfl
 |cons e es=>
  have q:=ACW (l:=l) (k:=k) (o:=o) hc 3
  simp only[List.map_cons]at q
  simp[h,LI,q]
@[simp] theorem W8{j:Nat}(h:j≠k)(γ:Nat)(T:bc)(es:List (List V))(hc:(es.all fun e=>e.all (AG 9))=true):E8 l k o (pl j γ T es)=pl j γ T es:=by have:=ACX (l:=l) (o:=o) h γ T es [] hc;simpa using this
@[simp] theorem AZ0(cs:List V):LI l k o (.box cs)=.box (cs.map (BL l k o 3)):=rfl
@[simp] theorem AZ1(T:bc)(es:List (List V)):LI l k o (.vec T es)=.vec T (es.map (List.map (BL l k o 3))):=rfl
@[simp] theorem AZ2(es:List (V×V)):LI l k o (.map es)=.map es:=rfl
@[simp] theorem AVY:LI l k o .dead=.dead:=rfl
@[simp] theorem iZ(f:Nat)(i:IntKind)(n:Int):BL l k o f (.int i n)=.int i n:=by cases f<;>rfl
@[simp] theorem AVZ(f:Nat)(b:Bool):BL l k o f (.bool b)=.bool b:=by cases f<;>rfl
@[simp] theorem AV0(f:Nat)(b:Bool)(es:List (List V)):BL l k o f (.list b es)=.list b es:=by cases f<;>rfl
@[simp] theorem A7S(f:Nat)(es:List (List V)):BL l k o f (sl es)=sl es:=by cases f<;>cases es<;>rfl
@[simp] theorem AZ3(f:Nat)(cs:List V):BL l k o f (.ref cs)=.ref cs:=by cases f<;>rfl
theorem ACY(f a b c d:Nat)(h:¬(a=l/\b=k)):BL l k o f (.ptr a b c d)=.ptr a b c d:=by
 cases f with
 |zero=>rfl
 |succ f=>
  simp only[BL]
  split
  ·rw[if_neg fun hh=>h ⟨hh.1,hh.2.1⟩]
  ·rfl
@[simp] theorem AV1(f a b c d:Nat)(h:¬b=k):BL l k o f (.ptr a b c d)=.ptr a b c d:=ACY f a b c d fun hh=>h hh.2
@[simp] theorem AV2(γ:Nat)(cs:List V)(f a b g off:Nat):BL l k (some (γ,.box cs)) (f+1) (.ptr a b g off)=if a=l/\b=k/\g=γ then .ref ((cs.map UW).drop off) else .ptr a b g off:=rfl
@[simp] theorem A7T(q:IntKind)(n:Int):UW (.int q n)=.int q n:=rfl
@[simp] theorem AZ4(b:Bool)(es:List (List V)):UW (.list b es)=.list b es:=rfl
@[simp] theorem BCE(a b c:Nat):UW (.mp a b c)=.any:=rfl
@[simp] theorem AV3(f:Nat):AG (f+1) .any=true:=rfl
@[simp] theorem A7U(f a b c:Nat):BL l k o f (.mp a b c)=.mp a b c:=by cases f<;>rfl
@[simp] theorem A7V(f:Nat)(g:FuncId)(xs ys:List V):BL l k o f (.fn g xs ys)=.fn g xs ys:=by cases f<;>rfl
@[simp] theorem ACZ(f:Nat):BL l k o f .nil=.nil:=by cases f<;>rfl
@[simp] theorem AZ5(f:Nat)(cs:List V):BL l k o (f+1) (.agg cs)=.agg (cs.map (BL l k o f)):=rfl
@[simp] theorem AZ6(γ:Nat)(T:bc)(es:List (List V))(f l' k' g m:Nat):BL l k (some (γ,.vec T es)) (f+1) (.vec l' k' g m)=if l'=l/\k'=k/\g=γ/\m=es.length then .list false es else .vec l' k' g m:=rfl
@[simp] theorem A7W(γ:Nat)(T:bc)(es:List (List V))(f:Nat):BL 0 k ((pl k γ T es).get k) (f+1) (pv k γ es)=sl es:=by
 cases es with
 |nil=>rfl
 |cons e es=>simp[pv,sl]
@[simp] theorem AZ7(γ:Nat)(T:bc)(es:List (List V))(f:Nat):BL 0 k (some (γ,.vec T es)) (f+1) (pv k γ es)=sl es:=by
 cases es with
 |nil=>rfl
 |cons e es=>simp[pv,sl]
@[simp] theorem AZ8{j:Nat}(h:j≠k)(γ:Nat)(es:List (List V))(f:Nat):BL l k o f (pv j γ es)=pv j γ es:=by
 cases es with
 |nil=>cases f<;>rfl
 |cons e es=>
  cases f with
  |zero=>rfl
  |succ f=>
   simp only[pv,BL]
   split
   ·rw[if_neg (fun hh=>h hh.2.1)]
   ·rfl
variable {A:Ann}{kn:CF0}{n:Nat}{fr:Fr}{s:St}
end Go.Pg
namespace Go.Pg
section
@[simp] theorem C9{α:Type}(x:α):∀(l:List α),CJ (l++[x])=some (l,x)
 |[]=>rfl
 |[y]=>rfl
 |y::z::l=>by have:=C9 x (z::l);simp only[List.cons_append]at this|-;rw[YD,this];rfl
end
section
variable {P:bf}{E:XE}{d:Option Tmp}{c:Nat}{fr:Fr}{s:St}{r:bg->Option V}
@[simp] theorem AV4(T:bc)(x i:bg)(ok:Bool):J2 P (sO (.lookup T x i ok)) s r=o2 (fun a b=>DT P s T a b ok) (r x) (r i):=by show((r x).bind fun a=>(r i).bind fun b=>DT P s T a b ok)=_;cases r x<;>cases r i<;>rfl
def up1(c:Nat)(fr:Fr)(s:St):Option (Nat×Nat×Nat×List (V×V))->Option XS
 |some (l,q,γ,es)=>Bool.rec none (some ⟨c,fr,s.put l q γ (.map es)⟩) (bj γ c)
 |none=>none
def up3(P:bf)(T:bc)(c:Nat)(fr:Fr)(s:St):Option V->Option V->Option V->Option XS
 |some m,some i,some v=>up1 c fr s (ML P s T m i v)
 |_,_,_=>none
@[simp] theorem A7X(T:bc)(m i v:V):up3 P T c fr s (some m) (some i) (some v)=up1 c fr s (ML P s T m i v):=rfl
theorem AIU(l q γ:Nat)(es:List (V×V))(h:γ<c):up1 c fr s (some (l,q,γ,es))=some ⟨c,fr,s.put l q γ (.map es)⟩:=by
 have:bj γ c=true:=by simpa [bq]using h
 show(Bool.rec none (some ⟨c,fr,s.put l q γ (.map es)⟩) (bj γ c):Option XS)=_;rw[this]
@[simp] theorem AZ9(T:bc)(x i y:bg):DE P E none (.upd T x i y) ⟨c,fr,s⟩=up3 P T c fr s (CX fr x) (CX fr i) (CX fr y):=by show ACE P none T x i y ⟨c,fr,s⟩=_;unfold ACE up3 up1;simp only;cases CX fr x<;>cases CX fr i<;>cases CX fr y<;>simp only;split<;>simp_all
@[simp] theorem A7Y(x:bg):J2 P (sO (.nilCheck x)) s r=o1 PC (r x):=by show(r x).bind PC=_;cases r x<;>rfl
@[simp] theorem A0A(l k g o:Nat):PC (.ptr l k g o)=some (.ptr l k g o):=rfl
@[simp] theorem A7Z(x:bg)(f:bg->Option V):H2 P (.oth (.nilCheck x)) f=[]:=rfl
@[simp] theorem A70(T:bc)(x i:bg)(ok:Bool)(f:bg->Option V):H2 P (.oth (.lookup T x i ok)) f=B7 (f x):=rfl
@[simp] theorem AV5(l k g:Nat):B8 s (.mp l k g)=some (.mp l k g):=rfl
theorem N4{α:Type}{f:α->Option α}:∀{l:List α},(∀x∈l,f x=some x)->HA f l=some l
 |[],_=>rfl
 |x::l,h=>by have ih:=N4 (f:=f) (l:=l) fun y hy=>h y (by simp[hy]);simp only[HA,h x (by simp),ih]
theorem VK:∀(l:List AA) (b:AA),CJ (l++[b])=some (l,b)
 |[],b=>by simp
 |[a],b=>by simp
 |a::a2::l,b=>by have:=VK (a2::l) b;simp only[List.cons_append]at this|-;simp[this]
@[simp] theorem A0B(a:AA)(l:List AA)(b:AA):CJ (a::(l++[b]))=some (a::l,b):=VK (a::l) b
@[simp] theorem A0C(d:Nat):DE P E (some d) (.mkM none) ⟨c,fr,s⟩=some ⟨c+1,(d,true,.mp s.up.length d c)::fr,s.put s.up.length d c (.map [])⟩:=rfl
end
section
variable {P:bf}{s:St}{r:bg->Option V}
@[simp] theorem AV6(T:bc)(x h:bg):J2 P (sO (.slice T x none (some h) none)) s r=o2 (fun a b=>CR P s T a none (some b) none) (r x) (r h):=by show((r x).bind fun a=>((some none:Option (Option V))).bind fun l=>((r h).map some).bind fun h=>((some none:Option (Option V))).bind fun m=>CR P s T a l h m)=_;cases r x<;>cases r h<;>rfl
theorem dZ{T e:bc}{es:List (List V)}{h:Int}{b:Bool}(hT:BW P T=some (none,e))(hc:0<P.cellsOf e)(h1:0<=h)(h2:h<=es.length):CR P s T (.list b es) none (some (.int .i64 h)) none=some (.list false (es.take h.toNat)):=by simp only[CR,hT];rw[if_pos ⟨h1,h2,hc⟩]
end
section
variable {P:bf}{E:XE}{c:Nat}{fr:Fr}{s:St}{r:bg->Option V}
theorem AC0{T e:bc}{l k g n h:Nat}(hT:BW P T=some (none,e))(hh:h<=n)(hc:0<P.cellsOf e):CR P s T (.vec l k g n) none (some (.int .i64 (h:Int))) none=some (.vec l k g h):=by unfold CR;simp only[hT];rw[if_pos ⟨by omega,by omega,hc⟩];simp
end
section
variable {P:bf}{fr:Fr}{s:St}
@[simp] theorem BCG(e d c l q γ n:Nat)(ys:List (List V)):adV P e d c fr s (.vec l q γ n) ys=wp [(l,q),(l,q+MO)] (apW P e d c fr s l q γ n ys (US n ys (s.get l q))):=rfl
end
section
@[simp] theorem AMV{P:bf}{A:Ann}{kn:CF0}{n:Nat}:(BT P A kn n).cy=cZ (AE P A kn n):=rfl
end
section
variable {P:bf}{A:Ann}{kn:CF0}{n:Nat}{fr:Fr}{s:St}
def oc2(d c:Nat)(fr:Fr)(s:St):Option V->Option XS->Option XS
 |some r,_=>some ⟨c+1,(d,true,r.ren (fun _=>c) s.up.length)::fr,s.put s.up.length d c .dead⟩
 |none,z=>z
@[simp] theorem A71(d c:Nat)(r:V)(z:Option XS):oc2 d c fr s (some r) z=some ⟨c+1,(d,true,r.ren (fun _=>c) s.up.length)::fr,s.put s.up.length d c .dead⟩:=rfl
def oc1(d c:Nat)(fr:Fr)(s:St)(F:List V->Option V):Option (List V)->Option XS->Option XS
 |some vs,z=>oc2 d c fr s (F vs) z
 |none,z=>z
@[simp] theorem AIV(d c:Nat)(F:List V->Option V)(vs:List V)(z:Option XS):oc1 d c fr s F (some vs) z=oc2 d c fr s (F vs) z:=rfl
@[simp] theorem A72{f:FuncId}(hS:LZ P f=false)(d c:Nat)(args:List bg):DE P (BT P A kn n) (some d) (.call true none (.func f) args) ⟨c,fr,s⟩ =
  oc1 d c fr s (fun vs=>FZ P kn (AE P A kn n) f (vs.map weakV)) (GV (CX fr) args) (VB (BT P A kn n).cf (BT P A kn n).cy (some d) (.func f) args ⟨c,fr,s⟩):=by
 show pY (BT P A kn n) true (some d) (.func f) args ⟨c,fr,s⟩=_
 unfold pY
 show(match LY (BT P A kn n).co (some d) (.func f) args ⟨c,fr,s⟩ with|some st'=>some st'|none=>_)=_
 unfold LY
 have hf:CX fr (.func f)=some (.fn f [] []):=rfl
 simp only[hf]
 cases GV (CX fr) args with
 |none=>rfl
 |some vs=>
  simp only[AIV,List.nil_append,List.append_nil]
  have:(BT P A kn n).co f (vs.map weakV) d=(match FZ P kn (AE P A kn n) f (vs.map weakV)with|some r=>some ⟨.dead,some r⟩|none=>none):=by show cX P kn (fun _ _ _=>none) (AE P A kn n) f _ d=_;unfold cX;simp only[hS];cases FZ P kn (AE P A kn n) f (vs.map weakV)<;>rfl
  rw[this]
  cases FZ P kn (AE P A kn n) f (vs.map weakV)with
  |none=>rfl
  |some r=>rfl
def od2(d c:Nat)(fr:Fr)(s:St):Option V->Option XS
 |some r=>some ⟨c+1,(d,true,r.ren (fun _=>c) s.up.length)::fr,s.put s.up.length d c .dead⟩
 |none=>none
@[simp] theorem A73(d c:Nat)(r:V):od2 d c fr s (some r)=some ⟨c+1,(d,true,r.ren (fun _=>c) s.up.length)::fr,s.put s.up.length d c .dead⟩:=rfl
def od1(d c:Nat)(fr:Fr)(s:St)(F:List V->Option V):Option (List V)->Option XS
 |some vs=>od2 d c fr s (F vs)
 |none=>none
@[simp] theorem AIW(d c:Nat)(F:List V->Option V)(vs:List V):od1 d c fr s F (some vs)=od2 d c fr s (F vs):=rfl
@[simp] theorem A0D{f:FuncId}(hS:LZ P f=false)(d c:Nat)(args:List bg):DW P (BT P A kn n) (some d) (.call true none (.func f) args) ⟨c,fr,s⟩ =
  nw (od1 d c fr s (fun vs=>FZ P kn (AE P A kn n) f (vs.map weakV)) (GV (CX fr) args)):=by
 show VZ (LY (BT P A kn n).co (some d) (.func f) args ⟨c,fr,s⟩)=_
 rw[H3]
 congr 1
 unfold LY
 have hf:CX fr (.func f)=some (.fn f [] []):=rfl
 simp only[hf]
 cases GV (CX fr) args with
 |none=>rfl
 |some vs=>
  simp only[AIW,List.nil_append,List.append_nil]
  have:(BT P A kn n).co f (vs.map weakV) d=(match FZ P kn (AE P A kn n) f (vs.map weakV)with|some r=>some ⟨.dead,some r⟩|none=>none):=by show cX P kn (fun _ _ _=>none) (AE P A kn n) f _ d=_;unfold cX;simp only[hS];cases FZ P kn (AE P A kn n) f (vs.map weakV)<;>rfl
  rw[this]
  cases FZ P kn (AE P A kn n) f (vs.map weakV)with
  |none=>rfl
  |some r=>rfl
end
section
variable {fr:Fr}{s:St}
@[simp] theorem ARI(l k g:Nat):B8 s (.yld l k g)=some (.yld l k g):=rfl
@[simp] theorem ARJ(f:Nat)(cs:List V):A7 s (f+1) (.ref cs)=some (.ref cs):=rfl
@[simp] theorem A74{P:bf}:GD P [] fr s=some (.tup []):=rfl
@[simp] theorem AIX:CQ .nilFunc=some (.raw .nilFunc):=rfl
@[simp] theorem AV7(f l k g:Nat):AG (f+1) (.yld l k g)=false:=rfl
@[simp] theorem A75(l k g:Nat):weakV (.yld l k g)=.yld l k g:=rfl
@[simp] theorem BCI(d c l k g:Nat):bx1 d c fr s (some (.yld l k g))=some ⟨c+1,(d,true,.ptr s.up.length d c 0)::fr,s.put s.up.length d c (.box [.yld l k g])⟩:=rfl
@[simp] theorem BCJ(F:List V->Option (List V))(g off:Nat)(g':Nat)(cs:List V):cp1 F g off (some (g',.box cs))=if g'=g then(F cs).map (fun ds=>V.ref (ds.drop off)) else none:=rfl
def mk4(P:bf)(d c:Nat)(fr:Fr)(s:St)(e:bc)(n m:Int):Option (List V)->Option XS
 |some z=>if 0<=n/\m=n/\z.length=P.cellsOf e/\n.toNat*P.bytesOf e<=140737488355328/\n.toNat<=maxLen then some ⟨c+1,(d,true,.vec s.up.length d c n.toNat)::fr,s.put s.up.length d c (.vec e (List.replicate n.toNat z))⟩ else none
 |none=>none
@[simp] theorem A76{P:bf}(d c:Nat)(e:bc)(n m:Int)(z:List V):mk4 P d c fr s e n m (some z)=if 0<=n/\m=n/\z.length=P.cellsOf e/\n.toNat*P.bytesOf e<=140737488355328/\n.toNat<=maxLen then some ⟨c+1,(d,true,.vec s.up.length d c n.toNat)::fr,s.put s.up.length d c (.vec e (List.replicate n.toNat z))⟩ else none:=rfl
def mk3(P:bf)(d c:Nat)(fr:Fr)(s:St):Option (Option Nat×bc)->Option V->Option V->Option XS
 |some (none,e),some (.int _ n),some (.int _ m)=>mk4 P d c fr s e n m (B9 P e)
 |_,_,_=>none
@[simp] theorem AIY{P:bf}(d c:Nat)(e:bc)(k1 k2:IntKind)(n m:Int):mk3 P d c fr s (some (none,e)) (some (.int k1 n)) (some (.int k2 m))=mk4 P d c fr s e n m (B9 P e):=rfl
@[simp] theorem A0E{P:bf}{E:XE}(T:bc)(d c:Nat)(x y:bg):DE P E (some d) (.mkS T x y) ⟨c,fr,s⟩=mk3 P d c fr s (BW P T) (CX fr x) (CX fr y):=by
 show YA P (some d) T x y ⟨c,fr,s⟩=_;unfold YA;simp only;cases BW P T with
 |none=>cases CX fr x<;>cases CX fr y<;>rfl
 |some p=>
  obtain⟨k,e⟩:=p
  cases k with
  |some k=>cases CX fr x<;>cases CX fr y<;>rfl
  |none=>
   cases CX fr x with
   |none=>rfl
   |some a=>
    cases CX fr y with
    |none=>cases a<;>rfl
    |some z=>
     cases a with
     |int k1 n=>
      cases z with
      |int k2 m=>simp only[AIY];cases B9 P e<;>rfl
      |_=>rfl
     |_=>rfl
@[simp] theorem BCK{P:bf}(T:bc)(x y:bg)(r:bg->Option V):H2 P (.mkS T x y) r=[]:=rfl
def rE(fr:Fr)(n γ:Nat)(r:Option XS):Option (Exit×XS):=match r with
 |some st=>match st.s.get n BO with
  | some (γ',.loop _ _ _ _ _ ls)=>Bool.rec none (match ls with
   |.ready=>some (.normal,⟨st.c,fr,st.s.put n BO γ .dead⟩)
   |.left .ret=>some (.ret,⟨st.c,fr,st.s.put n BO γ .dead⟩)
   |.left (.exit id)=>some (.exit id,⟨st.c,fr,st.s.put n BO γ .dead⟩)
   | _=>none) (bb γ' γ&&bj γ st.c)
  |_=>none
 |none=>none
theorem W9{P:bf}{A:Ann}{kn:CF0}{n N:Nat}{g:bg}{ps:List Tmp}{asg body:Code}{c:Nat}{up:List AA}{loc:AA}{f:FuncId}{first cap:List V}(h:CX fr g=some (.fn f first cap)) :
  W1 (BT P A kn n).cf N g ps asg body ⟨c,fr,⟨up,loc⟩⟩=rE fr up.length c (GW (BT P A kn n) none ⟨c+1,fr,⟨up,(BO,c,.loop fr ps asg body N .ready)::loc⟩⟩ f ((first++[V.yld up.length BO c]++cap).map weakV)):=by
 unfold W1
 simp only[h]
 unfold GW lA rE
 simp only[St.put,if_true,AA.put]
 cases (BT P A kn n).cf f ((first++[V.yld up.length BO c]++cap).map weakV) ⟨c+1,fr,⟨up,(BO,c,.loop fr ps asg body N .ready)::loc⟩⟩ with
 |none=>rfl
 |some r=>rfl
theorem eA{n γ c:Nat}{fr' fr0:Fr}{s:St}{ps:List Tmp}{asg body:Code}{N:Nat}(h:s.get n BO=some (γ,.loop fr0 ps asg body N .ready))(hc:γ<c):rE fr n γ (some ⟨c,fr',s⟩)=some (.normal,⟨c,fr,s.put n BO γ .dead⟩):=by
 unfold rE;simp only[h];have:(bb γ γ&&bj γ c)=true:=by simpa using hc
 rw[this]
@[simp] theorem A0F(t:St)(fr0:Fr)(ps:List Tmp)(asg body:Code)(N:Nat)(l:LS):CW t (.loop fr0 ps asg body N l)=.loop fr0 ps asg body N l:=rfl
theorem Y7{rec:HC}{l q γ c N:Nat}{fr0:Fr}{ps:List Tmp}{asg body:Code}{vs:List V}(h:s.get l q=some (γ,.loop fr0 ps asg body N .ready))(hv:vs.length=ps.length)(hc:γ<c) :
  cZ rec l q γ vs ⟨c,fr,s⟩=W2 fr l q γ (cY (rec N) l q γ body (rec N asg ⟨c,JW fr0 ps vs,⟨s.up++[s.loc],[]⟩⟩)):=by
 unfold cZ
 simp only[h]
 have:(bb γ γ&&bb vs.length ps.length&&bj γ c)=true:=by simp[hv,hc]
 rw[this]
theorem IX{rec:eQ}{l q γ c N:Nat}{fr0:Fr}{ps:List Tmp}{asg body body':Code}(h:s.get l q=some (γ,.loop fr0 ps asg body' N .ready))(hc:γ<c) :
  cY rec l q γ body (some (.normal,⟨c,fr,s⟩))=rec body ⟨c,fr,s.put l q γ (.loop fr0 ps asg body' N .busy)⟩:=by
 unfold cY
 simp only[h]
 have:(bb γ γ&&bj γ c)=true:=by simp[hc]
 rw[this]
theorem RM{fr':Fr}{l q γ c N:Nat}{fr0:Fr}{ps:List Tmp}{asg body:Code}{up u:List AA}{loc lc:AA}(h:St.get ⟨up,loc⟩ l q=some (γ,.loop fr0 ps asg body N .busy))(hu:CJ up=some (u,lc))(hl:l<up.length)(hc:γ<c) :
  W2 fr l q γ (some (.normal,⟨c,fr',⟨up,loc⟩⟩))=some (.bool true,⟨c,fr,St.put ⟨u.map (AH ⟨up,loc⟩),AH ⟨up,loc⟩ lc⟩ l q γ (.loop fr0 ps asg body N .ready)⟩):=by
 unfold W2
 simp only[h,hu]
 have:(bb γ γ&&bj l up.length&&bj γ c)=true:=by simp[hc,hl]
 rw[this]
 rfl
end
section
def tkU(z:Option XS)(d:Option Tmp)(st:XS):Option V->Option XS
 |some r=>Bool.rec z (EO d st (some r)) (dJ r)
 |none=>z
@[simp] theorem A77(z:Option XS)(d:Option Tmp)(st:XS)(b:Bool):tkU z d st (some (.bool b))=EO d st (some (.bool b)):=rfl
@[simp] theorem AC1(st:XS)(v:V):ID st [] v=v:=rfl
@[simp] theorem vQ(k:Nat)(ks:List Nat)(c:Nat)(fr:Fr)(up:List AA)(loc:AA)(v:V)(h:k<10000):ID ⟨c,fr,⟨up,loc⟩⟩ (k::ks) v=ID ⟨c,fr,⟨up,loc⟩⟩ ks (BL up.length k (loc.get k) 3 v):=by
 have:bj k 10000=true:=by simpa [bq]using h
 simp only[ID,this,cond_true]
@[simp] theorem F8(k:Nat)(ks:List Nat)(st:XS)(v:V)(h:¬k<10000):ID st (k::ks) v=ID st ks (BL (k / 10000-1) (k % 10000) (st.s.get (k / 10000-1) (k % 10000)) 3 v):=by
 have:bj k 10000=false:=by
  cases hb:bj k 10000 with
  |false=>rfl
  |true=>exact absurd (by simpa [bq]using hb) h
 simp only[ID,this,cond_false]
@[simp] theorem BCL{P:bf}{A:Ann}{kn:CF0}{n k:Nat}{us:List Nat}(d:Option Tmp)(st:XS)(f:FuncId)(args:List V):GW (cfU (k::us) (BT P A kn n)) d st f args=tkU (GW (BT P A kn n) d st f args) d st (FZ P kn (AE P A kn n) f (args.map (ID st (k::us)))):=by
 show(match qM (BT P A kn n).cf (BT P A kn n).c0 (k :: us) f args st with
  |some (r,st')=>some (⟨st'.c,putD st'.fr d true r,st'.s⟩:XS)
  | none=>none)=_
 unfold qM;have e:(BT P A kn n).c0=FZ P kn (AE P A kn n):=rfl;rw[e];cases FZ P kn (AE P A kn n) f (args.map (ID st (k::us)))with
 |none=>rfl
 |some r=>
  show(match(Bool.rec ((BT P A kn n).cf f args st) (some (r,st)) (dJ r):Option (V×XS))with
   |some (r,st')=>some (⟨st'.c,putD st'.fr d true r,st'.s⟩:XS)
   | none=>none)=(Bool.rec (GW (BT P A kn n) d st f args) (EO d st (some r)) (dJ r):Option XS)
  cases dJ r<;>rfl
end
theorem IY{j k:Nat}(h:j≠k)(γ γ2:Nat)(T T2:bc)(es fs:List (List V)):(pl j γ T es++pl k γ2 T2 fs).get k=(pl k γ2 T2 fs).get k:=by cases es<;>cases fs<;>simp[h.symm]
theorem AOC{j k:Nat}(h:j≠k)(γ:Nat)(T:bc)(es:List (List V))(x:Nat×A1):(pl j γ T es++[(k,x)]).get k=some x:=by cases es<;>simp[h.symm]
theorem AV8{j k:Nat}(h:j≠k)(γ:Nat)(T:bc)(es:List (List V))(x:Nat×A1)(M:AA):kl j M ((pl j γ T es++[(k,x)]).get j)=pl j γ T es++M:=by cases es<;>simp[h]
theorem H1{j k:Nat}(h:j≠k)(γ γ2:Nat)(T T2:bc)(es fs:List (List V)):(pl j γ T es++pl k γ2 T2 fs).get j=(pl j γ T es).get j:=by cases es<;>cases fs<;>simp[h]
theorem VL{j k m:Nat}(h1:j≠m)(h2:k≠m)(γ γ2:Nat)(T T2:bc)(es fs:List (List V)):(pl j γ T es++pl k γ2 T2 fs).get m=none:=by cases es<;>cases fs<;>simp[h1.symm,h2.symm]
theorem KU{j:Nat}(γ:Nat)(T:bc)(es:List (List V))(M:AA):kl j M ((pl j γ T es).get j)=pl j γ T es++M:=by cases es<;>simp
theorem VM{t:St}{T:bc}{es:List (List V)}(h:∀e∈es,∀v∈e,B8 t v=some v):CW t (.vec T es)=.vec T es:=by
 have:CC t (.vec T es)=some (.vec T es):=by unfold CC;simp only;rw[N4 fun e he=>N4 fun v hv=>h e he v hv]
 unfold CW;rw[this]
theorem J6{α:Type}(p:α->Bool):∀(l:List α),(!l.any fun x=>!p x)=l.all p
 |[]=>rfl
 |x::l=>by have:=J6 p l;simp only[List.any_cons,List.all_cons,Bool.not_or,Bool.not_not,<-this]
section
variable {P:bf}{fr:Fr}{s:St}
def pt(k γ:Nat):List (List V)->V
 |[]=>.list true []
 |e::es=>.vec 0 k γ (e::es).length
@[simp] theorem BHR(k γ:Nat):pt k γ []=.list true []:=rfl
@[simp] theorem BHS(e k c γ:Nat)(loc:AA)(es:List (List V))(y:List V)(ys:List (List V))(hl:AA.get loc k=(pl k γ e es).get k)(h1:es.all (fun y=>y.length==P.cellsOf e)=true)(h2:B5 P e es.length (y::ys)=true) :
  apV P e k c fr ⟨[],loc⟩ (pt k γ es) (y::ys)=some ⟨c+1,(k,true,pt k c (es++y::ys))::fr,⟨[],(k,c,.vec e (es++y::ys))::loc⟩⟩:=by
 cases es with
 |nil=>
  simp only[List.length_nil]at h2
  simp[h2,pt]
 |cons z es=>
  have h:=AXU (P:=P) (fr:=fr) e k c γ loc (z::es) y ys hl h1 h2
  exact h
theorem AC2{T:bc}(f:Nat)(loc:AA)(k γ:Nat)(es:List (List V))(hl:AA.get loc k=(pl k γ T es).get k):A7 ⟨[],loc⟩ (f+1) (pt k γ es)=some (.list false es):=by
 cases es with
 |nil=>rfl
 |cons e es=>exact QS (T:=T) f loc k γ (e::es) hl
@[simp] theorem AV9(f k γ:Nat)(T:bc)(es:List (List V)):A7 ⟨[],pl k γ T es⟩ (f+1) (pt k γ es)=some (.list false es):=AC2 (T:=T) f _ k γ es rfl
end
@[simp] theorem BCM(st:XS):LJ [] st=st:=rfl
@[simp] theorem A78(k:Nat)(ks:List Nat)(c:Nat)(fr:Fr)(up:List AA)(loc:AA)(h:k<1000):LJ (k::ks) ⟨c,fr,⟨up,loc⟩⟩=LJ ks ⟨c,RL up.length k (loc.get k) fr,⟨up,E8 up.length k (loc.get k) loc⟩⟩:=by
 have h1:bj k 1000=true:=by simpa [bq]using h
 show LJ ks (zC k ⟨c,fr,⟨up,loc⟩⟩)=_;unfold zC;rw[h1];rfl
@[simp] theorem A79(k:Nat)(ks:List Nat)(c:Nat)(fr:Fr)(up:List AA)(loc:AA)(h:2000000000000000<=k):LJ (k::ks) ⟨c,fr,⟨up,loc⟩⟩=LJ ks ⟨c,fr,⟨up,qQ (k % 1000) loc⟩⟩:=by
 have h1:bj k 1000=false:=by rw[<-bx,bq];omega
 have h2:bj k 1000000000000000=false:=by rw[<-bx,bq];omega
 have h3:bj k 2000000000000000=false:=by rw[<-bx,bq];omega
 show LJ ks (zC k ⟨c,fr,⟨up,loc⟩⟩)=_;unfold zC;rw[h1,h2,h3];rfl
@[simp] theorem BCN(k:Nat):qQ k []=[]:=rfl
@[simp] theorem A8A(k j g:Nat)(r:A1)(L:AA):qQ k ((j,g,r)::L)=(j,g,if j=k then wkR r else r)::qQ k L:=rfl
@[simp] theorem BCO(T:bc)(es:List (List V)):wkR (.vec T es)=.vec T (es.map (List.map sJ)):=rfl
@[simp] theorem A8B(b:Bool)(es:List (List V)):sJ (.list b es)=.list b es:=rfl
section
variable {l k:Nat}{o:Option (Nat×A1)}
end
@[simp] theorem BCP{k j:Nat}(h:j≠k)(r:Fr)(o:Option (Bool×V)):BD (kx k r o) j=BD r j:=by
 cases o with
 |none=>rfl
 |some x=>
  obtain⟨c,v⟩:=x
  simp[h]
end Go.Pg
