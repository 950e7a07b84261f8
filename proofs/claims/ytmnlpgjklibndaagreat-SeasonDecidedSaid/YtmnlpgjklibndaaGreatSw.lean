/- Rows told as lists, by simp. No program in sight. -/
import Derived.Test.YtmnlpgjklibndaaGreatSx
noncomputable section
open Go renaming TypeId->br,Operand->bt,Program->cj,FuncId->ck,IntKind->cq
open Nat renaming blt->bj,blt_eq->bq,beq->bf
open List renaming map_congr_left->bw,nil_append->bx,append_nil->bz,all_eq_true->bc,replicate->bh,map_id->bn,map->bp
open Bool renaming not_eq_true->bg
set_option linter.unusedSimpArgs false
namespace Go.Pg
variable {P:cj}{l k:Nat}{o:Option (Nat×A6)}
@[simp] theorem AX8(st:XS):VV [] st=st:=rfl
@[simp] theorem ATT(k:Nat)(ks:List Nat)(c:Nat)(fr:Fr)(up:List AA)(loc:AA):VV (k::ks) ⟨c,fr,⟨up,loc⟩⟩=VV ks ⟨c,KZ up.length k (loc.get k) fr,⟨up,FS up.length k (loc.get k) loc⟩⟩:=rfl
@[simp] theorem AX9:KZ l k o []=[]:=rfl
@[simp] theorem ATU(j:Nat)(c:Bool)(v:V)(fr:Fr):KZ l k o ((j,c,v)::fr)=(j,c,BS l k o 3 v)::KZ l k o fr:=rfl
@[simp] theorem AYA:FS l k o []=[]:=rfl
@[simp] theorem ATV(j g:Nat)(r:A6)(L:AA):FS l k o ((j,g,r)::L)=if j=k then FS l k o L else(j,g,KG l k o r)::FS l k o L:=rfl
@[simp] theorem AYB(γ:Nat)(T:br)(es:List (List V)):FS l k o (pl k γ T es)=[]:=by cases es<;>simp
theorem VW:∀(f g:Nat) (v:V),AK g v=true->BS l k o f v=v
 |0,_,_,_=>rfl
 |f+1,0,v,h=>by cases h
 |f+1,g+1,v,h=>by
  have lst:∀cs:List V,cs.all (AK g)=true->cs.map (BS l k o f)=cs:=by
   intro cs h;conv=>rhs;rw[<-bn cs]
   exact bw fun x hx=>VW f g x (bc.1 h x hx)
  cases v with
  |vec _ _ _ _=>cases h
  |ptr _ _ _ _=>cases h
  |agg cs=>simp only[BS];rw[lst cs h]
  |tup cs=>simp only[BS];rw[lst cs h]
  |_=>rfl
theorem uD{cs:List V}(h:cs.all (AK 9)=true)(f:Nat):cs.map (BS l k o f)=cs:=by
 conv=>rhs;rw[<-bn cs]
 exact bw fun x hx=>VW f 9 x (bc.1 h x hx)
theorem AA0{es:List (List V)}(h:(es.all fun e=>e.all (AK 9))=true)(f:Nat):es.map (bp (BS l k o f))=es:=by
 conv=>rhs;rw[<-bn es]
 exact bw fun x hx=>uD (bc.1 h x hx) f
@[simp] theorem AYC{j:Nat}(h:j≠k)(γ:Nat)(T:br)(es:List (List V))(L:AA)(hc:(es.all fun e=>e.all (AK 9))=true):FS l k o (pl j γ T es++L)=pl j γ T es++FS l k o L:=by
 cases es with
 |nil=>rfl
 |cons e es=>
  have q:=AA0 (l:=l) (k:=k) (o:=o) hc 3
  simp only[List.map_cons]at q
  simp[h,KG,q]
@[simp] theorem AYD(cs:List V):KG l k o (.box cs)=.box (cs.map (BS l k o 3)):=rfl
@[simp] theorem AYE(T:br)(es:List (List V)):KG l k o (.vec T es)=.vec T (es.map (bp (BS l k o 3))):=rfl
@[simp] theorem AYF(es:List (V×V)):KG l k o (.map es)=.map es:=rfl
@[simp] theorem ATW:KG l k o .dead=.dead:=rfl
@[simp] theorem ATX(fr:List (Nat×Bool×V))(ps:List Tmp)(asg body:Code)(N:Nat)(st:LS):KG l k o (.loop fr ps asg body N st)=.loop fr ps asg body N st:=rfl
@[simp] theorem AYG(f:Nat)(i:cq)(n:Int):BS l k o f (.int i n)=.int i n:=by cases f<;>rfl
@[simp] theorem ATY(f:Nat)(b:Bool):BS l k o f (.bool b)=.bool b:=by cases f<;>rfl
@[simp] theorem AYH(f:Nat)(v:Value):BS l k o f (.raw v)=.raw v:=by cases f<;>rfl
@[simp] theorem ATZ(f:Nat)(b:Bool)(es:List (List V)):BS l k o f (.list b es)=.list b es:=by cases f<;>rfl
@[simp] theorem A50(f:Nat)(es:List (List V)):BS l k o f (sl es)=sl es:=by cases f<;>cases es<;>rfl
@[simp] theorem AYI(f:Nat)(cs:List V):BS l k o f (.ref cs)=.ref cs:=by cases f<;>rfl
theorem AA1(f a b c d:Nat)(h:¬(a=l/\b=k)):BS l k o f (.ptr a b c d)=.ptr a b c d:=by
 cases f with
 |zero=>rfl
 |succ f=>
  simp only[BS]
  split
  ·rw[if_neg fun hh=>h ⟨hh.1,hh.2.1⟩]
  ·rfl
@[simp] theorem AT0(f a b c d:Nat)(h:¬b=k):BS l k o f (.ptr a b c d)=.ptr a b c d:=AA1 f a b c d fun hh=>h hh.2
@[simp] theorem AT1(γ:Nat)(T:br)(es:List (List V))(f a b c d:Nat):BS l k (some (γ,.vec T es)) f (.ptr a b c d)=.ptr a b c d:=by cases f<;>rfl
@[simp] theorem AT2(γ:Nat)(cs:List V)(f a b g off:Nat):BS l k (some (γ,.box cs)) (f+1) (.ptr a b g off)=if a=l/\b=k/\g=γ then .ref ((cs.map MU).drop off) else .ptr a b g off:=rfl
@[simp] theorem A51(q:cq)(n:Int):MU (.int q n)=.int q n:=rfl
@[simp] theorem AYJ(b:Bool):MU (.bool b)=.bool b:=rfl
@[simp] theorem AYK(b:Bool)(es:List (List V)):MU (.list b es)=.list b es:=rfl
@[simp] theorem BBE(es:List (List V)):MU (sl es)=sl es:=by cases es<;>rfl
@[simp] theorem A52:MU .nil=.nil:=rfl
@[simp] theorem BBF(a b c:Nat):MU (.mp a b c)=.any:=rfl
@[simp] theorem A53:MU .any=.any:=rfl
@[simp] theorem uE(f:Nat):AK (f+1) .any=true:=rfl
@[simp] theorem AYL:weakV .any=.any:=rfl
@[simp] theorem AYM:weakC .any=.any:=rfl
@[simp] theorem AYN(f:Nat):BS l k o f .any=.any:=by cases f<;>rfl
@[simp] theorem A54(f a b c:Nat):BS l k o f (.mp a b c)=.mp a b c:=by cases f<;>rfl
@[simp] theorem AYO(f a b c:Nat):BS l k o f (.yld a b c)=.yld a b c:=by cases f<;>rfl
@[simp] theorem A55(f:Nat)(g:ck)(xs ys:List V):BS l k o f (.fn g xs ys)=.fn g xs ys:=by cases f<;>rfl
@[simp] theorem AYP(f:Nat):BS l k o f .nil=.nil:=by cases f<;>rfl
@[simp] theorem AYQ(f:Nat)(cs:List V):BS l k o (f+1) (.agg cs)=.agg (cs.map (BS l k o f)):=rfl
@[simp] theorem AYR(f:Nat)(cs:List V):BS l k o (f+1) (.tup cs)=.tup (cs.map (BS l k o f)):=rfl
@[simp] theorem AYS(γ:Nat)(T:br)(es:List (List V))(f l' k' g m:Nat):BS l k (some (γ,.vec T es)) (f+1) (.vec l' k' g m)=if l'=l/\k'=k/\g=γ/\m=es.length then .list false es else .vec l' k' g m:=rfl
@[simp] theorem A56(γ:Nat)(T:br)(es:List (List V))(f:Nat):BS 0 k ((pl k γ T es).get k) (f+1) (pv k γ es)=sl es:=by
 cases es with
 |nil=>rfl
 |cons e es=>simp[pv,sl]
@[simp] theorem AYT(γ:Nat)(T:br)(es:List (List V))(f:Nat):BS 0 k (some (γ,.vec T es)) (f+1) (pv k γ es)=sl es:=by
 cases es with
 |nil=>rfl
 |cons e es=>simp[pv,sl]
@[simp] theorem AYU{j:Nat}(h:j≠k)(γ:Nat)(es:List (List V))(f:Nat):BS l k o f (pv j γ es)=pv j γ es:=by
 cases es with
 |nil=>cases f<;>rfl
 |cons e es=>
  cases f with
  |zero=>rfl
  |succ f=>
   simp only[pv,BS]
   split
   ·rw[if_neg (fun hh=>h hh.2.1)]
   ·rfl
def oe2(d c:Nat)(fr:Fr)(s:St):Option Mk->Option XS->Option XS
 |some r,_=>some ⟨c+1,(d,true,r.val s.up.length d c)::fr,s.put s.up.length d c r.res⟩
 |none,z=>z
@[simp] theorem BBG(d c:Nat)(fr:Fr)(s:St)(T:br)(es:List (List V))(z:Option XS):oe2 d c fr s (some ⟨.vec T es,none⟩) z=some ⟨c+1,(d,true,.vec s.up.length d c es.length)::fr,s.put s.up.length d c (.vec T es)⟩:=rfl
def oe1(d c:Nat)(fr:Fr)(s:St)(F:List V->Option Mk):Option (List V)->Option XS->Option XS
 |some vs,z=>oe2 d c fr s (F vs) z
 |none,z=>z
@[simp] theorem AG2(d c:Nat)(fr:Fr)(s:St)(F:List V->Option Mk)(vs:List V)(z:Option XS):oe1 d c fr s F (some vs) z=oe2 d c fr s (F vs) z:=rfl
variable {A:Ann}{kn:CF0}{n:Nat}{fr:Fr}{s:St}
@[simp] theorem A57{α:Type}(r:α)(z:Option α):orM (some r) z=some r:=rfl
@[simp] theorem A58{α:Type}(z:Option α):orM none z=z:=rfl
@[simp] theorem BBH{f:ck}(hS:II P f=true)(d c:Nat)(args:List bt):stepK P (BX P A kn n) (some d) (.call true none (.func f) args) ⟨c,fr,s⟩ =
  oe1 d c fr s (fun vs=>orM (EM P (AH P A kn n) f (vs.map weakV)) (sZ P f (vs.map weakV))) (EL (B5 fr) args) (SW (BX P A kn n).cf (BX P A kn n).cy (some d) (.func f) args ⟨c,fr,s⟩):=by
 show QM (BX P A kn n) true (some d) (.func f) args ⟨c,fr,s⟩=_
 unfold QM
 show(match E3 (BX P A kn n).co (some d) (.func f) args ⟨c,fr,s⟩ with|some st'=>some st'|none=>_)=_
 unfold E3
 have hf:B5 fr (.func f)=some (.fn f [] []):=rfl
 simp only[hf]
 cases EL (B5 fr) args with
 |none=>rfl
 |some vs=>
  simp only[AG2,bx,bz]
  have:(BX P A kn n).co f (vs.map weakV) d=orM (EM P (AH P A kn n) f (vs.map weakV)) (sZ P f (vs.map weakV)):=by show JB P kn (fun _ _ _=>none) (AH P A kn n) f _ d=_;unfold JB;simp only[hS]
  rw[this]
  cases orM (EM P (AH P A kn n) f (vs.map weakV)) (sZ P f (vs.map weakV))with
  |none=>rfl
  |some r=>rfl
def of2(d c:Nat)(fr:Fr)(s:St):Option Mk->Option XS
 |some r=>some ⟨c+1,(d,true,r.val s.up.length d c)::fr,s.put s.up.length d c r.res⟩
 |none=>none
@[simp] theorem BBI(d c:Nat)(fr:Fr)(s:St)(T:br)(es:List (List V)):of2 d c fr s (some ⟨.vec T es,none⟩)=some ⟨c+1,(d,true,.vec s.up.length d c es.length)::fr,s.put s.up.length d c (.vec T es)⟩:=rfl
def of1(d c:Nat)(fr:Fr)(s:St)(F:List V->Option Mk):Option (List V)->Option XS
 |some vs=>of2 d c fr s (F vs)
 |none=>none
@[simp] theorem AG3(d c:Nat)(fr:Fr)(s:St)(F:List V->Option Mk)(vs:List V):of1 d c fr s F (some vs)=of2 d c fr s (F vs):=rfl
@[simp] theorem A59{f:ck}(hS:II P f=true)(d c:Nat)(args:List bt):CV P (BX P A kn n) (some d) (.call true none (.func f) args) ⟨c,fr,s⟩ =
  nw (of1 d c fr s (fun vs=>orM (EM P (AH P A kn n) f (vs.map weakV)) (sZ P f (vs.map weakV))) (EL (B5 fr) args)):=by
 show noW (E3 (BX P A kn n).co (some d) (.func f) args ⟨c,fr,s⟩)=_
 rw[FF]
 congr 1
 unfold E3
 have hf:B5 fr (.func f)=some (.fn f [] []):=rfl
 simp only[hf]
 cases EL (B5 fr) args with
 |none=>rfl
 |some vs=>
  simp only[AG3,bx,bz]
  have:(BX P A kn n).co f (vs.map weakV) d=orM (EM P (AH P A kn n) f (vs.map weakV)) (sZ P f (vs.map weakV)):=by show JB P kn (fun _ _ _=>none) (AH P A kn n) f _ d=_;unfold JB;simp only[hS]
  rw[this]
  cases orM (EM P (AH P A kn n) f (vs.map weakV)) (sZ P f (vs.map weakV))with
  |none=>rfl
  |some r=>rfl
def AT3(P:cj)(fn:Func)(r:Option (Exit×XS)):Option Mk:=match r with
 |some (.ret,st)=>nM P fn st
 |some (.normal,st)=>nM P fn st
 |_=>none
@[simp] theorem A6A(fn:Func)(st:XS):AT3 P fn (some (.ret,st))=nM P fn st:=rfl
@[simp] theorem AO0(fn:Func)(st:XS):AT3 P fn (some (.normal,st))=nM P fn st:=rfl
theorem UR{f:ck}{fn:Func}{c:Code}{args:List V}{rec:F6}(hf:P.funcs[f]? = some fn)(hb:fn.body=some c)(hs:Nat.ble args.length fn.ntmps=true)(hcl:args.all (AK 9)=true) :
  EM P rec f args=AT3 P fn (rec fn.ntmps c ⟨0,AJ 0 args,⟨[],[]⟩⟩):=by
 unfold EM VR nL
 rw[hcl,hf]
 simp only[hb,hs]
 generalize rec fn.ntmps c ⟨0,AJ 0 args,⟨[],[]⟩⟩=q
 cases q with
 |none=>rfl
 |some q=>
  obtain⟨e,st⟩:=q
  cases e<;>rfl
def rO(P:cj)(fn:Func)(st:XS)(v:Option V):Option Mk:=match v with
 | some (.vec l k γ n)=>Bool.rec none (match st.s.loc.get k with
  |some (γ',.vec T es)=>Bool.rec none (some ⟨.vec T es,none⟩) (bf γ' γ&&bf n es.length&&es.all fun e=>e.all (AK 9))
  | _=>none) (bf l st.s.up.length)
 | some v=>Bool.rec none (match fn.resultTypes.toList with
  |[R]=>match BR P R with
   |some (none,T)=>some ⟨.vec T [],none⟩
   |_=>none
  | _=>none) (V6 v)
 |none=>none
theorem jA(fn:Func)(st:XS):nM P fn st=rO P fn st (F5 P fn.results.toList st.fr st.s):=rfl
theorem AG4{fn:Func}{R T:br}(h1:fn.resultTypes.toList=[R])(h2:BR P R=some (none,T))(c:Nat)(fr:Fr)(loc:AA)(k γ:Nat)(es:List (List V))(hl:loc.get k=(pl k γ T es).get k)(hc:(es.all fun e=>e.all (AK 9))=true):rO P fn ⟨c,fr,⟨[],loc⟩⟩ (some (pv k γ es))=some ⟨.vec T es,none⟩:=by
 cases es with
 |nil=>
  show(Bool.rec none (match fn.resultTypes.toList with
   |[R]=>match BR P R with
    |some (none,T)=>some ⟨.vec T [],none⟩
    |_=>none
   | _=>none) true:Option Mk)=_
  rw[h1]
  simp only[h2]
 |cons e es=>
  have hl:loc.get k=some (γ,.vec T (e::es)):=by rw[hl];simp
  simp only[pv,rO,hl,hc,List.length_nil,Bool.and_true]
  simp
end Go.Pg
namespace Go.Pg
section
@[simp] theorem unsnoc_snoc{α:Type}(x:α):∀(l:List α),CW (l++[x])=some (l,x)
 |[]=>rfl
 |[y]=>rfl
 |y::z::l=>by have:=unsnoc_snoc x (z::l);simp only[List.cons_append]at this|-;rw[VX,this];rfl
end
section
variable {P:cj}{E:XE}{d:Option Tmp}{c:Nat}{fr:Fr}{s:St}{r:bt->Option V}
@[simp] theorem AT4(T:br)(x i:bt)(ok:Bool):JG P (oO (.lookup T x i ok)) s r=o2 (fun a b=>CO P s T a b ok) (r x) (r i):=by show((r x).bind fun a=>(r i).bind fun b=>CO P s T a b ok)=_;cases r x<;>cases r i<;>rfl
def up1(c:Nat)(fr:Fr)(s:St):Option (Nat×Nat×Nat×List (V×V))->Option XS
 |some (l,q,γ,es)=>Bool.rec none (some ⟨c,fr,s.put l q γ (.map es)⟩) (bj γ c)
 |none=>none
def up3(P:cj)(T:br)(c:Nat)(fr:Fr)(s:St):Option V->Option V->Option V->Option XS
 |some m,some i,some v=>up1 c fr s (I5 P s T m i v)
 |_,_,_=>none
@[simp] theorem A6B(T:br)(m i v:V):up3 P T c fr s (some m) (some i) (some v)=up1 c fr s (I5 P s T m i v):=rfl
theorem aG(l q γ:Nat)(es:List (V×V))(h:γ<c):up1 c fr s (some (l,q,γ,es))=some ⟨c,fr,s.put l q γ (.map es)⟩:=by
 have:bj γ c=true:=by simpa [bq]using h
 show(Bool.rec none (some ⟨c,fr,s.put l q γ (.map es)⟩) (bj γ c):Option XS)=_;rw[this]
@[simp] theorem AYV(T:br)(x i y:bt):stepK P E none (.upd T x i y) ⟨c,fr,s⟩=up3 P T c fr s (B5 fr x) (B5 fr i) (B5 fr y):=by show AAO P none T x i y ⟨c,fr,s⟩=_;unfold AAO up3 up1;simp only;cases B5 fr x<;>cases B5 fr i<;>cases B5 fr y<;>simp only;split<;>simp_all
@[simp] theorem A6C(x:bt):JG P (oO (.nilCheck x)) s r=o1 NO (r x):=by show(r x).bind NO=_;cases r x<;>rfl
@[simp] theorem AYW(l k g o:Nat):NO (.ptr l k g o)=some (.ptr l k g o):=rfl
@[simp] theorem AYX(cs:List V):NO (.ref cs)=some (.ref cs):=rfl
@[simp] theorem A6D(x:bt)(f:bt->Option V):GI P (.oth (.nilCheck x)) f=[]:=rfl
@[simp] theorem A6E(T:br)(x i:bt)(ok:Bool)(f:bt->Option V):GI P (.oth (.lookup T x i ok)) f=DE (f x):=rfl
@[simp] theorem AT5(l k g:Nat):B4 s (.mp l k g)=some (.mp l k g):=rfl
theorem IP{α:Type}{f:α->Option α}:∀{l:List α},(∀x∈l,f x=some x)->G6 f l=some l
 |[],_=>rfl
 |x::l,h=>by have ih:=IP (f:=f) (l:=l) fun y hy=>h y (by simp[hy]);simp only[G6,h x (by simp),ih]
theorem TC:∀(l:List AA) (b:AA),CW (l++[b])=some (l,b)
 |[],b=>by simp
 |[a],b=>by simp
 |a::a2::l,b=>by have:=TC (a2::l) b;simp only[List.cons_append]at this|-;simp[this]
@[simp] theorem AYY(a:AA)(l:List AA)(b:AA):CW (a::(l++[b]))=some (a::l,b):=TC (a::l) b
@[simp] theorem AT6(l k g:Nat):DE (some (.mp l k g))=[(l,k)]:=rfl
@[simp] theorem AYZ(d:Nat):stepK P E (some d) (.mkM none) ⟨c,fr,s⟩=some ⟨c+1,(d,true,.mp s.up.length d c)::fr,s.put s.up.length d c (.map [])⟩:=rfl
end
section
variable {P:cj}{s:St}{r:bt->Option V}
@[simp] theorem AT7(T:br)(x h:bt):JG P (oO (.slice T x none (some h) none)) s r=o2 (fun a b=>CG P s T a none (some b) none) (r x) (r h):=by show((r x).bind fun a=>((some none:Option (Option V))).bind fun l=>((r h).map some).bind fun h=>((some none:Option (Option V))).bind fun m=>CG P s T a l h m)=_;cases r x<;>cases r h<;>rfl
theorem uF{T e:br}{es:List (List V)}{h:Int}{b:Bool}(hT:BR P T=some (none,e))(hc:0<P.cellsOf e)(h1:0<=h)(h2:h<=es.length):CG P s T (.list b es) none (some (.int .i64 h)) none=some (.list false (es.take h.toNat)):=by simp only[CG,hT];rw[if_pos ⟨h1,h2,hc⟩]
end
section
variable {P:cj}{E:XE}{c:Nat}{fr:Fr}{s:St}{r:bt->Option V}
@[simp] theorem AT8(T:br)(x l:bt):JG P (oO (.slice T x (some l) none none)) s r=o2 (fun a b=>CG P s T a (some b) none none) (r x) (r l):=by show((r x).bind fun a=>((r l).map some).bind fun l=>(some none).bind fun h=>(some none).bind fun m=>CG P s T a l h m)=_;cases r x<;>cases r l<;>rfl
theorem eV{T e U:br}{es:List (List V)}{l k g n i:Nat}(hT:BR P T=some (none,e))(hg:s.get l k=some (g,.vec U es))(ha:es.all (fun x=>x.length==P.cellsOf e)=true)(hn:es≠[])(hi:i<=n)(hc:0<P.cellsOf e) :
  CG P s T (.vec l k g n) (some (.int .i64 (i:Int))) none none=some (.vtl l k g i (n-i)):=by
 unfold CG
 simp only[hT,hg]
 rw[if_pos ⟨trivial,ha,hn,by omega,by omega,hc⟩]
 simp
theorem eW{T e:br}{l k g n h:Nat}(hT:BR P T=some (none,e))(hh:h<=n)(hc:0<P.cellsOf e):CG P s T (.vec l k g n) none (some (.int .i64 (h:Int))) none=some (.vec l k g h):=by unfold CG;simp only[hT];rw[if_pos ⟨by omega,by omega,hc⟩];simp
theorem eX{T e:br}{x:bt}{es:List (List V)}{z:List V}{l q γ i n:Nat}(hT:BR P T=some (none,e))(hx:B5 fr x=some (.vtl l q γ i n))(hg:s.get l q=some (γ,.vec e es))(hz:B8 P e=some z)(hn:i+n<=es.length)(ha:es.all (fun y=>y.length==z.length)=true)(hc:γ<c) :
  stepK P E none (.clr [x] [T]) ⟨c,fr,s⟩=some ⟨c,fr,s.put l q γ (.vec e (es.take i++bh n z++es.drop (i+n)))⟩:=by
 show UM P none [x] [T] ⟨c,fr,s⟩=_
 have hb:(bf γ γ&&bf e e&&Nat.ble (i+n) es.length&&es.all (fun y=>y.length==z.length)&&bj γ c)=true:=by rw[ha];simp[bq,hn,hc,Nat.beq_eq]
 unfold UM
 simp only[hT,hx,hg,hz,hb]
end
section
variable {P:cj}{fr:Fr}{s:St}
@[simp] theorem BBK(e d c l q γ n:Nat)(ys:List (List V)):adV P e d c fr s (.vec l q γ n) ys=wp [(l,q),(l,q+P8)] (apW P e d c fr s l q γ n ys (Q5 n ys (s.get l q))):=rfl
@[simp] theorem AT9(l k g i o:Nat):NO (.eptr l k g i o)=some (.eptr l k g i o):=rfl
end
section
@[simp] theorem BBL{P:cj}{A:Ann}{kn:CF0}{n:Nat}:(BX P A kn n).cy=iH (AH P A kn n):=rfl
end
section
variable {P:cj}{A:Ann}{kn:CF0}{n:Nat}{fr:Fr}{s:St}
def oc2(d c:Nat)(fr:Fr)(s:St):Option V->Option XS->Option XS
 |some r,_=>some ⟨c+1,(d,true,r.ren (fun _=>c) s.up.length)::fr,s.put s.up.length d c .dead⟩
 |none,z=>z
@[simp] theorem A6F(d c:Nat)(r:V)(z:Option XS):oc2 d c fr s (some r) z=some ⟨c+1,(d,true,r.ren (fun _=>c) s.up.length)::fr,s.put s.up.length d c .dead⟩:=rfl
def oc1(d c:Nat)(fr:Fr)(s:St)(F:List V->Option V):Option (List V)->Option XS->Option XS
 |some vs,z=>oc2 d c fr s (F vs) z
 |none,z=>z
@[simp] theorem AG5(d c:Nat)(F:List V->Option V)(vs:List V)(z:Option XS):oc1 d c fr s F (some vs) z=oc2 d c fr s (F vs) z:=rfl
@[simp] theorem A6G{f:ck}(hS:II P f=false)(d c:Nat)(args:List bt):stepK P (BX P A kn n) (some d) (.call true none (.func f) args) ⟨c,fr,s⟩ =
  oc1 d c fr s (fun vs=>E5 P kn (AH P A kn n) f (vs.map weakV)) (EL (B5 fr) args) (SW (BX P A kn n).cf (BX P A kn n).cy (some d) (.func f) args ⟨c,fr,s⟩):=by
 show QM (BX P A kn n) true (some d) (.func f) args ⟨c,fr,s⟩=_
 unfold QM
 show(match E3 (BX P A kn n).co (some d) (.func f) args ⟨c,fr,s⟩ with|some st'=>some st'|none=>_)=_
 unfold E3
 have hf:B5 fr (.func f)=some (.fn f [] []):=rfl
 simp only[hf]
 cases EL (B5 fr) args with
 |none=>rfl
 |some vs=>
  simp only[AG5,bx,bz]
  have:(BX P A kn n).co f (vs.map weakV) d=(match E5 P kn (AH P A kn n) f (vs.map weakV)with|some r=>some ⟨.dead,some r⟩|none=>none):=by show JB P kn (fun _ _ _=>none) (AH P A kn n) f _ d=_;unfold JB;simp only[hS];cases E5 P kn (AH P A kn n) f (vs.map weakV)<;>rfl
  rw[this]
  cases E5 P kn (AH P A kn n) f (vs.map weakV)with
  |none=>rfl
  |some r=>rfl
def od2(d c:Nat)(fr:Fr)(s:St):Option V->Option XS
 |some r=>some ⟨c+1,(d,true,r.ren (fun _=>c) s.up.length)::fr,s.put s.up.length d c .dead⟩
 |none=>none
@[simp] theorem A6H(d c:Nat)(r:V):od2 d c fr s (some r)=some ⟨c+1,(d,true,r.ren (fun _=>c) s.up.length)::fr,s.put s.up.length d c .dead⟩:=rfl
def od1(d c:Nat)(fr:Fr)(s:St)(F:List V->Option V):Option (List V)->Option XS
 |some vs=>od2 d c fr s (F vs)
 |none=>none
@[simp] theorem AG6(d c:Nat)(F:List V->Option V)(vs:List V):od1 d c fr s F (some vs)=od2 d c fr s (F vs):=rfl
@[simp] theorem AY0{f:ck}(hS:II P f=false)(d c:Nat)(args:List bt):CV P (BX P A kn n) (some d) (.call true none (.func f) args) ⟨c,fr,s⟩ =
  nw (od1 d c fr s (fun vs=>E5 P kn (AH P A kn n) f (vs.map weakV)) (EL (B5 fr) args)):=by
 show noW (E3 (BX P A kn n).co (some d) (.func f) args ⟨c,fr,s⟩)=_
 rw[FF]
 congr 1
 unfold E3
 have hf:B5 fr (.func f)=some (.fn f [] []):=rfl
 simp only[hf]
 cases EL (B5 fr) args with
 |none=>rfl
 |some vs=>
  simp only[AG6,bx,bz]
  have:(BX P A kn n).co f (vs.map weakV) d=(match E5 P kn (AH P A kn n) f (vs.map weakV)with|some r=>some ⟨.dead,some r⟩|none=>none):=by show JB P kn (fun _ _ _=>none) (AH P A kn n) f _ d=_;unfold JB;simp only[hS];cases E5 P kn (AH P A kn n) f (vs.map weakV)<;>rfl
  rw[this]
  cases E5 P kn (AH P A kn n) f (vs.map weakV)with
  |none=>rfl
  |some r=>rfl
end
section
variable {fr:Fr}{s:St}
@[simp] theorem AO1(l k g:Nat):B4 s (.yld l k g)=some (.yld l k g):=rfl
@[simp] theorem AO2(f:Nat)(cs:List V):A4 s (f+1) (.ref cs)=some (.ref cs):=rfl
@[simp] theorem A6I{P:cj}:F5 P [] fr s=some (.tup []):=rfl
@[simp] theorem AO3(f:Nat):A4 s (f+1) (.tup [])=some (.tup []):=rfl
@[simp] theorem AG7:CK .nilFunc=some (.raw .nilFunc):=rfl
@[simp] theorem AUA(f l k g:Nat):AK (f+1) (.yld l k g)=false:=rfl
@[simp] theorem A6J(l k g:Nat):weakV (.yld l k g)=.yld l k g:=rfl
@[simp] theorem BBM(d c l k g:Nat):bx1 d c fr s (some (.yld l k g))=some ⟨c+1,(d,true,.ptr s.up.length d c 0)::fr,s.put s.up.length d c (.box [.yld l k g])⟩:=rfl
@[simp] theorem BBN(F:List V->Option (List V))(g off:Nat)(g':Nat)(cs:List V):cp1 F g off (some (g',.box cs))=if g'=g then(F cs).map (fun ds=>V.ref (ds.drop off)) else none:=rfl
def mk4(P:cj)(d c:Nat)(fr:Fr)(s:St)(e:br)(n m:Int):Option (List V)->Option XS
 |some z=>if 0<=n/\m=n/\z.length=P.cellsOf e/\n.toNat*P.bytesOf e<=140737488355328/\n.toNat<=maxLen then some ⟨c+1,(d,true,.vec s.up.length d c n.toNat)::fr,s.put s.up.length d c (.vec e (bh n.toNat z))⟩ else none
 |none=>none
@[simp] theorem A6K{P:cj}(d c:Nat)(e:br)(n m:Int)(z:List V):mk4 P d c fr s e n m (some z)=if 0<=n/\m=n/\z.length=P.cellsOf e/\n.toNat*P.bytesOf e<=140737488355328/\n.toNat<=maxLen then some ⟨c+1,(d,true,.vec s.up.length d c n.toNat)::fr,s.put s.up.length d c (.vec e (bh n.toNat z))⟩ else none:=rfl
def mk3(P:cj)(d c:Nat)(fr:Fr)(s:St):Option (Option Nat×br)->Option V->Option V->Option XS
 |some (none,e),some (.int _ n),some (.int _ m)=>mk4 P d c fr s e n m (B8 P e)
 |_,_,_=>none
@[simp] theorem AG8{P:cj}(d c:Nat)(e:br)(k1 k2:cq)(n m:Int):mk3 P d c fr s (some (none,e)) (some (.int k1 n)) (some (.int k2 m))=mk4 P d c fr s e n m (B8 P e):=rfl
@[simp] theorem AY1{P:cj}{E:XE}(T:br)(d c:Nat)(x y:bt):stepK P E (some d) (.mkS T x y) ⟨c,fr,s⟩=mk3 P d c fr s (BR P T) (B5 fr x) (B5 fr y):=by
 show VT P (some d) T x y ⟨c,fr,s⟩=_;unfold VT;simp only;cases BR P T with
 |none=>cases B5 fr x<;>cases B5 fr y<;>rfl
 |some p=>
  obtain⟨k,e⟩:=p
  cases k with
  |some k=>cases B5 fr x<;>cases B5 fr y<;>rfl
  |none=>
   cases B5 fr x with
   |none=>rfl
   |some a=>
    cases B5 fr y with
    |none=>cases a<;>rfl
    |some z=>
     cases a with
     |int k1 n=>
      cases z with
      |int k2 m=>simp only[AG8];cases B8 P e<;>rfl
      |_=>rfl
     |_=>rfl
theorem AA2{P:cj}{A:Ann}{kn:CF0}{n:Nat}{f:ck}{d c:Nat}{x:bt}{args:List bt}{first cap vs:List V}{r:V}(hf:B5 fr x=some (.fn f first cap))(hv:EL (B5 fr) args=some vs)(hS:II P f=false)(hr:AK 9 r=true)(h:E5 P kn (AH P A kn n) f ((first++vs++cap).map weakV)=some r) :
  CV P (BX P A kn n) (some d) (.call true none x args) ⟨c,fr,s⟩=nw (ow3 d c fr s (some r)):=by
 show noW (E3 (BX P A kn n).co (some d) x args ⟨c,fr,s⟩)=_
 unfold E3
 simp only[hf,hv]
 have:(BX P A kn n).co f ((first++vs++cap).map weakV) d=some ⟨.dead,some r⟩:=by show JB P kn (fun _ _ _=>none) (AH P A kn n) f _ d=_;unfold JB;simp only[hS,h]
 rw[this]
 simp only[Mk.val,B7 9 r hr,pG,FF]
@[simp] theorem BBO{P:cj}(T:br)(x y:bt)(r:bt->Option V):GI P (.mkS T x y) r=[]:=rfl
def rE(fr:Fr)(n γ:Nat)(r:Option XS):Option (Exit×XS):=match r with
 |some st=>match st.s.get n A9 with
  | some (γ',.loop _ _ _ _ _ ls)=>Bool.rec none (match ls with
   |.ready=>some (.normal,⟨st.c,fr,st.s.put n A9 γ .dead⟩)
   |.left .ret=>some (.ret,⟨st.c,fr,st.s.put n A9 γ .dead⟩)
   |.left (.exit id)=>some (.exit id,⟨st.c,fr,st.s.put n A9 γ .dead⟩)
   | _=>none) (bf γ' γ&&bj γ st.c)
  |_=>none
 |none=>none
theorem PP{P:cj}{A:Ann}{kn:CF0}{n N:Nat}{g:bt}{ps:List Tmp}{asg body:Code}{c:Nat}{up:List AA}{loc:AA}{f:ck}{first cap:List V}(h:B5 fr g=some (.fn f first cap)) :
  UI (BX P A kn n).cf N g ps asg body ⟨c,fr,⟨up,loc⟩⟩=rE fr up.length c (K3 (BX P A kn n) none ⟨c+1,fr,⟨up,(A9,c,.loop fr ps asg body N .ready)::loc⟩⟩ f ((first++[V.yld up.length A9 c]++cap).map weakV)):=by
 unfold UI
 simp only[h]
 unfold K3 iE rE
 simp only[St.put,if_true,AA.put]
 cases (BX P A kn n).cf f ((first++[V.yld up.length A9 c]++cap).map weakV) ⟨c+1,fr,⟨up,(A9,c,.loop fr ps asg body N .ready)::loc⟩⟩ with
 |none=>rfl
 |some r=>rfl
theorem TD{n γ c:Nat}{fr' fr0:Fr}{s:St}{ps:List Tmp}{asg body:Code}{N:Nat}(h:s.get n A9=some (γ,.loop fr0 ps asg body N .ready))(hc:γ<c):rE fr n γ (some ⟨c,fr',s⟩)=some (.normal,⟨c,fr,s.put n A9 γ .dead⟩):=by
 unfold rE;simp only[h];have:(bf γ γ&&bj γ c)=true:=by simpa using hc
 rw[this]
@[simp] theorem AY2(t:St)(fr0:Fr)(ps:List Tmp)(asg body:Code)(N:Nat)(l:LS):BU t (.loop fr0 ps asg body N l)=.loop fr0 ps asg body N l:=rfl
theorem NF{rec:F6}{l q γ c N:Nat}{fr0:Fr}{ps:List Tmp}{asg body:Code}{vs:List V}(h:s.get l q=some (γ,.loop fr0 ps asg body N .ready))(hv:vs.length=ps.length)(hc:γ<c) :
  iH rec l q γ vs ⟨c,fr,s⟩=ZW fr l q γ (ZX (rec N) l q γ body (rec N asg ⟨c,HM fr0 ps vs,⟨s.up++[s.loc],[]⟩⟩)):=by
 unfold iH
 simp only[h]
 have:(bf γ γ&&bf vs.length ps.length&&bj γ c)=true:=by simp[hv,hc]
 rw[this]
theorem EO{rec:VQ}{l q γ c N:Nat}{fr0:Fr}{ps:List Tmp}{asg body body':Code}(h:s.get l q=some (γ,.loop fr0 ps asg body' N .ready))(hc:γ<c) :
  ZX rec l q γ body (some (.normal,⟨c,fr,s⟩))=rec body ⟨c,fr,s.put l q γ (.loop fr0 ps asg body' N .busy)⟩:=by
 unfold ZX
 simp only[h]
 have:(bf γ γ&&bj γ c)=true:=by simp[hc]
 rw[this]
theorem EP{fr':Fr}{l q γ c N:Nat}{fr0:Fr}{ps:List Tmp}{asg body:Code}{up u:List AA}{loc lc:AA}(h:St.get ⟨up,loc⟩ l q=some (γ,.loop fr0 ps asg body N .busy))(hu:CW up=some (u,lc))(hl:l<up.length)(hc:γ<c) :
  ZW fr l q γ (some (.normal,⟨c,fr',⟨up,loc⟩⟩))=some (.bool true,⟨c,fr,St.put ⟨u.map (AQ ⟨up,loc⟩),AQ ⟨up,loc⟩ lc⟩ l q γ (.loop fr0 ps asg body N .ready)⟩):=by
 unfold ZW
 simp only[h,hu]
 have:(bf γ γ&&bj l up.length&&bj γ c)=true:=by simp[hc,hl]
 rw[this]
 rfl
end
section
def tkU(z:Option XS)(d:Option Tmp)(st:XS):Option V->Option XS
 |some r=>Bool.rec z (DM d st (some r)) (Z8 r)
 |none=>z
@[simp] theorem BBP(z:Option XS)(d:Option Tmp)(st:XS)(k:cq)(n:Int):tkU z d st (some (.int k n))=DM d st (some (.int k n)):=rfl
@[simp] theorem A6L(z:Option XS)(d:Option Tmp)(st:XS)(b:Bool):tkU z d st (some (.bool b))=DM d st (some (.bool b)):=rfl
@[simp] theorem AY3(l k g n:Nat):weakC (.vec l k g n)=.vec l k g n:=rfl
@[simp] theorem AY4(st:XS)(v:V):QP st [] v=v:=rfl
@[simp] theorem AY5(k:Nat)(ks:List Nat)(st:XS)(v:V)(h:¬k<10000):QP st (k::ks) v=QP st ks (BS (k / 10000-1) (k % 10000) (st.s.get (k / 10000-1) (k % 10000)) 3 v):=by
 have:bj k 10000=false:=by
  cases hb:bj k 10000 with
  |false=>rfl
  |true=>exact absurd (by simpa [bq]using hb) h
 simp only[QP,this,cond_false]
@[simp] theorem BBQ{P:cj}{A:Ann}{kn:CF0}{n k:Nat}{us:List Nat}(d:Option Tmp)(st:XS)(f:ck)(args:List V):K3 (cfU (k::us) (BX P A kn n)) d st f args=tkU (K3 (BX P A kn n) d st f args) d st (E5 P kn (AH P A kn n) f (args.map (QP st (k::us)))):=by
 show(match nZ (BX P A kn n).cf (BX P A kn n).c0 (k :: us) f args st with
  |some (r,st')=>some (⟨st'.c,putD st'.fr d true r,st'.s⟩:XS)
  | none=>none)=_
 unfold nZ;have e:(BX P A kn n).c0=E5 P kn (AH P A kn n):=rfl;rw[e];cases E5 P kn (AH P A kn n) f (args.map (QP st (k::us)))with
 |none=>rfl
 |some r=>
  show(match(Bool.rec ((BX P A kn n).cf f args st) (some (r,st)) (Z8 r):Option (V×XS))with
   |some (r,st')=>some (⟨st'.c,putD st'.fr d true r,st'.s⟩:XS)
   | none=>none)=(Bool.rec (K3 (BX P A kn n) d st f args) (DM d st (some r)) (Z8 r):Option XS)
  cases Z8 r<;>rfl
@[simp] theorem AUB(k:cq)(n:Int):iP (.int k n)=true:=rfl
@[simp] theorem AO4(b:Bool):iP (.bool b)=true:=rfl
end
theorem LZ{t:St}{T:br}{es:List (List V)}(h:∀e∈es,∀v∈e,B4 t v=some v):BU t (.vec T es)=.vec T es:=by
 have:BW t (.vec T es)=some (.vec T es):=by unfold BW;simp only;rw[IP fun e he=>IP fun v hv=>h e he v hv]
 unfold BU;rw[this]
@[simp] theorem AUC{P:cj}{A:Ann}{kn:CF0}{n N l:Nat}{st:XS}:AH P A kn (n+1) N (.label l) st=some (.normal,st):=rfl
theorem K1{α:Type}(p:α->Bool):∀(l:List α),(!l.any fun x=>!p x)=l.all p
 |[]=>rfl
 |x::l=>by have:=K1 p l;simp only[List.any_cons,List.all_cons,Bool.not_or,Bool.not_not,<-this]
theorem JZ{p q:Prop}[Decidable p][Decidable q](h:p↔¬q):decide p=!decide q:=by
 by_cases hq:q
 ·simp[hq,mt h.1]
 ·simp[hq,h.2 hq]
section
variable {P:cj}{fr:Fr}{s:St}
def pt(k γ:Nat):List (List V)->V
 |[]=>.list true []
 |e::es=>.vec 0 k γ (e::es).length
@[simp] theorem BGY(k γ:Nat):pt k γ []=.list true []:=rfl
@[simp] theorem BBR(k γ:Nat)(e:List V)(es:List (List V)):pt k γ (e::es)=.vec 0 k γ (es.length+1):=rfl
theorem AA3{T:br}(f:Nat)(loc:AA)(k γ:Nat)(es:List (List V))(hl:AA.get loc k=(pl k γ T es).get k):A4 ⟨[],loc⟩ (f+1) (pt k γ es)=some (.list false es):=by
 cases es with
 |nil=>rfl
 |cons e es=>exact UY (T:=T) f loc k γ (e::es) hl
@[simp] theorem AUD(f k γ:Nat)(T:br)(es:List (List V)):A4 ⟨[],pl k γ T es⟩ (f+1) (pt k γ es)=some (.list false es):=AA3 (T:=T) f _ k γ es rfl
@[simp] theorem AY6(k γ:Nat)(es:List (List V)):BA (pt k γ es)=[pt k γ es]:=by cases es<;>rfl
@[simp] theorem AY7(k γ:Nat)(es:List (List V)):BD (pt k γ es)=true:=by cases es<;>rfl
end
@[simp] theorem BBS(st:XS):XG [] st=st:=rfl
@[simp] theorem A6M(k:Nat)(ks:List Nat)(c:Nat)(fr:Fr)(up:List AA)(loc:AA)(h:k<1000):XG (k::ks) ⟨c,fr,⟨up,loc⟩⟩=XG ks ⟨c,KZ up.length k (loc.get k) fr,⟨up,FS up.length k (loc.get k) loc⟩⟩:=by
 have h1:bj k 1000=true:=by simpa [bq]using h
 show XG ks (xE k ⟨c,fr,⟨up,loc⟩⟩)=_;unfold xE;rw[h1];rfl
@[simp] theorem A6N(k:Nat)(ks:List Nat)(c:Nat)(fr:Fr)(up:List AA)(loc:AA)(h:2000000000000000<=k)(h':k<3000000000000000):XG (k::ks) ⟨c,fr,⟨up,loc⟩⟩=XG ks ⟨c,fr,⟨up,cL (k % 1000) loc⟩⟩:=by
 have h1:bj k 1000=false:=by rw[<-bg,bq];omega
 have h2:bj k 1000000000000000=false:=by rw[<-bg,bq];omega
 have h3:bj k 2000000000000000=false:=by rw[<-bg,bq];omega
 show XG ks (xE k ⟨c,fr,⟨up,loc⟩⟩)=_;unfold xE;rw[h1,h2,h3,show bj k 3000000000000000=true by simpa [bq]using h'];rfl
@[simp] theorem BBT(k:Nat):cL k []=[]:=rfl
@[simp] theorem A6O(k j g:Nat)(r:A6)(L:AA):cL k ((j,g,r)::L)=(j,g,if j=k then wkR r else r)::cL k L:=rfl
@[simp] theorem BBU(T:br)(es:List (List V)):wkR (.vec T es)=.vec T (es.map (bp kD)):=rfl
@[simp] theorem BBV(cs:List V):wkR (.box cs)=.box (cs.map kD):=rfl
@[simp] theorem BGZ(k γ:Nat)(T:br)(es:List (List V)):cL k (pl k γ T es)=pl k γ T (es.map (bp kD)):=by
 cases es with
 |nil=>rfl
 |cons e es=>simp[pl,cL]
@[simp] theorem ALQ{k j:Nat}(h:j≠k)(γ:Nat)(T:br)(es:List (List V)):cL k (pl j γ T es)=pl j γ T es:=by
 cases es with
 |nil=>rfl
 |cons e es=>simp[pl,cL,h]
@[simp] theorem AUE(es:List (List V)):kD (sl es)=.list false es:=by cases es<;>rfl
@[simp] theorem BBW:kD .nil=.list false []:=rfl
@[simp] theorem A6P(b:Bool)(es:List (List V)):kD (.list b es)=.list b es:=rfl
section
variable {l k:Nat}{o:Option (Nat×A6)}
def gtf(l k:Nat)(o:Option (Nat×A6)):Option (Bool×V)->Option (Bool×V)
 |some (c,v)=>some (c,BS l k o 3 v)
 |none=>none
@[simp] theorem A6Q(c:Bool)(v:V):gtf l k o (some (c,v))=some (c,BS l k o 3 v):=rfl
@[simp] theorem A6R:gtf l k o none=none:=rfl
@[simp] theorem AY8(fr:Fr)(j:Nat):FD (KZ l k o fr) j=gtf l k o (FD fr j):=by
 rw[GM,GM,UN];cases fr.get j with
 |none=>rfl
 |some x=>rfl
end
@[simp] theorem BBX{k j:Nat}(h:j≠k)(r:Fr)(o:Option (Bool×V)):FD (kx k r o) j=FD r j:=by
 cases o with
 |none=>rfl
 |some x=>
  obtain⟨c,v⟩:=x
  simp[h]
end Go.Pg
