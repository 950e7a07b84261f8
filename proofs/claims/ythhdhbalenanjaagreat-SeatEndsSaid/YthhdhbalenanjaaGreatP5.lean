/- Names and levels turned into others: what the operations give turns with them. No program in sight. -/
import Derived.Test.YthhdhbalenanjaaGreatP4
namespace Go.Pg
variable {P:Program}
variable {σ σ':Nat→Nat}{δ:Nat}
theorem PR:∀(l:List V),bX σ δ l=l.map (V.ren σ δ)
 |[]=>by simp[bX]
 |v::r=>by simp[bX,PR r]
theorem lI:∀(l:List (List V)),kV σ δ l=l.map (List.map (V.ren σ δ))
 |[]=>by simp[kV]
 |v::r=>by simp[kV,PR,lI r]
@[simp] theorem EH(k:IntKind)(n:Int):(V.int k n).ren σ δ=.int k n:=by simp[V.ren]
@[simp] theorem LR(b:Bool):(V.bool b).ren σ δ=.bool b:=by simp[V.ren]
@[simp] theorem A9P(v:Value):(V.raw v).ren σ δ=.raw v:=by simp[V.ren]
@[simp] theorem G9(cs:List V):(V.agg cs).ren σ δ=.agg (cs.map (V.ren σ δ)):=by simp[V.ren,PR]
@[simp] theorem KU(cs:List V):(V.tup cs).ren σ δ=.tup (cs.map (V.ren σ δ)):=by simp[V.ren,PR]
@[simp] theorem ET(f:Bool)(es:List (List V)):(V.list f es).ren σ δ=.list f (es.map (List.map (V.ren σ δ))):=by simp[V.ren,lI]
@[simp] theorem MQ(cs:List V):(V.ref cs).ren σ δ=.ref (cs.map (V.ren σ δ)):=by simp[V.ren,PR]
@[simp] theorem HA(l k g off:Nat):(V.ptr l k g off).ren σ δ=.ptr (l+δ) k (σ g) off:=by simp[V.ren]
@[simp] theorem ON(l k g i off:Nat):(V.eptr l k g i off).ren σ δ=.eptr (l+δ) k (σ g) i off:=by simp[V.ren]
@[simp] theorem HB(l k g n:Nat):(V.vec l k g n).ren σ δ=.vec (l+δ) k (σ g) n:=by simp[V.ren]
@[simp] theorem Q3(l k g:Nat):(V.mp l k g).ren σ δ=.mp (l+δ) k (σ g):=by simp[V.ren]
@[simp] theorem OO(f:FuncId)(xs ys:List V):(V.fn f xs ys).ren σ δ=.fn f (xs.map (V.ren σ δ)) (ys.map (V.ren σ δ)):=by simp[V.ren,PR]
@[simp] theorem fX(l k g:Nat):(V.yld l k g).ren σ δ=.yld (l+δ) k (σ g):=by simp[V.ren]
@[simp] theorem AIZ:V.nil.ren σ δ=.nil:=by simp[V.ren]
@[simp] theorem A9Q:V.any.ren σ δ=.any:=by simp[V.ren]
@[simp] theorem W1(l k g i n:Nat):(V.vtl l k g i n).ren σ δ=.vtl (l+δ) k (σ g) i n:=by simp[V.ren]
theorem MR{σ':Nat→Nat}{δ':Nat}:∀(v:V),(v.ren σ δ).ren σ' δ'=v.ren (fun γ=>σ' (σ γ)) (δ+δ')
 |.agg cs=>by simp only[G9,List.map_map];congr 1;exact List.map_congr_left fun v _=>MR v
 |.tup cs=>by simp only[KU,List.map_map];congr 1;exact List.map_congr_left fun v _=>MR v
 |.ref cs=>by simp only[MQ,List.map_map];congr 1;exact List.map_congr_left fun v _=>MR v
 |.list b es=>by
  simp only[ET,List.map_map];congr 1;refine List.map_congr_left fun e he=>?_;have hlt:=List.sizeOf_lt_of_mem he;simp only[Function.comp,List.map_map];exact List.map_congr_left fun v hv=>by have hlt2:=List.sizeOf_lt_of_mem hv;exact MR v
 |.fn f xs ys=>by
  simp only[OO,List.map_map];congr 1
  ·exact List.map_congr_left fun v _=>MR v
  ·exact List.map_congr_left fun v _=>MR v
 |.int k n=>by simp
 |.bool b=>by simp
 |.raw v=>by simp
 |.ptr l k g off=>by simp[Nat.add_assoc]
 |.eptr l k g i off=>by simp[Nat.add_assoc]
 |.vec l k g n=>by simp[Nat.add_assoc]
 |.mp l k g=>by simp[Nat.add_assoc]
 |.yld l k g=>by simp[Nat.add_assoc]
 |.nil=>by simp
 |.vtl l k g i n=>by simp[Nat.add_assoc]
 |.any=>by simp
decreasing_by all_goals first|(simp_wf;omega)|decreasing_tactic
def AX.ren(σ:Nat→Nat)(δ:Nat):AX→AX
 |.box cs=>.box (cs.map (V.ren σ δ))
 |.vec T es=>.vec T (es.map (List.map (V.ren σ δ)))
 |.map es=>.map (es.map fun p=>(p.1.ren σ δ,p.2.ren σ δ))
 |.loop fr ps asg body N st=>.loop (fr.map fun p=>(p.1,p.2.1,p.2.2.ren σ δ)) ps asg body N st
 |.dead=>.dead
def AA.ren(σ:Nat→Nat)(δ:Nat)(L:AA):AA:=L.map fun p=>(p.1,σ p.2.1,p.2.2.ren σ δ)
def Fr.ren(σ:Nat→Nat)(δ:Nat)(fr:Fr):Fr:=fr.map fun p=>(p.1,p.2.1,p.2.2.ren σ δ)
def St.emb(σ:Nat→Nat)(pre:List AA)(s:St):St:=⟨pre++s.up.map (AA.ren σ pre.length),s.loc.ren σ pre.length⟩
theorem Fr.get_ren:∀(fr:Fr) (k:Nat),(fr.ren σ δ).get k=(fr.get k).map fun p=>(p.1,p.2.ren σ δ)
 |[],k=>rfl
 |(j,x)::fr,k=>by
  have:=Fr.get_ren fr k;simp only[Fr.ren,List.map_cons,Fr.get]at this⊢;split
  ·rfl
  ·exact this
theorem AA.get_ren:∀(L:AA) (k:Nat),(L.ren σ δ).get k=(L.get k).map fun p=>(σ p.1,p.2.ren σ δ)
 |[],k=>rfl
 |(j,x)::L,k=>by
  have:=AA.get_ren L k;simp only[AA.ren,List.map_cons,AA.get]at this⊢;split
  ·rfl
  ·exact this
variable {pre:List AA}{s:St}
theorem DB:(s.emb σ pre).up.length=s.up.length+pre.length:=by simp[St.emb,Nat.add_comm]
theorem B9(l k:Nat):(s.emb σ pre).get (l+pre.length) k=(s.get l k).map fun p=>(σ p.1,p.2.ren σ pre.length):=by
 unfold St.get;rw[DB];by_cases h:l=s.up.length
 ·rw[if_pos h,if_pos (by rw[h])];exact AA.get_ren _ _
 ·rw[if_neg h,if_neg (by omega)];simp only[St.emb];rw[List.getElem?_append_right (by omega),Nat.add_sub_cancel,List.getElem?_map];cases s.up[l]? with
  |none=>rfl
  |some L=>simp[AA.get_ren]
theorem ZQ{α:Type}(f:α→α)(M:List α)(l:Nat):∀(pre:List α),(pre++M).modify (l+pre.length) f=pre++M.modify l f
 |[]=>rfl
 |p::pre=>by have:=ZQ f M l pre;simp only[List.cons_append,List.length_cons,←Nat.add_assoc,List.modify_succ_cons,this]
theorem CR{l k g:Nat}{r:AX}:(s.put l k g r).emb σ pre=(s.emb σ pre).put (l+pre.length) k (σ g) (r.ren σ pre.length):=by
 unfold St.put;rw[DB];by_cases h:l=s.up.length
 ·rw[if_pos h,if_pos (by rw[h])];simp[St.emb,AA.ren,AA.put]
 ·rw[if_neg h,if_neg (by omega)];simp only[St.emb,St.mk.injEq,and_true];rw[ZQ];congr 1;refine List.ext_getElem? fun i=>?_;simp only[List.getElem?_map,List.getElem?_modify];by_cases hi:l=i
  ·subst hi;cases s.up[l]? with
   |none=>rfl
   |some L=>simp[AA.ren,AA.put]
  ·simp[hi]
theorem Q4{u:Value}{v:V}(h:CP u=some v):v.ren σ δ=v:=by
 cases u with
 |int k n=>simp only[CP,Option.some.injEq]at h;subst h;simp
 |bool b=>simp only[CP,Option.some.injEq]at h;subst h;simp
 |agg cs=>simp[CP]at h
 |tuple cs=>simp[CP]at h
 |slice a n c=>
  unfold CP at h
  split at h<;>simp_all<;>subst h<;>simp
 |_=>simp only[CP,Option.some.injEq]at h;subst h;simp
theorem Q5:∀{l:List Value} {cs:List V},GB l=some cs→cs.map (V.ren σ δ)=cs
 |[],cs,h=>by simp[GB]at h;subst h;rfl
 |v::r,cs,h=>by
  unfold GB at h;split at h
  ·rename_i x l h1 h2;cases h;simp[Q4 h1,Q5 h2]
  ·cases h
end Go.Pg
namespace Go.Pg
variable {P:Program}{σ:Nat→Nat}{δ:Nat}{pre:List AA}{s:St}{fr:Fr}{g:Bool}
theorem ACU(x:Operand):rd (fr.ren σ δ) x=(rd fr x).map fun p=>(p.1,p.2.ren σ δ):=by
 cases x with
 |tmp t=>exact Fr.get_ren fr t
 |const u=>
  simp only[rd]
  cases h:CP u with
  |none=>rfl
  |some v=>simp[Q4 h]
 |func f=>simp[rd]
 |global g=>rfl
theorem DM(x:Operand):DV g (fr.ren σ δ) x=(DV g fr x).map (V.ren σ δ):=by
 unfold DV;rw[ACU];cases rd fr x with
 |none=>rfl
 |some p=>
  obtain⟨c,v⟩:=p
  simp only[Option.map_some]
  split<;>rfl
theorem H6(v:V):A7 (v.ren σ δ)=A7 v:=by cases v<;>simp[A7]
theorem EM(v:V):A6 (v.ren σ δ)=(A6 v).map (V.ren σ δ):=by cases v<;>simp[A6]
theorem xE(v:V):weakC (v.ren σ δ)=(weakC v).ren σ δ:=by cases v<;>simp[weakC]
theorem U1(v:V):weakV (v.ren σ δ)=(weakV v).ren σ δ:=by cases v<;>simp[weakV,xE]
theorem V9{p:V}{cs:List V}(h:A5 s p=some cs):A5 (s.emb σ pre) (p.ren σ pre.length)=some (cs.map (V.ren σ pre.length)):=by
 cases p with
 |ref ds=>simp only[A5,Option.some.injEq]at h;subst h;simp[A5]
 |ptr l k γ off=>
  simp only[A5]at h
  split at h
  ·rename_i γ' ds e;split at h
   ·rename_i eg;cases h;simp[A5,B9,e,AX.ren,eg,List.map_drop]
   ·cases h
  ·cases h
 |eptr l k γ i off=>
  simp only[A5]at h
  split at h
  ·rename_i γ' T es e;split at h
   ·rename_i eg;obtain⟨x,hx,rfl⟩:=Option.map_eq_some_iff.1 h;simp[A5,B9,e,AX.ren,eg,hx,List.map_drop]
   ·cases h
  ·cases h
 |_=>cases h
theorem dG{T:TypeId}{cs:List V}{v:V}(h:BL P T cs=some v):BL P T (cs.map (V.ren σ δ))=some (v.ren σ δ):=by
 unfold BL at h⊢;split at h
 ·split at h
  ·rename_i hc;cases h;simp[hc,List.map_take]
  ·cases h
 ·split at h
  ·rename_i hc;cases h;simp[hc,List.map_take]
  ·cases h
 ·simp only[List.getElem?_map,h,Option.map_some]
 ·cases h
theorem dH{U:TypeId}{cs:List V}{off:Nat}{v:V}(h:M5 P U cs off=some v):M5 P U (cs.map (V.ren σ δ)) off=some (v.ren σ δ):=by
 unfold M5 at h⊢;split at h
 ·split at h
  ·rename_i hc;cases h;simp[hc,List.map_take,List.map_drop]
  ·cases h
 ·split at h
  ·rename_i hc;cases h;simp[hc,List.map_take,List.map_drop]
  ·cases h
 ·simp only[List.getElem?_map,h,Option.map_some]
 ·cases h
theorem lJ{T:TypeId}{x v:V}{f:Nat}(h:ID P T x f=some v):ID P T (x.ren σ δ) f=some (v.ren σ δ):=by
 unfold ID at h;split at h
 ·rename_i cs U off e;simp[ID,e,dH h]
 ·cases h
theorem WO{T:TypeId}{x v:V}{f:Nat}(h:C6 P T x f=some v):C6 P T (x.ren σ δ) f=some (v.ren σ δ):=by
 unfold C6 at h;split at h
 ·rename_i U off e;split at h
  ·cases h
  ·rename_i hz;split at h<;>first
    |(cases h;done)
    |(cases h;simp[C6,e,hz,List.map_drop])
 ·cases h
theorem E0(es:List (List V))(j:Nat):(es.map (List.map (V.ren σ δ))).getD j []=(es.getD j []).map (V.ren σ δ):=by simp only[List.getD_eq_getElem?_getD,List.getElem?_map];cases es[j]?<;>rfl
theorem WP{T:TypeId}{x i v:V}(h:BT P s T x i=some v):BT P (s.emb σ pre) T (x.ren σ pre.length) (i.ren σ pre.length)=some (v.ren σ pre.length):=by
 unfold BT at h;split at h
 ·rename_i e f es k j e1;split at h
  ·rename_i hc;cases h;obtain⟨c1,c2,c3,c4⟩:=hc;simp only[ET,EH,BT,e1,List.length_map,E0,MQ];rw[if_pos ⟨c1,c2,c3,c4⟩]
  ·cases h
 ·rename_i e l k γ n k' j e1;split at h
  ·rename_i γ' U es e2;split at h
   ·rename_i hc;cases h;obtain⟨c1,c2,c3,c4,c5,c6⟩:=hc;subst c1;simp only[HB,EH,BT,e1,B9,e2,Option.map_some,AX.ren,List.length_map,E0,ON];rw[if_pos ⟨trivial,c2,c3,c4,c5,c6⟩]
   ·cases h
  ·cases h
 ·rename_i n e cs k j e1;split at h
  ·rename_i hc;cases h;simp only[MQ,EH,BT,e1,if_pos hc,List.map_drop]
  ·cases h
 ·rename_i n e l k γ o k' j e1;split at h
  ·rename_i hc;cases h;simp only[HA,EH,BT,e1,if_pos hc]
  ·cases h
 ·rename_i n e l k γ i' o k' j e1;split at h
  ·rename_i hc;cases h;simp only[ON,EH,BT,e1,if_pos hc]
  ·cases h
 ·cases h
theorem lK{T:TypeId}{x i v:V}(h:JC P T x i=some v):JC P T (x.ren σ δ) (i.ren σ δ)=some (v.ren σ δ):=by
 unfold JC at h;split at h
 ·rename_i n e cs k j e1;split at h
  ·rename_i hc;simp only[G9,EH,JC,e1,if_pos hc,dH h]
  ·cases h
 ·cases h
theorem pG{S D:TypeId}{x v:V}(h:H3 P S D x=some v):H3 P S D (x.ren σ δ)=some (v.ren σ δ):=by
 unfold H3 at h;split at h
 ·rename_i e1 e2;cases h;simp[H3,e1,e2]
 ·cases h
theorem ACV{op:UnOp}{x v:V}(h:bQ op x=some v):bQ op (x.ren σ δ)=some (v.ren σ δ):=by unfold bQ at h;split at h<;>first|(cases h;done)|(cases h;simp[bQ])
theorem xF{x v:V}(h:M6 x=some v):M6 (x.ren σ δ)=some (v.ren σ δ):=by cases x<;>simp[M6]at h<;>subst h<;>simp[M6]
theorem bZ{x v:V}{i:Nat}(h:FP x i=some v):FP (x.ren σ δ) i=some (v.ren σ δ):=by cases x<;>simp[FP]at h;simp[FP,h]
theorem xG{T:TypeId}{x v:V}(h:HQ P T x=some v):HQ P T (x.ren σ δ)=some (v.ren σ δ):=by
 unfold HQ at h;split at h
 ·rename_i e f es hu;cases h;simp[HQ,hu]
 ·rename_i e l k g n hu;cases h;simp[HQ,hu]
 ·rename_i e hu;cases h;simp[HQ,hu]
 ·rename_i n e hu;cases h;unfold HQ;rw[hu];simp
 ·cases h
theorem AI0{n m:Nat}{h:Option V}(e:hiN n h=some m):hiN n (h.map (V.ren σ δ))=some m:=by
 cases h with
 |none=>exact e
 |some a=>cases a<;>first|(simp only[Option.map_some,EH];exact e)|(simp[hiN]at e)
theorem lL{T:TypeId}{x v:V}{lo hi mx:Option V}(h:B8 P s T x lo hi mx=some v):B8 P (s.emb σ pre) T (x.ren σ pre.length) (lo.map (V.ren σ pre.length)) (hi.map (V.ren σ pre.length)) (mx.map (V.ren σ pre.length))=some (v.ren σ pre.length):=by
 unfold B8 at h;split at h
 ·rename_i e f es k h' e1;split at h
  ·rename_i hc;cases h;simp only[ET,Option.map_some,EH,Option.map_none,B8,e1,List.length_map,if_pos hc,List.map_take]
  ·cases h
 ·rename_i e f es k l e1;split at h
  ·rename_i hc;cases h;have:(es.map (List.map (V.ren σ pre.length))).all (fun x=>x.length==P.cellsOf e)=true:=by rw[List.all_map];exact hc.2.2.2▸(by congr 1;funext x;simp)
   simp only[ET,Option.map_some,EH,Option.map_none,B8,e1,List.length_map,if_pos (⟨hc.1,hc.2.1,hc.2.2.1,this⟩:_∧_∧_∧_),List.map_drop]
  ·cases h
 ·rename_i e f es k l k' h' e1;split at h
  ·rename_i hc;cases h;have:(es.map (List.map (V.ren σ pre.length))).all (fun x=>x.length==P.cellsOf e)=true:=by rw[List.all_map];exact hc.2.2.2.2▸(by congr 1;funext x;simp)
   simp only[ET,Option.map_some,EH,Option.map_none,B8,e1,List.length_map,if_pos (⟨hc.1,hc.2.1,hc.2.2.1,hc.2.2.2.1,this⟩:_∧_∧_∧_∧_),List.map_drop,List.map_take]
  ·cases h
 ·rename_i e f es k h' k' m e1;split at h
  ·rename_i hc;cases h;simp only[ET,Option.map_some,EH,Option.map_none,B8,e1,if_pos hc,List.map_nil]
  ·cases h
 ·rename_i e l k g n k' h' e1;split at h
  ·rename_i hc;cases h;simp only[HB,Option.map_some,EH,Option.map_none,B8,e1,if_pos hc]
  ·cases h
 ·rename_i e l k g n k' i e1;split at h
  ·rename_i g' T' es hget;split at h
   ·rename_i hc;obtain⟨rfl,h1,h2,h3,h4,h5⟩:=hc;cases h;have:(es.map (List.map (V.ren σ pre.length))).all (fun x=>x.length==P.cellsOf e)=true:=by rw[List.all_map];exact h1▸(by congr 1;funext x;simp)
    simp only[HB,W1,Option.map_some,EH,Option.map_none,B8,e1,B9,hget,AX.ren];rw[if_pos ⟨trivial,this,by simpa using h2,h3,h4,h5⟩]
   ·cases h
  ·cases h
 ·rename_i n e l k g o e1;split at h
  ·rename_i g' cs m hget hm;split at h
   ·rename_i hc;obtain⟨rfl,h1,h2⟩:=hc;cases h;simp only[HA,W1,Option.map_none,B8,e1,B9,hget,AX.ren,Option.map_some,AI0 hm];rw[if_pos ⟨trivial,h1,by simpa using h2⟩]
   ·cases h
  ·cases h
 ·cases h
theorem xH{x y v:V}(h:S9 x y=some v):S9 (x.ren σ δ) (y.ren σ δ)=some (v.ren σ δ):=by
 unfold S9 at h;split at h
 ·split at h
  ·rename_i hk;cases h;simp[S9,hk]
  ·cases h
 ·cases h
theorem xI{x y v:V}(h:TA x y=some v):TA (x.ren σ δ) (y.ren σ δ)=some (v.ren σ δ):=by
 unfold TA at h;split at h
 ·split at h
  ·rename_i hk;cases h;simp[TA,hk]
  ·cases h
 ·cases h
theorem xJ{op:BinOp}{k:IntKind}{a b:Int}{v:V}(h:ER op k a b=some v):v.ren σ δ=v:=by
 unfold ER at h;split at h<;>first
  |(cases h;simp;done)
  |(split at h<;>first|(cases h;done)|(cases h;simp;done))
  |(obtain⟨r,_,rfl⟩:=Option.map_eq_some_iff.1 h;simp)
theorem MS:∀(cs:List V),D3 (cs.map (V.ren σ δ))=D3 cs
 |[]=>rfl
 |c::cs=>by have ih:=MS cs;cases c<;>simp[D3,ih]
theorem ACW{op:BinOp}{k:IntKind}{a b:Int}{v:V}(h:YN op k a b=some v):v.ren σ δ=v:=by
 cases op<;>simp only[YN]at h;case shl=>split at h<;>cases h;simp
 case shr=>split at h<;>cases h;simp
 all_goals cases h
theorem xK{op:BinOp}{T:TypeId}{x y v:V}(h:GY P op T x y=some v):GY P op T (x.ren σ δ) (y.ren σ δ)=some (v.ren σ δ):=by
 unfold GY at h;split at h
 ·split at h
  ·rename_i hk;simp only[EH,GY,if_pos hk,h,xJ h]
  ·rename_i hk;simp only[EH,GY,if_neg hk,h,ACW h]
 ·split at h
  ·rename_i hk;have hv:v.ren σ δ=v:=by split at h<;>first|(cases h;done)|(cases h;simp)
   rw[hv];simp only[LR,GY,if_pos hk];exact h
  ·cases h
 ·rename_i cs ds;have he:QX P T (cs.map (V.ren σ δ)) (ds.map (V.ren σ δ))=QX P T cs ds:=by unfold QX;rw[MS,MS]
  have hv:v.ren σ δ=v:=by
   split at h
   ·obtain⟨r,_,rfl⟩:=Option.map_eq_some_iff.1 h;simp
   ·obtain⟨r,_,rfl⟩:=Option.map_eq_some_iff.1 h;simp
   ·cases h
  rw[hv];simp only[G9,GY,he];exact h
 ·rename_i x' _;have hi:IZ (x.ren σ δ)=IZ x:=by
   cases x with
   |list f es=>cases es<;>simp[IZ]
   |vec l k g n=>cases n<;>simp[IZ]
   |vtl l k g i n=>cases n<;>simp[IZ]
   |_=>simp[IZ]
  have hb:∀y:V,GY P op T y .nil=if DE P T then(match op with
   |.eql=>(IZ y).map V.bool
   |.neq=>(IZ y).map fun b=>V.bool !b
   | _=>none) else none:=fun y=>by cases y <;> rfl
  have hv:v.ren σ δ=v:=by
   split at h
   ·split at h
    ·obtain⟨r,_,rfl⟩:=Option.map_eq_some_iff.1 h;simp
    ·obtain⟨r,_,rfl⟩:=Option.map_eq_some_iff.1 h;simp
    ·cases h
   ·cases h
  rw[hv,AIZ,hb,hi];exact h
 ·cases h
theorem U2:∀{cs:List V} {l:List Value},D3 cs=some l→cs.map (V.ren σ δ)=cs
 |[],_,_=>rfl
 |c::cs,l,h=>by
  cases c with
  |int k n=>
   simp only[D3]at h
   split at h
   ·rename_i r hr;simp[U2 hr]
   ·cases h
  |bool b=>
   simp only[D3]at h
   split at h
   ·rename_i r hr;simp[U2 hr]
   ·cases h
  |_=>simp[D3]at h
theorem ZR{K:TypeId}(v:V):bR P K (v.ren σ δ)=bR P K v:=by
 cases v with
 |agg cs=>
  simp only[G9,bR,MS]
  split
  ·rename_i l hl;rw[U2 hl]
  ·rfl
 |_=>simp[bR]
theorem U3{K:TypeId}{ks:List V}:∀(es:List (V×V)) (i:Nat),S8 P K ks (es.map fun p=>(p.1.ren σ δ,p.2.ren σ δ)) i=S8 P K ks es i
 |[],_=>rfl
 |(k,v)::es,i=>by simp only[List.map_cons,S8,ZR,U3 es]
theorem pH{T:TypeId}{z:V}(h:YQ P T=some z):z.ren σ δ=z:=by
 unfold YQ at h;split at h
 ·split at h
  ·rename_i cs hz;cases h;simp[Q5 hz]
  ·cases h
 ·exact Q4 h
 ·cases h
theorem fY{T:TypeId}{x k v:V}{ok:Bool}(h:EF P s T x k ok=some v):EF P (s.emb σ pre) T (x.ren σ pre.length) (k.ren σ pre.length) ok=some (v.ren σ pre.length):=by
 unfold EF at h;split at h
 ·rename_i K E l q g hm;split at h
  ·rename_i g' es hget;split at h
   ·rename_i hc;obtain⟨rfl,hT⟩:=hc;split at h
    ·rename_i ks hks;simp only[Q3,EF,hm,B9,hget,Option.map_some,AX.ren,ZR,hks,U3,if_pos (⟨trivial,hT⟩:True∧_)];split at h
     ·rename_i hf;obtain⟨z,hz,rfl⟩:=Option.map_eq_some_iff.1 h;simp only[hz,Option.map_some];cases ok<;>simp[pH hz]
     ·rename_i i hf;obtain⟨e,he,rfl⟩:=Option.map_eq_some_iff.1 h;simp only[List.getElem?_map,he,Option.map_some];cases ok<;>simp
     ·cases h
    ·cases h
   ·cases h
  ·cases h
 ·cases h
theorem U4{T:TypeId}{x k v:V}{l q γ:Nat}{es:List (V×V)}(h:QG P s T x k v=some (l,q,γ,es)):QG P (s.emb σ pre) T (x.ren σ pre.length) (k.ren σ pre.length) (v.ren σ pre.length)=some (l+pre.length,q,σ γ,es.map fun p=>(p.1.ren σ pre.length,p.2.ren σ pre.length)):=by
 unfold QG at h;split at h
 ·rename_i K E l q g hm;split at h
  ·rename_i g' es hget;split at h
   ·rename_i hc;obtain⟨rfl,hT⟩:=hc;split at h
    ·rename_i ks hks;simp only[Q3,QG,hm,B9,hget,Option.map_some,AX.ren,ZR,hks,U3,if_pos (⟨trivial,hT⟩:True∧_)];split at h
     ·rename_i hf;cases h;simp
     ·rename_i i hf;cases h;simp[List.map_set]
     ·cases h
    ·cases h
   ·cases h
  ·cases h
 ·cases h
theorem IU{r:Operand→Option V}:∀{l:List Operand} {vs:List V},l.mapM r=some vs→l.mapM (fun x=>(r x).map (V.ren σ δ))=some (vs.map (V.ren σ δ))
 |[],vs,h=>by simp at h;subst h;rfl
 |x::l,vs,h=>by simp only[List.mapM_cons,Option.bind_eq_bind,Option.bind_eq_some_iff,Option.pure_def,Option.some.injEq]at h;obtain⟨v,h1,us,h2,rfl⟩:=h;simp[h1,IU h2]
theorem AI1{o:Oper}{r:Operand→Option V}{v:V}(h:IL P o s r=some v):IL P o (s.emb σ pre) (fun x=>(r x).map (V.ren σ pre.length))=some (v.ren σ pre.length):=by
 unfold IL at h⊢;split at h<;>(try simp only[Option.bind_eq_some_iff]at h);case h_1=>simp[h]
 case h_2=>simp[h]
 case h_3=>obtain⟨a,h1,h2⟩:=h;simp[h1,xF h2]
 case h_4=>obtain⟨a,h1,b,h2,h3⟩:=h;simp[h1,V9 h2,dG h3]
 case h_5=>obtain⟨a,h1,b,h2,h3⟩:=h;simp[h1,h2,xK h3]
 case h_6=>obtain⟨a,h1,h2⟩:=h;simp[h1,ACV h2]
 case h_7=>obtain⟨a,h1,h2⟩:=h;simp[h1,pG h2]
 case h_8=>obtain⟨a,h1,h2⟩:=h;simp[h1,WO h2]
 case h_9=>obtain⟨a,h1,h2⟩:=h;simp[h1,lJ h2]
 case h_10=>obtain⟨a,h1,b,h2,h3⟩:=h;simp[h1,h2,WP h3]
 case h_11=>obtain⟨a,h1,b,h2,h3⟩:=h;simp[h1,h2,lK h3]
 case h_12=>obtain⟨a,h1,h2⟩:=h;simp[h1,bZ h2]
 case h_13=>
  split at h
  ·rename_i e1 e2;simp only[Option.bind_eq_some_iff]at h;obtain⟨a,h1,h2⟩:=h;simp[h1,xG h2]
  ·cases h
 case h_14=>
  split at h
  ·simp only[Option.bind_eq_some_iff]at h;obtain⟨a,h1,b,h2,h3⟩:=h;simp[h1,h2,xH h3]
  ·cases h
 case h_15=>
  split at h
  ·simp only[Option.bind_eq_some_iff]at h;obtain⟨a,h1,b,h2,h3⟩:=h;simp[h1,h2,xI h3]
  ·cases h
 case h_16 T x lo hi mx ho=>
  obtain⟨a,h1,l,h2,u,h3,m,h4,h5⟩:=h
  have key:∀(z:Option Operand) (q:Option V),(match z with|none=>some none|some y=>(r y).map some)=some q→(z=none∧q=none)∨∃y b,z=some y∧r y=some b∧q=some b:=by
   intro z q hz;cases z with
   |none=>cases hz;exact .inl ⟨rfl,rfl⟩
   |some y=>
    obtain⟨b,hb,rfl⟩:=Option.map_eq_some_iff.1 hz
    exact .inr ⟨y,b,rfl,hb,rfl⟩
  have h6:=lL (σ:=σ) (pre:=pre) h5
  rcases key lo l h2 with⟨rfl,rfl⟩|⟨y1,b1,rfl,q1,rfl⟩<;>rcases key hi u h3 with⟨rfl,rfl⟩|⟨y2,b2,rfl,q2,rfl⟩<;>rcases key mx m h4 with⟨rfl,rfl⟩|⟨y3,b3,rfl,q3,rfl⟩<;>simp_all
 case h_17=>obtain⟨a,h1,b,h2,h3⟩:=h;simp[h1,h2,fY h3]
 case h_18 f first captured ho=>
  obtain⟨a,h1,b,h2,h3⟩:=h
  cases h3
  simp[IU h1,IU h2]
 case h_19=>cases h
end Go.Pg
namespace Go.Pg
variable {P:Program}{σ:Nat→Nat}{δ:Nat}{pre:List AA}{s:St}{fr:Fr}{g:Bool}
theorem GK{T:TypeId}{z:List V}(h:B7 P T=some z):z.map (V.ren σ δ)=z:=by
 unfold B7 at h;split at h
 ·exact Q5 h
 ·cases h
theorem C7{α β:Type}(f:α→β)(cs ds:List α)(off:Nat):A3 (cs.map f) off (ds.map f)=(A3 cs off ds).map f:=by simp[A3,List.map_take,List.map_drop]
theorem PS{place:Nat→Option (Nat×Nat)}:∀{ps:List (Nat×V)} {cs ds:List V},C3 place cs ps=some ds→C3 place (cs.map (V.ren σ δ)) (ps.map fun p=>(p.1,p.2.ren σ δ))=some (ds.map (V.ren σ δ))
 |[],cs,ds,h=>by simp[C3]at h;subst h;rfl
 |(i,v)::r,cs,ds,h=>by
  simp only[C3]at h;split at h
  ·cases h
  ·rename_i off size e;split at h
   ·rename_i hc;have:=PS h;simp only[List.map_cons,C3,e,EM,List.length_map];rw[if_pos hc,C7];exact this
   ·cases h
theorem MT(ps:List (Nat×V)):((ps.map fun p=>(p.1,p.2.ren σ δ)).all fun p=>A7 p.2)=ps.all fun p=>A7 p.2:=by rw[List.all_map];congr 1;funext p;exact H6 p.2
theorem lM{T:TypeId}{ps:List (Nat×V)}{v:V}(h:CV P T ps=some v):CV P T (ps.map fun p=>(p.1,p.2.ren σ δ))=some (v.ren σ δ):=by
 unfold CV at h⊢;split at h
 ·rename_i z fs e1 e2;simp only[MT];split at h
  ·rename_i hc;obtain⟨cs,h1,rfl⟩:=Option.map_eq_some_iff.1 h;have:=PS (σ:=σ) (δ:=δ) h1;rw[GK e1]at this;rw[if_pos hc,this];simp
  ·cases h
 ·rename_i z n e e1 e2;simp only[MT];split at h
  ·rename_i hc;obtain⟨cs,h1,rfl⟩:=Option.map_eq_some_iff.1 h;have:=PS (σ:=σ) (δ:=δ) h1;rw[GK e1]at this;rw[if_pos hc,this];simp
  ·cases h
 ·cases h
theorem ZS{β:Type}(f:V→V)(size:Nat):∀(n:Nat) (cs:List V),CQ size (cs.map f) n=(CQ size cs n).map (List.map f)
 |0,_=>rfl
 |n+1,cs=>by simp only[CQ,List.map_cons,List.map_take];rw[←List.map_drop,ZS (β:=β) f size n]
theorem U5{T:TypeId}{len:Nat}{ps:List (Nat×V)}{v:V}(h:CC P T len ps=some v):CC P T len (ps.map fun p=>(p.1,p.2.ren σ δ))=some (v.ren σ δ):=by
 unfold CC at h⊢;split at h
 ·rename_i e e1;split at h
  ·rename_i z e2;split at h
   ·rename_i hc;obtain⟨cs,h1,rfl⟩:=Option.map_eq_some_iff.1 h;have:=PS (σ:=σ) (δ:=δ) h1;have hz:(List.replicate len z).flatten.map (V.ren σ δ)=(List.replicate len z).flatten:=by rw[List.map_flatten,List.map_replicate,GK e2]
    rw[hz]at this;simp only[MT];rw[if_pos hc,this];simp[ZS (β:=Nat)]
   ·cases h
  ·cases h
 ·cases h
theorem Q6{r:Operand→Option V}:∀{l:List (Nat×Operand)} {ps:List (Nat×V)},C4 r l=some ps→C4 (fun x=>(r x).map (V.ren σ δ)) l=some (ps.map fun p=>(p.1,p.2.ren σ δ))
 |[],ps,h=>by simp[C4]at h;subst h;rfl
 |(i,x)::l,ps,h=>by
  simp only[C4]at h;split at h
  ·rename_i v us h1 h2;cases h;simp[C4,h1,Q6 h2]
  ·cases h
theorem GL{v:V}{es:List (List V)}(h:elemsOf s v=some es):elemsOf (s.emb σ pre) (v.ren σ pre.length)=some (es.map (List.map (V.ren σ pre.length))):=by
 cases v with
 |list f ds=>simp only[elemsOf,Option.some.injEq]at h;subst h;simp[elemsOf]
 |vec l k γ n=>
  simp only[elemsOf]at h
  split at h
  ·rename_i γ' T ds e;split at h
   ·rename_i hc;cases h;simp[elemsOf,B9,e,AX.ren,hc.1,hc.2,List.map_take]
   ·cases h
  ·cases h
 |vtl l k γ i n=>
  simp only[elemsOf]at h
  split at h
  ·rename_i γ' cs e;split at h
   ·rename_i hc;cases h;simp[elemsOf,B9,e,AX.ren,hc.1,hc.2,List.map_take,List.map_drop,Function.comp_def]
   ·cases h
  ·cases h
 |nil=>simp only[elemsOf,Option.some.injEq]at h;subst h;simp[elemsOf]
 |_=>cases h
theorem JE:DV g (fr.ren σ δ)=fun x=>(DV g fr x).map (V.ren σ δ):=by funext x;exact DM x
theorem IV{o:Oper}{v:V}(h:FH P g o fr s=some v):FH P g o (fr.ren σ pre.length) (s.emb σ pre)=some (v.ren σ pre.length):=by
 unfold FH at h⊢;split at h
 ·rename_i c x y ho;split at h
  ·rename_i c' ca va cb vb e1 e2 e3;split at h
   ·rename_i hc;cases h;simp only[DM,ACU,e1,e2,e3,Option.map_some,LR];rw[if_pos hc]
   ·cases h
  ·cases h
 ·rename_i T parts ho;obtain⟨ps,h1,h2⟩:=Option.bind_eq_some_iff.1 h;rw[JE,Q6 h1];exact lM h2
 ·rename_i T len parts ho;obtain⟨ps,h1,h2⟩:=Option.bind_eq_some_iff.1 h;rw[JE,Q6 h1];exact U5 h2
 ·rw[JE];exact AI1 h
def AZ(s:St):Nat→V→Option V
 |0,_=>none
 |f+1,v=>match v with
  |.list _ es=>some (.list false es)
  | .vec l k g m=>if l=s.up.length then(match s.loc.get k with
    |some (g',.vec _ es)=>if g'=g∧m≤es.length then some (.list false (es.take m)) else none
    | _=>none) else some v
  | .ptr l k g off=>if l=s.up.length then(match s.loc.get k with
    |some (g',.box cs)=>if g'=g then(cs.mapM (AZ s f)).map fun ds=>.ref (ds.drop off) else none
    | _=>none) else some v
  |.agg cs=>(cs.mapM (AZ s f)).map .agg
  |.tup cs=>(cs.mapM (AZ s f)).map .tup
  |.fn g xs ys=>match xs.mapM (AZ s f),ys.mapM (AZ s f)with
   |some a,some b=>some (.fn g a b)
   |_,_=>none
  |v=>some v
theorem GM{α β:Type}{f:α→Option β}{g:α→β}(h:∀x y,f x=some y→g x=y):∀{l:List α} {r:List β},l.mapM f=some r→l.map g=r
 |[],r,e=>by simp at e;subst e;rfl
 |x::l,r,e=>by simp only[List.mapM_cons,Option.bind_eq_bind,Option.bind_eq_some_iff,Option.pure_def,Option.some.injEq]at e;obtain⟨y,h1,ys,h2,rfl⟩:=e;simp[h x y h1,GM h h2]
theorem OP:∀(f:Nat) {v r:V},AZ s f v=some r→DF s f v=r
 |0,v,r,h=>by cases h
 |f+1,v,r,h=>by
  have ih:=fun v r=>OP f (v:=v) (r:=r);cases v with
  |list b es=>simpa [AZ,DF]using h
  |vec l k g m=>
   simp only[AZ]at h
   simp only[DF]
   split at h
   ·rename_i hl;rw[if_pos hl];split at h
    ·rename_i g' T es e;split at h
     ·rename_i hc;rw[e];simp only[if_pos hc];exact Option.some.inj h
     ·cases h
    ·cases h
   ·rename_i hl;rw[if_neg hl];exact Option.some.inj h
  |ptr l k g off=>
   simp only[AZ]at h
   simp only[DF]
   split at h
   ·rename_i hl;rw[if_pos hl];split at h
    ·rename_i g' cs e;split at h
     ·rename_i hc;obtain⟨ds,h1,rfl⟩:=Option.map_eq_some_iff.1 h;rw[e];simp only[if_pos hc,GM ih h1]
     ·cases h
    ·cases h
   ·rename_i hl;rw[if_neg hl];exact Option.some.inj h
  |agg cs=>
   obtain⟨ds,h1,rfl⟩:=Option.map_eq_some_iff.1 h
   simp only[DF,GM ih h1]
  |tup cs=>
   obtain⟨ds,h1,rfl⟩:=Option.map_eq_some_iff.1 h
   simp only[DF,GM ih h1]
  |fn g xs ys=>
   simp only[AZ]at h
   split at h
   ·rename_i a b h1 h2;cases h;simp only[DF,GM ih h1,GM ih h2]
   ·cases h
  |_=>simpa [AZ,DF]using h
theorem FT{f f':V→Option V}(h:∀v r,f v=some r→f' (v.ren σ δ)=some (r.ren σ δ)):∀{l r:List V},l.mapM f=some r→(l.map (V.ren σ δ)).mapM f'=some (r.map (V.ren σ δ))
 |[],r,e=>by simp at e;subst e;rfl
 |x::l,r,e=>by simp only[List.mapM_cons,Option.bind_eq_bind,Option.bind_eq_some_iff,Option.pure_def,Option.some.injEq]at e;obtain⟨y,h1,ys,h2,rfl⟩:=e;simp[h x y h1,FT h h2]
theorem KV(k:Nat):(s.emb σ pre).loc.get k=(s.loc.get k).map fun p=>(σ p.1,p.2.ren σ pre.length):=AA.get_ren _ _
theorem J0:∀(f:Nat) {v r:V},AZ s f v=some r→AZ (s.emb σ pre) f (v.ren σ pre.length)=some (r.ren σ pre.length)
 |0,v,r,h=>by cases h
 |f+1,v,r,h=>by
  have ih:=fun v r=>J0 f (v:=v) (r:=r);cases v with
  |list b es=>simp only[AZ,Option.some.injEq]at h;subst h;simp[AZ]
  |vec l k g m=>
   simp only[AZ]at h
   split at h
   ·rename_i hl;split at h
    ·rename_i g' T es e;split at h
     ·rename_i hc;cases h;simp[AZ,DB,KV,hl,e,AX.ren,hc.1,hc.2,List.map_take]
     ·cases h
    ·cases h
   ·rename_i hl;cases h;have:¬l+pre.length=s.up.length+pre.length:=by omega
    simp[AZ,DB,hl]
  |ptr l k g off=>
   simp only[AZ]at h
   split at h
   ·rename_i hl;split at h
    ·rename_i g' cs e;split at h
     ·rename_i hc;obtain⟨ds,h1,rfl⟩:=Option.map_eq_some_iff.1 h;have:=FT ih h1;simp[AZ,DB,KV,hl,e,AX.ren,hc,this,List.map_drop]
     ·cases h
    ·cases h
   ·rename_i hl;cases h;simp[AZ,DB,hl]
  |agg cs=>
   obtain⟨ds,h1,rfl⟩:=Option.map_eq_some_iff.1 h
   simp[AZ,FT ih h1]
  |tup cs=>
   obtain⟨ds,h1,rfl⟩:=Option.map_eq_some_iff.1 h
   simp[AZ,FT ih h1]
  |fn g xs ys=>
   simp only[AZ]at h
   split at h
   ·rename_i a b h1 h2;cases h;simp[AZ,FT ih h1,FT ih h2]
   ·cases h
  |_=>simp only[AZ,Option.some.injEq]at h;subst h;simp[AZ]
noncomputable def BV(s:St)(v:V):Option V:=match v with
 |.list f es=>some (.list f es)
 |.int k n=>some (.int k n)
 |.bool b=>some (.bool b)
 |v=>AZ s 4 v
theorem JF{v r:V}(h:BV s v=some r):FG s v=r:=by
 unfold BV at h;unfold FG;split at h
 ·simpa using h
 ·simpa [DF]using h
 ·simpa [DF]using h
 ·rename_i h1 h2 h3;split
  ·rename_i f es;exact absurd rfl (h1 f es)
  ·exact OP 4 h
theorem WA{v:V}(h1:∀f es,v≠.list f es)(h2:∀k n,v≠.int k n)(h3:∀b,v≠.bool b):BV s v=AZ s 4 v:=by
 unfold BV;split
 ·rename_i f es;exact absurd rfl (h1 f es)
 ·rename_i k n;exact absurd rfl (h2 k n)
 ·rename_i b;exact absurd rfl (h3 b)
 ·rfl
theorem KW{v r:V}(h:BV s v=some r):BV (s.emb σ pre) (v.ren σ pre.length)=some (r.ren σ pre.length):=by
 by_cases h1:∃f es,v=.list f es
 ·obtain⟨f,es,rfl⟩:=h1;simp only[BV,Option.some.injEq]at h;subst h;simp[BV]
 by_cases h2:∃k n,v=.int k n
 ·obtain⟨k,n,rfl⟩:=h2;simp only[BV,Option.some.injEq]at h;subst h;simp[BV]
 by_cases h3:∃b,v=.bool b
 ·obtain⟨b,rfl⟩:=h3;simp only[BV,Option.some.injEq]at h;subst h;simp[BV]
 rw[WA (fun f es e=>h1 ⟨f,es,e⟩) (fun k n e=>h2 ⟨k,n,e⟩) (fun b e=>h3 ⟨b,e⟩)]at h;rw[WA (fun f es e=>by cases v<;>simp at e;exact h1 ⟨_,_,rfl⟩) (fun k n e=>by cases v<;>simp at e;exact h2 ⟨_,_,rfl⟩) (fun b e=>by cases v<;>simp at e;exact h3 ⟨_,rfl⟩)];exact J0 4 h
def GN{α β:Type}(f:α→Option β):List α→Option (List β)
 |[]=>some []
 |x::l=>match f x with
  |some y=>match GN f l with
   |some r=>some (y::r)
   |none=>none
  |none=>none
theorem LU{α β:Type}{f:α→Option β}{g:α→β}(h:∀x y,f x=some y→g x=y):∀{l:List α} {r:List β},GN f l=some r→l.map g=r
 |[],r,e=>by cases e;rfl
 |x::l,r,e=>by
  simp only[GN]at e;split at e
  ·rename_i y hy;split at e
   ·rename_i q hq;cases e;simp[h _ _ hy,LU h hq]
   ·cases e
  ·cases e
theorem LV{α β:Type}{f f':α→Option β}{a:α→α}{b:β→β}(h:∀x y,f x=some y→f' (a x)=some (b y)):∀{l:List α} {r:List β},GN f l=some r→GN f' (l.map a)=some (r.map b)
 |[],r,e=>by cases e;rfl
 |x::l,r,e=>by
  simp only[GN]at e;split at e
  ·rename_i y hy;split at e
   ·rename_i q hq;cases e;simp[GN,h _ _ hy,LV h hq]
   ·cases e
  ·cases e
noncomputable def CJ(s:St)(r:AX):Option AX:=match r with
 |.box cs=>match GN (BV s) cs with
  |some ds=>some (.box ds)
  |none=>none
 |.vec T es=>match GN (GN (BV s)) es with
  |some ds=>some (.vec T ds)
  |none=>none
 | .map es=>match GN (fun e:V×V=>match BV s e.1,BV s e.2 with
   |some a,some b=>some (a,b)
   | _,_=>none) es with
  |some ds=>some (.map ds)
  |none=>none
 |r=>some r
noncomputable def CK(s:St)(r:AX):AX:=match CJ s r with
 |some r'=>r'
 |none=>r
theorem ZT{r r':AX}(h:CJ s r=some r'):r'=r∨r'=G4 s r:=by
 unfold CJ at h;split at h
 ·split at h
  ·rename_i ds hd;cases h;exact .inr (by simp only[G4,LU (fun x y=>JF) hd])
  ·cases h
 ·split at h
  ·rename_i ds hd;cases h;exact .inr (by simp only[G4,LU (fun x y=>LU (fun x y=>JF)) hd])
  ·cases h
 ·split at h
  ·rename_i ds hd;cases h;refine .inr ?_;simp only[G4];rw[LU (g:=fun e=>(FG s e.1,FG s e.2)) (fun x y h=>?_) hd];split at h
   ·rename_i a b h1 h2;cases h;rw[JF h1,JF h2]
   ·cases h
  ·cases h
 ·cases h;exact .inl rfl
theorem K7{r r':AX}(h:CJ s r=some r'):CJ (s.emb σ pre) (r.ren σ pre.length)=some (r'.ren σ pre.length):=by
 cases r with
 |box cs=>
  simp only[CJ]at h
  split at h
  ·rename_i ds hd;cases h;simp[CJ,AX.ren,LV (fun x y=>KW (σ:=σ) (pre:=pre)) hd]
  ·cases h
 |vec T es=>
  simp only[CJ]at h
  split at h
  ·rename_i ds hd;cases h;simp[CJ,AX.ren,LV (fun x y=>LV (fun x y=>KW (σ:=σ) (pre:=pre))) hd]
  ·cases h
 |map es=>
  simp only[CJ]at h
  split at h
  ·rename_i ds hd;cases h;have:=LV (f':=fun e:V×V=>match BV (s.emb σ pre) e.1,BV (s.emb σ pre) e.2 with
    |some a,some b=>some (a,b)
    | _,_=>none) (a:=fun p:V×V=>(p.1.ren σ pre.length,p.2.ren σ pre.length)) (b:=fun p:V×V=>(p.1.ren σ pre.length,p.2.ren σ pre.length)) (fun x y h=>by
     split at h
     ·rename_i a b h1 h2;cases h;simp[KW h1,KW h2]
     ·cases h) hd
   simp[CJ,AX.ren,this]
  ·cases h
 |loop fr ps asg body N st=>simp only[CJ,Option.some.injEq]at h;subst h;rfl
 |dead=>simp only[CJ,Option.some.injEq]at h;subst h;rfl
theorem lN(r:AX):(CK s r).ren σ pre.length=r.ren σ pre.length∨(CK s r).ren σ pre.length=G4 (s.emb σ pre) (r.ren σ pre.length):=by
 unfold CK;split
 ·rename_i r' h;rcases ZT (K7 (σ:=σ) (pre:=pre) h)with h'|h'
  ·exact .inl h'
  ·exact .inr h'
 ·exact .inl rfl
noncomputable def AN(s:St)(L:AA):AA:=L.map fun p=>(p.1,p.2.1,CK s p.2.2)
theorem MU(s:St):∀(L:AA) (k:Nat),(AN s L).get k=(L.get k).map fun p=>(p.1,CK s p.2)
 |[],k=>rfl
 |(j,x)::L,k=>by
  have:=MU s L k;simp only[AN,List.map_cons,AA.get]at this⊢;split
  ·rfl
  ·exact this
theorem pI{rv:ResultVar}{v:V}(h:DO P fr s rv=some v):DO P (fr.ren σ pre.length) (s.emb σ pre) rv=some (v.ren σ pre.length):=by
 cases rv with
 |tmp t=>
  simp only[DO]at h⊢
  split at h
  ·rename_i e;cases h;simp[Fr.get_ren,e]
  ·cases h
 |cell ad T=>
  simp only[DO]at h⊢
  split at h
  ·rename_i p e;obtain⟨cs,h1,h2⟩:=Option.bind_eq_some_iff.1 h;simp[Fr.get_ren,e,V9 h1,dG h2]
  ·cases h
theorem OQ{rs:List ResultVar}{v:V}(h:F0 P rs fr s=some v):F0 P rs (fr.ren σ pre.length) (s.emb σ pre)=some (v.ren σ pre.length):=by
 have key:∀{rs:List ResultVar} {vs:List V},rs.mapM (DO P fr s)=some vs→rs.mapM (DO P (fr.ren σ pre.length) (s.emb σ pre))=some (vs.map (V.ren σ pre.length)):=by
  intro rs;induction rs with
  |nil=>intro vs e;simp at e;subst e;rfl
  |cons x l ih=>
   intro vs e
   simp only[List.mapM_cons,Option.bind_eq_bind,Option.bind_eq_some_iff,Option.pure_def,Option.some.injEq]at e
   obtain⟨y,h1,ys,h2,rfl⟩:=e
   simp[pI h1,ih h2]
 unfold F0 at h⊢;split at h
 ·rename_i x e;cases h;rw[key e];rfl
 ·rename_i vs hne e;cases h;rw[key e];cases vs with
  |nil=>simp
  |cons a r=>
   cases r with
   |nil=>exact absurd rfl (hne a)
   |cons b r=>simp
 ·cases h
theorem PT:∀(i:Nat) (vs:List V),AG i (vs.map (V.ren σ δ))=(AG i vs).ren σ δ
 |_,[]=>rfl
 |i,v::vs=>by simp[AG,Fr.ren,PT (i+1) vs]
end Go.Pg
