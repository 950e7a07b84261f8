/- Names and levels turned into others: what the operations give turns with them. No program in sight. -/
import Derived.Test.YthhdhbalenanjaaGreatP4
namespace Go.Pg
variable {P:Program}
variable {σ σ':Nat→Nat}{δ:Nat}
theorem PW:∀(l:List V),cD σ δ l=l.map (V.ren σ δ)
 |[]=>by simp[cD]
 |v::r=>by simp[cD,PW r]
theorem lO:∀(l:List (List V)),lC σ δ l=l.map (List.map (V.ren σ δ))
 |[]=>by simp[lC]
 |v::r=>by simp[lC,PW,lO r]
@[simp] theorem EL(k:IntKind)(n:Int):(V.int k n).ren σ δ=.int k n:=by simp[V.ren]
@[simp] theorem LR(b:Bool):(V.bool b).ren σ δ=.bool b:=by simp[V.ren]
@[simp] theorem BAB(v:Value):(V.raw v).ren σ δ=.raw v:=by simp[V.ren]
@[simp] theorem HF(cs:List V):(V.agg cs).ren σ δ=.agg (cs.map (V.ren σ δ)):=by simp[V.ren,PW]
@[simp] theorem KU(cs:List V):(V.tup cs).ren σ δ=.tup (cs.map (V.ren σ δ)):=by simp[V.ren,PW]
@[simp] theorem EZ(f:Bool)(es:List (List V)):(V.list f es).ren σ δ=.list f (es.map (List.map (V.ren σ δ))):=by simp[V.ren,lO]
@[simp] theorem MR(cs:List V):(V.ref cs).ren σ δ=.ref (cs.map (V.ren σ δ)):=by simp[V.ren,PW]
@[simp] theorem HG(l k g off:Nat):(V.ptr l k g off).ren σ δ=.ptr (l+δ) k (σ g) off:=by simp[V.ren]
@[simp] theorem OR(l k g i off:Nat):(V.eptr l k g i off).ren σ δ=.eptr (l+δ) k (σ g) i off:=by simp[V.ren]
@[simp] theorem HH(l k g n:Nat):(V.vec l k g n).ren σ δ=.vec (l+δ) k (σ g) n:=by simp[V.ren]
@[simp] theorem Q7(l k g:Nat):(V.mp l k g).ren σ δ=.mp (l+δ) k (σ g):=by simp[V.ren]
@[simp] theorem OS(f:FuncId)(xs ys:List V):(V.fn f xs ys).ren σ δ=.fn f (xs.map (V.ren σ δ)) (ys.map (V.ren σ δ)):=by simp[V.ren,PW]
@[simp] theorem gD(l k g:Nat):(V.yld l k g).ren σ δ=.yld (l+δ) k (σ g):=by simp[V.ren]
@[simp] theorem AJK:V.nil.ren σ δ=.nil:=by simp[V.ren]
@[simp] theorem BAC:V.any.ren σ δ=.any:=by simp[V.ren]
@[simp] theorem W7(l k g i n:Nat):(V.vtl l k g i n).ren σ δ=.vtl (l+δ) k (σ g) i n:=by simp[V.ren]
theorem MS{σ':Nat→Nat}{δ':Nat}:∀(v:V),(v.ren σ δ).ren σ' δ'=v.ren (fun γ=>σ' (σ γ)) (δ+δ')
 |.agg cs=>by simp only[HF,List.map_map];congr 1;exact List.map_congr_left fun v _=>MS v
 |.tup cs=>by simp only[KU,List.map_map];congr 1;exact List.map_congr_left fun v _=>MS v
 |.ref cs=>by simp only[MR,List.map_map];congr 1;exact List.map_congr_left fun v _=>MS v
 |.list b es=>by
  simp only[EZ,List.map_map];congr 1;refine List.map_congr_left fun e he=>?_;have hlt:=List.sizeOf_lt_of_mem he;simp only[Function.comp,List.map_map];exact List.map_congr_left fun v hv=>by have hlt2:=List.sizeOf_lt_of_mem hv;exact MS v
 |.fn f xs ys=>by
  simp only[OS,List.map_map];congr 1
  ·exact List.map_congr_left fun v _=>MS v
  ·exact List.map_congr_left fun v _=>MS v
 |.int k n=>by simp
 |.bool b=>by simp
 |.raw v=>by simp
 |.ptr l k g off=>by simp[Nat.add_assoc]
 |.eptr l k g i off=>by simp[Nat.add_assoc]
 |.vec l k g n=>by simp[Nat.add_assoc]
 |.mp l k g=>by simp[Nat.add_assoc]
 |.yld l k g=>by simp[Nat.add_assoc]
 |.nil=>by simp
 |.vtl l k g i n=>by simp[Nat.add_assoc]
 |.any=>by simp
decreasing_by all_goals first|(simp_wf;omega)|decreasing_tactic
def AZ.ren(σ:Nat→Nat)(δ:Nat):AZ→AZ
 |.box cs=>.box (cs.map (V.ren σ δ))
 |.vec T es=>.vec T (es.map (List.map (V.ren σ δ)))
 |.map es=>.map (es.map fun p=>(p.1.ren σ δ,p.2.ren σ δ))
 |.loop fr ps asg body N st=>.loop (fr.map fun p=>(p.1,p.2.1,p.2.2.ren σ δ)) ps asg body N st
 |.dead=>.dead
def AA.ren(σ:Nat→Nat)(δ:Nat)(L:AA):AA:=L.map fun p=>(p.1,σ p.2.1,p.2.2.ren σ δ)
def Fr.ren(σ:Nat→Nat)(δ:Nat)(fr:Fr):Fr:=fr.map fun p=>(p.1,p.2.1,p.2.2.ren σ δ)
def St.emb(σ:Nat→Nat)(pre:List AA)(s:St):St:=⟨pre++s.up.map (AA.ren σ pre.length),s.loc.ren σ pre.length⟩
theorem Fr.get_ren:∀(fr:Fr) (k:Nat),(fr.ren σ δ).get k=(fr.get k).map fun p=>(p.1,p.2.ren σ δ)
 |[],k=>rfl
 |(j,x)::fr,k=>by
  have:=Fr.get_ren fr k;simp only[Fr.ren,List.map_cons,Fr.get]at this⊢;split
  ·rfl
  ·exact this
theorem AA.get_ren:∀(L:AA) (k:Nat),(L.ren σ δ).get k=(L.get k).map fun p=>(σ p.1,p.2.ren σ δ)
 |[],k=>rfl
 |(j,x)::L,k=>by
  have:=AA.get_ren L k;simp only[AA.ren,List.map_cons,AA.get]at this⊢;split
  ·rfl
  ·exact this
variable {pre:List AA}{s:St}
theorem DB:(s.emb σ pre).up.length=s.up.length+pre.length:=by simp[St.emb,Nat.add_comm]
theorem B5(l k:Nat):(s.emb σ pre).get (l+pre.length) k=(s.get l k).map fun p=>(σ p.1,p.2.ren σ pre.length):=by
 unfold St.get;rw[DB];by_cases h:l=s.up.length
 ·rw[if_pos h,if_pos (by rw[h])];exact AA.get_ren _ _
 ·rw[if_neg h,if_neg (by omega)];simp only[St.emb];rw[List.getElem?_append_right (by omega),Nat.add_sub_cancel,List.getElem?_map];cases s.up[l]? with
  |none=>rfl
  |some L=>simp[AA.get_ren]
theorem ZZ{α:Type}(f:α→α)(M:List α)(l:Nat):∀(pre:List α),(pre++M).modify (l+pre.length) f=pre++M.modify l f
 |[]=>rfl
 |p::pre=>by have:=ZZ f M l pre;simp only[List.cons_append,List.length_cons,←Nat.add_assoc,List.modify_succ_cons,this]
theorem CR{l k g:Nat}{r:AZ}:(s.put l k g r).emb σ pre=(s.emb σ pre).put (l+pre.length) k (σ g) (r.ren σ pre.length):=by
 unfold St.put;rw[DB];by_cases h:l=s.up.length
 ·rw[if_pos h,if_pos (by rw[h])];simp[St.emb,AA.ren,AA.put]
 ·rw[if_neg h,if_neg (by omega)];simp only[St.emb,St.mk.injEq,and_true];rw[ZZ];congr 1;refine List.ext_getElem? fun i=>?_;simp only[List.getElem?_map,List.getElem?_modify];by_cases hi:l=i
  ·subst hi;cases s.up[l]? with
   |none=>rfl
   |some L=>simp[AA.ren,AA.put]
  ·simp[hi]
theorem Q8{u:Value}{v:V}(h:CP u=some v):v.ren σ δ=v:=by
 cases u with
 |int k n=>simp only[CP,Option.some.injEq]at h;subst h;simp
 |bool b=>simp only[CP,Option.some.injEq]at h;subst h;simp
 |agg cs=>simp[CP]at h
 |tuple cs=>simp[CP]at h
 |slice a n c=>
  unfold CP at h
  split at h<;>simp_all<;>subst h<;>simp
 |_=>simp only[CP,Option.some.injEq]at h;subst h;simp
theorem Q9:∀{l:List Value} {cs:List V},GJ l=some cs→cs.map (V.ren σ δ)=cs
 |[],cs,h=>by simp[GJ]at h;subst h;rfl
 |v::r,cs,h=>by
  unfold GJ at h;split at h
  ·rename_i x l h1 h2;cases h;simp[Q8 h1,Q9 h2]
  ·cases h
end Go.Pg
namespace Go.Pg
variable {P:Program}{σ:Nat→Nat}{δ:Nat}{pre:List AA}{s:St}{fr:Fr}{g:Bool}
theorem AC9(x:Operand):rd (fr.ren σ δ) x=(rd fr x).map fun p=>(p.1,p.2.ren σ δ):=by
 cases x with
 |tmp t=>exact Fr.get_ren fr t
 |const u=>
  simp only[rd]
  cases h:CP u with
  |none=>rfl
  |some v=>simp[Q8 h]
 |func f=>simp[rd]
 |global g=>rfl
theorem DL(x:Operand):DZ g (fr.ren σ δ) x=(DZ g fr x).map (V.ren σ δ):=by
 unfold DZ;rw[AC9];cases rd fr x with
 |none=>rfl
 |some p=>
  obtain⟨c,v⟩:=p
  simp only[Option.map_some]
  split<;>rfl
theorem H9(v:V):BA (v.ren σ δ)=BA v:=by cases v<;>simp[BA]
theorem ER(v:V):A9 (v.ren σ δ)=(A9 v).map (V.ren σ δ):=by cases v<;>simp[A9]
theorem xS(v:V):weakC (v.ren σ δ)=(weakC v).ren σ δ:=by cases v<;>simp[weakC]
theorem U7(v:V):weakV (v.ren σ δ)=(weakV v).ren σ δ:=by cases v<;>simp[weakV,xS]
theorem WE{p:V}{cs:List V}(h:A8 s p=some cs):A8 (s.emb σ pre) (p.ren σ pre.length)=some (cs.map (V.ren σ pre.length)):=by
 cases p with
 |ref ds=>simp only[A8,Option.some.injEq]at h;subst h;simp[A8]
 |ptr l k γ off=>
  simp only[A8]at h
  split at h
  ·rename_i γ' ds e;split at h
   ·rename_i eg;cases h;simp[A8,B5,e,AZ.ren,eg,List.map_drop]
   ·cases h
  ·cases h
 |eptr l k γ i off=>
  simp only[A8]at h
  split at h
  ·rename_i γ' T es e;split at h
   ·rename_i eg;obtain⟨x,hx,rfl⟩:=Option.map_eq_some_iff.1 h;simp[A8,B5,e,AZ.ren,eg,hx,List.map_drop]
   ·cases h
  ·cases h
 |_=>cases h
theorem dN{T:TypeId}{cs:List V}{v:V}(h:BL P T cs=some v):BL P T (cs.map (V.ren σ δ))=some (v.ren σ δ):=by
 unfold BL at h⊢;split at h
 ·split at h
  ·rename_i hc;cases h;simp[hc,List.map_take]
  ·cases h
 ·split at h
  ·rename_i hc;cases h;simp[hc,List.map_take]
  ·cases h
 ·simp only[List.getElem?_map,h,Option.map_some]
 ·cases h
theorem dO{U:TypeId}{cs:List V}{off:Nat}{v:V}(h:M8 P U cs off=some v):M8 P U (cs.map (V.ren σ δ)) off=some (v.ren σ δ):=by
 unfold M8 at h⊢;split at h
 ·split at h
  ·rename_i hc;cases h;simp[hc,List.map_take,List.map_drop]
  ·cases h
 ·split at h
  ·rename_i hc;cases h;simp[hc,List.map_take,List.map_drop]
  ·cases h
 ·simp only[List.getElem?_map,h,Option.map_some]
 ·cases h
theorem lP{T:TypeId}{x v:V}{f:Nat}(h:IF P T x f=some v):IF P T (x.ren σ δ) f=some (v.ren σ δ):=by
 unfold IF at h;split at h
 ·rename_i cs U off e;simp[IF,e,dO h]
 ·cases h
theorem WT{T:TypeId}{x v:V}{f:Nat}(h:C7 P T x f=some v):C7 P T (x.ren σ δ) f=some (v.ren σ δ):=by
 unfold C7 at h;split at h
 ·rename_i U off e;split at h
  ·cases h
  ·rename_i hz;split at h<;>first
    |(cases h;done)
    |(cases h;simp[C7,e,hz,List.map_drop])
 ·cases h
theorem E8(es:List (List V))(j:Nat):(es.map (List.map (V.ren σ δ))).getD j []=(es.getD j []).map (V.ren σ δ):=by simp only[List.getD_eq_getElem?_getD,List.getElem?_map];cases es[j]?<;>rfl
theorem WU{T:TypeId}{x i v:V}(h:BS P s T x i=some v):BS P (s.emb σ pre) T (x.ren σ pre.length) (i.ren σ pre.length)=some (v.ren σ pre.length):=by
 unfold BS at h;split at h
 ·rename_i e f es k j e1;split at h
  ·rename_i hc;cases h;obtain⟨c1,c2,c3,c4⟩:=hc;simp only[EZ,EL,BS,e1,List.length_map,E8,MR];rw[if_pos ⟨c1,c2,c3,c4⟩]
  ·cases h
 ·rename_i e l k γ n k' j e1;split at h
  ·rename_i γ' U es e2;split at h
   ·rename_i hc;cases h;obtain⟨c1,c2,c3,c4,c5,c6⟩:=hc;subst c1;simp only[HH,EL,BS,e1,B5,e2,Option.map_some,AZ.ren,List.length_map,E8,OR];rw[if_pos ⟨trivial,c2,c3,c4,c5,c6⟩]
   ·cases h
  ·cases h
 ·rename_i n e cs k j e1;split at h
  ·rename_i hc;cases h;simp only[MR,EL,BS,e1,if_pos hc,List.map_drop]
  ·cases h
 ·rename_i n e l k γ o k' j e1;split at h
  ·rename_i hc;cases h;simp only[HG,EL,BS,e1,if_pos hc]
  ·cases h
 ·rename_i n e l k γ i' o k' j e1;split at h
  ·rename_i hc;cases h;simp only[OR,EL,BS,e1,if_pos hc]
  ·cases h
 ·cases h
theorem lQ{T:TypeId}{x i v:V}(h:JC P T x i=some v):JC P T (x.ren σ δ) (i.ren σ δ)=some (v.ren σ δ):=by
 unfold JC at h;split at h
 ·rename_i n e cs k j e1;split at h
  ·rename_i hc;simp only[HF,EL,JC,e1,if_pos hc,dO h]
  ·cases h
 ·cases h
theorem pR{S D:TypeId}{x v:V}(h:K5 P S D x=some v):K5 P S D (x.ren σ δ)=some (v.ren σ δ):=by
 unfold K5 at h;split at h
 ·rename_i e1 e2;cases h;simp[K5,e1,e2]
 ·cases h
theorem ADA{op:UnOp}{x v:V}(h:bV op x=some v):bV op (x.ren σ δ)=some (v.ren σ δ):=by unfold bV at h;split at h<;>first|(cases h;done)|(cases h;simp[bV])
theorem xT{x v:V}(h:M9 x=some v):M9 (x.ren σ δ)=some (v.ren σ δ):=by cases x<;>simp[M9]at h<;>subst h<;>simp[M9]
theorem cF{x v:V}{i:Nat}(h:FY x i=some v):FY (x.ren σ δ) i=some (v.ren σ δ):=by cases x<;>simp[FY]at h;simp[FY,h]
theorem xU{T:TypeId}{x v:V}(h:HX P T x=some v):HX P T (x.ren σ δ)=some (v.ren σ δ):=by
 unfold HX at h;split at h
 ·rename_i e f es hu;cases h;simp[HX,hu]
 ·rename_i e l k g n hu;cases h;simp[HX,hu]
 ·rename_i e hu;cases h;simp[HX,hu]
 ·rename_i n e hu;cases h;unfold HX;rw[hu];simp
 ·cases h
theorem AJL{n m:Nat}{h:Option V}(e:hiN n h=some m):hiN n (h.map (V.ren σ δ))=some m:=by
 cases h with
 |none=>exact e
 |some a=>cases a<;>first|(simp only[Option.map_some,EL];exact e)|(simp[hiN]at e)
theorem lR{T:TypeId}{x v:V}{lo hi mx:Option V}(h:B4 P s T x lo hi mx=some v):B4 P (s.emb σ pre) T (x.ren σ pre.length) (lo.map (V.ren σ pre.length)) (hi.map (V.ren σ pre.length)) (mx.map (V.ren σ pre.length))=some (v.ren σ pre.length):=by
 unfold B4 at h;split at h
 ·rename_i e f es k h' e1;split at h
  ·rename_i hc;cases h;simp only[EZ,Option.map_some,EL,Option.map_none,B4,e1,List.length_map,if_pos hc,List.map_take]
  ·cases h
 ·rename_i e f es k l e1;split at h
  ·rename_i hc;cases h;have:(es.map (List.map (V.ren σ pre.length))).all (fun x=>x.length==P.cellsOf e)=true:=by rw[List.all_map];exact hc.2.2.2▸(by congr 1;funext x;simp)
   simp only[EZ,Option.map_some,EL,Option.map_none,B4,e1,List.length_map,if_pos (⟨hc.1,hc.2.1,hc.2.2.1,this⟩:_∧_∧_∧_),List.map_drop]
  ·cases h
 ·rename_i e f es k l k' h' e1;split at h
  ·rename_i hc;cases h;have:(es.map (List.map (V.ren σ pre.length))).all (fun x=>x.length==P.cellsOf e)=true:=by rw[List.all_map];exact hc.2.2.2.2▸(by congr 1;funext x;simp)
   simp only[EZ,Option.map_some,EL,Option.map_none,B4,e1,List.length_map,if_pos (⟨hc.1,hc.2.1,hc.2.2.1,hc.2.2.2.1,this⟩:_∧_∧_∧_∧_),List.map_drop,List.map_take]
  ·cases h
 ·rename_i e f es k h' k' m e1;split at h
  ·rename_i hc;cases h;simp only[EZ,Option.map_some,EL,Option.map_none,B4,e1,if_pos hc,List.map_nil]
  ·cases h
 ·rename_i e l k g n k' h' e1;split at h
  ·rename_i hc;cases h;simp only[HH,Option.map_some,EL,Option.map_none,B4,e1,if_pos hc]
  ·cases h
 ·rename_i e l k g n k' i e1;split at h
  ·rename_i g' T' es hget;split at h
   ·rename_i hc;obtain⟨rfl,h1,h2,h3,h4,h5⟩:=hc;cases h;have:(es.map (List.map (V.ren σ pre.length))).all (fun x=>x.length==P.cellsOf e)=true:=by rw[List.all_map];exact h1▸(by congr 1;funext x;simp)
    simp only[HH,W7,Option.map_some,EL,Option.map_none,B4,e1,B5,hget,AZ.ren];rw[if_pos ⟨trivial,this,by simpa using h2,h3,h4,h5⟩]
   ·cases h
  ·cases h
 ·rename_i n e l k g o e1;split at h
  ·rename_i g' cs m hget hm;split at h
   ·rename_i hc;obtain⟨rfl,h1,h2⟩:=hc;cases h;simp only[HG,W7,Option.map_none,B4,e1,B5,hget,AZ.ren,Option.map_some,AJL hm];rw[if_pos ⟨trivial,h1,by simpa using h2⟩]
   ·cases h
  ·cases h
 ·cases h
theorem xV{x y v:V}(h:TD x y=some v):TD (x.ren σ δ) (y.ren σ δ)=some (v.ren σ δ):=by
 unfold TD at h;split at h
 ·split at h
  ·rename_i hk;cases h;simp[TD,hk]
  ·cases h
 ·cases h
theorem xW{x y v:V}(h:TE x y=some v):TE (x.ren σ δ) (y.ren σ δ)=some (v.ren σ δ):=by
 unfold TE at h;split at h
 ·split at h
  ·rename_i hk;cases h;simp[TE,hk]
  ·cases h
 ·cases h
theorem xX{op:BinOp}{k:IntKind}{a b:Int}{v:V}(h:EX op k a b=some v):v.ren σ δ=v:=by
 unfold EX at h;split at h<;>first
  |(cases h;simp;done)
  |(split at h<;>first|(cases h;done)|(cases h;simp;done))
  |(obtain⟨r,_,rfl⟩:=Option.map_eq_some_iff.1 h;simp)
theorem MT:∀(cs:List V),D2 (cs.map (V.ren σ δ))=D2 cs
 |[]=>rfl
 |c::cs=>by have ih:=MT cs;cases c<;>simp[D2,ih]
theorem ADB{op:BinOp}{k:IntKind}{a b:Int}{v:V}(h:YW op k a b=some v):v.ren σ δ=v:=by
 cases op<;>simp only[YW]at h;case shl=>split at h<;>cases h;simp
 case shr=>split at h<;>cases h;simp
 all_goals cases h
theorem xY{op:BinOp}{T:TypeId}{x y v:V}(h:G8 P op T x y=some v):G8 P op T (x.ren σ δ) (y.ren σ δ)=some (v.ren σ δ):=by
 unfold G8 at h;split at h
 ·split at h
  ·rename_i hk;simp only[EL,G8,if_pos hk,h,xX h]
  ·rename_i hk;simp only[EL,G8,if_neg hk,h,ADB h]
 ·split at h
  ·rename_i hk;have hv:v.ren σ δ=v:=by split at h<;>first|(cases h;done)|(cases h;simp)
   rw[hv];simp only[LR,G8,if_pos hk];exact h
  ·cases h
 ·rename_i cs ds;have he:OH P T (cs.map (V.ren σ δ)) (ds.map (V.ren σ δ))=OH P T cs ds:=by unfold OH;rw[MT,MT]
  have hv:v.ren σ δ=v:=by
   split at h
   ·obtain⟨r,_,rfl⟩:=Option.map_eq_some_iff.1 h;simp
   ·obtain⟨r,_,rfl⟩:=Option.map_eq_some_iff.1 h;simp
   ·cases h
  rw[hv];simp only[HF,G8,he];exact h
 ·rename_i x' _;have hi:I2 (x.ren σ δ)=I2 x:=by
   cases x with
   |list f es=>cases es<;>simp[I2]
   |vec l k g n=>cases n<;>simp[I2]
   |vtl l k g i n=>cases n<;>simp[I2]
   |_=>simp[I2]
  have hb:∀y:V,G8 P op T y .nil=if DO P T then(match op with
   |.eql=>(I2 y).map V.bool
   |.neq=>(I2 y).map fun b=>V.bool !b
   | _=>none) else none:=fun y=>by cases y <;> rfl
  have hv:v.ren σ δ=v:=by
   split at h
   ·split at h
    ·obtain⟨r,_,rfl⟩:=Option.map_eq_some_iff.1 h;simp
    ·obtain⟨r,_,rfl⟩:=Option.map_eq_some_iff.1 h;simp
    ·cases h
   ·cases h
  rw[hv,AJK,hb,hi];exact h
 ·cases h
theorem U8:∀{cs:List V} {l:List Value},D2 cs=some l→cs.map (V.ren σ δ)=cs
 |[],_,_=>rfl
 |c::cs,l,h=>by
  cases c with
  |int k n=>
   simp only[D2]at h
   split at h
   ·rename_i r hr;simp[U8 hr]
   ·cases h
  |bool b=>
   simp only[D2]at h
   split at h
   ·rename_i r hr;simp[U8 hr]
   ·cases h
  |_=>simp[D2]at h
theorem Z0{K:TypeId}(v:V):bW P K (v.ren σ δ)=bW P K v:=by
 cases v with
 |agg cs=>
  simp only[HF,bW,MT]
  split
  ·rename_i l hl;rw[U8 hl]
  ·rfl
 |_=>simp[bW]
theorem U9{K:TypeId}{ks:List V}:∀(es:List (V×V)) (i:Nat),TC P K ks (es.map fun p=>(p.1.ren σ δ,p.2.ren σ δ)) i=TC P K ks es i
 |[],_=>rfl
 |(k,v)::es,i=>by simp only[List.map_cons,TC,Z0,U9 es]
theorem pS{T:TypeId}{z:V}(h:YZ P T=some z):z.ren σ δ=z:=by
 unfold YZ at h;split at h
 ·split at h
  ·rename_i cs hz;cases h;simp[Q9 hz]
  ·cases h
 ·exact Q8 h
 ·cases h
theorem gE{T:TypeId}{x k v:V}{ok:Bool}(h:EJ P s T x k ok=some v):EJ P (s.emb σ pre) T (x.ren σ pre.length) (k.ren σ pre.length) ok=some (v.ren σ pre.length):=by
 unfold EJ at h;split at h
 ·rename_i K E l q g hm;split at h
  ·rename_i g' es hget;split at h
   ·rename_i hc;obtain⟨rfl,hT⟩:=hc;split at h
    ·rename_i ks hks;simp only[Q7,EJ,hm,B5,hget,Option.map_some,AZ.ren,Z0,hks,U9,if_pos (⟨trivial,hT⟩:True∧_)];split at h
     ·rename_i hf;obtain⟨z,hz,rfl⟩:=Option.map_eq_some_iff.1 h;simp only[hz,Option.map_some];cases ok<;>simp[pS hz]
     ·rename_i i hf;obtain⟨e,he,rfl⟩:=Option.map_eq_some_iff.1 h;simp only[List.getElem?_map,he,Option.map_some];cases ok<;>simp
     ·cases h
    ·cases h
   ·cases h
  ·cases h
 ·cases h
theorem VA{T:TypeId}{x k v:V}{l q γ:Nat}{es:List (V×V)}(h:QN P s T x k v=some (l,q,γ,es)):QN P (s.emb σ pre) T (x.ren σ pre.length) (k.ren σ pre.length) (v.ren σ pre.length)=some (l+pre.length,q,σ γ,es.map fun p=>(p.1.ren σ pre.length,p.2.ren σ pre.length)):=by
 unfold QN at h;split at h
 ·rename_i K E l q g hm;split at h
  ·rename_i g' es hget;split at h
   ·rename_i hc;obtain⟨rfl,hT⟩:=hc;split at h
    ·rename_i ks hks;simp only[Q7,QN,hm,B5,hget,Option.map_some,AZ.ren,Z0,hks,U9,if_pos (⟨trivial,hT⟩:True∧_)];split at h
     ·rename_i hf;cases h;simp
     ·rename_i i hf;cases h;simp[List.map_set]
     ·cases h
    ·cases h
   ·cases h
  ·cases h
 ·cases h
theorem IY{r:Operand→Option V}:∀{l:List Operand} {vs:List V},l.mapM r=some vs→l.mapM (fun x=>(r x).map (V.ren σ δ))=some (vs.map (V.ren σ δ))
 |[],vs,h=>by simp at h;subst h;rfl
 |x::l,vs,h=>by simp only[List.mapM_cons,Option.bind_eq_bind,Option.bind_eq_some_iff,Option.pure_def,Option.some.injEq]at h;obtain⟨v,h1,us,h2,rfl⟩:=h;simp[h1,IY h2]
theorem AJM{o:Oper}{r:Operand→Option V}{v:V}(h:IQ P o s r=some v):IQ P o (s.emb σ pre) (fun x=>(r x).map (V.ren σ pre.length))=some (v.ren σ pre.length):=by
 unfold IQ at h⊢;split at h<;>(try simp only[Option.bind_eq_some_iff]at h);case h_1=>simp[h]
 case h_2=>simp[h]
 case h_3=>obtain⟨a,h1,h2⟩:=h;simp[h1,xT h2]
 case h_4=>obtain⟨a,h1,b,h2,h3⟩:=h;simp[h1,WE h2,dN h3]
 case h_5=>obtain⟨a,h1,b,h2,h3⟩:=h;simp[h1,h2,xY h3]
 case h_6=>obtain⟨a,h1,h2⟩:=h;simp[h1,ADA h2]
 case h_7=>obtain⟨a,h1,h2⟩:=h;simp[h1,pR h2]
 case h_8=>obtain⟨a,h1,h2⟩:=h;simp[h1,WT h2]
 case h_9=>obtain⟨a,h1,h2⟩:=h;simp[h1,lP h2]
 case h_10=>obtain⟨a,h1,b,h2,h3⟩:=h;simp[h1,h2,WU h3]
 case h_11=>obtain⟨a,h1,b,h2,h3⟩:=h;simp[h1,h2,lQ h3]
 case h_12=>obtain⟨a,h1,h2⟩:=h;simp[h1,cF h2]
 case h_13=>
  split at h
  ·rename_i e1 e2;simp only[Option.bind_eq_some_iff]at h;obtain⟨a,h1,h2⟩:=h;simp[h1,xU h2]
  ·cases h
 case h_14=>
  split at h
  ·simp only[Option.bind_eq_some_iff]at h;obtain⟨a,h1,b,h2,h3⟩:=h;simp[h1,h2,xV h3]
  ·cases h
 case h_15=>
  split at h
  ·simp only[Option.bind_eq_some_iff]at h;obtain⟨a,h1,b,h2,h3⟩:=h;simp[h1,h2,xW h3]
  ·cases h
 case h_16 T x lo hi mx ho=>
  obtain⟨a,h1,l,h2,u,h3,m,h4,h5⟩:=h
  have key:∀(z:Option Operand) (q:Option V),(match z with|none=>some none|some y=>(r y).map some)=some q→(z=none∧q=none)∨∃y b,z=some y∧r y=some b∧q=some b:=by
   intro z q hz;cases z with
   |none=>cases hz;exact .inl ⟨rfl,rfl⟩
   |some y=>
    obtain⟨b,hb,rfl⟩:=Option.map_eq_some_iff.1 hz
    exact .inr ⟨y,b,rfl,hb,rfl⟩
  have h6:=lR (σ:=σ) (pre:=pre) h5
  rcases key lo l h2 with⟨rfl,rfl⟩|⟨y1,b1,rfl,q1,rfl⟩<;>rcases key hi u h3 with⟨rfl,rfl⟩|⟨y2,b2,rfl,q2,rfl⟩<;>rcases key mx m h4 with⟨rfl,rfl⟩|⟨y3,b3,rfl,q3,rfl⟩<;>simp_all
 case h_17=>obtain⟨a,h1,b,h2,h3⟩:=h;simp[h1,h2,gE h3]
 case h_18 f first captured ho=>
  obtain⟨a,h1,b,h2,h3⟩:=h
  cases h3
  simp[IY h1,IY h2]
 case h_19=>cases h
end Go.Pg
namespace Go.Pg
variable {P:Program}{σ:Nat→Nat}{δ:Nat}{pre:List AA}{s:St}{fr:Fr}{g:Bool}
theorem GR{T:TypeId}{z:List V}(h:BW P T=some z):z.map (V.ren σ δ)=z:=by
 unfold BW at h;split at h
 ·exact Q9 h
 ·cases h
theorem C8{α β:Type}(f:α→β)(cs ds:List α)(off:Nat):A4 (cs.map f) off (ds.map f)=(A4 cs off ds).map f:=by simp[A4,List.map_take,List.map_drop]
theorem PX{place:Nat→Option (Nat×Nat)}:∀{ps:List (Nat×V)} {cs ds:List V},CZ place cs ps=some ds→CZ place (cs.map (V.ren σ δ)) (ps.map fun p=>(p.1,p.2.ren σ δ))=some (ds.map (V.ren σ δ))
 |[],cs,ds,h=>by simp[CZ]at h;subst h;rfl
 |(i,v)::r,cs,ds,h=>by
  simp only[CZ]at h;split at h
  ·cases h
  ·rename_i off size e;split at h
   ·rename_i hc;have:=PX h;simp only[List.map_cons,CZ,e,ER,List.length_map];rw[if_pos hc,C8];exact this
   ·cases h
theorem MU(ps:List (Nat×V)):((ps.map fun p=>(p.1,p.2.ren σ δ)).all fun p=>BA p.2)=ps.all fun p=>BA p.2:=by rw[List.all_map];congr 1;funext p;exact H9 p.2
theorem lS{T:TypeId}{ps:List (Nat×V)}{v:V}(h:CI P T ps=some v):CI P T (ps.map fun p=>(p.1,p.2.ren σ δ))=some (v.ren σ δ):=by
 unfold CI at h⊢;split at h
 ·rename_i z fs e1 e2;simp only[MU];split at h
  ·rename_i hc;obtain⟨cs,h1,rfl⟩:=Option.map_eq_some_iff.1 h;have:=PX (σ:=σ) (δ:=δ) h1;rw[GR e1]at this;rw[if_pos hc,this];simp
  ·cases h
 ·rename_i z n e e1 e2;simp only[MU];split at h
  ·rename_i hc;obtain⟨cs,h1,rfl⟩:=Option.map_eq_some_iff.1 h;have:=PX (σ:=σ) (δ:=δ) h1;rw[GR e1]at this;rw[if_pos hc,this];simp
  ·cases h
 ·cases h
theorem Z1{β:Type}(f:V→V)(size:Nat):∀(n:Nat) (cs:List V),CQ size (cs.map f) n=(CQ size cs n).map (List.map f)
 |0,_=>rfl
 |n+1,cs=>by simp only[CQ,List.map_cons,List.map_take];rw[←List.map_drop,Z1 (β:=β) f size n]
theorem VB{T:TypeId}{len:Nat}{ps:List (Nat×V)}{v:V}(h:B8 P T len ps=some v):B8 P T len (ps.map fun p=>(p.1,p.2.ren σ δ))=some (v.ren σ δ):=by
 unfold B8 at h⊢;split at h
 ·rename_i e e1;split at h
  ·rename_i z e2;split at h
   ·rename_i hc;obtain⟨cs,h1,rfl⟩:=Option.map_eq_some_iff.1 h;have:=PX (σ:=σ) (δ:=δ) h1;have hz:(List.replicate len z).flatten.map (V.ren σ δ)=(List.replicate len z).flatten:=by rw[List.map_flatten,List.map_replicate,GR e2]
    rw[hz]at this;simp only[MU];rw[if_pos hc,this];simp[Z1 (β:=Nat)]
   ·cases h
  ·cases h
 ·cases h
theorem RA{r:Operand→Option V}:∀{l:List (Nat×Operand)} {ps:List (Nat×V)},C4 r l=some ps→C4 (fun x=>(r x).map (V.ren σ δ)) l=some (ps.map fun p=>(p.1,p.2.ren σ δ))
 |[],ps,h=>by simp[C4]at h;subst h;rfl
 |(i,x)::l,ps,h=>by
  simp only[C4]at h;split at h
  ·rename_i v us h1 h2;cases h;simp[C4,h1,RA h2]
  ·cases h
theorem GS{v:V}{es:List (List V)}(h:elemsOf s v=some es):elemsOf (s.emb σ pre) (v.ren σ pre.length)=some (es.map (List.map (V.ren σ pre.length))):=by
 cases v with
 |list f ds=>simp only[elemsOf,Option.some.injEq]at h;subst h;simp[elemsOf]
 |vec l k γ n=>
  simp only[elemsOf]at h
  split at h
  ·rename_i γ' T ds e;split at h
   ·rename_i hc;cases h;simp[elemsOf,B5,e,AZ.ren,hc.1,hc.2,List.map_take]
   ·cases h
  ·cases h
 |vtl l k γ i n=>
  simp only[elemsOf]at h
  split at h
  ·rename_i γ' cs e;split at h
   ·rename_i hc;cases h;simp[elemsOf,B5,e,AZ.ren,hc.1,hc.2,List.map_take,List.map_drop,Function.comp_def]
   ·cases h
  ·cases h
 |nil=>simp only[elemsOf,Option.some.injEq]at h;subst h;simp[elemsOf]
 |_=>cases h
theorem JE:DZ g (fr.ren σ δ)=fun x=>(DZ g fr x).map (V.ren σ δ):=by funext x;exact DL x
theorem IZ{o:Oper}{v:V}(h:FN P g o fr s=some v):FN P g o (fr.ren σ pre.length) (s.emb σ pre)=some (v.ren σ pre.length):=by
 unfold FN at h⊢;split at h
 ·rename_i c x y ho;split at h
  ·rename_i c' ca va cb vb e1 e2 e3;split at h
   ·rename_i hc;cases h;simp only[DL,AC9,e1,e2,e3,Option.map_some,LR];rw[if_pos hc]
   ·cases h
  ·cases h
 ·rename_i T parts ho;obtain⟨ps,h1,h2⟩:=Option.bind_eq_some_iff.1 h;rw[JE,RA h1];exact lS h2
 ·rename_i T len parts ho;obtain⟨ps,h1,h2⟩:=Option.bind_eq_some_iff.1 h;rw[JE,RA h1];exact VB h2
 ·rw[JE];exact AJM h
def A2(s:St):Nat→V→Option V
 |0,_=>none
 |f+1,v=>match v with
  |.list _ es=>some (.list false es)
  | .vec l k g m=>if l=s.up.length then(match s.loc.get k with
    |some (g',.vec _ es)=>if g'=g∧m≤es.length then some (.list false (es.take m)) else none
    | _=>none) else some v
  | .ptr l k g off=>if l=s.up.length then(match s.loc.get k with
    |some (g',.box cs)=>if g'=g then(cs.mapM (A2 s f)).map fun ds=>.ref (ds.drop off) else none
    | _=>none) else some v
  |.agg cs=>(cs.mapM (A2 s f)).map .agg
  |.tup cs=>(cs.mapM (A2 s f)).map .tup
  |.fn g xs ys=>match xs.mapM (A2 s f),ys.mapM (A2 s f)with
   |some a,some b=>some (.fn g a b)
   |_,_=>none
  |v=>some v
theorem GU{α β:Type}{f:α→Option β}{g:α→β}(h:∀x y,f x=some y→g x=y):∀{l:List α} {r:List β},l.mapM f=some r→l.map g=r
 |[],r,e=>by simp at e;subst e;rfl
 |x::l,r,e=>by simp only[List.mapM_cons,Option.bind_eq_bind,Option.bind_eq_some_iff,Option.pure_def,Option.some.injEq]at e;obtain⟨y,h1,ys,h2,rfl⟩:=e;simp[h x y h1,GU h h2]
theorem OT:∀(f:Nat) {v r:V},A2 s f v=some r→DD s f v=r
 |0,v,r,h=>by cases h
 |f+1,v,r,h=>by
  have ih:=fun v r=>OT f (v:=v) (r:=r);cases v with
  |list b es=>simpa [A2,DD]using h
  |vec l k g m=>
   simp only[A2]at h
   simp only[DD]
   split at h
   ·rename_i hl;rw[if_pos hl];split at h
    ·rename_i g' T es e;split at h
     ·rename_i hc;rw[e];simp only[if_pos hc];exact Option.some.inj h
     ·cases h
    ·cases h
   ·rename_i hl;rw[if_neg hl];exact Option.some.inj h
  |ptr l k g off=>
   simp only[A2]at h
   simp only[DD]
   split at h
   ·rename_i hl;rw[if_pos hl];split at h
    ·rename_i g' cs e;split at h
     ·rename_i hc;obtain⟨ds,h1,rfl⟩:=Option.map_eq_some_iff.1 h;rw[e];simp only[if_pos hc,GU ih h1]
     ·cases h
    ·cases h
   ·rename_i hl;rw[if_neg hl];exact Option.some.inj h
  |agg cs=>
   obtain⟨ds,h1,rfl⟩:=Option.map_eq_some_iff.1 h
   simp only[DD,GU ih h1]
  |tup cs=>
   obtain⟨ds,h1,rfl⟩:=Option.map_eq_some_iff.1 h
   simp only[DD,GU ih h1]
  |fn g xs ys=>
   simp only[A2]at h
   split at h
   ·rename_i a b h1 h2;cases h;simp only[DD,GU ih h1,GU ih h2]
   ·cases h
  |_=>simpa [A2,DD]using h
theorem F2{f f':V→Option V}(h:∀v r,f v=some r→f' (v.ren σ δ)=some (r.ren σ δ)):∀{l r:List V},l.mapM f=some r→(l.map (V.ren σ δ)).mapM f'=some (r.map (V.ren σ δ))
 |[],r,e=>by simp at e;subst e;rfl
 |x::l,r,e=>by simp only[List.mapM_cons,Option.bind_eq_bind,Option.bind_eq_some_iff,Option.pure_def,Option.some.injEq]at e;obtain⟨y,h1,ys,h2,rfl⟩:=e;simp[h x y h1,F2 h h2]
theorem KV(k:Nat):(s.emb σ pre).loc.get k=(s.loc.get k).map fun p=>(σ p.1,p.2.ren σ pre.length):=AA.get_ren _ _
theorem J1:∀(f:Nat) {v r:V},A2 s f v=some r→A2 (s.emb σ pre) f (v.ren σ pre.length)=some (r.ren σ pre.length)
 |0,v,r,h=>by cases h
 |f+1,v,r,h=>by
  have ih:=fun v r=>J1 f (v:=v) (r:=r);cases v with
  |list b es=>simp only[A2,Option.some.injEq]at h;subst h;simp[A2]
  |vec l k g m=>
   simp only[A2]at h
   split at h
   ·rename_i hl;split at h
    ·rename_i g' T es e;split at h
     ·rename_i hc;cases h;simp[A2,DB,KV,hl,e,AZ.ren,hc.1,hc.2,List.map_take]
     ·cases h
    ·cases h
   ·rename_i hl;cases h;have:¬l+pre.length=s.up.length+pre.length:=by omega
    simp[A2,DB,hl]
  |ptr l k g off=>
   simp only[A2]at h
   split at h
   ·rename_i hl;split at h
    ·rename_i g' cs e;split at h
     ·rename_i hc;obtain⟨ds,h1,rfl⟩:=Option.map_eq_some_iff.1 h;have:=F2 ih h1;simp[A2,DB,KV,hl,e,AZ.ren,hc,this,List.map_drop]
     ·cases h
    ·cases h
   ·rename_i hl;cases h;simp[A2,DB,hl]
  |agg cs=>
   obtain⟨ds,h1,rfl⟩:=Option.map_eq_some_iff.1 h
   simp[A2,F2 ih h1]
  |tup cs=>
   obtain⟨ds,h1,rfl⟩:=Option.map_eq_some_iff.1 h
   simp[A2,F2 ih h1]
  |fn g xs ys=>
   simp only[A2]at h
   split at h
   ·rename_i a b h1 h2;cases h;simp[A2,F2 ih h1,F2 ih h2]
   ·cases h
  |_=>simp only[A2,Option.some.injEq]at h;subst h;simp[A2]
noncomputable def BT(s:St)(v:V):Option V:=match v with
 |.list f es=>some (.list f es)
 |.int k n=>some (.int k n)
 |.bool b=>some (.bool b)
 |v=>A2 s 4 v
theorem JF{v r:V}(h:BT s v=some r):FM s v=r:=by
 unfold BT at h;unfold FM;split at h
 ·simpa using h
 ·simpa [DD]using h
 ·simpa [DD]using h
 ·rename_i h1 h2 h3;split
  ·rename_i f es;exact absurd rfl (h1 f es)
  ·exact OT 4 h
theorem WF{v:V}(h1:∀f es,v≠.list f es)(h2:∀k n,v≠.int k n)(h3:∀b,v≠.bool b):BT s v=A2 s 4 v:=by
 unfold BT;split
 ·rename_i f es;exact absurd rfl (h1 f es)
 ·rename_i k n;exact absurd rfl (h2 k n)
 ·rename_i b;exact absurd rfl (h3 b)
 ·rfl
theorem KW{v r:V}(h:BT s v=some r):BT (s.emb σ pre) (v.ren σ pre.length)=some (r.ren σ pre.length):=by
 by_cases h1:∃f es,v=.list f es
 ·obtain⟨f,es,rfl⟩:=h1;simp only[BT,Option.some.injEq]at h;subst h;simp[BT]
 by_cases h2:∃k n,v=.int k n
 ·obtain⟨k,n,rfl⟩:=h2;simp only[BT,Option.some.injEq]at h;subst h;simp[BT]
 by_cases h3:∃b,v=.bool b
 ·obtain⟨b,rfl⟩:=h3;simp only[BT,Option.some.injEq]at h;subst h;simp[BT]
 rw[WF (fun f es e=>h1 ⟨f,es,e⟩) (fun k n e=>h2 ⟨k,n,e⟩) (fun b e=>h3 ⟨b,e⟩)]at h;rw[WF (fun f es e=>by cases v<;>simp at e;exact h1 ⟨_,_,rfl⟩) (fun k n e=>by cases v<;>simp at e;exact h2 ⟨_,_,rfl⟩) (fun b e=>by cases v<;>simp at e;exact h3 ⟨_,rfl⟩)];exact J1 4 h
def GV{α β:Type}(f:α→Option β):List α→Option (List β)
 |[]=>some []
 |x::l=>match f x with
  |some y=>match GV f l with
   |some r=>some (y::r)
   |none=>none
  |none=>none
theorem LU{α β:Type}{f:α→Option β}{g:α→β}(h:∀x y,f x=some y→g x=y):∀{l:List α} {r:List β},GV f l=some r→l.map g=r
 |[],r,e=>by cases e;rfl
 |x::l,r,e=>by
  simp only[GV]at e;split at e
  ·rename_i y hy;split at e
   ·rename_i q hq;cases e;simp[h _ _ hy,LU h hq]
   ·cases e
  ·cases e
theorem LV{α β:Type}{f f':α→Option β}{a:α→α}{b:β→β}(h:∀x y,f x=some y→f' (a x)=some (b y)):∀{l:List α} {r:List β},GV f l=some r→GV f' (l.map a)=some (r.map b)
 |[],r,e=>by cases e;rfl
 |x::l,r,e=>by
  simp only[GV]at e;split at e
  ·rename_i y hy;split at e
   ·rename_i q hq;cases e;simp[GV,h _ _ hy,LV h hq]
   ·cases e
  ·cases e
noncomputable def CG(s:St)(r:AZ):Option AZ:=match r with
 |.box cs=>match GV (BT s) cs with
  |some ds=>some (.box ds)
  |none=>none
 |.vec T es=>match GV (GV (BT s)) es with
  |some ds=>some (.vec T ds)
  |none=>none
 | .map es=>match GV (fun e:V×V=>match BT s e.1,BT s e.2 with
   |some a,some b=>some (a,b)
   | _,_=>none) es with
  |some ds=>some (.map ds)
  |none=>none
 |r=>some r
noncomputable def CJ(s:St)(r:AZ):AZ:=match CG s r with
 |some r'=>r'
 |none=>r
theorem Z2{r r':AZ}(h:CG s r=some r'):r'=r∨r'=HA s r:=by
 unfold CG at h;split at h
 ·split at h
  ·rename_i ds hd;cases h;exact .inr (by simp only[HA,LU (fun x y=>JF) hd])
  ·cases h
 ·split at h
  ·rename_i ds hd;cases h;exact .inr (by simp only[HA,LU (fun x y=>LU (fun x y=>JF)) hd])
  ·cases h
 ·split at h
  ·rename_i ds hd;cases h;refine .inr ?_;simp only[HA];rw[LU (g:=fun e=>(FM s e.1,FM s e.2)) (fun x y h=>?_) hd];split at h
   ·rename_i a b h1 h2;cases h;rw[JF h1,JF h2]
   ·cases h
  ·cases h
 ·cases h;exact .inl rfl
theorem K6{r r':AZ}(h:CG s r=some r'):CG (s.emb σ pre) (r.ren σ pre.length)=some (r'.ren σ pre.length):=by
 cases r with
 |box cs=>
  simp only[CG]at h
  split at h
  ·rename_i ds hd;cases h;simp[CG,AZ.ren,LV (fun x y=>KW (σ:=σ) (pre:=pre)) hd]
  ·cases h
 |vec T es=>
  simp only[CG]at h
  split at h
  ·rename_i ds hd;cases h;simp[CG,AZ.ren,LV (fun x y=>LV (fun x y=>KW (σ:=σ) (pre:=pre))) hd]
  ·cases h
 |map es=>
  simp only[CG]at h
  split at h
  ·rename_i ds hd;cases h;have:=LV (f':=fun e:V×V=>match BT (s.emb σ pre) e.1,BT (s.emb σ pre) e.2 with
    |some a,some b=>some (a,b)
    | _,_=>none) (a:=fun p:V×V=>(p.1.ren σ pre.length,p.2.ren σ pre.length)) (b:=fun p:V×V=>(p.1.ren σ pre.length,p.2.ren σ pre.length)) (fun x y h=>by
     split at h
     ·rename_i a b h1 h2;cases h;simp[KW h1,KW h2]
     ·cases h) hd
   simp[CG,AZ.ren,this]
  ·cases h
 |loop fr ps asg body N st=>simp only[CG,Option.some.injEq]at h;subst h;rfl
 |dead=>simp only[CG,Option.some.injEq]at h;subst h;rfl
theorem lT(r:AZ):(CJ s r).ren σ pre.length=r.ren σ pre.length∨(CJ s r).ren σ pre.length=HA (s.emb σ pre) (r.ren σ pre.length):=by
 unfold CJ;split
 ·rename_i r' h;rcases Z2 (K6 (σ:=σ) (pre:=pre) h)with h'|h'
  ·exact .inl h'
  ·exact .inr h'
 ·exact .inl rfl
noncomputable def AL(s:St)(L:AA):AA:=L.map fun p=>(p.1,p.2.1,CJ s p.2.2)
theorem MV(s:St):∀(L:AA) (k:Nat),(AL s L).get k=(L.get k).map fun p=>(p.1,CJ s p.2)
 |[],k=>rfl
 |(j,x)::L,k=>by
  have:=MV s L k;simp only[AL,List.map_cons,AA.get]at this⊢;split
  ·rfl
  ·exact this
theorem pT{rv:ResultVar}{v:V}(h:DP P fr s rv=some v):DP P (fr.ren σ pre.length) (s.emb σ pre) rv=some (v.ren σ pre.length):=by
 cases rv with
 |tmp t=>
  simp only[DP]at h⊢
  split at h
  ·rename_i e;cases h;simp[Fr.get_ren,e]
  ·cases h
 |cell ad T=>
  simp only[DP]at h⊢
  split at h
  ·rename_i p e;obtain⟨cs,h1,h2⟩:=Option.bind_eq_some_iff.1 h;simp[Fr.get_ren,e,WE h1,dN h2]
  ·cases h
theorem OU{rs:List ResultVar}{v:V}(h:F7 P rs fr s=some v):F7 P rs (fr.ren σ pre.length) (s.emb σ pre)=some (v.ren σ pre.length):=by
 have key:∀{rs:List ResultVar} {vs:List V},rs.mapM (DP P fr s)=some vs→rs.mapM (DP P (fr.ren σ pre.length) (s.emb σ pre))=some (vs.map (V.ren σ pre.length)):=by
  intro rs;induction rs with
  |nil=>intro vs e;simp at e;subst e;rfl
  |cons x l ih=>
   intro vs e
   simp only[List.mapM_cons,Option.bind_eq_bind,Option.bind_eq_some_iff,Option.pure_def,Option.some.injEq]at e
   obtain⟨y,h1,ys,h2,rfl⟩:=e
   simp[pT h1,ih h2]
 unfold F7 at h⊢;split at h
 ·rename_i x e;cases h;rw[key e];rfl
 ·rename_i vs hne e;cases h;rw[key e];cases vs with
  |nil=>simp
  |cons a r=>
   cases r with
   |nil=>exact absurd rfl (hne a)
   |cons b r=>simp
 ·cases h
theorem PY:∀(i:Nat) (vs:List V),AF i (vs.map (V.ren σ δ))=(AF i vs).ren σ δ
 |_,[]=>rfl
 |i,v::vs=>by simp[AF,Fr.ren,PY (i+1) vs]
end Go.Pg
