/- Names and levels turned into others: what the operations give turns with them. No program in sight. -/
import Derived.Test.YthhdhbalenanjaaGreatP4
namespace Go.Pg
variable {P:Program}
variable {σ σ':Nat→Nat}{δ:Nat}
theorem Q4:∀(l:List V),gS σ δ l=l.map (V.ren σ δ)
 |[]=>by simp[gS]
 |v::r=>by simp[gS,Q4 r]
theorem rK:∀(l:List (List V)),qW σ δ l=l.map (List.map (V.ren σ δ))
 |[]=>by simp[qW]
 |v::r=>by simp[qW,Q4,rK r]
@[simp] theorem E6(k:IntKind)(n:Int):(V.int k n).ren σ δ=.int k n:=by simp[V.ren]
@[simp] theorem M6(b:Bool):(V.bool b).ren σ δ=.bool b:=by simp[V.ren]
@[simp] theorem BHF(v:Value):(V.raw v).ren σ δ=.raw v:=by simp[V.ren]
@[simp] theorem H7(cs:List V):(V.agg cs).ren σ δ=.agg (cs.map (V.ren σ δ)):=by simp[V.ren,Q4]
@[simp] theorem L9(cs:List V):(V.tup cs).ren σ δ=.tup (cs.map (V.ren σ δ)):=by simp[V.ren,Q4]
@[simp] theorem FI(f:Bool)(es:List (List V)):(V.list f es).ren σ δ=.list f (es.map (List.map (V.ren σ δ))):=by simp[V.ren,rK]
@[simp] theorem N6(cs:List V):(V.ref cs).ren σ δ=.ref (cs.map (V.ren σ δ)):=by simp[V.ren,Q4]
@[simp] theorem H8(l k g off:Nat):(V.ptr l k g off).ren σ δ=.ptr (l+δ) k (σ g) off:=by simp[V.ren]
@[simp] theorem P6(l k g i off:Nat):(V.eptr l k g i off).ren σ δ=.eptr (l+δ) k (σ g) i off:=by simp[V.ren]
@[simp] theorem H9(l k g n:Nat):(V.vec l k g n).ren σ δ=.vec (l+δ) k (σ g) n:=by simp[V.ren]
@[simp] theorem TB(l k g:Nat):(V.mp l k g).ren σ δ=.mp (l+δ) k (σ g):=by simp[V.ren]
@[simp] theorem P7(f:FuncId)(xs ys:List V):(V.fn f xs ys).ren σ δ=.fn f (xs.map (V.ren σ δ)) (ys.map (V.ren σ δ)):=by simp[V.ren,Q4]
@[simp] theorem lY(l k g:Nat):(V.yld l k g).ren σ δ=.yld (l+δ) k (σ g):=by simp[V.ren]
@[simp] theorem AO3:V.nil.ren σ δ=.nil:=by simp[V.ren]
@[simp] theorem BHG:V.any.ren σ δ=.any:=by simp[V.ren]
@[simp] theorem ZR(l k g i n:Nat):(V.vtl l k g i n).ren σ δ=.vtl (l+δ) k (σ g) i n:=by simp[V.ren]
theorem N7{σ':Nat→Nat}{δ':Nat}:∀(v:V),(v.ren σ δ).ren σ' δ'=v.ren (fun γ=>σ' (σ γ)) (δ+δ')
 |.agg cs=>by simp only[H7,List.map_map];congr 1;exact List.map_congr_left fun v _=>N7 v
 |.tup cs=>by simp only[L9,List.map_map];congr 1;exact List.map_congr_left fun v _=>N7 v
 |.ref cs=>by simp only[N6,List.map_map];congr 1;exact List.map_congr_left fun v _=>N7 v
 |.list b es=>by
  simp only[FI,List.map_map];congr 1;refine List.map_congr_left fun e he=>?_;have hlt:=List.sizeOf_lt_of_mem he;simp only[Function.comp,List.map_map];exact List.map_congr_left fun v hv=>by have hlt2:=List.sizeOf_lt_of_mem hv;exact N7 v
 |.fn f xs ys=>by
  simp only[P7,List.map_map];congr 1
  ·exact List.map_congr_left fun v _=>N7 v
  ·exact List.map_congr_left fun v _=>N7 v
 |.int k n=>by simp
 |.bool b=>by simp
 |.raw v=>by simp
 |.ptr l k g off=>by simp[Nat.add_assoc]
 |.eptr l k g i off=>by simp[Nat.add_assoc]
 |.vec l k g n=>by simp[Nat.add_assoc]
 |.mp l k g=>by simp[Nat.add_assoc]
 |.yld l k g=>by simp[Nat.add_assoc]
 |.nil=>by simp
 |.vtl l k g i n=>by simp[Nat.add_assoc]
 |.any=>by simp
decreasing_by all_goals first|(simp_wf;omega)|decreasing_tactic
def A6.ren(σ:Nat→Nat)(δ:Nat):A6→A6
 |.box cs=>.box (cs.map (V.ren σ δ))
 |.vec T es=>.vec T (es.map (List.map (V.ren σ δ)))
 |.map es=>.map (es.map fun p=>(p.1.ren σ δ,p.2.ren σ δ))
 |.loop fr ps asg body N st=>.loop (fr.map fun p=>(p.1,p.2.1,p.2.2.ren σ δ)) ps asg body N st
 |.dead=>.dead
def AA.ren(σ:Nat→Nat)(δ:Nat)(L:AA):AA:=L.map fun p=>(p.1,σ p.2.1,p.2.2.ren σ δ)
def Fr.ren(σ:Nat→Nat)(δ:Nat)(fr:Fr):Fr:=fr.map fun p=>(p.1,p.2.1,p.2.2.ren σ δ)
def St.emb(σ:Nat→Nat)(pre:List AA)(s:St):St:=⟨pre++s.up.map (AA.ren σ pre.length),s.loc.ren σ pre.length⟩
theorem Fr.get_ren:∀(fr:Fr) (k:Nat),(fr.ren σ δ).get k=(fr.get k).map fun p=>(p.1,p.2.ren σ δ)
 |[],k=>rfl
 |(j,x)::fr,k=>by
  have:=Fr.get_ren fr k;simp only[Fr.ren,List.map_cons,Fr.get]at this⊢;split
  ·rfl
  ·exact this
theorem AA.get_ren:∀(L:AA) (k:Nat),(L.ren σ δ).get k=(L.get k).map fun p=>(σ p.1,p.2.ren σ δ)
 |[],k=>rfl
 |(j,x)::L,k=>by
  have:=AA.get_ren L k;simp only[AA.ren,List.map_cons,AA.get]at this⊢;split
  ·rfl
  ·exact this
variable {pre:List AA}{s:St}
theorem DV:(s.emb σ pre).up.length=s.up.length+pre.length:=by simp[St.emb,Nat.add_comm]
theorem CH(l k:Nat):(s.emb σ pre).get (l+pre.length) k=(s.get l k).map fun p=>(σ p.1,p.2.ren σ pre.length):=by
 unfold St.get;rw[DV];by_cases h:l=s.up.length
 ·rw[if_pos h,if_pos (by rw[h])];exact AA.get_ren _ _
 ·rw[if_neg h,if_neg (by omega)];simp only[St.emb];rw[List.getElem?_append_right (by omega),Nat.add_sub_cancel,List.getElem?_map];cases s.up[l]? with
  |none=>rfl
  |some L=>simp[AA.get_ren]
theorem dQ{α:Type}(f:α→α)(M:List α)(l:Nat):∀(pre:List α),(pre++M).modify (l+pre.length) f=pre++M.modify l f
 |[]=>rfl
 |p::pre=>by have:=dQ f M l pre;simp only[List.cons_append,List.length_cons,←Nat.add_assoc,List.modify_succ_cons,this]
theorem C4{l k g:Nat}{r:A6}:(s.put l k g r).emb σ pre=(s.emb σ pre).put (l+pre.length) k (σ g) (r.ren σ pre.length):=by
 unfold St.put;rw[DV];by_cases h:l=s.up.length
 ·rw[if_pos h,if_pos (by rw[h])];simp[St.emb,AA.ren,AA.put]
 ·rw[if_neg h,if_neg (by omega)];simp only[St.emb,St.mk.injEq,and_true];rw[dQ];congr 1;refine List.ext_getElem? fun i=>?_;simp only[List.getElem?_map,List.getElem?_modify];by_cases hi:l=i
  ·subst hi;cases s.up[l]? with
   |none=>rfl
   |some L=>simp[AA.ren,AA.put]
  ·simp[hi]
theorem TC{u:Value}{v:V}(h:CX u=some v):v.ren σ δ=v:=by
 cases u with
 |int k n=>simp only[CX,Option.some.injEq]at h;subst h;simp
 |bool b=>simp only[CX,Option.some.injEq]at h;subst h;simp
 |agg cs=>simp[CX]at h
 |tuple cs=>simp[CX]at h
 |slice a n c=>
  unfold CX at h
  split at h<;>simp_all<;>subst h<;>simp
 |_=>simp only[CX,Option.some.injEq]at h;subst h;simp
theorem TD:∀{l:List Value} {cs:List V},HB l=some cs→cs.map (V.ren σ δ)=cs
 |[],cs,h=>by simp[HB]at h;subst h;rfl
 |v::r,cs,h=>by
  unfold HB at h;split at h
  ·rename_i x l h1 h2;cases h;simp[TC h1,TD h2]
  ·cases h
end Go.Pg
namespace Go.Pg
variable {P:Program}{σ:Nat→Nat}{δ:Nat}{pre:List AA}{s:St}{fr:Fr}{g:Bool}
theorem AIO(x:Operand):rd (fr.ren σ δ) x=(rd fr x).map fun p=>(p.1,p.2.ren σ δ):=by
 cases x with
 |tmp t=>exact Fr.get_ren fr t
 |const u=>
  simp only[rd]
  cases h:CX u with
  |none=>rfl
  |some v=>simp[TC h]
 |func f=>simp[rd]
 |global g=>rfl
theorem D8(x:Operand):EI g (fr.ren σ δ) x=(EI g fr x).map (V.ren σ δ):=by
 unfold EI;rw[AIO];cases rd fr x with
 |none=>rfl
 |some p=>
  obtain⟨c,v⟩:=p
  simp only[Option.map_some]
  split<;>rfl
theorem JC(v:V):BJ (v.ren σ δ)=BJ v:=by cases v<;>simp[BJ]
theorem E8(v:V):BI (v.ren σ δ)=(BI v).map (V.ren σ δ):=by cases v<;>simp[BI]
theorem ADR(v:V):weakC (v.ren σ δ)=(weakC v).ren σ δ:=by cases v<;>simp[weakC]
theorem XC(v:V):weakV (v.ren σ δ)=(weakV v).ren σ δ:=by cases v<;>simp[weakV,ADR]
theorem YY{p:V}{cs:List V}(h:BH s p=some cs):BH (s.emb σ pre) (p.ren σ pre.length)=some (cs.map (V.ren σ pre.length)):=by
 cases p with
 |ref ds=>simp only[BH,Option.some.injEq]at h;subst h;simp[BH]
 |ptr l k γ off=>
  simp only[BH]at h
  split at h
  ·rename_i γ' ds e;split at h
   ·rename_i eg;cases h;simp[BH,CH,e,A6.ren,eg,List.map_drop]
   ·cases h
  ·cases h
 |eptr l k γ i off=>
  simp only[BH]at h
  split at h
  ·rename_i γ' T es e;split at h
   ·rename_i eg;obtain⟨x,hx,rfl⟩:=Option.map_eq_some_iff.1 h;simp[BH,CH,e,A6.ren,eg,hx,List.map_drop]
   ·cases h
  ·cases h
 |_=>cases h
theorem jH{T:TypeId}{cs:List V}{v:V}(h:BS P T cs=some v):BS P T (cs.map (V.ren σ δ))=some (v.ren σ δ):=by
 unfold BS at h⊢;split at h
 ·split at h
  ·rename_i hc;cases h;simp[hc,List.map_take]
  ·cases h
 ·split at h
  ·rename_i hc;cases h;simp[hc,List.map_take]
  ·cases h
 ·simp only[List.getElem?_map,h,Option.map_some]
 ·cases h
theorem jI{U:TypeId}{cs:List V}{off:Nat}{v:V}(h:M2 P U cs off=some v):M2 P U (cs.map (V.ren σ δ)) off=some (v.ren σ δ):=by
 unfold M2 at h⊢;split at h
 ·split at h
  ·rename_i hc;cases h;simp[hc,List.map_take,List.map_drop]
  ·cases h
 ·split at h
  ·rename_i hc;cases h;simp[hc,List.map_take,List.map_drop]
  ·cases h
 ·simp only[List.getElem?_map,h,Option.map_some]
 ·cases h
theorem rL{T:TypeId}{x v:V}{f:Nat}(h:JI P T x f=some v):JI P T (x.ren σ δ) f=some (v.ren σ δ):=by
 unfold JI at h;split at h
 ·rename_i cs U off e;simp[JI,e,jI h]
 ·cases h
theorem ZE{T:TypeId}{x v:V}{f:Nat}(h:DP P T x f=some v):DP P T (x.ren σ δ) f=some (v.ren σ δ):=by
 unfold DP at h;split at h
 ·rename_i U off e;split at h
  ·cases h
  ·rename_i hz;split at h<;>first
    |(cases h;done)
    |(cases h;simp[DP,e,hz,List.map_drop])
 ·cases h
theorem FS(es:List (List V))(j:Nat):(es.map (List.map (V.ren σ δ))).getD j []=(es.getD j []).map (V.ren σ δ):=by simp only[List.getD_eq_getElem?_getD,List.getElem?_map];cases es[j]?<;>rfl
theorem ZF{T:TypeId}{x i v:V}(h:B7 P s T x i=some v):B7 P (s.emb σ pre) T (x.ren σ pre.length) (i.ren σ pre.length)=some (v.ren σ pre.length):=by
 unfold B7 at h;split at h
 ·rename_i e f es k j e1;split at h
  ·rename_i hc;cases h;obtain⟨c1,c2,c3,c4⟩:=hc;simp only[FI,E6,B7,e1,List.length_map,FS,N6];rw[if_pos ⟨c1,c2,c3,c4⟩]
  ·cases h
 ·rename_i e l k γ n k' j e1;split at h
  ·rename_i γ' U es e2;split at h
   ·rename_i hc;cases h;obtain⟨c1,c2,c3,c4,c5,c6⟩:=hc;subst c1;simp only[H9,E6,B7,e1,CH,e2,Option.map_some,A6.ren,List.length_map,FS,P6];rw[if_pos ⟨trivial,c2,c3,c4,c5,c6⟩]
   ·cases h
  ·cases h
 ·rename_i n e cs k j e1;split at h
  ·rename_i hc;cases h;simp only[N6,E6,B7,e1,if_pos hc,List.map_drop]
  ·cases h
 ·rename_i n e l k γ o k' j e1;split at h
  ·rename_i hc;cases h;simp only[H8,E6,B7,e1,if_pos hc]
  ·cases h
 ·rename_i n e l k γ i' o k' j e1;split at h
  ·rename_i hc;cases h;simp only[P6,E6,B7,e1,if_pos hc]
  ·cases h
 ·cases h
theorem rM{T:TypeId}{x i v:V}(h:KE P T x i=some v):KE P T (x.ren σ δ) (i.ren σ δ)=some (v.ren σ δ):=by
 unfold KE at h;split at h
 ·rename_i n e cs k j e1;split at h
  ·rename_i hc;simp only[H7,E6,KE,e1,if_pos hc,jI h]
  ·cases h
 ·cases h
theorem vT{S D:TypeId}{x v:V}(h:J1 P S D x=some v):J1 P S D (x.ren σ δ)=some (v.ren σ δ):=by
 unfold J1 at h;split at h
 ·rename_i e1 e2;cases h;simp[J1,e1,e2]
 ·cases h
theorem AIP{op:UnOp}{x v:V}(h:gM op x=some v):gM op (x.ren σ δ)=some (v.ren σ δ):=by unfold gM at h;split at h<;>first|(cases h;done)|(cases h;simp[gM])
theorem ADS{x v:V}(h:OQ x=some v):OQ (x.ren σ δ)=some (v.ren σ δ):=by cases x<;>simp[OQ]at h<;>subst h<;>simp[OQ]
theorem gU{x v:V}{i:Nat}(h:GL x i=some v):GL (x.ren σ δ) i=some (v.ren σ δ):=by cases x<;>simp[GL]at h;simp[GL,h]
theorem ADT{T:TypeId}{x v:V}(h:IX P T x=some v):IX P T (x.ren σ δ)=some (v.ren σ δ):=by
 unfold IX at h;split at h
 ·rename_i e f es hu;cases h;simp[IX,hu]
 ·rename_i e l k g n hu;cases h;simp[IX,hu]
 ·rename_i e hu;cases h;simp[IX,hu]
 ·rename_i n e hu;cases h;unfold IX;rw[hu];simp
 ·cases h
theorem AO4{n m:Nat}{h:Option V}(e:hiN n h=some m):hiN n (h.map (V.ren σ δ))=some m:=by
 cases h with
 |none=>exact e
 |some a=>cases a<;>first|(simp only[Option.map_some,E6];exact e)|(simp[hiN]at e)
theorem rN{T:TypeId}{x v:V}{lo hi mx:Option V}(h:CC P s T x lo hi mx=some v):CC P (s.emb σ pre) T (x.ren σ pre.length) (lo.map (V.ren σ pre.length)) (hi.map (V.ren σ pre.length)) (mx.map (V.ren σ pre.length))=some (v.ren σ pre.length):=by
 unfold CC at h;split at h
 ·rename_i e f es k h' e1;split at h
  ·rename_i hc;cases h;simp only[FI,Option.map_some,E6,Option.map_none,CC,e1,List.length_map,if_pos hc,List.map_take]
  ·cases h
 ·rename_i e f es k l e1;split at h
  ·rename_i hc;cases h;have:(es.map (List.map (V.ren σ pre.length))).all (fun x=>x.length==P.cellsOf e)=true:=by rw[List.all_map];exact hc.2.2.2▸(by congr 1;funext x;simp)
   simp only[FI,Option.map_some,E6,Option.map_none,CC,e1,List.length_map,if_pos (⟨hc.1,hc.2.1,hc.2.2.1,this⟩:_∧_∧_∧_),List.map_drop]
  ·cases h
 ·rename_i e f es k l k' h' e1;split at h
  ·rename_i hc;cases h;have:(es.map (List.map (V.ren σ pre.length))).all (fun x=>x.length==P.cellsOf e)=true:=by rw[List.all_map];exact hc.2.2.2.2▸(by congr 1;funext x;simp)
   simp only[FI,Option.map_some,E6,Option.map_none,CC,e1,List.length_map,if_pos (⟨hc.1,hc.2.1,hc.2.2.1,hc.2.2.2.1,this⟩:_∧_∧_∧_∧_),List.map_drop,List.map_take]
  ·cases h
 ·rename_i e f es k h' k' m e1;split at h
  ·rename_i hc;cases h;simp only[FI,Option.map_some,E6,Option.map_none,CC,e1,if_pos hc,List.map_nil]
  ·cases h
 ·rename_i e l k g n k' h' e1;split at h
  ·rename_i hc;cases h;simp only[H9,Option.map_some,E6,Option.map_none,CC,e1,if_pos hc]
  ·cases h
 ·rename_i e l k g n k' i e1;split at h
  ·rename_i g' T' es hget;split at h
   ·rename_i hc;obtain⟨rfl,h1,h2,h3,h4,h5⟩:=hc;cases h;have:(es.map (List.map (V.ren σ pre.length))).all (fun x=>x.length==P.cellsOf e)=true:=by rw[List.all_map];exact h1▸(by congr 1;funext x;simp)
    simp only[H9,ZR,Option.map_some,E6,Option.map_none,CC,e1,CH,hget,A6.ren];rw[if_pos ⟨trivial,this,by simpa using h2,h3,h4,h5⟩]
   ·cases h
  ·cases h
 ·rename_i n e l k g o e1;split at h
  ·rename_i g' cs m hget hm;split at h
   ·rename_i hc;obtain⟨rfl,h1,h2⟩:=hc;cases h;simp only[H8,ZR,Option.map_none,CC,e1,CH,hget,A6.ren,Option.map_some,AO4 hm];rw[if_pos ⟨trivial,h1,by simpa using h2⟩]
   ·cases h
  ·cases h
 ·cases h
theorem ADU{x y v:V}(h:VE x y=some v):VE (x.ren σ δ) (y.ren σ δ)=some (v.ren σ δ):=by
 unfold VE at h;split at h
 ·split at h
  ·rename_i hk;cases h;simp[VE,hk]
  ·cases h
 ·cases h
theorem ADV{x y v:V}(h:VF x y=some v):VF (x.ren σ δ) (y.ren σ δ)=some (v.ren σ δ):=by
 unfold VF at h;split at h
 ·split at h
  ·rename_i hk;cases h;simp[VF,hk]
  ·cases h
 ·cases h
theorem ADW{op:BinOp}{k:IntKind}{a b:Int}{v:V}(h:FG op k a b=some v):v.ren σ δ=v:=by
 unfold FG at h;split at h<;>first
  |(cases h;simp;done)
  |(split at h<;>first|(cases h;done)|(cases h;simp;done))
  |(obtain⟨r,_,rfl⟩:=Option.map_eq_some_iff.1 h;simp)
theorem N8:∀(cs:List V),EL (cs.map (V.ren σ δ))=EL cs
 |[]=>rfl
 |c::cs=>by have ih:=N8 cs;cases c<;>simp[EL,ih]
theorem AIQ{op:BinOp}{k:IntKind}{a b:Int}{v:V}(h:cC op k a b=some v):v.ren σ δ=v:=by
 cases op<;>simp only[cC]at h;case shl=>split at h<;>cases h;simp
 case shr=>split at h<;>cases h;simp
 all_goals cases h
theorem ADX{op:BinOp}{T:TypeId}{x y v:V}(h:H0 P op T x y=some v):H0 P op T (x.ren σ δ) (y.ren σ δ)=some (v.ren σ δ):=by
 unfold H0 at h;split at h
 ·split at h
  ·rename_i hk;simp only[E6,H0,if_pos hk,h,ADW h]
  ·rename_i hk;simp only[E6,H0,if_neg hk,h,AIQ h]
 ·split at h
  ·rename_i hk;have hv:v.ren σ δ=v:=by split at h<;>first|(cases h;done)|(cases h;simp)
   rw[hv];simp only[M6,H0,if_pos hk];exact h
  ·cases h
 ·rename_i cs ds;have he:S5 P T (cs.map (V.ren σ δ)) (ds.map (V.ren σ δ))=S5 P T cs ds:=by unfold S5;rw[N8,N8]
  have hv:v.ren σ δ=v:=by
   split at h
   ·obtain⟨r,_,rfl⟩:=Option.map_eq_some_iff.1 h;simp
   ·obtain⟨r,_,rfl⟩:=Option.map_eq_some_iff.1 h;simp
   ·cases h
  rw[hv];simp only[H7,H0,he];exact h
 ·rename_i x' _;have hi:JZ (x.ren σ δ)=JZ x:=by
   cases x with
   |list f es=>cases es<;>simp[JZ]
   |vec l k g n=>cases n<;>simp[JZ]
   |vtl l k g i n=>cases n<;>simp[JZ]
   |_=>simp[JZ]
  have hb:∀y:V,H0 P op T y .nil=if EG P T then(match op with
   |.eql=>(JZ y).map V.bool
   |.neq=>(JZ y).map fun b=>V.bool !b
   | _=>none) else none:=fun y=>by cases y <;> rfl
  have hv:v.ren σ δ=v:=by
   split at h
   ·split at h
    ·obtain⟨r,_,rfl⟩:=Option.map_eq_some_iff.1 h;simp
    ·obtain⟨r,_,rfl⟩:=Option.map_eq_some_iff.1 h;simp
    ·cases h
   ·cases h
  rw[hv,AO3,hb,hi];exact h
 ·cases h
theorem XD:∀{cs:List V} {l:List Value},EL cs=some l→cs.map (V.ren σ δ)=cs
 |[],_,_=>rfl
 |c::cs,l,h=>by
  cases c with
  |int k n=>
   simp only[EL]at h
   split at h
   ·rename_i r hr;simp[XD hr]
   ·cases h
  |bool b=>
   simp only[EL]at h
   split at h
   ·rename_i r hr;simp[XD hr]
   ·cases h
  |_=>simp[EL]at h
theorem dR{K:TypeId}(v:V):Y9 P K (v.ren σ δ)=Y9 P K v:=by
 cases v with
 |agg cs=>
  simp only[H7,Y9,N8]
  split
  ·rename_i l hl;rw[XD hl]
  ·rfl
 |_=>simp[Y9]
theorem XF{K:TypeId}{ks:List V}:∀(es:List (V×V)) (i:Nat),OR P K ks (es.map fun p=>(p.1.ren σ δ,p.2.ren σ δ)) i=OR P K ks es i
 |[],_=>rfl
 |(k,v)::es,i=>by simp only[List.map_cons,OR,dR,XF es]
theorem vU{T:TypeId}{z:V}(h:W1 P T=some z):z.ren σ δ=z:=by
 unfold W1 at h;split at h
 ·split at h
  ·rename_i cs hz;cases h;simp[TD hz]
  ·cases h
 ·exact TC h
 ·cases h
theorem lZ{T:TypeId}{x k v:V}{ok:Bool}(h:D9 P s T x k ok=some v):D9 P (s.emb σ pre) T (x.ren σ pre.length) (k.ren σ pre.length) ok=some (v.ren σ pre.length):=by
 unfold D9 at h;split at h
 ·rename_i K E l q g hm;split at h
  ·rename_i g' es hget;split at h
   ·rename_i hc;obtain⟨rfl,hT⟩:=hc;split at h
    ·rename_i ks hks;simp only[TB,D9,hm,CH,hget,Option.map_some,A6.ren,dR,hks,XF,if_pos (⟨trivial,hT⟩:True∧_)];split at h
     ·rename_i hf;obtain⟨z,hz,rfl⟩:=Option.map_eq_some_iff.1 h;simp only[hz,Option.map_some];cases ok<;>simp[vU hz]
     ·rename_i i hf;obtain⟨e,he,rfl⟩:=Option.map_eq_some_iff.1 h;simp only[List.getElem?_map,he,Option.map_some];cases ok<;>simp
     ·cases h
    ·cases h
   ·cases h
  ·cases h
 ·cases h
theorem XG{T:TypeId}{x k v:V}{l q γ:Nat}{es:List (V×V)}(h:M3 P s T x k v=some (l,q,γ,es)):M3 P (s.emb σ pre) T (x.ren σ pre.length) (k.ren σ pre.length) (v.ren σ pre.length)=some (l+pre.length,q,σ γ,es.map fun p=>(p.1.ren σ pre.length,p.2.ren σ pre.length)):=by
 unfold M3 at h;split at h
 ·rename_i K E l q g hm;split at h
  ·rename_i g' es hget;split at h
   ·rename_i hc;obtain⟨rfl,hT⟩:=hc;split at h
    ·rename_i ks hks;simp only[TB,M3,hm,CH,hget,Option.map_some,A6.ren,dR,hks,XF,if_pos (⟨trivial,hT⟩:True∧_)];split at h
     ·rename_i hf;cases h;simp
     ·rename_i i hf;cases h;simp[List.map_set]
     ·cases h
    ·cases h
   ·cases h
  ·cases h
 ·cases h
theorem JV{r:Operand→Option V}:∀{l:List Operand} {vs:List V},l.mapM r=some vs→l.mapM (fun x=>(r x).map (V.ren σ δ))=some (vs.map (V.ren σ δ))
 |[],vs,h=>by simp at h;subst h;rfl
 |x::l,vs,h=>by simp only[List.mapM_cons,Option.bind_eq_bind,Option.bind_eq_some_iff,Option.pure_def,Option.some.injEq]at h;obtain⟨v,h1,us,h2,rfl⟩:=h;simp[h1,JV h2]
theorem AO5{o:Oper}{r:Operand→Option V}{v:V}(h:JR P o s r=some v):JR P o (s.emb σ pre) (fun x=>(r x).map (V.ren σ pre.length))=some (v.ren σ pre.length):=by
 unfold JR at h⊢;split at h<;>(try simp only[Option.bind_eq_some_iff]at h);case h_1=>simp[h]
 case h_2=>simp[h]
 case h_3=>obtain⟨a,h1,h2⟩:=h;simp[h1,ADS h2]
 case h_4=>obtain⟨a,h1,b,h2,h3⟩:=h;simp[h1,YY h2,jH h3]
 case h_5=>obtain⟨a,h1,b,h2,h3⟩:=h;simp[h1,h2,ADX h3]
 case h_6=>obtain⟨a,h1,h2⟩:=h;simp[h1,AIP h2]
 case h_7=>obtain⟨a,h1,h2⟩:=h;simp[h1,vT h2]
 case h_8=>obtain⟨a,h1,h2⟩:=h;simp[h1,ZE h2]
 case h_9=>obtain⟨a,h1,h2⟩:=h;simp[h1,rL h2]
 case h_10=>obtain⟨a,h1,b,h2,h3⟩:=h;simp[h1,h2,ZF h3]
 case h_11=>obtain⟨a,h1,b,h2,h3⟩:=h;simp[h1,h2,rM h3]
 case h_12=>obtain⟨a,h1,h2⟩:=h;simp[h1,gU h2]
 case h_13=>
  split at h
  ·rename_i e1 e2;simp only[Option.bind_eq_some_iff]at h;obtain⟨a,h1,h2⟩:=h;simp[h1,ADT h2]
  ·cases h
 case h_14=>
  split at h
  ·simp only[Option.bind_eq_some_iff]at h;obtain⟨a,h1,b,h2,h3⟩:=h;simp[h1,h2,ADU h3]
  ·cases h
 case h_15=>
  split at h
  ·simp only[Option.bind_eq_some_iff]at h;obtain⟨a,h1,b,h2,h3⟩:=h;simp[h1,h2,ADV h3]
  ·cases h
 case h_16 T x lo hi mx ho=>
  obtain⟨a,h1,l,h2,u,h3,m,h4,h5⟩:=h
  have key:∀(z:Option Operand) (q:Option V),(match z with|none=>some none|some y=>(r y).map some)=some q→(z=none∧q=none)∨∃y b,z=some y∧r y=some b∧q=some b:=by
   intro z q hz;cases z with
   |none=>cases hz;exact .inl ⟨rfl,rfl⟩
   |some y=>
    obtain⟨b,hb,rfl⟩:=Option.map_eq_some_iff.1 hz
    exact .inr ⟨y,b,rfl,hb,rfl⟩
  have h6:=rN (σ:=σ) (pre:=pre) h5
  rcases key lo l h2 with⟨rfl,rfl⟩|⟨y1,b1,rfl,q1,rfl⟩<;>rcases key hi u h3 with⟨rfl,rfl⟩|⟨y2,b2,rfl,q2,rfl⟩<;>rcases key mx m h4 with⟨rfl,rfl⟩|⟨y3,b3,rfl,q3,rfl⟩<;>simp_all
 case h_17=>obtain⟨a,h1,b,h2,h3⟩:=h;simp[h1,h2,lZ h3]
 case h_18 f first captured ho=>
  obtain⟨a,h1,b,h2,h3⟩:=h
  cases h3
  simp[JV h1,JV h2]
 case h_19=>cases h
end Go.Pg
namespace Go.Pg
variable {P:Program}{σ:Nat→Nat}{δ:Nat}{pre:List AA}{s:St}{fr:Fr}{g:Bool}
theorem HJ{T:TypeId}{z:List V}(h:CG P T=some z):z.map (V.ren σ δ)=z:=by
 unfold CG at h;split at h
 ·exact TD h
 ·cases h
theorem DQ{α β:Type}(f:α→β)(cs ds:List α)(off:Nat):BC (cs.map f) off (ds.map f)=(BC cs off ds).map f:=by simp[BC,List.map_take,List.map_drop]
theorem Q5{place:Nat→Option (Nat×Nat)}:∀{ps:List (Nat×V)} {cs ds:List V},DI place cs ps=some ds→DI place (cs.map (V.ren σ δ)) (ps.map fun p=>(p.1,p.2.ren σ δ))=some (ds.map (V.ren σ δ))
 |[],cs,ds,h=>by simp[DI]at h;subst h;rfl
 |(i,v)::r,cs,ds,h=>by
  simp only[DI]at h;split at h
  ·cases h
  ·rename_i off size e;split at h
   ·rename_i hc;have:=Q5 h;simp only[List.map_cons,DI,e,E8,List.length_map];rw[if_pos hc,DQ];exact this
   ·cases h
theorem N9(ps:List (Nat×V)):((ps.map fun p=>(p.1,p.2.ren σ δ)).all fun p=>BJ p.2)=ps.all fun p=>BJ p.2:=by rw[List.all_map];congr 1;funext p;exact JC p.2
theorem rP{T:TypeId}{ps:List (Nat×V)}{v:V}(h:CZ P T ps=some v):CZ P T (ps.map fun p=>(p.1,p.2.ren σ δ))=some (v.ren σ δ):=by
 unfold CZ at h⊢;split at h
 ·rename_i z fs e1 e2;simp only[N9];split at h
  ·rename_i hc;obtain⟨cs,h1,rfl⟩:=Option.map_eq_some_iff.1 h;have:=Q5 (σ:=σ) (δ:=δ) h1;rw[HJ e1]at this;rw[if_pos hc,this];simp
  ·cases h
 ·rename_i z n e e1 e2;simp only[N9];split at h
  ·rename_i hc;obtain⟨cs,h1,rfl⟩:=Option.map_eq_some_iff.1 h;have:=Q5 (σ:=σ) (δ:=δ) h1;rw[HJ e1]at this;rw[if_pos hc,this];simp
  ·cases h
 ·cases h
theorem dS{β:Type}(f:V→V)(size:Nat):∀(n:Nat) (cs:List V),C0 size (cs.map f) n=(C0 size cs n).map (List.map f)
 |0,_=>rfl
 |n+1,cs=>by simp only[C0,List.map_cons,List.map_take];rw[←List.map_drop,dS (β:=β) f size n]
theorem XH{T:TypeId}{len:Nat}{ps:List (Nat×V)}{v:V}(h:CK P T len ps=some v):CK P T len (ps.map fun p=>(p.1,p.2.ren σ δ))=some (v.ren σ δ):=by
 unfold CK at h⊢;split at h
 ·rename_i e e1;split at h
  ·rename_i z e2;split at h
   ·rename_i hc;obtain⟨cs,h1,rfl⟩:=Option.map_eq_some_iff.1 h;have:=Q5 (σ:=σ) (δ:=δ) h1;have hz:(List.replicate len z).flatten.map (V.ren σ δ)=(List.replicate len z).flatten:=by rw[List.map_flatten,List.map_replicate,HJ e2]
    rw[hz]at this;simp only[N9];rw[if_pos hc,this];simp[dS (β:=Nat)]
   ·cases h
  ·cases h
 ·cases h
theorem TE{r:Operand→Option V}:∀{l:List (Nat×Operand)} {ps:List (Nat×V)},DN r l=some ps→DN (fun x=>(r x).map (V.ren σ δ)) l=some (ps.map fun p=>(p.1,p.2.ren σ δ))
 |[],ps,h=>by simp[DN]at h;subst h;rfl
 |(i,x)::l,ps,h=>by
  simp only[DN]at h;split at h
  ·rename_i v us h1 h2;cases h;simp[DN,h1,TE h2]
  ·cases h
theorem HK{v:V}{es:List (List V)}(h:elemsOf s v=some es):elemsOf (s.emb σ pre) (v.ren σ pre.length)=some (es.map (List.map (V.ren σ pre.length))):=by
 cases v with
 |list f ds=>simp only[elemsOf,Option.some.injEq]at h;subst h;simp[elemsOf]
 |vec l k γ n=>
  simp only[elemsOf]at h
  split at h
  ·rename_i γ' T ds e;split at h
   ·rename_i hc;cases h;simp[elemsOf,CH,e,A6.ren,hc.1,hc.2,List.map_take]
   ·cases h
  ·cases h
 |vtl l k γ i n=>
  simp only[elemsOf]at h
  split at h
  ·rename_i γ' cs e;split at h
   ·rename_i hc;cases h;simp[elemsOf,CH,e,A6.ren,hc.1,hc.2,List.map_take,List.map_drop,Function.comp_def]
   ·cases h
  ·cases h
 |nil=>simp only[elemsOf,Option.some.injEq]at h;subst h;simp[elemsOf]
 |_=>cases h
theorem KG:EI g (fr.ren σ δ)=fun x=>(EI g fr x).map (V.ren σ δ):=by funext x;exact D8 x
theorem JW{o:Oper}{v:V}(h:F9 P g o fr s=some v):F9 P g o (fr.ren σ pre.length) (s.emb σ pre)=some (v.ren σ pre.length):=by
 unfold F9 at h⊢;split at h
 ·rename_i c x y ho;split at h
  ·rename_i c' ca va cb vb e1 e2 e3;split at h
   ·rename_i hc;cases h;simp only[D8,AIO,e1,e2,e3,Option.map_some,M6];rw[if_pos hc]
   ·cases h
  ·cases h
 ·rename_i T parts ho;obtain⟨ps,h1,h2⟩:=Option.bind_eq_some_iff.1 h;rw[KG,TE h1];exact rP h2
 ·rename_i T len parts ho;obtain⟨ps,h1,h2⟩:=Option.bind_eq_some_iff.1 h;rw[KG,TE h1];exact XH h2
 ·rw[KG];exact AO5 h
def A9(s:St):Nat→V→Option V
 |0,_=>none
 |f+1,v=>match v with
  |.list _ es=>some (.list false es)
  | .vec l k g m=>if l=s.up.length then(match s.loc.get k with
    |some (g',.vec _ es)=>if g'=g∧m≤es.length then some (.list false (es.take m)) else none
    | _=>none) else some v
  | .ptr l k g off=>if l=s.up.length then(match s.loc.get k with
    |some (g',.box cs)=>if g'=g then(cs.mapM (A9 s f)).map fun ds=>.ref (ds.drop off) else none
    | _=>none) else some v
  |.agg cs=>(cs.mapM (A9 s f)).map .agg
  |.tup cs=>(cs.mapM (A9 s f)).map .tup
  |.fn g xs ys=>match xs.mapM (A9 s f),ys.mapM (A9 s f)with
   |some a,some b=>some (.fn g a b)
   |_,_=>none
  |v=>some v
theorem HL{α β:Type}{f:α→Option β}{g:α→β}(h:∀x y,f x=some y→g x=y):∀{l:List α} {r:List β},l.mapM f=some r→l.map g=r
 |[],r,e=>by simp at e;subst e;rfl
 |x::l,r,e=>by simp only[List.mapM_cons,Option.bind_eq_bind,Option.bind_eq_some_iff,Option.pure_def,Option.some.injEq]at e;obtain⟨y,h1,ys,h2,rfl⟩:=e;simp[h x y h1,HL h h2]
theorem P8:∀(f:Nat) {v r:V},A9 s f v=some r→D2 s f v=r
 |0,v,r,h=>by cases h
 |f+1,v,r,h=>by
  have ih:=fun v r=>P8 f (v:=v) (r:=r);cases v with
  |list b es=>simpa [A9,D2]using h
  |vec l k g m=>
   simp only[A9]at h
   simp only[D2]
   split at h
   ·rename_i hl;rw[if_pos hl];split at h
    ·rename_i g' T es e;split at h
     ·rename_i hc;rw[e];simp only[if_pos hc];exact Option.some.inj h
     ·cases h
    ·cases h
   ·rename_i hl;rw[if_neg hl];exact Option.some.inj h
  |ptr l k g off=>
   simp only[A9]at h
   simp only[D2]
   split at h
   ·rename_i hl;rw[if_pos hl];split at h
    ·rename_i g' cs e;split at h
     ·rename_i hc;obtain⟨ds,h1,rfl⟩:=Option.map_eq_some_iff.1 h;rw[e];simp only[if_pos hc,HL ih h1]
     ·cases h
    ·cases h
   ·rename_i hl;rw[if_neg hl];exact Option.some.inj h
  |agg cs=>
   obtain⟨ds,h1,rfl⟩:=Option.map_eq_some_iff.1 h
   simp only[D2,HL ih h1]
  |tup cs=>
   obtain⟨ds,h1,rfl⟩:=Option.map_eq_some_iff.1 h
   simp only[D2,HL ih h1]
  |fn g xs ys=>
   simp only[A9]at h
   split at h
   ·rename_i a b h1 h2;cases h;simp only[D2,HL ih h1,HL ih h2]
   ·cases h
  |_=>simpa [A9,D2]using h
theorem GP{f f':V→Option V}(h:∀v r,f v=some r→f' (v.ren σ δ)=some (r.ren σ δ)):∀{l r:List V},l.mapM f=some r→(l.map (V.ren σ δ)).mapM f'=some (r.map (V.ren σ δ))
 |[],r,e=>by simp at e;subst e;rfl
 |x::l,r,e=>by simp only[List.mapM_cons,Option.bind_eq_bind,Option.bind_eq_some_iff,Option.pure_def,Option.some.injEq]at e;obtain⟨y,h1,ys,h2,rfl⟩:=e;simp[h x y h1,GP h h2]
theorem MA(k:Nat):(s.emb σ pre).loc.get k=(s.loc.get k).map fun p=>(σ p.1,p.2.ren σ pre.length):=AA.get_ren _ _
theorem K2:∀(f:Nat) {v r:V},A9 s f v=some r→A9 (s.emb σ pre) f (v.ren σ pre.length)=some (r.ren σ pre.length)
 |0,v,r,h=>by cases h
 |f+1,v,r,h=>by
  have ih:=fun v r=>K2 f (v:=v) (r:=r);cases v with
  |list b es=>simp only[A9,Option.some.injEq]at h;subst h;simp[A9]
  |vec l k g m=>
   simp only[A9]at h
   split at h
   ·rename_i hl;split at h
    ·rename_i g' T es e;split at h
     ·rename_i hc;cases h;simp[A9,DV,MA,hl,e,A6.ren,hc.1,hc.2,List.map_take]
     ·cases h
    ·cases h
   ·rename_i hl;cases h;have:¬l+pre.length=s.up.length+pre.length:=by omega
    simp[A9,DV,hl]
  |ptr l k g off=>
   simp only[A9]at h
   split at h
   ·rename_i hl;split at h
    ·rename_i g' cs e;split at h
     ·rename_i hc;obtain⟨ds,h1,rfl⟩:=Option.map_eq_some_iff.1 h;have:=GP ih h1;simp[A9,DV,MA,hl,e,A6.ren,hc,this,List.map_drop]
     ·cases h
    ·cases h
   ·rename_i hl;cases h;simp[A9,DV,hl]
  |agg cs=>
   obtain⟨ds,h1,rfl⟩:=Option.map_eq_some_iff.1 h
   simp[A9,GP ih h1]
  |tup cs=>
   obtain⟨ds,h1,rfl⟩:=Option.map_eq_some_iff.1 h
   simp[A9,GP ih h1]
  |fn g xs ys=>
   simp only[A9]at h
   split at h
   ·rename_i a b h1 h2;cases h;simp[A9,GP ih h1,GP ih h2]
   ·cases h
  |_=>simp only[A9,Option.some.injEq]at h;subst h;simp[A9]
noncomputable def CD(s:St)(v:V):Option V:=match v with
 |.list f es=>some (.list f es)
 |.int k n=>some (.int k n)
 |.bool b=>some (.bool b)
 |v=>A9 s 4 v
theorem KH{v r:V}(h:CD s v=some r):F7 s v=r:=by
 unfold CD at h;unfold F7;split at h
 ·simpa using h
 ·simpa [D2]using h
 ·simpa [D2]using h
 ·rename_i h1 h2 h3;split
  ·rename_i f es;exact absurd rfl (h1 f es)
  ·exact P8 4 h
theorem YZ{v:V}(h1:∀f es,v≠.list f es)(h2:∀k n,v≠.int k n)(h3:∀b,v≠.bool b):CD s v=A9 s 4 v:=by
 unfold CD;split
 ·rename_i f es;exact absurd rfl (h1 f es)
 ·rename_i k n;exact absurd rfl (h2 k n)
 ·rename_i b;exact absurd rfl (h3 b)
 ·rfl
theorem MB{v r:V}(h:CD s v=some r):CD (s.emb σ pre) (v.ren σ pre.length)=some (r.ren σ pre.length):=by
 by_cases h1:∃f es,v=.list f es
 ·obtain⟨f,es,rfl⟩:=h1;simp only[CD,Option.some.injEq]at h;subst h;simp[CD]
 by_cases h2:∃k n,v=.int k n
 ·obtain⟨k,n,rfl⟩:=h2;simp only[CD,Option.some.injEq]at h;subst h;simp[CD]
 by_cases h3:∃b,v=.bool b
 ·obtain⟨b,rfl⟩:=h3;simp only[CD,Option.some.injEq]at h;subst h;simp[CD]
 rw[YZ (fun f es e=>h1 ⟨f,es,e⟩) (fun k n e=>h2 ⟨k,n,e⟩) (fun b e=>h3 ⟨b,e⟩)]at h;rw[YZ (fun f es e=>by cases v<;>simp at e;exact h1 ⟨_,_,rfl⟩) (fun k n e=>by cases v<;>simp at e;exact h2 ⟨_,_,rfl⟩) (fun b e=>by cases v<;>simp at e;exact h3 ⟨_,rfl⟩)];exact K2 4 h
def HM{α β:Type}(f:α→Option β):List α→Option (List β)
 |[]=>some []
 |x::l=>match f x with
  |some y=>match HM f l with
   |some r=>some (y::r)
   |none=>none
  |none=>none
theorem M7{α β:Type}{f:α→Option β}{g:α→β}(h:∀x y,f x=some y→g x=y):∀{l:List α} {r:List β},HM f l=some r→l.map g=r
 |[],r,e=>by cases e;rfl
 |x::l,r,e=>by
  simp only[HM]at e;split at e
  ·rename_i y hy;split at e
   ·rename_i q hq;cases e;simp[h _ _ hy,M7 h hq]
   ·cases e
  ·cases e
theorem M8{α β:Type}{f f':α→Option β}{a:α→α}{b:β→β}(h:∀x y,f x=some y→f' (a x)=some (b y)):∀{l:List α} {r:List β},HM f l=some r→HM f' (l.map a)=some (r.map b)
 |[],r,e=>by cases e;rfl
 |x::l,r,e=>by
  simp only[HM]at e;split at e
  ·rename_i y hy;split at e
   ·rename_i q hq;cases e;simp[HM,h _ _ hy,M8 h hq]
   ·cases e
  ·cases e
noncomputable def CJ(s:St)(r:A6):Option A6:=match r with
 |.box cs=>match HM (CD s) cs with
  |some ds=>some (.box ds)
  |none=>none
 |.vec T es=>match HM (HM (CD s)) es with
  |some ds=>some (.vec T ds)
  |none=>none
 | .map es=>match HM (fun e:V×V=>match CD s e.1,CD s e.2 with
   |some a,some b=>some (a,b)
   | _,_=>none) es with
  |some ds=>some (.map ds)
  |none=>none
 |r=>some r
noncomputable def CM(s:St)(r:A6):A6:=match CJ s r with
 |some r'=>r'
 |none=>r
theorem dT{r r':A6}(h:CJ s r=some r'):r'=r∨r'=H2 s r:=by
 unfold CJ at h;split at h
 ·split at h
  ·rename_i ds hd;cases h;exact .inr (by simp only[H2,M7 (fun x y=>KH) hd])
  ·cases h
 ·split at h
  ·rename_i ds hd;cases h;exact .inr (by simp only[H2,M7 (fun x y=>M7 (fun x y=>KH)) hd])
  ·cases h
 ·split at h
  ·rename_i ds hd;cases h;refine .inr ?_;simp only[H2];rw[M7 (g:=fun e=>(F7 s e.1,F7 s e.2)) (fun x y h=>?_) hd];split at h
   ·rename_i a b h1 h2;cases h;rw[KH h1,KH h2]
   ·cases h
  ·cases h
 ·cases h;exact .inl rfl
theorem MN{r r':A6}(h:CJ s r=some r'):CJ (s.emb σ pre) (r.ren σ pre.length)=some (r'.ren σ pre.length):=by
 cases r with
 |box cs=>
  simp only[CJ]at h
  split at h
  ·rename_i ds hd;cases h;simp[CJ,A6.ren,M8 (fun x y=>MB (σ:=σ) (pre:=pre)) hd]
  ·cases h
 |vec T es=>
  simp only[CJ]at h
  split at h
  ·rename_i ds hd;cases h;simp[CJ,A6.ren,M8 (fun x y=>M8 (fun x y=>MB (σ:=σ) (pre:=pre))) hd]
  ·cases h
 |map es=>
  simp only[CJ]at h
  split at h
  ·rename_i ds hd;cases h;have:=M8 (f':=fun e:V×V=>match CD (s.emb σ pre) e.1,CD (s.emb σ pre) e.2 with
    |some a,some b=>some (a,b)
    | _,_=>none) (a:=fun p:V×V=>(p.1.ren σ pre.length,p.2.ren σ pre.length)) (b:=fun p:V×V=>(p.1.ren σ pre.length,p.2.ren σ pre.length)) (fun x y h=>by
     split at h
     ·rename_i a b h1 h2;cases h;simp[MB h1,MB h2]
     ·cases h) hd
   simp[CJ,A6.ren,this]
  ·cases h
 |loop fr ps asg body N st=>simp only[CJ,Option.some.injEq]at h;subst h;rfl
 |dead=>simp only[CJ,Option.some.injEq]at h;subst h;rfl
theorem rQ(r:A6):(CM s r).ren σ pre.length=r.ren σ pre.length∨(CM s r).ren σ pre.length=H2 (s.emb σ pre) (r.ren σ pre.length):=by
 unfold CM;split
 ·rename_i r' h;rcases dT (MN (σ:=σ) (pre:=pre) h)with h'|h'
  ·exact .inl h'
  ·exact .inr h'
 ·exact .inl rfl
noncomputable def AL(s:St)(L:AA):AA:=L.map fun p=>(p.1,p.2.1,CM s p.2.2)
theorem OA(s:St):∀(L:AA) (k:Nat),(AL s L).get k=(L.get k).map fun p=>(p.1,CM s p.2)
 |[],k=>rfl
 |(j,x)::L,k=>by
  have:=OA s L k;simp only[AL,List.map_cons,AA.get]at this⊢;split
  ·rfl
  ·exact this
theorem vV{rv:ResultVar}{v:V}(h:C3 P fr s rv=some v):C3 P (fr.ren σ pre.length) (s.emb σ pre) rv=some (v.ren σ pre.length):=by
 cases rv with
 |tmp t=>
  simp only[C3]at h⊢
  split at h
  ·rename_i e;cases h;simp[Fr.get_ren,e]
  ·cases h
 |cell ad T=>
  simp only[C3]at h⊢
  split at h
  ·rename_i p e;obtain⟨cs,h1,h2⟩:=Option.bind_eq_some_iff.1 h;simp[Fr.get_ren,e,YY h1,jH h2]
  ·cases h
theorem P9{rs:List ResultVar}{v:V}(h:F8 P rs fr s=some v):F8 P rs (fr.ren σ pre.length) (s.emb σ pre)=some (v.ren σ pre.length):=by
 have key:∀{rs:List ResultVar} {vs:List V},rs.mapM (C3 P fr s)=some vs→rs.mapM (C3 P (fr.ren σ pre.length) (s.emb σ pre))=some (vs.map (V.ren σ pre.length)):=by
  intro rs;induction rs with
  |nil=>intro vs e;simp at e;subst e;rfl
  |cons x l ih=>
   intro vs e
   simp only[List.mapM_cons,Option.bind_eq_bind,Option.bind_eq_some_iff,Option.pure_def,Option.some.injEq]at e
   obtain⟨y,h1,ys,h2,rfl⟩:=e
   simp[vV h1,ih h2]
 unfold F8 at h⊢;split at h
 ·rename_i x e;cases h;rw[key e];rfl
 ·rename_i vs hne e;cases h;rw[key e];cases vs with
  |nil=>simp
  |cons a r=>
   cases r with
   |nil=>exact absurd rfl (hne a)
   |cons b r=>simp
 ·cases h
theorem Q6:∀(i:Nat) (vs:List V),AG i (vs.map (V.ren σ δ))=(AG i vs).ren σ δ
 |_,[]=>rfl
 |i,v::vs=>by simp[AG,Fr.ren,Q6 (i+1) vs]
end Go.Pg
