/- Names and levels turned into others: what the operations give turns with them. No program in sight. -/
import Derived.Test.YthhdhbalenanjaaGreatP4
noncomputable section
open Go renaming TypeId->cz,Operand->cd
open Option renaming map_eq_some_iff->bj,bind_eq_some_iff->bk,map_some->bq,some->bb,map_none->bh,bind_eq_bind->bn,pure_def->cq
open List renaming map_congr_left->bw,map_drop->bx,map_take->bz,getElem?_map->bc,length_map->bg,map_cons->bm,map_map->bp,mapM_cons->cj,sizeOf_lt_of_mem->ck,all_map->cw,map->cx
open Nat renaming add_assoc->bf
namespace Go.Pg
variable {P:Program}
variable {σ σ':Nat->Nat}{δ:Nat}
theorem PX:∀(l:List V),dG σ δ l=l.map (V.ren σ δ)
 |[]=>by simp[dG]
 |v::r=>by simp[dG,PX r]
theorem nF:∀(l:List (List V)),mR σ δ l=l.map (cx (V.ren σ δ))
 |[]=>by simp[mR]
 |v::r=>by simp[mR,PX,nF r]
@[simp] theorem EK(k:IntKind)(n:Int):(V.int k n).ren σ δ=.int k n:=by simp[V.ren]
@[simp] theorem L7(b:Bool):(V.bool b).ren σ δ=.bool b:=by simp[V.ren]
@[simp] theorem A8T(v:Value):(V.raw v).ren σ δ=.raw v:=by simp[V.ren]
@[simp] theorem HS(cs:List V):(V.agg cs).ren σ δ=.agg (cs.map (V.ren σ δ)):=by simp[V.ren,PX]
@[simp] theorem KX(cs:List V):(V.tup cs).ren σ δ=.tup (cs.map (V.ren σ δ)):=by simp[V.ren,PX]
@[simp] theorem EU(f:Bool)(es:List (List V)):(V.list f es).ren σ δ=.list f (es.map (cx (V.ren σ δ))):=by simp[V.ren,nF]
@[simp] theorem M3(cs:List V):(V.ref cs).ren σ δ=.ref (cs.map (V.ren σ δ)):=by simp[V.ren,PX]
@[simp] theorem HT(l k g off:Nat):(V.ptr l k g off).ren σ δ=.ptr (l+δ) k (σ g) off:=by simp[V.ren]
@[simp] theorem O2(l k g i off:Nat):(V.eptr l k g i off).ren σ δ=.eptr (l+δ) k (σ g) i off:=by simp[V.ren]
@[simp] theorem HU(l k g n:Nat):(V.vec l k g n).ren σ δ=.vec (l+δ) k (σ g) n:=by simp[V.ren]
@[simp] theorem RJ(l k g:Nat):(V.mp l k g).ren σ δ=.mp (l+δ) k (σ g):=by simp[V.ren]
@[simp] theorem O3(f:FuncId)(xs ys:List V):(V.fn f xs ys).ren σ δ=.fn f (xs.map (V.ren σ δ)) (ys.map (V.ren σ δ)):=by simp[V.ren,PX]
@[simp] theorem iM(l k g:Nat):(V.yld l k g).ren σ δ=.yld (l+δ) k (σ g):=by simp[V.ren]
@[simp] theorem ALG:V.nil.ren σ δ=.nil:=by simp[V.ren]
@[simp] theorem A8U:V.any.ren σ δ=.any:=by simp[V.ren]
@[simp] theorem X7(l k g i n:Nat):(V.vtl l k g i n).ren σ δ=.vtl (l+δ) k (σ g) i n:=by simp[V.ren]
theorem M4{σ':Nat->Nat}{δ':Nat}:∀(v:V),(v.ren σ δ).ren σ' δ'=v.ren (fun γ=>σ' (σ γ)) (δ+δ')
 |.agg cs=>by simp only[HS,bp];congr 1;exact bw fun v _=>M4 v
 |.tup cs=>by simp only[KX,bp];congr 1;exact bw fun v _=>M4 v
 |.ref cs=>by simp only[M3,bp];congr 1;exact bw fun v _=>M4 v
 |.list b es=>by
  simp only[EU,bp];congr 1;refine bw fun e he=>?_;have hlt:=ck he;simp only[Function.comp,bp];exact bw fun v hv=>by have hlt2:=ck hv;exact M4 v
 |.fn f xs ys=>by
  simp only[O3,bp];congr 1
  ·exact bw fun v _=>M4 v
  ·exact bw fun v _=>M4 v
 |.int k n=>by simp
 |.bool b=>by simp
 |.raw v=>by simp
 |.ptr l k g off=>by simp[bf]
 |.eptr l k g i off=>by simp[bf]
 |.vec l k g n=>by simp[bf]
 |.mp l k g=>by simp[bf]
 |.yld l k g=>by simp[bf]
 |.nil=>by simp
 |.vtl l k g i n=>by simp[bf]
 |.any=>by simp
decreasing_by all_goals first|(simp_wf;omega)|decreasing_tactic
def AX.ren(σ:Nat->Nat)(δ:Nat):AX->AX
 |.box cs=>.box (cs.map (V.ren σ δ))
 |.vec T es=>.vec T (es.map (cx (V.ren σ δ)))
 |.map es=>.map (es.map fun p=>(p.1.ren σ δ,p.2.ren σ δ))
 |.loop fr ps asg body N st=>.loop (fr.map fun p=>(p.1,p.2.1,p.2.2.ren σ δ)) ps asg body N st
 |.dead=>.dead
def AA.ren(σ:Nat->Nat)(δ:Nat)(L:AA):AA:=L.map fun p=>(p.1,σ p.2.1,p.2.2.ren σ δ)
def Fr.ren(σ:Nat->Nat)(δ:Nat)(fr:Fr):Fr:=fr.map fun p=>(p.1,p.2.1,p.2.2.ren σ δ)
def St.emb(σ:Nat->Nat)(pre:List AA)(s:St):St:=⟨pre++s.up.map (AA.ren σ pre.length),s.loc.ren σ pre.length⟩
theorem Fr.get_ren:∀(fr:Fr) (k:Nat),(fr.ren σ δ).get k=(fr.get k).map fun p=>(p.1,p.2.ren σ δ)
 |[],k=>rfl
 |(j,x)::fr,k=>by
  have:=Fr.get_ren fr k;simp only[Fr.ren,bm,Fr.get]at this|-;split
  ·rfl
  ·exact this
theorem AA.get_ren:∀(L:AA) (k:Nat),(L.ren σ δ).get k=(L.get k).map fun p=>(σ p.1,p.2.ren σ δ)
 |[],k=>rfl
 |(j,x)::L,k=>by
  have:=AA.get_ren L k;simp only[AA.ren,bm,AA.get]at this|-;split
  ·rfl
  ·exact this
variable {pre:List AA}{s:St}
theorem DE:(s.emb σ pre).up.length=s.up.length+pre.length:=by simp[St.emb,Nat.add_comm]
theorem CB(l k:Nat):(s.emb σ pre).get (l+pre.length) k=(s.get l k).map fun p=>(σ p.1,p.2.ren σ pre.length):=by
 unfold St.get;rw[DE];by_cases h:l=s.up.length
 ·rw[if_pos h,if_pos (by rw[h])];exact AA.get_ren _ _
 ·rw[if_neg h,if_neg (by omega)];simp only[St.emb];rw[List.getElem?_append_right (by omega),Nat.add_sub_cancel,bc];cases s.up[l]? with
  |none=>rfl
  |some L=>simp[AA.get_ren]
theorem aP{α:Type}(f:α->α)(M:List α)(l:Nat):∀(pre:List α),(pre++M).modify (l+pre.length) f=pre++M.modify l f
 |[]=>rfl
 |p::pre=>by have:=aP f M l pre;simp only[List.cons_append,List.length_cons,<-bf,List.modify_succ_cons,this]
theorem CT{l k g:Nat}{r:AX}:(s.put l k g r).emb σ pre=(s.emb σ pre).put (l+pre.length) k (σ g) (r.ren σ pre.length):=by
 unfold St.put;rw[DE];by_cases h:l=s.up.length
 ·rw[if_pos h,if_pos (by rw[h])];simp[St.emb,AA.ren,AA.put]
 ·rw[if_neg h,if_neg (by omega)];simp only[St.emb,St.mk.injEq,and_true];rw[aP];congr 1;refine List.ext_getElem? fun i=>?_;simp only[bc,List.getElem?_modify];by_cases hi:l=i
  ·subst hi;cases s.up[l]? with
   |none=>rfl
   |some L=>simp[AA.ren,AA.put]
  ·simp[hi]
theorem RK{u:Value}{v:V}(h:CQ u=some v):v.ren σ δ=v:=by
 cases u with
 |int k n=>simp only[CQ,bb.injEq]at h;subst h;simp
 |bool b=>simp only[CQ,bb.injEq]at h;subst h;simp
 |agg cs=>simp[CQ]at h
 |tuple cs=>simp[CQ]at h
 |slice a n c=>
  unfold CQ at h
  split at h<;>simp_all<;>subst h<;>simp
 |_=>simp only[CQ,bb.injEq]at h;subst h;simp
theorem RL:∀{l:List Value} {cs:List V},GQ l=some cs->cs.map (V.ren σ δ)=cs
 |[],cs,h=>by simp[GQ]at h;subst h;rfl
 |v::r,cs,h=>by
  unfold GQ at h;split at h
  ·rename_i x l h1 h2;cases h;simp[RK h1,RL h2]
  ·cases h
end Go.Pg
namespace Go.Pg
variable {P:Program}{σ:Nat->Nat}{δ:Nat}{pre:List AA}{s:St}{fr:Fr}{g:Bool}
theorem AFO(x:cd):rd (fr.ren σ δ) x=(rd fr x).map fun p=>(p.1,p.2.ren σ δ):=by
 cases x with
 |tmp t=>exact Fr.get_ren fr t
 |const u=>
  simp only[rd]
  cases h:CQ u with
  |none=>rfl
  |some v=>simp[RK h]
 |func f=>simp[rd]
 |global g=>rfl
theorem DM(x:cd):DW g (fr.ren σ δ) x=(DW g fr x).map (V.ren σ δ):=by
 unfold DW;rw[AFO];cases rd fr x with
 |none=>rfl
 |some p=>
  obtain⟨c,v⟩:=p
  simp only[bq]
  split<;>rfl
theorem IJ(v:V):A9 (v.ren σ δ)=A9 v:=by cases v<;>simp[A9]
theorem EO(v:V):A8 (v.ren σ δ)=(A8 v).map (V.ren σ δ):=by cases v<;>simp[A8]
theorem AAF(v:V):weakC (v.ren σ δ)=(weakC v).ren σ δ:=by cases v<;>simp[weakC]
theorem VV(v:V):weakV (v.ren σ δ)=(weakV v).ren σ δ:=by cases v<;>simp[weakV,AAF]
theorem W8{p:V}{cs:List V}(h:A6 s p=some cs):A6 (s.emb σ pre) (p.ren σ pre.length)=some (cs.map (V.ren σ pre.length)):=by
 cases p with
 |ref ds=>simp only[A6,bb.injEq]at h;subst h;simp[A6]
 |ptr l k γ off=>
  simp only[A6]at h
  split at h
  ·rename_i γ' ds e;split at h
   ·rename_i eg;cases h;simp[A6,CB,e,AX.ren,eg,bx]
   ·cases h
  ·cases h
 |eptr l k γ i off=>
  simp only[A6]at h
  split at h
  ·rename_i γ' T es e;split at h
   ·rename_i eg;obtain⟨x,hx,rfl⟩:=bj.1 h;simp[A6,CB,e,AX.ren,eg,hx,bx]
   ·cases h
  ·cases h
 |_=>cases h
theorem fA{T:cz}{cs:List V}{v:V}(h:BK P T cs=some v):BK P T (cs.map (V.ren σ δ))=some (v.ren σ δ):=by
 unfold BK at h|-;split at h
 ·split at h
  ·rename_i hc;cases h;simp[hc,bz]
  ·cases h
 ·split at h
  ·rename_i hc;cases h;simp[hc,bz]
  ·cases h
 ·simp only[bc,h,bq]
 ·cases h
theorem fB{U:cz}{cs:List V}{off:Nat}{v:V}(h:OR P U cs off=some v):OR P U (cs.map (V.ren σ δ)) off=some (v.ren σ δ):=by
 unfold OR at h|-;split at h
 ·split at h
  ·rename_i hc;cases h;simp[hc,bz,bx]
  ·cases h
 ·split at h
  ·rename_i hc;cases h;simp[hc,bz,bx]
  ·cases h
 ·simp only[bc,h,bq]
 ·cases h
theorem nG{T:cz}{x v:V}{f:Nat}(h:IQ P T x f=some v):IQ P T (x.ren σ δ) f=some (v.ren σ δ):=by
 unfold IQ at h;split at h
 ·rename_i cs U off e;simp[IQ,e,fB h]
 ·cases h
theorem XO{T:cz}{x v:V}{f:Nat}(h:C9 P T x f=some v):C9 P T (x.ren σ δ) f=some (v.ren σ δ):=by
 unfold C9 at h;split at h
 ·rename_i U off e;split at h
  ·cases h
  ·rename_i hz;split at h<;>first
    |(cases h;done)
    |(cases h;simp[C9,e,hz,bx])
 ·cases h
theorem E6(es:List (List V))(j:Nat):(es.map (cx (V.ren σ δ))).getD j []=(es.getD j []).map (V.ren σ δ):=by simp only[List.getD_eq_getElem?_getD,bc];cases es[j]?<;>rfl
theorem XP{T:cz}{x i v:V}(h:BO P s T x i=some v):BO P (s.emb σ pre) T (x.ren σ pre.length) (i.ren σ pre.length)=some (v.ren σ pre.length):=by
 unfold BO at h;split at h
 ·rename_i e f es k j e1;split at h
  ·rename_i hc;cases h;obtain⟨c1,c2,c3,c4⟩:=hc;simp only[EU,EK,BO,e1,bg,E6,M3];rw[if_pos ⟨c1,c2,c3,c4⟩]
  ·cases h
 ·rename_i e l k γ n k' j e1;split at h
  ·rename_i γ' U es e2;split at h
   ·rename_i hc;cases h;obtain⟨c1,c2,c3,c4,c5,c6⟩:=hc;subst c1;simp only[HU,EK,BO,e1,CB,e2,bq,AX.ren,bg,E6,O2];rw[if_pos ⟨trivial,c2,c3,c4,c5,c6⟩]
   ·cases h
  ·cases h
 ·rename_i n e cs k j e1;split at h
  ·rename_i hc;cases h;simp only[M3,EK,BO,e1,if_pos hc,bx]
  ·cases h
 ·rename_i n e l k γ o k' j e1;split at h
  ·rename_i hc;cases h;simp only[HT,EK,BO,e1,if_pos hc]
  ·cases h
 ·rename_i n e l k γ i' o k' j e1;split at h
  ·rename_i hc;cases h;simp only[O2,EK,BO,e1,if_pos hc]
  ·cases h
 ·cases h
theorem nH{T:cz}{x i v:V}(h:MR P T x i=some v):MR P T (x.ren σ δ) (i.ren σ δ)=some (v.ren σ δ):=by
 unfold MR at h;split at h
 ·rename_i n e cs k j e1;split at h
  ·rename_i hc;simp only[HS,EK,MR,e1,if_pos hc,fB h]
  ·cases h
 ·cases h
theorem sB{S D:cz}{x v:V}(h:RE P S D x=some v):RE P S D (x.ren σ δ)=some (v.ren σ δ):=by
 unfold RE at h;split at h
 ·rename_i e1 e2;cases h;simp[RE,e1,e2]
 ·cases h
theorem AFP{op:UnOp}{x v:V}(h:iB op x=some v):iB op (x.ren σ δ)=some (v.ren σ δ):=by unfold iB at h;split at h<;>first|(cases h;done)|(cases h;simp[iB])
theorem AAG{x v:V}(h:OS x=some v):OS (x.ren σ δ)=some (v.ren σ δ):=by cases x<;>simp[OS]at h<;>subst h<;>simp[OS]
theorem dI{x v:V}{i:Nat}(h:F2 x i=some v):F2 (x.ren σ δ) i=some (v.ren σ δ):=by cases x<;>simp[F2]at h;simp[F2,h]
theorem AAH{T:cz}{x v:V}(h:HM P T x=some v):HM P T (x.ren σ δ)=some (v.ren σ δ):=by
 unfold HM at h;split at h
 ·rename_i e f es hu;cases h;simp[HM,hu]
 ·rename_i e l k g n hu;cases h;simp[HM,hu]
 ·rename_i e hu;cases h;simp[HM,hu]
 ·rename_i n e hu;cases h;unfold HM;rw[hu];simp
 ·cases h
theorem ALH{n m:Nat}{h:Option V}(e:hiN n h=some m):hiN n (h.map (V.ren σ δ))=some m:=by
 cases h with
 |none=>exact e
 |some a=>cases a<;>first|(simp only[bq,EK];exact e)|(simp[hiN]at e)
theorem nI{T:cz}{x v:V}{lo hi mx:Option V}(h:C7 P s T x lo hi mx=some v):C7 P (s.emb σ pre) T (x.ren σ pre.length) (lo.map (V.ren σ pre.length)) (hi.map (V.ren σ pre.length)) (mx.map (V.ren σ pre.length))=some (v.ren σ pre.length):=by
 unfold C7 at h;split at h
 ·rename_i e f es k h' e1;split at h
  ·rename_i hc;cases h;simp only[EU,bq,EK,bh,C7,e1,bg,if_pos hc,bz]
  ·cases h
 ·rename_i e f es k l e1;split at h
  ·rename_i hc;cases h;have:(es.map (cx (V.ren σ pre.length))).all (fun x=>x.length==P.cellsOf e)=true:=by rw[cw];exact hc.2.2.2▸(by congr 1;funext x;simp)
   simp only[EU,bq,EK,bh,C7,e1,bg,if_pos (⟨hc.1,hc.2.1,hc.2.2.1,this⟩:_/\_/\_/\_),bx]
  ·cases h
 ·rename_i e f es k l k' h' e1;split at h
  ·rename_i hc;cases h;have:(es.map (cx (V.ren σ pre.length))).all (fun x=>x.length==P.cellsOf e)=true:=by rw[cw];exact hc.2.2.2.2▸(by congr 1;funext x;simp)
   simp only[EU,bq,EK,bh,C7,e1,bg,if_pos (⟨hc.1,hc.2.1,hc.2.2.1,hc.2.2.2.1,this⟩:_/\_/\_/\_/\_),bx,bz]
  ·cases h
 ·rename_i e f es k h' k' m e1;split at h
  ·rename_i hc;cases h;simp only[EU,bq,EK,bh,C7,e1,if_pos hc,List.map_nil]
  ·cases h
 ·rename_i e l k g n k' h' e1;split at h
  ·rename_i hc;cases h;simp only[HU,bq,EK,bh,C7,e1,if_pos hc]
  ·cases h
 ·rename_i e l k g n k' i e1;split at h
  ·rename_i g' T' es hget;split at h
   ·rename_i hc;obtain⟨rfl,h1,h2,h3,h4,h5⟩:=hc;cases h;have:(es.map (cx (V.ren σ pre.length))).all (fun x=>x.length==P.cellsOf e)=true:=by rw[cw];exact h1▸(by congr 1;funext x;simp)
    simp only[HU,X7,bq,EK,bh,C7,e1,CB,hget,AX.ren];rw[if_pos ⟨trivial,this,by simpa using h2,h3,h4,h5⟩]
   ·cases h
  ·cases h
 ·rename_i n e l k g o e1;split at h
  ·rename_i g' cs m hget hm;split at h
   ·rename_i hc;obtain⟨rfl,h1,h2⟩:=hc;cases h;simp only[HT,X7,bh,C7,e1,CB,hget,AX.ren,bq,ALH hm];rw[if_pos ⟨trivial,h1,by simpa using h2⟩]
   ·cases h
  ·cases h
 ·cases h
theorem AAI{x y v:V}(h:TU x y=some v):TU (x.ren σ δ) (y.ren σ δ)=some (v.ren σ δ):=by
 unfold TU at h;split at h
 ·split at h
  ·rename_i hk;cases h;simp[TU,hk]
  ·cases h
 ·cases h
theorem AAJ{x y v:V}(h:TV x y=some v):TV (x.ren σ δ) (y.ren σ δ)=some (v.ren σ δ):=by
 unfold TV at h;split at h
 ·split at h
  ·rename_i hk;cases h;simp[TV,hk]
  ·cases h
 ·cases h
theorem AAK{op:BinOp}{k:IntKind}{a b:Int}{v:V}(h:F9 op k a b=some v):v.ren σ δ=v:=by
 unfold F9 at h;split at h<;>first
  |(cases h;simp;done)
  |(split at h<;>first|(cases h;done)|(cases h;simp;done))
  |(obtain⟨r,_,rfl⟩:=bj.1 h;simp)
theorem M5:∀(cs:List V),D7 (cs.map (V.ren σ δ))=D7 cs
 |[]=>rfl
 |c::cs=>by have ih:=M5 cs;cases c<;>simp[D7,ih]
theorem AFQ{op:BinOp}{k:IntKind}{a b:Int}{v:V}(h:lV op k a b=some v):v.ren σ δ=v:=by
 cases op<;>simp only[lV]at h;case shl=>split at h<;>cases h;simp
 case shr=>split at h<;>cases h;simp
 all_goals cases h
theorem AAL{op:BinOp}{T:cz}{x y v:V}(h:I3 P op T x y=some v):I3 P op T (x.ren σ δ) (y.ren σ δ)=some (v.ren σ δ):=by
 unfold I3 at h;split at h
 ·split at h
  ·rename_i hk;simp only[EK,I3,if_pos hk,h,AAK h]
  ·rename_i hk;simp only[EK,I3,if_neg hk,h,AFQ h]
 ·split at h
  ·rename_i hk;have hv:v.ren σ δ=v:=by split at h<;>first|(cases h;done)|(cases h;simp)
   rw[hv];simp only[L7,I3,if_pos hk];exact h
  ·cases h
 ·rename_i cs ds;have he:rK P T (cs.map (V.ren σ δ)) (ds.map (V.ren σ δ))=rK P T cs ds:=by unfold rK;rw[M5,M5]
  have hv:v.ren σ δ=v:=by
   split at h
   ·obtain⟨r,_,rfl⟩:=bj.1 h;simp
   ·obtain⟨r,_,rfl⟩:=bj.1 h;simp
   ·cases h
  rw[hv];simp only[HS,I3,he];exact h
 ·rename_i x' _;have hi:IH (x.ren σ δ)=IH x:=by
   cases x with
   |list f es=>cases es<;>simp[IH]
   |vec l k g n=>cases n<;>simp[IH]
   |vtl l k g i n=>cases n<;>simp[IH]
   |_=>simp[IH]
  have hb:∀y:V,I3 P op T y .nil=if DN P T then(match op with
   |.eql=>(IH y).map V.bool
   |.neq=>(IH y).map fun b=>V.bool !b
   | _=>none) else none:=fun y=>by cases y <;> rfl
  have hv:v.ren σ δ=v:=by
   split at h
   ·split at h
    ·obtain⟨r,_,rfl⟩:=bj.1 h;simp
    ·obtain⟨r,_,rfl⟩:=bj.1 h;simp
    ·cases h
   ·cases h
  rw[hv,ALG,hb,hi];exact h
 ·cases h
theorem VW:∀{cs:List V} {l:List Value},D7 cs=some l->cs.map (V.ren σ δ)=cs
 |[],_,_=>rfl
 |c::cs,l,h=>by
  cases c with
  |int k n=>
   simp only[D7]at h
   split at h
   ·rename_i r hr;simp[VW hr]
   ·cases h
  |bool b=>
   simp only[D7]at h
   split at h
   ·rename_i r hr;simp[VW hr]
   ·cases h
  |_=>simp[D7]at h
theorem aS{K:cz}(v:V):XJ P K (v.ren σ δ)=XJ P K v:=by
 cases v with
 |agg cs=>
  simp only[HS,XJ,M5]
  split
  ·rename_i l hl;rw[VW hl]
  ·rfl
 |_=>simp[XJ]
theorem VX{K:cz}{ks:List V}:∀(es:List (V×V)) (i:Nat),NN P K ks (es.map fun p=>(p.1.ren σ δ,p.2.ren σ δ)) i=NN P K ks es i
 |[],_=>rfl
 |(k,v)::es,i=>by simp only[bm,NN,aS,VX es]
theorem sC{T:cz}{z:V}(h:VK P T=some z):z.ren σ δ=z:=by
 unfold VK at h;split at h
 ·split at h
  ·rename_i cs hz;cases h;simp[RL hz]
  ·cases h
 ·exact RK h
 ·cases h
theorem iN{T:cz}{x k v:V}{ok:Bool}(h:DO P s T x k ok=some v):DO P (s.emb σ pre) T (x.ren σ pre.length) (k.ren σ pre.length) ok=some (v.ren σ pre.length):=by
 unfold DO at h;split at h
 ·rename_i K E l q g hm;split at h
  ·rename_i g' es hget;split at h
   ·rename_i hc;obtain⟨rfl,hT⟩:=hc;split at h
    ·rename_i ks hks;simp only[RJ,DO,hm,CB,hget,bq,AX.ren,aS,hks,VX,if_pos (⟨trivial,hT⟩:True/\_)];split at h
     ·rename_i hf;obtain⟨z,hz,rfl⟩:=bj.1 h;simp only[hz,bq];cases ok<;>simp[sC hz]
     ·rename_i i hf;obtain⟨e,he,rfl⟩:=bj.1 h;simp only[bc,he,bq];cases ok<;>simp
     ·cases h
    ·cases h
   ·cases h
  ·cases h
 ·cases h
theorem VY{T:cz}{x k v:V}{l q γ:Nat}{es:List (V×V)}(h:LZ P s T x k v=some (l,q,γ,es)):LZ P (s.emb σ pre) T (x.ren σ pre.length) (k.ren σ pre.length) (v.ren σ pre.length)=some (l+pre.length,q,σ γ,es.map fun p=>(p.1.ren σ pre.length,p.2.ren σ pre.length)):=by
 unfold LZ at h;split at h
 ·rename_i K E l q g hm;split at h
  ·rename_i g' es hget;split at h
   ·rename_i hc;obtain⟨rfl,hT⟩:=hc;split at h
    ·rename_i ks hks;simp only[RJ,LZ,hm,CB,hget,bq,AX.ren,aS,hks,VX,if_pos (⟨trivial,hT⟩:True/\_)];split at h
     ·rename_i hf;cases h;simp
     ·rename_i i hf;cases h;simp[List.map_set]
     ·cases h
    ·cases h
   ·cases h
  ·cases h
 ·cases h
theorem I9{r:cd->Option V}:∀{l:List cd} {vs:List V},l.mapM r=some vs->l.mapM (fun x=>(r x).map (V.ren σ δ))=some (vs.map (V.ren σ δ))
 |[],vs,h=>by simp at h;subst h;rfl
 |x::l,vs,h=>by simp only[cj,bn,bk,cq,bb.injEq]at h;obtain⟨v,h1,us,h2,rfl⟩:=h;simp[h1,I9 h2]
theorem ALI{o:Oper}{r:cd->Option V}{v:V}(h:JX P o s r=some v):JX P o (s.emb σ pre) (fun x=>(r x).map (V.ren σ pre.length))=some (v.ren σ pre.length):=by
 unfold JX at h|-;split at h<;>(try simp only[bk]at h);case h_1=>simp[h]
 case h_2=>simp[h]
 case h_3=>obtain⟨a,h1,h2⟩:=h;simp[h1,AAG h2]
 case h_4=>obtain⟨a,h1,b,h2,h3⟩:=h;simp[h1,W8 h2,fA h3]
 case h_5=>obtain⟨a,h1,b,h2,h3⟩:=h;simp[h1,h2,AAL h3]
 case h_6=>obtain⟨a,h1,h2⟩:=h;simp[h1,AFP h2]
 case h_7=>obtain⟨a,h1,h2⟩:=h;simp[h1,sB h2]
 case h_8=>obtain⟨a,h1,h2⟩:=h;simp[h1,XO h2]
 case h_9=>obtain⟨a,h1,h2⟩:=h;simp[h1,nG h2]
 case h_10=>obtain⟨a,h1,b,h2,h3⟩:=h;simp[h1,h2,XP h3]
 case h_11=>obtain⟨a,h1,b,h2,h3⟩:=h;simp[h1,h2,nH h3]
 case h_12=>obtain⟨a,h1,h2⟩:=h;simp[h1,dI h2]
 case h_13=>
  split at h
  ·rename_i e1 e2;simp only[bk]at h;obtain⟨a,h1,h2⟩:=h;simp[h1,AAH h2]
  ·cases h
 case h_14=>
  split at h
  ·simp only[bk]at h;obtain⟨a,h1,b,h2,h3⟩:=h;simp[h1,h2,AAI h3]
  ·cases h
 case h_15=>
  split at h
  ·simp only[bk]at h;obtain⟨a,h1,b,h2,h3⟩:=h;simp[h1,h2,AAJ h3]
  ·cases h
 case h_16 T x lo hi mx ho=>
  obtain⟨a,h1,l,h2,u,h3,m,h4,h5⟩:=h
  have key:∀(z:Option cd) (q:Option V),(match z with|none=>some none|some y=>(r y).map some)=some q->(z=none/\q=none)\/∃y b,z=some y/\r y=some b/\q=some b:=by
   intro z q hz;cases z with
   |none=>cases hz;exact .inl ⟨rfl,rfl⟩
   |some y=>
    obtain⟨b,hb,rfl⟩:=bj.1 hz
    exact .inr ⟨y,b,rfl,hb,rfl⟩
  have h6:=nI (σ:=σ) (pre:=pre) h5
  rcases key lo l h2 with⟨rfl,rfl⟩|⟨y1,b1,rfl,q1,rfl⟩<;>rcases key hi u h3 with⟨rfl,rfl⟩|⟨y2,b2,rfl,q2,rfl⟩<;>rcases key mx m h4 with⟨rfl,rfl⟩|⟨y3,b3,rfl,q3,rfl⟩<;>simp_all
 case h_17=>obtain⟨a,h1,b,h2,h3⟩:=h;simp[h1,h2,iN h3]
 case h_18 f first captured ho=>
  obtain⟨a,h1,b,h2,h3⟩:=h
  cases h3
  simp[I9 h1,I9 h2]
 case h_19=>cases h
end Go.Pg
namespace Go.Pg
variable {P:Program}{σ:Nat->Nat}{δ:Nat}{pre:List AA}{s:St}{fr:Fr}{g:Bool}
theorem G7{T:cz}{z:List V}(h:CA P T=some z):z.map (V.ren σ δ)=z:=by
 unfold CA at h;split at h
 ·exact RL h
 ·cases h
theorem DA{α β:Type}(f:α->β)(cs ds:List α)(off:Nat):A2 (cs.map f) off (ds.map f)=(A2 cs off ds).map f:=by simp[A2,bz,bx]
theorem PY{place:Nat->Option (Nat×Nat)}:∀{ps:List (Nat×V)} {cs ds:List V},C8 place cs ps=some ds->C8 place (cs.map (V.ren σ δ)) (ps.map fun p=>(p.1,p.2.ren σ δ))=some (ds.map (V.ren σ δ))
 |[],cs,ds,h=>by simp[C8]at h;subst h;rfl
 |(i,v)::r,cs,ds,h=>by
  simp only[C8]at h;split at h
  ·cases h
  ·rename_i off size e;split at h
   ·rename_i hc;have:=PY h;simp only[bm,C8,e,EO,bg];rw[if_pos hc,DA];exact this
   ·cases h
theorem M6(ps:List (Nat×V)):((ps.map fun p=>(p.1,p.2.ren σ δ)).all fun p=>A9 p.2)=ps.all fun p=>A9 p.2:=by rw[cw];congr 1;funext p;exact IJ p.2
theorem nJ{T:cz}{ps:List (Nat×V)}{v:V}(h:CW P T ps=some v):CW P T (ps.map fun p=>(p.1,p.2.ren σ δ))=some (v.ren σ δ):=by
 unfold CW at h|-;split at h
 ·rename_i z fs e1 e2;simp only[M6];split at h
  ·rename_i hc;obtain⟨cs,h1,rfl⟩:=bj.1 h;have:=PY (σ:=σ) (δ:=δ) h1;rw[G7 e1]at this;rw[if_pos hc,this];simp
  ·cases h
 ·rename_i z n e e1 e2;simp only[M6];split at h
  ·rename_i hc;obtain⟨cs,h1,rfl⟩:=bj.1 h;have:=PY (σ:=σ) (δ:=δ) h1;rw[G7 e1]at this;rw[if_pos hc,this];simp
  ·cases h
 ·cases h
theorem aT{β:Type}(f:V->V)(size:Nat):∀(n:Nat) (cs:List V),CR size (cs.map f) n=(CR size cs n).map (cx f)
 |0,_=>rfl
 |n+1,cs=>by simp only[CR,bm,bz];rw[<-bx,aT (β:=β) f size n]
theorem VZ{T:cz}{len:Nat}{ps:List (Nat×V)}{v:V}(h:CD P T len ps=some v):CD P T len (ps.map fun p=>(p.1,p.2.ren σ δ))=some (v.ren σ δ):=by
 unfold CD at h|-;split at h
 ·rename_i e e1;split at h
  ·rename_i z e2;split at h
   ·rename_i hc;obtain⟨cs,h1,rfl⟩:=bj.1 h;have:=PY (σ:=σ) (δ:=δ) h1;have hz:(List.replicate len z).flatten.map (V.ren σ δ)=(List.replicate len z).flatten:=by rw[List.map_flatten,List.map_replicate,G7 e2]
    rw[hz]at this;simp only[M6];rw[if_pos hc,this];simp[aT (β:=Nat)]
   ·cases h
  ·cases h
 ·cases h
theorem RM{r:cd->Option V}:∀{l:List (Nat×cd)} {ps:List (Nat×V)},DC r l=some ps->DC (fun x=>(r x).map (V.ren σ δ)) l=some (ps.map fun p=>(p.1,p.2.ren σ δ))
 |[],ps,h=>by simp[DC]at h;subst h;rfl
 |(i,x)::l,ps,h=>by
  simp only[DC]at h;split at h
  ·rename_i v us h1 h2;cases h;simp[DC,h1,RM h2]
  ·cases h
theorem G8{v:V}{es:List (List V)}(h:elemsOf s v=some es):elemsOf (s.emb σ pre) (v.ren σ pre.length)=some (es.map (cx (V.ren σ pre.length))):=by
 cases v with
 |list f ds=>simp only[elemsOf,bb.injEq]at h;subst h;simp[elemsOf]
 |vec l k γ n=>
  simp only[elemsOf]at h
  split at h
  ·rename_i γ' T ds e;split at h
   ·rename_i hc;cases h;simp[elemsOf,CB,e,AX.ren,hc.1,hc.2,bz]
   ·cases h
  ·cases h
 |vtl l k γ i n=>
  simp only[elemsOf]at h
  split at h
  ·rename_i γ' cs e;split at h
   ·rename_i hc;cases h;simp[elemsOf,CB,e,AX.ren,hc.1,hc.2,bz,bx,Function.comp_def]
   ·cases h
  ·cases h
 |nil=>simp only[elemsOf,bb.injEq]at h;subst h;simp[elemsOf]
 |_=>cases h
theorem JT:DW g (fr.ren σ δ)=fun x=>(DW g fr x).map (V.ren σ δ):=by funext x;exact DM x
theorem JA{o:Oper}{v:V}(h:FT P g o fr s=some v):FT P g o (fr.ren σ pre.length) (s.emb σ pre)=some (v.ren σ pre.length):=by
 unfold FT at h|-;split at h
 ·rename_i c x y ho;split at h
  ·rename_i c' ca va cb vb e1 e2 e3;split at h
   ·rename_i hc;cases h;simp only[DM,AFO,e1,e2,e3,bq,L7];rw[if_pos hc]
   ·cases h
  ·cases h
 ·rename_i T parts ho;obtain⟨ps,h1,h2⟩:=bk.1 h;rw[JT,RM h1];exact nJ h2
 ·rename_i T len parts ho;obtain⟨ps,h1,h2⟩:=bk.1 h;rw[JT,RM h1];exact VZ h2
 ·rw[JT];exact ALI h
def A1(s:St):Nat->V->Option V
 |0,_=>none
 |f+1,v=>match v with
  |.list _ es=>some (.list false es)
  | .vec l k g m=>if l=s.up.length then(match s.loc.get k with
    |some (g',.vec _ es)=>if g'=g/\m<=es.length then some (.list false (es.take m)) else none
    | _=>none) else some v
  | .ptr l k g off=>if l=s.up.length then(match s.loc.get k with
    |some (g',.box cs)=>if g'=g then(cs.mapM (A1 s f)).map fun ds=>.ref (ds.drop off) else none
    | _=>none) else some v
  |.agg cs=>(cs.mapM (A1 s f)).map .agg
  |.tup cs=>(cs.mapM (A1 s f)).map .tup
  |.fn g xs ys=>match xs.mapM (A1 s f),ys.mapM (A1 s f)with
   |some a,some b=>some (.fn g a b)
   |_,_=>none
  |v=>some v
theorem G9{α β:Type}{f:α->Option β}{g:α->β}(h:∀x y,f x=some y->g x=y):∀{l:List α} {r:List β},l.mapM f=some r->l.map g=r
 |[],r,e=>by simp at e;subst e;rfl
 |x::l,r,e=>by simp only[cj,bn,bk,cq,bb.injEq]at e;obtain⟨y,h1,ys,h2,rfl⟩:=e;simp[h x y h1,G9 h h2]
theorem O4:∀(f:Nat) {v r:V},A1 s f v=some r->DI s f v=r
 |0,v,r,h=>by cases h
 |f+1,v,r,h=>by
  have ih:=fun v r=>O4 f (v:=v) (r:=r);cases v with
  |list b es=>simpa [A1,DI]using h
  |vec l k g m=>
   simp only[A1]at h
   simp only[DI]
   split at h
   ·rename_i hl;rw[if_pos hl];split at h
    ·rename_i g' T es e;split at h
     ·rename_i hc;rw[e];simp only[if_pos hc];exact bb.inj h
     ·cases h
    ·cases h
   ·rename_i hl;rw[if_neg hl];exact bb.inj h
  |ptr l k g off=>
   simp only[A1]at h
   simp only[DI]
   split at h
   ·rename_i hl;rw[if_pos hl];split at h
    ·rename_i g' cs e;split at h
     ·rename_i hc;obtain⟨ds,h1,rfl⟩:=bj.1 h;rw[e];simp only[if_pos hc,G9 ih h1]
     ·cases h
    ·cases h
   ·rename_i hl;rw[if_neg hl];exact bb.inj h
  |agg cs=>
   obtain⟨ds,h1,rfl⟩:=bj.1 h
   simp only[DI,G9 ih h1]
  |tup cs=>
   obtain⟨ds,h1,rfl⟩:=bj.1 h
   simp only[DI,G9 ih h1]
  |fn g xs ys=>
   simp only[A1]at h
   split at h
   ·rename_i a b h1 h2;cases h;simp only[DI,G9 ih h1,G9 ih h2]
   ·cases h
  |_=>simpa [A1,DI]using h
theorem F6{f f':V->Option V}(h:∀v r,f v=some r->f' (v.ren σ δ)=some (r.ren σ δ)):∀{l r:List V},l.mapM f=some r->(l.map (V.ren σ δ)).mapM f'=some (r.map (V.ren σ δ))
 |[],r,e=>by simp at e;subst e;rfl
 |x::l,r,e=>by simp only[cj,bn,bk,cq,bb.injEq]at e;obtain⟨y,h1,ys,h2,rfl⟩:=e;simp[h x y h1,F6 h h2]
theorem KY(k:Nat):(s.emb σ pre).loc.get k=(s.loc.get k).map fun p=>(σ p.1,p.2.ren σ pre.length):=AA.get_ren _ _
theorem KE:∀(f:Nat) {v r:V},A1 s f v=some r->A1 (s.emb σ pre) f (v.ren σ pre.length)=some (r.ren σ pre.length)
 |0,v,r,h=>by cases h
 |f+1,v,r,h=>by
  have ih:=fun v r=>KE f (v:=v) (r:=r);cases v with
  |list b es=>simp only[A1,bb.injEq]at h;subst h;simp[A1]
  |vec l k g m=>
   simp only[A1]at h
   split at h
   ·rename_i hl;split at h
    ·rename_i g' T es e;split at h
     ·rename_i hc;cases h;simp[A1,DE,KY,hl,e,AX.ren,hc.1,hc.2,bz]
     ·cases h
    ·cases h
   ·rename_i hl;cases h;have:¬l+pre.length=s.up.length+pre.length:=by omega
    simp[A1,DE,hl]
  |ptr l k g off=>
   simp only[A1]at h
   split at h
   ·rename_i hl;split at h
    ·rename_i g' cs e;split at h
     ·rename_i hc;obtain⟨ds,h1,rfl⟩:=bj.1 h;have:=F6 ih h1;simp[A1,DE,KY,hl,e,AX.ren,hc,this,bx]
     ·cases h
    ·cases h
   ·rename_i hl;cases h;simp[A1,DE,hl]
  |agg cs=>
   obtain⟨ds,h1,rfl⟩:=bj.1 h
   simp[A1,F6 ih h1]
  |tup cs=>
   obtain⟨ds,h1,rfl⟩:=bj.1 h
   simp[A1,F6 ih h1]
  |fn g xs ys=>
   simp only[A1]at h
   split at h
   ·rename_i a b h1 h2;cases h;simp[A1,F6 ih h1,F6 ih h2]
   ·cases h
  |_=>simp only[A1,bb.injEq]at h;subst h;simp[A1]
def BZ(s:St)(v:V):Option V:=match v with
 |.list f es=>some (.list f es)
 |.int k n=>some (.int k n)
 |.bool b=>some (.bool b)
 |v=>A1 s 4 v
theorem JU{v r:V}(h:BZ s v=some r):FS s v=r:=by
 unfold BZ at h;unfold FS;split at h
 ·simpa using h
 ·simpa [DI]using h
 ·simpa [DI]using h
 ·rename_i h1 h2 h3;split
  ·rename_i f es;exact absurd rfl (h1 f es)
  ·exact O4 4 h
theorem W9{v:V}(h1:∀f es,v≠.list f es)(h2:∀k n,v≠.int k n)(h3:∀b,v≠.bool b):BZ s v=A1 s 4 v:=by
 unfold BZ;split
 ·rename_i f es;exact absurd rfl (h1 f es)
 ·rename_i k n;exact absurd rfl (h2 k n)
 ·rename_i b;exact absurd rfl (h3 b)
 ·rfl
theorem KZ{v r:V}(h:BZ s v=some r):BZ (s.emb σ pre) (v.ren σ pre.length)=some (r.ren σ pre.length):=by
 by_cases h1:∃f es,v=.list f es
 ·obtain⟨f,es,rfl⟩:=h1;simp only[BZ,bb.injEq]at h;subst h;simp[BZ]
 by_cases h2:∃k n,v=.int k n
 ·obtain⟨k,n,rfl⟩:=h2;simp only[BZ,bb.injEq]at h;subst h;simp[BZ]
 by_cases h3:∃b,v=.bool b
 ·obtain⟨b,rfl⟩:=h3;simp only[BZ,bb.injEq]at h;subst h;simp[BZ]
 rw[W9 (fun f es e=>h1 ⟨f,es,e⟩) (fun k n e=>h2 ⟨k,n,e⟩) (fun b e=>h3 ⟨b,e⟩)]at h;rw[W9 (fun f es e=>by cases v<;>simp at e;exact h1 ⟨_,_,rfl⟩) (fun k n e=>by cases v<;>simp at e;exact h2 ⟨_,_,rfl⟩) (fun b e=>by cases v<;>simp at e;exact h3 ⟨_,rfl⟩)];exact KE 4 h
def HA{α β:Type}(f:α->Option β):List α->Option (List β)
 |[]=>some []
 |x::l=>match f x with
  |some y=>match HA f l with
   |some r=>some (y::r)
   |none=>none
  |none=>none
theorem L8{α β:Type}{f:α->Option β}{g:α->β}(h:∀x y,f x=some y->g x=y):∀{l:List α} {r:List β},HA f l=some r->l.map g=r
 |[],r,e=>by cases e;rfl
 |x::l,r,e=>by
  simp only[HA]at e;split at e
  ·rename_i y hy;split at e
   ·rename_i q hq;cases e;simp[h _ _ hy,L8 h hq]
   ·cases e
  ·cases e
theorem L9{α β:Type}{f f':α->Option β}{a:α->α}{b:β->β}(h:∀x y,f x=some y->f' (a x)=some (b y)):∀{l:List α} {r:List β},HA f l=some r->HA f' (l.map a)=some (r.map b)
 |[],r,e=>by cases e;rfl
 |x::l,r,e=>by
  simp only[HA]at e;split at e
  ·rename_i y hy;split at e
   ·rename_i q hq;cases e;simp[HA,h _ _ hy,L9 h hq]
   ·cases e
  ·cases e
def CC(s:St)(r:AX):Option AX:=match r with
 |.box cs=>match HA (BZ s) cs with
  |some ds=>some (.box ds)
  |none=>none
 |.vec T es=>match HA (HA (BZ s)) es with
  |some ds=>some (.vec T ds)
  |none=>none
 | .map es=>match HA (fun e:V×V=>match BZ s e.1,BZ s e.2 with
   |some a,some b=>some (a,b)
   | _,_=>none) es with
  |some ds=>some (.map ds)
  |none=>none
 |r=>some r
def CG(s:St)(r:AX):AX:=match CC s r with
 |some r'=>r'
 |none=>r
theorem aU{r r':AX}(h:CC s r=some r'):r'=r\/r'=HN s r:=by
 unfold CC at h;split at h
 ·split at h
  ·rename_i ds hd;cases h;exact .inr (by simp only[HN,L8 (fun x y=>JU) hd])
  ·cases h
 ·split at h
  ·rename_i ds hd;cases h;exact .inr (by simp only[HN,L8 (fun x y=>L8 (fun x y=>JU)) hd])
  ·cases h
 ·split at h
  ·rename_i ds hd;cases h;refine .inr ?_;simp only[HN];rw[L8 (g:=fun e=>(FS s e.1,FS s e.2)) (fun x y h=>?_) hd];split at h
   ·rename_i a b h1 h2;cases h;rw[JU h1,JU h2]
   ·cases h
  ·cases h
 ·cases h;exact .inl rfl
theorem LA{r r':AX}(h:CC s r=some r'):CC (s.emb σ pre) (r.ren σ pre.length)=some (r'.ren σ pre.length):=by
 cases r with
 |box cs=>
  simp only[CC]at h
  split at h
  ·rename_i ds hd;cases h;simp[CC,AX.ren,L9 (fun x y=>KZ (σ:=σ) (pre:=pre)) hd]
  ·cases h
 |vec T es=>
  simp only[CC]at h
  split at h
  ·rename_i ds hd;cases h;simp[CC,AX.ren,L9 (fun x y=>L9 (fun x y=>KZ (σ:=σ) (pre:=pre))) hd]
  ·cases h
 |map es=>
  simp only[CC]at h
  split at h
  ·rename_i ds hd;cases h;have:=L9 (f':=fun e:V×V=>match BZ (s.emb σ pre) e.1,BZ (s.emb σ pre) e.2 with
    |some a,some b=>some (a,b)
    | _,_=>none) (a:=fun p:V×V=>(p.1.ren σ pre.length,p.2.ren σ pre.length)) (b:=fun p:V×V=>(p.1.ren σ pre.length,p.2.ren σ pre.length)) (fun x y h=>by
     split at h
     ·rename_i a b h1 h2;cases h;simp[KZ h1,KZ h2]
     ·cases h) hd
   simp[CC,AX.ren,this]
  ·cases h
 |loop fr ps asg body N st=>simp only[CC,bb.injEq]at h;subst h;rfl
 |dead=>simp only[CC,bb.injEq]at h;subst h;rfl
theorem nK(r:AX):(CG s r).ren σ pre.length=r.ren σ pre.length\/(CG s r).ren σ pre.length=HN (s.emb σ pre) (r.ren σ pre.length):=by
 unfold CG;split
 ·rename_i r' h;rcases aU (LA (σ:=σ) (pre:=pre) h)with h'|h'
  ·exact .inl h'
  ·exact .inr h'
 ·exact .inl rfl
def AH(s:St)(L:AA):AA:=L.map fun p=>(p.1,p.2.1,CG s p.2.2)
theorem M7(s:St):∀(L:AA) (k:Nat),(AH s L).get k=(L.get k).map fun p=>(p.1,CG s p.2)
 |[],k=>rfl
 |(j,x)::L,k=>by
  have:=M7 s L k;simp only[AH,bm,AA.get]at this|-;split
  ·rfl
  ·exact this
theorem sD{rv:ResultVar}{v:V}(h:CS P fr s rv=some v):CS P (fr.ren σ pre.length) (s.emb σ pre) rv=some (v.ren σ pre.length):=by
 cases rv with
 |tmp t=>
  simp only[CS]at h|-
  split at h
  ·rename_i e;cases h;simp[Fr.get_ren,e]
  ·cases h
 |cell ad T=>
  simp only[CS]at h|-
  split at h
  ·rename_i p e;obtain⟨cs,h1,h2⟩:=bk.1 h;simp[Fr.get_ren,e,W8 h1,fA h2]
  ·cases h
theorem O5{rs:List ResultVar}{v:V}(h:F3 P rs fr s=some v):F3 P rs (fr.ren σ pre.length) (s.emb σ pre)=some (v.ren σ pre.length):=by
 have key:∀{rs:List ResultVar} {vs:List V},rs.mapM (CS P fr s)=some vs->rs.mapM (CS P (fr.ren σ pre.length) (s.emb σ pre))=some (vs.map (V.ren σ pre.length)):=by
  intro rs;induction rs with
  |nil=>intro vs e;simp at e;subst e;rfl
  |cons x l ih=>
   intro vs e
   simp only[cj,bn,bk,cq,bb.injEq]at e
   obtain⟨y,h1,ys,h2,rfl⟩:=e
   simp[sD h1,ih h2]
 unfold F3 at h|-;split at h
 ·rename_i x e;cases h;rw[key e];rfl
 ·rename_i vs hne e;cases h;rw[key e];cases vs with
  |nil=>simp
  |cons a r=>
   cases r with
   |nil=>exact absurd rfl (hne a)
   |cons b r=>simp
 ·cases h
theorem PZ:∀(i:Nat) (vs:List V),AD i (vs.map (V.ren σ δ))=(AD i vs).ren σ δ
 |_,[]=>rfl
 |i,v::vs=>by simp[AD,Fr.ren,PZ (i+1) vs]
end Go.Pg
