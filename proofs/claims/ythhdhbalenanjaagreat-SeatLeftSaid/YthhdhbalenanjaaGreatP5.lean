/- Names and levels turned into others: what the operations give turns with them. No program in sight. -/
import Derived.Test.YthhdhbalenanjaaGreatP4
noncomputable section
open Go renaming TypeId->cz,Operand->cd
open Option renaming map_eq_some_iff->bj,bind_eq_some_iff->bk,map_some->bq,some->bb,map_none->bh,bind_eq_bind->bn,pure_def->cq
open List renaming map_congr_left->bw,map_drop->bx,map_take->bz,getElem?_map->bc,length_map->bg,map_cons->bm,map_map->bp,mapM_cons->cj,sizeOf_lt_of_mem->ck,all_map->cw,map->cx
open Nat renaming add_assoc->bf
namespace Go.Pg
variable {P:Program}
variable {σ σ':Nat->Nat}{δ:Nat}
theorem PH:∀(l:List V),cF σ δ l=l.map (V.ren σ δ)
 |[]=>by simp[cF]
 |v::r=>by simp[cF,PH r]
theorem lK:∀(l:List (List V)),kY σ δ l=l.map (cx (V.ren σ δ))
 |[]=>by simp[kY]
 |v::r=>by simp[kY,PH,lK r]
@[simp] theorem EE(k:IntKind)(n:Int):(V.int k n).ren σ δ=.int k n:=by simp[V.ren]
@[simp] theorem LO(b:Bool):(V.bool b).ren σ δ=.bool b:=by simp[V.ren]
@[simp] theorem A8X(v:Value):(V.raw v).ren σ δ=.raw v:=by simp[V.ren]
@[simp] theorem HH(cs:List V):(V.agg cs).ren σ δ=.agg (cs.map (V.ren σ δ)):=by simp[V.ren,PH]
@[simp] theorem KQ(cs:List V):(V.tup cs).ren σ δ=.tup (cs.map (V.ren σ δ)):=by simp[V.ren,PH]
@[simp] theorem EQ(f:Bool)(es:List (List V)):(V.list f es).ren σ δ=.list f (es.map (cx (V.ren σ δ))):=by simp[V.ren,lK]
@[simp] theorem MQ(cs:List V):(V.ref cs).ren σ δ=.ref (cs.map (V.ren σ δ)):=by simp[V.ren,PH]
@[simp] theorem HI(l k g off:Nat):(V.ptr l k g off).ren σ δ=.ptr (l+δ) k (σ g) off:=by simp[V.ren]
@[simp] theorem OJ(l k g i off:Nat):(V.eptr l k g i off).ren σ δ=.eptr (l+δ) k (σ g) i off:=by simp[V.ren]
@[simp] theorem HJ(l k g n:Nat):(V.vec l k g n).ren σ δ=.vec (l+δ) k (σ g) n:=by simp[V.ren]
@[simp] theorem Q4(l k g:Nat):(V.mp l k g).ren σ δ=.mp (l+δ) k (σ g):=by simp[V.ren]
@[simp] theorem OK(f:FuncId)(xs ys:List V):(V.fn f xs ys).ren σ δ=.fn f (xs.map (V.ren σ δ)) (ys.map (V.ren σ δ)):=by simp[V.ren,PH]
@[simp] theorem gC(l k g:Nat):(V.yld l k g).ren σ δ=.yld (l+δ) k (σ g):=by simp[V.ren]
@[simp] theorem AJD:V.nil.ren σ δ=.nil:=by simp[V.ren]
@[simp] theorem A8Y:V.any.ren σ δ=.any:=by simp[V.ren]
@[simp] theorem XB(l k g i n:Nat):(V.vtl l k g i n).ren σ δ=.vtl (l+δ) k (σ g) i n:=by simp[V.ren]
theorem MR{σ':Nat->Nat}{δ':Nat}:∀(v:V),(v.ren σ δ).ren σ' δ'=v.ren (fun γ=>σ' (σ γ)) (δ+δ')
 |.agg cs=>by simp only[HH,bp];congr 1;exact bw fun v _=>MR v
 |.tup cs=>by simp only[KQ,bp];congr 1;exact bw fun v _=>MR v
 |.ref cs=>by simp only[MQ,bp];congr 1;exact bw fun v _=>MR v
 |.list b es=>by
  simp only[EQ,bp];congr 1;refine bw fun e he=>?_;have hlt:=ck he;simp only[Function.comp,bp];exact bw fun v hv=>by have hlt2:=ck hv;exact MR v
 |.fn f xs ys=>by
  simp only[OK,bp];congr 1
  ·exact bw fun v _=>MR v
  ·exact bw fun v _=>MR v
 |.int k n=>by simp
 |.bool b=>by simp
 |.raw v=>by simp
 |.ptr l k g off=>by simp[bf]
 |.eptr l k g i off=>by simp[bf]
 |.vec l k g n=>by simp[bf]
 |.mp l k g=>by simp[bf]
 |.yld l k g=>by simp[bf]
 |.nil=>by simp
 |.vtl l k g i n=>by simp[bf]
 |.any=>by simp
decreasing_by all_goals first|(simp_wf;omega)|decreasing_tactic
def AX.ren(σ:Nat->Nat)(δ:Nat):AX->AX
 |.box cs=>.box (cs.map (V.ren σ δ))
 |.vec T es=>.vec T (es.map (cx (V.ren σ δ)))
 |.map es=>.map (es.map fun p=>(p.1.ren σ δ,p.2.ren σ δ))
 |.loop fr ps asg body N st=>.loop (fr.map fun p=>(p.1,p.2.1,p.2.2.ren σ δ)) ps asg body N st
 |.dead=>.dead
def AA.ren(σ:Nat->Nat)(δ:Nat)(L:AA):AA:=L.map fun p=>(p.1,σ p.2.1,p.2.2.ren σ δ)
def Fr.ren(σ:Nat->Nat)(δ:Nat)(fr:Fr):Fr:=fr.map fun p=>(p.1,p.2.1,p.2.2.ren σ δ)
def St.emb(σ:Nat->Nat)(pre:List AA)(s:St):St:=⟨pre++s.up.map (AA.ren σ pre.length),s.loc.ren σ pre.length⟩
theorem Fr.get_ren:∀(fr:Fr) (k:Nat),(fr.ren σ δ).get k=(fr.get k).map fun p=>(p.1,p.2.ren σ δ)
 |[],k=>rfl
 |(j,x)::fr,k=>by
  have:=Fr.get_ren fr k;simp only[Fr.ren,bm,Fr.get]at this|-;split
  ·rfl
  ·exact this
theorem AA.get_ren:∀(L:AA) (k:Nat),(L.ren σ δ).get k=(L.get k).map fun p=>(σ p.1,p.2.ren σ δ)
 |[],k=>rfl
 |(j,x)::L,k=>by
  have:=AA.get_ren L k;simp only[AA.ren,bm,AA.get]at this|-;split
  ·rfl
  ·exact this
variable {pre:List AA}{s:St}
theorem DB:(s.emb σ pre).up.length=s.up.length+pre.length:=by simp[St.emb,Nat.add_comm]
theorem BV(l k:Nat):(s.emb σ pre).get (l+pre.length) k=(s.get l k).map fun p=>(σ p.1,p.2.ren σ pre.length):=by
 unfold St.get;rw[DB];by_cases h:l=s.up.length
 ·rw[if_pos h,if_pos (by rw[h])];exact AA.get_ren _ _
 ·rw[if_neg h,if_neg (by omega)];simp only[St.emb];rw[List.getElem?_append_right (by omega),Nat.add_sub_cancel,bc];cases s.up[l]? with
  |none=>rfl
  |some L=>simp[AA.get_ren]
theorem ZR{α:Type}(f:α->α)(M:List α)(l:Nat):∀(pre:List α),(pre++M).modify (l+pre.length) f=pre++M.modify l f
 |[]=>rfl
 |p::pre=>by have:=ZR f M l pre;simp only[List.cons_append,List.length_cons,<-bf,List.modify_succ_cons,this]
theorem CO{l k g:Nat}{r:AX}:(s.put l k g r).emb σ pre=(s.emb σ pre).put (l+pre.length) k (σ g) (r.ren σ pre.length):=by
 unfold St.put;rw[DB];by_cases h:l=s.up.length
 ·rw[if_pos h,if_pos (by rw[h])];simp[St.emb,AA.ren,AA.put]
 ·rw[if_neg h,if_neg (by omega)];simp only[St.emb,St.mk.injEq,and_true];rw[ZR];congr 1;refine List.ext_getElem? fun i=>?_;simp only[bc,List.getElem?_modify];by_cases hi:l=i
  ·subst hi;cases s.up[l]? with
   |none=>rfl
   |some L=>simp[AA.ren,AA.put]
  ·simp[hi]
theorem Q5{u:Value}{v:V}(h:CL u=some v):v.ren σ δ=v:=by
 cases u with
 |int k n=>simp only[CL,bb.injEq]at h;subst h;simp
 |bool b=>simp only[CL,bb.injEq]at h;subst h;simp
 |agg cs=>simp[CL]at h
 |tuple cs=>simp[CL]at h
 |slice a n c=>
  unfold CL at h
  split at h<;>simp_all<;>subst h<;>simp
 |_=>simp only[CL,bb.injEq]at h;subst h;simp
theorem Q6:∀{l:List Value} {cs:List V},GO l=some cs->cs.map (V.ren σ δ)=cs
 |[],cs,h=>by simp[GO]at h;subst h;rfl
 |v::r,cs,h=>by
  unfold GO at h;split at h
  ·rename_i x l h1 h2;cases h;simp[Q5 h1,Q6 h2]
  ·cases h
end Go.Pg
namespace Go.Pg
variable {P:Program}{σ:Nat->Nat}{δ:Nat}{pre:List AA}{s:St}{fr:Fr}{g:Bool}
theorem ADM(x:cd):rd (fr.ren σ δ) x=(rd fr x).map fun p=>(p.1,p.2.ren σ δ):=by
 cases x with
 |tmp t=>exact Fr.get_ren fr t
 |const u=>
  simp only[rd]
  cases h:CL u with
  |none=>rfl
  |some v=>simp[Q5 h]
 |func f=>simp[rd]
 |global g=>rfl
theorem DI(x:cd):DT g (fr.ren σ δ) x=(DT g fr x).map (V.ren σ δ):=by
 unfold DT;rw[ADM];cases rd fr x with
 |none=>rfl
 |some p=>
  obtain⟨c,v⟩:=p
  simp only[bq]
  split<;>rfl
theorem H8(v:V):A8 (v.ren σ δ)=A8 v:=by cases v<;>simp[A8]
theorem EI(v:V):A5 (v.ren σ δ)=(A5 v).map (V.ren σ δ):=by cases v<;>simp[A5]
theorem xQ(v:V):weakC (v.ren σ δ)=(weakC v).ren σ δ:=by cases v<;>simp[weakC]
theorem U5(v:V):weakV (v.ren σ δ)=(weakV v).ren σ δ:=by cases v<;>simp[weakV,xQ]
theorem WJ{p:V}{cs:List V}(h:A6 s p=some cs):A6 (s.emb σ pre) (p.ren σ pre.length)=some (cs.map (V.ren σ pre.length)):=by
 cases p with
 |ref ds=>simp only[A6,bb.injEq]at h;subst h;simp[A6]
 |ptr l k γ off=>
  simp only[A6]at h
  split at h
  ·rename_i γ' ds e;split at h
   ·rename_i eg;cases h;simp[A6,BV,e,AX.ren,eg,bx]
   ·cases h
  ·cases h
 |eptr l k γ i off=>
  simp only[A6]at h
  split at h
  ·rename_i γ' T es e;split at h
   ·rename_i eg;obtain⟨x,hx,rfl⟩:=bj.1 h;simp[A6,BV,e,AX.ren,eg,hx,bx]
   ·cases h
  ·cases h
 |_=>cases h
theorem dU{T:cz}{cs:List V}{v:V}(h:BI P T cs=some v):BI P T (cs.map (V.ren σ δ))=some (v.ren σ δ):=by
 unfold BI at h|-;split at h
 ·split at h
  ·rename_i hc;cases h;simp[hc,bz]
  ·cases h
 ·split at h
  ·rename_i hc;cases h;simp[hc,bz]
  ·cases h
 ·simp only[bc,h,bq]
 ·cases h
theorem dV{U:cz}{cs:List V}{off:Nat}{v:V}(h:LK P U cs off=some v):LK P U (cs.map (V.ren σ δ)) off=some (v.ren σ δ):=by
 unfold LK at h|-;split at h
 ·split at h
  ·rename_i hc;cases h;simp[hc,bz,bx]
  ·cases h
 ·split at h
  ·rename_i hc;cases h;simp[hc,bz,bx]
  ·cases h
 ·simp only[bc,h,bq]
 ·cases h
theorem lL{T:cz}{x v:V}{f:Nat}(h:IC P T x f=some v):IC P T (x.ren σ δ) f=some (v.ren σ δ):=by
 unfold IC at h;split at h
 ·rename_i cs U off e;simp[IC,e,dV h]
 ·cases h
theorem WZ{T:cz}{x v:V}{f:Nat}(h:C6 P T x f=some v):C6 P T (x.ren σ δ) f=some (v.ren σ δ):=by
 unfold C6 at h;split at h
 ·rename_i U off e;split at h
  ·cases h
  ·rename_i hz;split at h<;>first
    |(cases h;done)
    |(cases h;simp[C6,e,hz,bx])
 ·cases h
theorem EY(es:List (List V))(j:Nat):(es.map (cx (V.ren σ δ))).getD j []=(es.getD j []).map (V.ren σ δ):=by simp only[List.getD_eq_getElem?_getD,bc];cases es[j]?<;>rfl
theorem W0{T:cz}{x i v:V}(h:BL P s T x i=some v):BL P (s.emb σ pre) T (x.ren σ pre.length) (i.ren σ pre.length)=some (v.ren σ pre.length):=by
 unfold BL at h;split at h
 ·rename_i e f es k j e1;split at h
  ·rename_i hc;cases h;obtain⟨c1,c2,c3,c4⟩:=hc;simp only[EQ,EE,BL,e1,bg,EY,MQ];rw[if_pos ⟨c1,c2,c3,c4⟩]
  ·cases h
 ·rename_i e l k γ n k' j e1;split at h
  ·rename_i γ' U es e2;split at h
   ·rename_i hc;cases h;obtain⟨c1,c2,c3,c4,c5,c6⟩:=hc;subst c1;simp only[HJ,EE,BL,e1,BV,e2,bq,AX.ren,bg,EY,OJ];rw[if_pos ⟨trivial,c2,c3,c4,c5,c6⟩]
   ·cases h
  ·cases h
 ·rename_i n e cs k j e1;split at h
  ·rename_i hc;cases h;simp only[MQ,EE,BL,e1,if_pos hc,bx]
  ·cases h
 ·rename_i n e l k γ o k' j e1;split at h
  ·rename_i hc;cases h;simp only[HI,EE,BL,e1,if_pos hc]
  ·cases h
 ·rename_i n e l k γ i' o k' j e1;split at h
  ·rename_i hc;cases h;simp only[OJ,EE,BL,e1,if_pos hc]
  ·cases h
 ·cases h
theorem lM{T:cz}{x i v:V}(h:JJ P T x i=some v):JJ P T (x.ren σ δ) (i.ren σ δ)=some (v.ren σ δ):=by
 unfold JJ at h;split at h
 ·rename_i n e cs k j e1;split at h
  ·rename_i hc;simp only[HH,EE,JJ,e1,if_pos hc,dV h]
  ·cases h
 ·cases h
theorem pE{S D:cz}{x v:V}(h:J2 P S D x=some v):J2 P S D (x.ren σ δ)=some (v.ren σ δ):=by
 unfold J2 at h;split at h
 ·rename_i e1 e2;cases h;simp[J2,e1,e2]
 ·cases h
theorem ADN{op:UnOp}{x v:V}(h:bX op x=some v):bX op (x.ren σ δ)=some (v.ren σ δ):=by unfold bX at h;split at h<;>first|(cases h;done)|(cases h;simp[bX])
theorem xR{x v:V}(h:M8 x=some v):M8 (x.ren σ δ)=some (v.ren σ δ):=by cases x<;>simp[M8]at h<;>subst h<;>simp[M8]
theorem cH{x v:V}{i:Nat}(h:FO x i=some v):FO (x.ren σ δ) i=some (v.ren σ δ):=by cases x<;>simp[FO]at h;simp[FO,h]
theorem xS{T:cz}{x v:V}(h:HY P T x=some v):HY P T (x.ren σ δ)=some (v.ren σ δ):=by
 unfold HY at h;split at h
 ·rename_i e f es hu;cases h;simp[HY,hu]
 ·rename_i e l k g n hu;cases h;simp[HY,hu]
 ·rename_i e hu;cases h;simp[HY,hu]
 ·rename_i n e hu;cases h;unfold HY;rw[hu];simp
 ·cases h
theorem AJE{n m:Nat}{h:Option V}(e:hiN n h=some m):hiN n (h.map (V.ren σ δ))=some m:=by
 cases h with
 |none=>exact e
 |some a=>cases a<;>first|(simp only[bq,EE];exact e)|(simp[hiN]at e)
theorem lN{T:cz}{x v:V}{lo hi mx:Option V}(h:CS P s T x lo hi mx=some v):CS P (s.emb σ pre) T (x.ren σ pre.length) (lo.map (V.ren σ pre.length)) (hi.map (V.ren σ pre.length)) (mx.map (V.ren σ pre.length))=some (v.ren σ pre.length):=by
 unfold CS at h;split at h
 ·rename_i e f es k h' e1;split at h
  ·rename_i hc;cases h;simp only[EQ,bq,EE,bh,CS,e1,bg,if_pos hc,bz]
  ·cases h
 ·rename_i e f es k l e1;split at h
  ·rename_i hc;cases h;have:(es.map (cx (V.ren σ pre.length))).all (fun x=>x.length==P.cellsOf e)=true:=by rw[cw];exact hc.2.2.2▸(by congr 1;funext x;simp)
   simp only[EQ,bq,EE,bh,CS,e1,bg,if_pos (⟨hc.1,hc.2.1,hc.2.2.1,this⟩:_/\_/\_/\_),bx]
  ·cases h
 ·rename_i e f es k l k' h' e1;split at h
  ·rename_i hc;cases h;have:(es.map (cx (V.ren σ pre.length))).all (fun x=>x.length==P.cellsOf e)=true:=by rw[cw];exact hc.2.2.2.2▸(by congr 1;funext x;simp)
   simp only[EQ,bq,EE,bh,CS,e1,bg,if_pos (⟨hc.1,hc.2.1,hc.2.2.1,hc.2.2.2.1,this⟩:_/\_/\_/\_/\_),bx,bz]
  ·cases h
 ·rename_i e f es k h' k' m e1;split at h
  ·rename_i hc;cases h;simp only[EQ,bq,EE,bh,CS,e1,if_pos hc,List.map_nil]
  ·cases h
 ·rename_i e l k g n k' h' e1;split at h
  ·rename_i hc;cases h;simp only[HJ,bq,EE,bh,CS,e1,if_pos hc]
  ·cases h
 ·rename_i e l k g n k' i e1;split at h
  ·rename_i g' T' es hget;split at h
   ·rename_i hc;obtain⟨rfl,h1,h2,h3,h4,h5⟩:=hc;cases h;have:(es.map (cx (V.ren σ pre.length))).all (fun x=>x.length==P.cellsOf e)=true:=by rw[cw];exact h1▸(by congr 1;funext x;simp)
    simp only[HJ,XB,bq,EE,bh,CS,e1,BV,hget,AX.ren];rw[if_pos ⟨trivial,this,by simpa using h2,h3,h4,h5⟩]
   ·cases h
  ·cases h
 ·rename_i n e l k g o e1;split at h
  ·rename_i g' cs m hget hm;split at h
   ·rename_i hc;obtain⟨rfl,h1,h2⟩:=hc;cases h;simp only[HI,XB,bh,CS,e1,BV,hget,AX.ren,bq,AJE hm];rw[if_pos ⟨trivial,h1,by simpa using h2⟩]
   ·cases h
  ·cases h
 ·cases h
theorem xT{x y v:V}(h:S6 x y=some v):S6 (x.ren σ δ) (y.ren σ δ)=some (v.ren σ δ):=by
 unfold S6 at h;split at h
 ·split at h
  ·rename_i hk;cases h;simp[S6,hk]
  ·cases h
 ·cases h
theorem xU{x y v:V}(h:S7 x y=some v):S7 (x.ren σ δ) (y.ren σ δ)=some (v.ren σ δ):=by
 unfold S7 at h;split at h
 ·split at h
  ·rename_i hk;cases h;simp[S7,hk]
  ·cases h
 ·cases h
theorem xV{op:BinOp}{k:IntKind}{a b:Int}{v:V}(h:EC op k a b=some v):v.ren σ δ=v:=by
 unfold EC at h;split at h<;>first
  |(cases h;simp;done)
  |(split at h<;>first|(cases h;done)|(cases h;simp;done))
  |(obtain⟨r,_,rfl⟩:=bj.1 h;simp)
theorem MS:∀(cs:List V),D3 (cs.map (V.ren σ δ))=D3 cs
 |[]=>rfl
 |c::cs=>by have ih:=MS cs;cases c<;>simp[D3,ih]
theorem ADO{op:BinOp}{k:IntKind}{a b:Int}{v:V}(h:S0 op k a b=some v):v.ren σ δ=v:=by
 cases op<;>simp only[S0]at h;case shl=>split at h<;>cases h;simp
 case shr=>split at h<;>cases h;simp
 all_goals cases h
theorem xW{op:BinOp}{T:cz}{x y v:V}(h:F9 P op T x y=some v):F9 P op T (x.ren σ δ) (y.ren σ δ)=some (v.ren σ δ):=by
 unfold F9 at h;split at h
 ·split at h
  ·rename_i hk;simp only[EE,F9,if_pos hk,h,xV h]
  ·rename_i hk;simp only[EE,F9,if_neg hk,h,ADO h]
 ·split at h
  ·rename_i hk;have hv:v.ren σ δ=v:=by split at h<;>first|(cases h;done)|(cases h;simp)
   rw[hv];simp only[LO,F9,if_pos hk];exact h
  ·cases h
 ·rename_i cs ds;have he:US P T (cs.map (V.ren σ δ)) (ds.map (V.ren σ δ))=US P T cs ds:=by unfold US;rw[MS,MS]
  have hv:v.ren σ δ=v:=by
   split at h
   ·obtain⟨r,_,rfl⟩:=bj.1 h;simp
   ·obtain⟨r,_,rfl⟩:=bj.1 h;simp
   ·cases h
  rw[hv];simp only[HH,F9,he];exact h
 ·rename_i x' _;have hi:H6 (x.ren σ δ)=H6 x:=by
   cases x with
   |list f es=>cases es<;>simp[H6]
   |vec l k g n=>cases n<;>simp[H6]
   |vtl l k g i n=>cases n<;>simp[H6]
   |_=>simp[H6]
  have hb:∀y:V,F9 P op T y .nil=if DR P T then(match op with
   |.eql=>(H6 y).map V.bool
   |.neq=>(H6 y).map fun b=>V.bool !b
   | _=>none) else none:=fun y=>by cases y <;> rfl
  have hv:v.ren σ δ=v:=by
   split at h
   ·split at h
    ·obtain⟨r,_,rfl⟩:=bj.1 h;simp
    ·obtain⟨r,_,rfl⟩:=bj.1 h;simp
    ·cases h
   ·cases h
  rw[hv,AJD,hb,hi];exact h
 ·cases h
theorem U6:∀{cs:List V} {l:List Value},D3 cs=some l->cs.map (V.ren σ δ)=cs
 |[],_,_=>rfl
 |c::cs,l,h=>by
  cases c with
  |int k n=>
   simp only[D3]at h
   split at h
   ·rename_i r hr;simp[U6 hr]
   ·cases h
  |bool b=>
   simp only[D3]at h
   split at h
   ·rename_i r hr;simp[U6 hr]
   ·cases h
  |_=>simp[D3]at h
theorem ZS{K:cz}(v:V):WU P K (v.ren σ δ)=WU P K v:=by
 cases v with
 |agg cs=>
  simp only[HH,WU,MS]
  split
  ·rename_i l hl;rw[U6 hl]
  ·rfl
 |_=>simp[WU]
theorem U7{K:cz}{ks:List V}:∀(es:List (V×V)) (i:Nat),M9 P K ks (es.map fun p=>(p.1.ren σ δ,p.2.ren σ δ)) i=M9 P K ks es i
 |[],_=>rfl
 |(k,v)::es,i=>by simp only[bm,M9,ZS,U7 es]
theorem pF{T:cz}{z:V}(h:UT P T=some z):z.ren σ δ=z:=by
 unfold UT at h;split at h
 ·split at h
  ·rename_i cs hz;cases h;simp[Q6 hz]
  ·cases h
 ·exact Q5 h
 ·cases h
theorem gD{T:cz}{x k v:V}{ok:Bool}(h:DL P s T x k ok=some v):DL P (s.emb σ pre) T (x.ren σ pre.length) (k.ren σ pre.length) ok=some (v.ren σ pre.length):=by
 unfold DL at h;split at h
 ·rename_i K E l q g hm;split at h
  ·rename_i g' es hget;split at h
   ·rename_i hc;obtain⟨rfl,hT⟩:=hc;split at h
    ·rename_i ks hks;simp only[Q4,DL,hm,BV,hget,bq,AX.ren,ZS,hks,U7,if_pos (⟨trivial,hT⟩:True/\_)];split at h
     ·rename_i hf;obtain⟨z,hz,rfl⟩:=bj.1 h;simp only[hz,bq];cases ok<;>simp[pF hz]
     ·rename_i i hf;obtain⟨e,he,rfl⟩:=bj.1 h;simp only[bc,he,bq];cases ok<;>simp
     ·cases h
    ·cases h
   ·cases h
  ·cases h
 ·cases h
theorem U8{T:cz}{x k v:V}{l q γ:Nat}{es:List (V×V)}(h:LL P s T x k v=some (l,q,γ,es)):LL P (s.emb σ pre) T (x.ren σ pre.length) (k.ren σ pre.length) (v.ren σ pre.length)=some (l+pre.length,q,σ γ,es.map fun p=>(p.1.ren σ pre.length,p.2.ren σ pre.length)):=by
 unfold LL at h;split at h
 ·rename_i K E l q g hm;split at h
  ·rename_i g' es hget;split at h
   ·rename_i hc;obtain⟨rfl,hT⟩:=hc;split at h
    ·rename_i ks hks;simp only[Q4,LL,hm,BV,hget,bq,AX.ren,ZS,hks,U7,if_pos (⟨trivial,hT⟩:True/\_)];split at h
     ·rename_i hf;cases h;simp
     ·rename_i i hf;cases h;simp[List.map_set]
     ·cases h
    ·cases h
   ·cases h
  ·cases h
 ·cases h
theorem IX{r:cd->Option V}:∀{l:List cd} {vs:List V},l.mapM r=some vs->l.mapM (fun x=>(r x).map (V.ren σ δ))=some (vs.map (V.ren σ δ))
 |[],vs,h=>by simp at h;subst h;rfl
 |x::l,vs,h=>by simp only[cj,bn,bk,cq,bb.injEq]at h;obtain⟨v,h1,us,h2,rfl⟩:=h;simp[h1,IX h2]
theorem AJF{o:Oper}{r:cd->Option V}{v:V}(h:JE P o s r=some v):JE P o (s.emb σ pre) (fun x=>(r x).map (V.ren σ pre.length))=some (v.ren σ pre.length):=by
 unfold JE at h|-;split at h<;>(try simp only[bk]at h);case h_1=>simp[h]
 case h_2=>simp[h]
 case h_3=>obtain⟨a,h1,h2⟩:=h;simp[h1,xR h2]
 case h_4=>obtain⟨a,h1,b,h2,h3⟩:=h;simp[h1,WJ h2,dU h3]
 case h_5=>obtain⟨a,h1,b,h2,h3⟩:=h;simp[h1,h2,xW h3]
 case h_6=>obtain⟨a,h1,h2⟩:=h;simp[h1,ADN h2]
 case h_7=>obtain⟨a,h1,h2⟩:=h;simp[h1,pE h2]
 case h_8=>obtain⟨a,h1,h2⟩:=h;simp[h1,WZ h2]
 case h_9=>obtain⟨a,h1,h2⟩:=h;simp[h1,lL h2]
 case h_10=>obtain⟨a,h1,b,h2,h3⟩:=h;simp[h1,h2,W0 h3]
 case h_11=>obtain⟨a,h1,b,h2,h3⟩:=h;simp[h1,h2,lM h3]
 case h_12=>obtain⟨a,h1,h2⟩:=h;simp[h1,cH h2]
 case h_13=>
  split at h
  ·rename_i e1 e2;simp only[bk]at h;obtain⟨a,h1,h2⟩:=h;simp[h1,xS h2]
  ·cases h
 case h_14=>
  split at h
  ·simp only[bk]at h;obtain⟨a,h1,b,h2,h3⟩:=h;simp[h1,h2,xT h3]
  ·cases h
 case h_15=>
  split at h
  ·simp only[bk]at h;obtain⟨a,h1,b,h2,h3⟩:=h;simp[h1,h2,xU h3]
  ·cases h
 case h_16 T x lo hi mx ho=>
  obtain⟨a,h1,l,h2,u,h3,m,h4,h5⟩:=h
  have key:∀(z:Option cd) (q:Option V),(match z with|none=>some none|some y=>(r y).map some)=some q->(z=none/\q=none)\/∃y b,z=some y/\r y=some b/\q=some b:=by
   intro z q hz;cases z with
   |none=>cases hz;exact .inl ⟨rfl,rfl⟩
   |some y=>
    obtain⟨b,hb,rfl⟩:=bj.1 hz
    exact .inr ⟨y,b,rfl,hb,rfl⟩
  have h6:=lN (σ:=σ) (pre:=pre) h5
  rcases key lo l h2 with⟨rfl,rfl⟩|⟨y1,b1,rfl,q1,rfl⟩<;>rcases key hi u h3 with⟨rfl,rfl⟩|⟨y2,b2,rfl,q2,rfl⟩<;>rcases key mx m h4 with⟨rfl,rfl⟩|⟨y3,b3,rfl,q3,rfl⟩<;>simp_all
 case h_17=>obtain⟨a,h1,b,h2,h3⟩:=h;simp[h1,h2,gD h3]
 case h_18 f first captured ho=>
  obtain⟨a,h1,b,h2,h3⟩:=h
  cases h3
  simp[IX h1,IX h2]
 case h_19=>cases h
end Go.Pg
namespace Go.Pg
variable {P:Program}{σ:Nat->Nat}{δ:Nat}{pre:List AA}{s:St}{fr:Fr}{g:Bool}
theorem GW{T:cz}{z:List V}(h:B7 P T=some z):z.map (V.ren σ δ)=z:=by
 unfold B7 at h;split at h
 ·exact Q6 h
 ·cases h
theorem C7{α β:Type}(f:α->β)(cs ds:List α)(off:Nat):AZ (cs.map f) off (ds.map f)=(AZ cs off ds).map f:=by simp[AZ,bz,bx]
theorem PI{place:Nat->Option (Nat×Nat)}:∀{ps:List (Nat×V)} {cs ds:List V},DC place cs ps=some ds->DC place (cs.map (V.ren σ δ)) (ps.map fun p=>(p.1,p.2.ren σ δ))=some (ds.map (V.ren σ δ))
 |[],cs,ds,h=>by simp[DC]at h;subst h;rfl
 |(i,v)::r,cs,ds,h=>by
  simp only[DC]at h;split at h
  ·cases h
  ·rename_i off size e;split at h
   ·rename_i hc;have:=PI h;simp only[bm,DC,e,EI,bg];rw[if_pos hc,C7];exact this
   ·cases h
theorem MT(ps:List (Nat×V)):((ps.map fun p=>(p.1,p.2.ren σ δ)).all fun p=>A8 p.2)=ps.all fun p=>A8 p.2:=by rw[cw];congr 1;funext p;exact H8 p.2
theorem lO{T:cz}{ps:List (Nat×V)}{v:V}(h:CZ P T ps=some v):CZ P T (ps.map fun p=>(p.1,p.2.ren σ δ))=some (v.ren σ δ):=by
 unfold CZ at h|-;split at h
 ·rename_i z fs e1 e2;simp only[MT];split at h
  ·rename_i hc;obtain⟨cs,h1,rfl⟩:=bj.1 h;have:=PI (σ:=σ) (δ:=δ) h1;rw[GW e1]at this;rw[if_pos hc,this];simp
  ·cases h
 ·rename_i z n e e1 e2;simp only[MT];split at h
  ·rename_i hc;obtain⟨cs,h1,rfl⟩:=bj.1 h;have:=PI (σ:=σ) (δ:=δ) h1;rw[GW e1]at this;rw[if_pos hc,this];simp
  ·cases h
 ·cases h
theorem ZT{β:Type}(f:V->V)(size:Nat):∀(n:Nat) (cs:List V),CM size (cs.map f) n=(CM size cs n).map (cx f)
 |0,_=>rfl
 |n+1,cs=>by simp only[CM,bm,bz];rw[<-bx,ZT (β:=β) f size n]
theorem U9{T:cz}{len:Nat}{ps:List (Nat×V)}{v:V}(h:B5 P T len ps=some v):B5 P T len (ps.map fun p=>(p.1,p.2.ren σ δ))=some (v.ren σ δ):=by
 unfold B5 at h|-;split at h
 ·rename_i e e1;split at h
  ·rename_i z e2;split at h
   ·rename_i hc;obtain⟨cs,h1,rfl⟩:=bj.1 h;have:=PI (σ:=σ) (δ:=δ) h1;have hz:(List.replicate len z).flatten.map (V.ren σ δ)=(List.replicate len z).flatten:=by rw[List.map_flatten,List.map_replicate,GW e2]
    rw[hz]at this;simp only[MT];rw[if_pos hc,this];simp[ZT (β:=Nat)]
   ·cases h
  ·cases h
 ·cases h
theorem Q7{r:cd->Option V}:∀{l:List (Nat×cd)} {ps:List (Nat×V)},C8 r l=some ps->C8 (fun x=>(r x).map (V.ren σ δ)) l=some (ps.map fun p=>(p.1,p.2.ren σ δ))
 |[],ps,h=>by simp[C8]at h;subst h;rfl
 |(i,x)::l,ps,h=>by
  simp only[C8]at h;split at h
  ·rename_i v us h1 h2;cases h;simp[C8,h1,Q7 h2]
  ·cases h
theorem GY{v:V}{es:List (List V)}(h:elemsOf s v=some es):elemsOf (s.emb σ pre) (v.ren σ pre.length)=some (es.map (cx (V.ren σ pre.length))):=by
 cases v with
 |list f ds=>simp only[elemsOf,bb.injEq]at h;subst h;simp[elemsOf]
 |vec l k γ n=>
  simp only[elemsOf]at h
  split at h
  ·rename_i γ' T ds e;split at h
   ·rename_i hc;cases h;simp[elemsOf,BV,e,AX.ren,hc.1,hc.2,bz]
   ·cases h
  ·cases h
 |vtl l k γ i n=>
  simp only[elemsOf]at h
  split at h
  ·rename_i γ' cs e;split at h
   ·rename_i hc;cases h;simp[elemsOf,BV,e,AX.ren,hc.1,hc.2,bz,bx,Function.comp_def]
   ·cases h
  ·cases h
 |nil=>simp only[elemsOf,bb.injEq]at h;subst h;simp[elemsOf]
 |_=>cases h
theorem JL:DT g (fr.ren σ δ)=fun x=>(DT g fr x).map (V.ren σ δ):=by funext x;exact DI x
theorem IY{o:Oper}{v:V}(h:FE P g o fr s=some v):FE P g o (fr.ren σ pre.length) (s.emb σ pre)=some (v.ren σ pre.length):=by
 unfold FE at h|-;split at h
 ·rename_i c x y ho;split at h
  ·rename_i c' ca va cb vb e1 e2 e3;split at h
   ·rename_i hc;cases h;simp only[DI,ADM,e1,e2,e3,bq,LO];rw[if_pos hc]
   ·cases h
  ·cases h
 ·rename_i T parts ho;obtain⟨ps,h1,h2⟩:=bk.1 h;rw[JL,Q7 h1];exact lO h2
 ·rename_i T len parts ho;obtain⟨ps,h1,h2⟩:=bk.1 h;rw[JL,Q7 h1];exact U9 h2
 ·rw[JL];exact AJF h
def AY(s:St):Nat->V->Option V
 |0,_=>none
 |f+1,v=>match v with
  |.list _ es=>some (.list false es)
  | .vec l k g m=>if l=s.up.length then(match s.loc.get k with
    |some (g',.vec _ es)=>if g'=g/\m<=es.length then some (.list false (es.take m)) else none
    | _=>none) else some v
  | .ptr l k g off=>if l=s.up.length then(match s.loc.get k with
    |some (g',.box cs)=>if g'=g then(cs.mapM (AY s f)).map fun ds=>.ref (ds.drop off) else none
    | _=>none) else some v
  |.agg cs=>(cs.mapM (AY s f)).map .agg
  |.tup cs=>(cs.mapM (AY s f)).map .tup
  |.fn g xs ys=>match xs.mapM (AY s f),ys.mapM (AY s f)with
   |some a,some b=>some (.fn g a b)
   |_,_=>none
  |v=>some v
theorem GZ{α β:Type}{f:α->Option β}{g:α->β}(h:∀x y,f x=some y->g x=y):∀{l:List α} {r:List β},l.mapM f=some r->l.map g=r
 |[],r,e=>by simp at e;subst e;rfl
 |x::l,r,e=>by simp only[cj,bn,bk,cq,bb.injEq]at e;obtain⟨y,h1,ys,h2,rfl⟩:=e;simp[h x y h1,GZ h h2]
theorem OL:∀(f:Nat) {v r:V},AY s f v=some r->DF s f v=r
 |0,v,r,h=>by cases h
 |f+1,v,r,h=>by
  have ih:=fun v r=>OL f (v:=v) (r:=r);cases v with
  |list b es=>simpa [AY,DF]using h
  |vec l k g m=>
   simp only[AY]at h
   simp only[DF]
   split at h
   ·rename_i hl;rw[if_pos hl];split at h
    ·rename_i g' T es e;split at h
     ·rename_i hc;rw[e];simp only[if_pos hc];exact bb.inj h
     ·cases h
    ·cases h
   ·rename_i hl;rw[if_neg hl];exact bb.inj h
  |ptr l k g off=>
   simp only[AY]at h
   simp only[DF]
   split at h
   ·rename_i hl;rw[if_pos hl];split at h
    ·rename_i g' cs e;split at h
     ·rename_i hc;obtain⟨ds,h1,rfl⟩:=bj.1 h;rw[e];simp only[if_pos hc,GZ ih h1]
     ·cases h
    ·cases h
   ·rename_i hl;rw[if_neg hl];exact bb.inj h
  |agg cs=>
   obtain⟨ds,h1,rfl⟩:=bj.1 h
   simp only[DF,GZ ih h1]
  |tup cs=>
   obtain⟨ds,h1,rfl⟩:=bj.1 h
   simp only[DF,GZ ih h1]
  |fn g xs ys=>
   simp only[AY]at h
   split at h
   ·rename_i a b h1 h2;cases h;simp only[DF,GZ ih h1,GZ ih h2]
   ·cases h
  |_=>simpa [AY,DF]using h
theorem FS{f f':V->Option V}(h:∀v r,f v=some r->f' (v.ren σ δ)=some (r.ren σ δ)):∀{l r:List V},l.mapM f=some r->(l.map (V.ren σ δ)).mapM f'=some (r.map (V.ren σ δ))
 |[],r,e=>by simp at e;subst e;rfl
 |x::l,r,e=>by simp only[cj,bn,bk,cq,bb.injEq]at e;obtain⟨y,h1,ys,h2,rfl⟩:=e;simp[h x y h1,FS h h2]
theorem KR(k:Nat):(s.emb σ pre).loc.get k=(s.loc.get k).map fun p=>(σ p.1,p.2.ren σ pre.length):=AA.get_ren _ _
theorem J6:∀(f:Nat) {v r:V},AY s f v=some r->AY (s.emb σ pre) f (v.ren σ pre.length)=some (r.ren σ pre.length)
 |0,v,r,h=>by cases h
 |f+1,v,r,h=>by
  have ih:=fun v r=>J6 f (v:=v) (r:=r);cases v with
  |list b es=>simp only[AY,bb.injEq]at h;subst h;simp[AY]
  |vec l k g m=>
   simp only[AY]at h
   split at h
   ·rename_i hl;split at h
    ·rename_i g' T es e;split at h
     ·rename_i hc;cases h;simp[AY,DB,KR,hl,e,AX.ren,hc.1,hc.2,bz]
     ·cases h
    ·cases h
   ·rename_i hl;cases h;have:¬l+pre.length=s.up.length+pre.length:=by omega
    simp[AY,DB,hl]
  |ptr l k g off=>
   simp only[AY]at h
   split at h
   ·rename_i hl;split at h
    ·rename_i g' cs e;split at h
     ·rename_i hc;obtain⟨ds,h1,rfl⟩:=bj.1 h;have:=FS ih h1;simp[AY,DB,KR,hl,e,AX.ren,hc,this,bx]
     ·cases h
    ·cases h
   ·rename_i hl;cases h;simp[AY,DB,hl]
  |agg cs=>
   obtain⟨ds,h1,rfl⟩:=bj.1 h
   simp[AY,FS ih h1]
  |tup cs=>
   obtain⟨ds,h1,rfl⟩:=bj.1 h
   simp[AY,FS ih h1]
  |fn g xs ys=>
   simp only[AY]at h
   split at h
   ·rename_i a b h1 h2;cases h;simp[AY,FS ih h1,FS ih h2]
   ·cases h
  |_=>simp only[AY,bb.injEq]at h;subst h;simp[AY]
def BT(s:St)(v:V):Option V:=match v with
 |.list f es=>some (.list f es)
 |.int k n=>some (.int k n)
 |.bool b=>some (.bool b)
 |v=>AY s 4 v
theorem JM{v r:V}(h:BT s v=some r):FC s v=r:=by
 unfold BT at h;unfold FC;split at h
 ·simpa using h
 ·simpa [DF]using h
 ·simpa [DF]using h
 ·rename_i h1 h2 h3;split
  ·rename_i f es;exact absurd rfl (h1 f es)
  ·exact OL 4 h
theorem WK{v:V}(h1:∀f es,v≠.list f es)(h2:∀k n,v≠.int k n)(h3:∀b,v≠.bool b):BT s v=AY s 4 v:=by
 unfold BT;split
 ·rename_i f es;exact absurd rfl (h1 f es)
 ·rename_i k n;exact absurd rfl (h2 k n)
 ·rename_i b;exact absurd rfl (h3 b)
 ·rfl
theorem KS{v r:V}(h:BT s v=some r):BT (s.emb σ pre) (v.ren σ pre.length)=some (r.ren σ pre.length):=by
 by_cases h1:∃f es,v=.list f es
 ·obtain⟨f,es,rfl⟩:=h1;simp only[BT,bb.injEq]at h;subst h;simp[BT]
 by_cases h2:∃k n,v=.int k n
 ·obtain⟨k,n,rfl⟩:=h2;simp only[BT,bb.injEq]at h;subst h;simp[BT]
 by_cases h3:∃b,v=.bool b
 ·obtain⟨b,rfl⟩:=h3;simp only[BT,bb.injEq]at h;subst h;simp[BT]
 rw[WK (fun f es e=>h1 ⟨f,es,e⟩) (fun k n e=>h2 ⟨k,n,e⟩) (fun b e=>h3 ⟨b,e⟩)]at h;rw[WK (fun f es e=>by cases v<;>simp at e;exact h1 ⟨_,_,rfl⟩) (fun k n e=>by cases v<;>simp at e;exact h2 ⟨_,_,rfl⟩) (fun b e=>by cases v<;>simp at e;exact h3 ⟨_,rfl⟩)];exact J6 4 h
def G4{α β:Type}(f:α->Option β):List α->Option (List β)
 |[]=>some []
 |x::l=>match f x with
  |some y=>match G4 f l with
   |some r=>some (y::r)
   |none=>none
  |none=>none
theorem LP{α β:Type}{f:α->Option β}{g:α->β}(h:∀x y,f x=some y->g x=y):∀{l:List α} {r:List β},G4 f l=some r->l.map g=r
 |[],r,e=>by cases e;rfl
 |x::l,r,e=>by
  simp only[G4]at e;split at e
  ·rename_i y hy;split at e
   ·rename_i q hq;cases e;simp[h _ _ hy,LP h hq]
   ·cases e
  ·cases e
theorem LQ{α β:Type}{f f':α->Option β}{a:α->α}{b:β->β}(h:∀x y,f x=some y->f' (a x)=some (b y)):∀{l:List α} {r:List β},G4 f l=some r->G4 f' (l.map a)=some (r.map b)
 |[],r,e=>by cases e;rfl
 |x::l,r,e=>by
  simp only[G4]at e;split at e
  ·rename_i y hy;split at e
   ·rename_i q hq;cases e;simp[G4,h _ _ hy,LQ h hq]
   ·cases e
  ·cases e
def B0(s:St)(r:AX):Option AX:=match r with
 |.box cs=>match G4 (BT s) cs with
  |some ds=>some (.box ds)
  |none=>none
 |.vec T es=>match G4 (G4 (BT s)) es with
  |some ds=>some (.vec T ds)
  |none=>none
 | .map es=>match G4 (fun e:V×V=>match BT s e.1,BT s e.2 with
   |some a,some b=>some (a,b)
   | _,_=>none) es with
  |some ds=>some (.map ds)
  |none=>none
 |r=>some r
def CB(s:St)(r:AX):AX:=match B0 s r with
 |some r'=>r'
 |none=>r
theorem ZU{r r':AX}(h:B0 s r=some r'):r'=r\/r'=HC s r:=by
 unfold B0 at h;split at h
 ·split at h
  ·rename_i ds hd;cases h;exact .inr (by simp only[HC,LP (fun x y=>JM) hd])
  ·cases h
 ·split at h
  ·rename_i ds hd;cases h;exact .inr (by simp only[HC,LP (fun x y=>LP (fun x y=>JM)) hd])
  ·cases h
 ·split at h
  ·rename_i ds hd;cases h;refine .inr ?_;simp only[HC];rw[LP (g:=fun e=>(FC s e.1,FC s e.2)) (fun x y h=>?_) hd];split at h
   ·rename_i a b h1 h2;cases h;rw[JM h1,JM h2]
   ·cases h
  ·cases h
 ·cases h;exact .inl rfl
theorem K0{r r':AX}(h:B0 s r=some r'):B0 (s.emb σ pre) (r.ren σ pre.length)=some (r'.ren σ pre.length):=by
 cases r with
 |box cs=>
  simp only[B0]at h
  split at h
  ·rename_i ds hd;cases h;simp[B0,AX.ren,LQ (fun x y=>KS (σ:=σ) (pre:=pre)) hd]
  ·cases h
 |vec T es=>
  simp only[B0]at h
  split at h
  ·rename_i ds hd;cases h;simp[B0,AX.ren,LQ (fun x y=>LQ (fun x y=>KS (σ:=σ) (pre:=pre))) hd]
  ·cases h
 |map es=>
  simp only[B0]at h
  split at h
  ·rename_i ds hd;cases h;have:=LQ (f':=fun e:V×V=>match BT (s.emb σ pre) e.1,BT (s.emb σ pre) e.2 with
    |some a,some b=>some (a,b)
    | _,_=>none) (a:=fun p:V×V=>(p.1.ren σ pre.length,p.2.ren σ pre.length)) (b:=fun p:V×V=>(p.1.ren σ pre.length,p.2.ren σ pre.length)) (fun x y h=>by
     split at h
     ·rename_i a b h1 h2;cases h;simp[KS h1,KS h2]
     ·cases h) hd
   simp[B0,AX.ren,this]
  ·cases h
 |loop fr ps asg body N st=>simp only[B0,bb.injEq]at h;subst h;rfl
 |dead=>simp only[B0,bb.injEq]at h;subst h;rfl
theorem lP(r:AX):(CB s r).ren σ pre.length=r.ren σ pre.length\/(CB s r).ren σ pre.length=HC (s.emb σ pre) (r.ren σ pre.length):=by
 unfold CB;split
 ·rename_i r' h;rcases ZU (K0 (σ:=σ) (pre:=pre) h)with h'|h'
  ·exact .inl h'
  ·exact .inr h'
 ·exact .inl rfl
def AH(s:St)(L:AA):AA:=L.map fun p=>(p.1,p.2.1,CB s p.2.2)
theorem MU(s:St):∀(L:AA) (k:Nat),(AH s L).get k=(L.get k).map fun p=>(p.1,CB s p.2)
 |[],k=>rfl
 |(j,x)::L,k=>by
  have:=MU s L k;simp only[AH,bm,AA.get]at this|-;split
  ·rfl
  ·exact this
theorem pG{rv:ResultVar}{v:V}(h:CN P fr s rv=some v):CN P (fr.ren σ pre.length) (s.emb σ pre) rv=some (v.ren σ pre.length):=by
 cases rv with
 |tmp t=>
  simp only[CN]at h|-
  split at h
  ·rename_i e;cases h;simp[Fr.get_ren,e]
  ·cases h
 |cell ad T=>
  simp only[CN]at h|-
  split at h
  ·rename_i p e;obtain⟨cs,h1,h2⟩:=bk.1 h;simp[Fr.get_ren,e,WJ h1,dU h2]
  ·cases h
theorem OM{rs:List ResultVar}{v:V}(h:FD P rs fr s=some v):FD P rs (fr.ren σ pre.length) (s.emb σ pre)=some (v.ren σ pre.length):=by
 have key:∀{rs:List ResultVar} {vs:List V},rs.mapM (CN P fr s)=some vs->rs.mapM (CN P (fr.ren σ pre.length) (s.emb σ pre))=some (vs.map (V.ren σ pre.length)):=by
  intro rs;induction rs with
  |nil=>intro vs e;simp at e;subst e;rfl
  |cons x l ih=>
   intro vs e
   simp only[cj,bn,bk,cq,bb.injEq]at e
   obtain⟨y,h1,ys,h2,rfl⟩:=e
   simp[pG h1,ih h2]
 unfold FD at h|-;split at h
 ·rename_i x e;cases h;rw[key e];rfl
 ·rename_i vs hne e;cases h;rw[key e];cases vs with
  |nil=>simp
  |cons a r=>
   cases r with
   |nil=>exact absurd rfl (hne a)
   |cons b r=>simp
 ·cases h
theorem PJ:∀(i:Nat) (vs:List V),AD i (vs.map (V.ren σ δ))=(AD i vs).ren σ δ
 |_,[]=>rfl
 |i,v::vs=>by simp[AD,Fr.ren,PJ (i+1) vs]
end Go.Pg
