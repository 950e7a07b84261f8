/- Names and levels turned into others: what the operations give turns with them. No program in sight. -/
import Derived.Test.YthhdhbalenanjaaGreatP4
noncomputable section
open Go renaming TypeId->cz,Operand->cd
open Option renaming map_eq_some_iff->bj,bind_eq_some_iff->bk,map_some->bq,some->bb,map_none->bh,bind_eq_bind->bn,pure_def->cq
open List renaming map_congr_left->bw,map_drop->bx,map_take->bz,getElem?_map->bc,length_map->bg,map_cons->bm,map_map->bp,mapM_cons->cj,sizeOf_lt_of_mem->ck,all_map->cw,map->cx
open Nat renaming add_assoc->bf
namespace Go.Pg
variable {P:Program}
variable {σ σ':Nat->Nat}{δ:Nat}
theorem QK:∀(l:List V),fH σ δ l=l.map (V.ren σ δ)
 |[]=>by simp[fH]
 |v::r=>by simp[fH,QK r]
theorem pK:∀(l:List (List V)),oY σ δ l=l.map (cx (V.ren σ δ))
 |[]=>by simp[oY]
 |v::r=>by simp[oY,QK,pK r]
@[simp] theorem EV(k:IntKind)(n:Int):(V.int k n).ren σ δ=.int k n:=by simp[V.ren]
@[simp] theorem MQ(b:Bool):(V.bool b).ren σ δ=.bool b:=by simp[V.ren]
@[simp] theorem BCA(v:Value):(V.raw v).ren σ δ=.raw v:=by simp[V.ren]
@[simp] theorem HT(cs:List V):(V.agg cs).ren σ δ=.agg (cs.map (V.ren σ δ)):=by simp[V.ren,QK]
@[simp] theorem LC(cs:List V):(V.tup cs).ren σ δ=.tup (cs.map (V.ren σ δ)):=by simp[V.ren,QK]
@[simp] theorem E6(f:Bool)(es:List (List V)):(V.list f es).ren σ δ=.list f (es.map (cx (V.ren σ δ))):=by simp[V.ren,pK]
@[simp] theorem NO(cs:List V):(V.ref cs).ren σ δ=.ref (cs.map (V.ren σ δ)):=by simp[V.ren,QK]
@[simp] theorem HU(l k g off:Nat):(V.ptr l k g off).ren σ δ=.ptr (l+δ) k (σ g) off:=by simp[V.ren]
@[simp] theorem PO(l k g i off:Nat):(V.eptr l k g i off).ren σ δ=.eptr (l+δ) k (σ g) i off:=by simp[V.ren]
@[simp] theorem HV(l k g n:Nat):(V.vec l k g n).ren σ δ=.vec (l+δ) k (σ g) n:=by simp[V.ren]
@[simp] theorem SB(l k g:Nat):(V.mp l k g).ren σ δ=.mp (l+δ) k (σ g):=by simp[V.ren]
@[simp] theorem PQ(f:FuncId)(xs ys:List V):(V.fn f xs ys).ren σ δ=.fn f (xs.map (V.ren σ δ)) (ys.map (V.ren σ δ)):=by simp[V.ren,QK]
@[simp] theorem kM(l k g:Nat):(V.yld l k g).ren σ δ=.yld (l+δ) k (σ g):=by simp[V.ren]
@[simp] theorem ANA:V.nil.ren σ δ=.nil:=by simp[V.ren]
@[simp] theorem BCB:V.any.ren σ δ=.any:=by simp[V.ren]
@[simp] theorem Y2(l k g i n:Nat):(V.vtl l k g i n).ren σ δ=.vtl (l+δ) k (σ g) i n:=by simp[V.ren]
theorem NP{σ':Nat->Nat}{δ':Nat}:∀(v:V),(v.ren σ δ).ren σ' δ'=v.ren (fun γ=>σ' (σ γ)) (δ+δ')
 |.agg cs=>by simp only[HT,bp];congr 1;exact bw fun v _=>NP v
 |.tup cs=>by simp only[LC,bp];congr 1;exact bw fun v _=>NP v
 |.ref cs=>by simp only[NO,bp];congr 1;exact bw fun v _=>NP v
 |.list b es=>by
  simp only[E6,bp];congr 1;refine bw fun e he=>?_;have hlt:=ck he;simp only[Function.comp,bp];exact bw fun v hv=>by have hlt2:=ck hv;exact NP v
 |.fn f xs ys=>by
  simp only[PQ,bp];congr 1
  ·exact bw fun v _=>NP v
  ·exact bw fun v _=>NP v
 |.int k n=>by simp
 |.bool b=>by simp
 |.raw v=>by simp
 |.ptr l k g off=>by simp[bf]
 |.eptr l k g i off=>by simp[bf]
 |.vec l k g n=>by simp[bf]
 |.mp l k g=>by simp[bf]
 |.yld l k g=>by simp[bf]
 |.nil=>by simp
 |.vtl l k g i n=>by simp[bf]
 |.any=>by simp
decreasing_by all_goals first|(simp_wf;omega)|decreasing_tactic
def A1.ren(σ:Nat->Nat)(δ:Nat):A1->A1
 |.box cs=>.box (cs.map (V.ren σ δ))
 |.vec T es=>.vec T (es.map (cx (V.ren σ δ)))
 |.map es=>.map (es.map fun p=>(p.1.ren σ δ,p.2.ren σ δ))
 |.loop fr ps asg body N st=>.loop (fr.map fun p=>(p.1,p.2.1,p.2.2.ren σ δ)) ps asg body N st
 |.dead=>.dead
def AA.ren(σ:Nat->Nat)(δ:Nat)(L:AA):AA:=L.map fun p=>(p.1,σ p.2.1,p.2.2.ren σ δ)
def Fr.ren(σ:Nat->Nat)(δ:Nat)(fr:Fr):Fr:=fr.map fun p=>(p.1,p.2.1,p.2.2.ren σ δ)
def St.emb(σ:Nat->Nat)(pre:List AA)(s:St):St:=⟨pre++s.up.map (AA.ren σ pre.length),s.loc.ren σ pre.length⟩
theorem Fr.get_ren:∀(fr:Fr) (k:Nat),(fr.ren σ δ).get k=(fr.get k).map fun p=>(p.1,p.2.ren σ δ)
 |[],k=>rfl
 |(j,x)::fr,k=>by
  have:=Fr.get_ren fr k;simp only[Fr.ren,bm,Fr.get]at this|-;split
  ·rfl
  ·exact this
theorem AA.get_ren:∀(L:AA) (k:Nat),(L.ren σ δ).get k=(L.get k).map fun p=>(σ p.1,p.2.ren σ δ)
 |[],k=>rfl
 |(j,x)::L,k=>by
  have:=AA.get_ren L k;simp only[AA.ren,bm,AA.get]at this|-;split
  ·rfl
  ·exact this
variable {pre:List AA}{s:St}
theorem DK:(s.emb σ pre).up.length=s.up.length+pre.length:=by simp[St.emb,Nat.add_comm]
theorem CA(l k:Nat):(s.emb σ pre).get (l+pre.length) k=(s.get l k).map fun p=>(σ p.1,p.2.ren σ pre.length):=by
 unfold St.get;rw[DK];by_cases h:l=s.up.length
 ·rw[if_pos h,if_pos (by rw[h])];exact AA.get_ren _ _
 ·rw[if_neg h,if_neg (by omega)];simp only[St.emb];rw[List.getElem?_append_right (by omega),Nat.add_sub_cancel,bc];cases s.up[l]? with
  |none=>rfl
  |some L=>simp[AA.get_ren]
theorem cK{α:Type}(f:α->α)(M:List α)(l:Nat):∀(pre:List α),(pre++M).modify (l+pre.length) f=pre++M.modify l f
 |[]=>rfl
 |p::pre=>by have:=cK f M l pre;simp only[List.cons_append,List.length_cons,<-bf,List.modify_succ_cons,this]
theorem CV{l k g:Nat}{r:A1}:(s.put l k g r).emb σ pre=(s.emb σ pre).put (l+pre.length) k (σ g) (r.ren σ pre.length):=by
 unfold St.put;rw[DK];by_cases h:l=s.up.length
 ·rw[if_pos h,if_pos (by rw[h])];simp[St.emb,AA.ren,AA.put]
 ·rw[if_neg h,if_neg (by omega)];simp only[St.emb,St.mk.injEq,and_true];rw[cK];congr 1;refine List.ext_getElem? fun i=>?_;simp only[bc,List.getElem?_modify];by_cases hi:l=i
  ·subst hi;cases s.up[l]? with
   |none=>rfl
   |some L=>simp[AA.ren,AA.put]
  ·simp[hi]
theorem SD{u:Value}{v:V}(h:CQ u=some v):v.ren σ δ=v:=by
 cases u with
 |int k n=>simp only[CQ,bb.injEq]at h;subst h;simp
 |bool b=>simp only[CQ,bb.injEq]at h;subst h;simp
 |agg cs=>simp[CQ]at h
 |tuple cs=>simp[CQ]at h
 |slice a n c=>
  unfold CQ at h
  split at h<;>simp_all<;>subst h<;>simp
 |_=>simp only[CQ,bb.injEq]at h;subst h;simp
theorem SE:∀{l:List Value} {cs:List V},GR l=some cs->cs.map (V.ren σ δ)=cs
 |[],cs,h=>by simp[GR]at h;subst h;rfl
 |v::r,cs,h=>by
  unfold GR at h;split at h
  ·rename_i x l h1 h2;cases h;simp[SD h1,SE h2]
  ·cases h
end Go.Pg
namespace Go.Pg
variable {P:Program}{σ:Nat->Nat}{δ:Nat}{pre:List AA}{s:St}{fr:Fr}{g:Bool}
theorem AG2(x:cd):rd (fr.ren σ δ) x=(rd fr x).map fun p=>(p.1,p.2.ren σ δ):=by
 cases x with
 |tmp t=>exact Fr.get_ren fr t
 |const u=>
  simp only[rd]
  cases h:CQ u with
  |none=>rfl
  |some v=>simp[SD h]
 |func f=>simp[rd]
 |global g=>rfl
theorem DS(x:cd):D5 g (fr.ren σ δ) x=(D5 g fr x).map (V.ren σ δ):=by
 unfold D5;rw[AG2];cases rd fr x with
 |none=>rfl
 |some p=>
  obtain⟨c,v⟩:=p
  simp only[bq]
  split<;>rfl
theorem IM(v:V):BH (v.ren σ δ)=BH v:=by cases v<;>simp[BH]
theorem E0(v:V):BG (v.ren σ δ)=(BG v).map (V.ren σ δ):=by cases v<;>simp[BG]
theorem AB5(v:V):weakC (v.ren σ δ)=(weakC v).ren σ δ:=by cases v<;>simp[weakC]
theorem WP(v:V):weakV (v.ren σ δ)=(weakV v).ren σ δ:=by cases v<;>simp[weakV,AB5]
theorem X6{p:V}{cs:List V}(h:BE s p=some cs):BE (s.emb σ pre) (p.ren σ pre.length)=some (cs.map (V.ren σ pre.length)):=by
 cases p with
 |ref ds=>simp only[BE,bb.injEq]at h;subst h;simp[BE]
 |ptr l k γ off=>
  simp only[BE]at h
  split at h
  ·rename_i γ' ds e;split at h
   ·rename_i eg;cases h;simp[BE,CA,e,A1.ren,eg,bx]
   ·cases h
  ·cases h
 |eptr l k γ i off=>
  simp only[BE]at h
  split at h
  ·rename_i γ' T es e;split at h
   ·rename_i eg;obtain⟨x,hx,rfl⟩:=bj.1 h;simp[BE,CA,e,A1.ren,eg,hx,bx]
   ·cases h
  ·cases h
 |_=>cases h
theorem iA{T:cz}{cs:List V}{v:V}(h:BQ P T cs=some v):BQ P T (cs.map (V.ren σ δ))=some (v.ren σ δ):=by
 unfold BQ at h|-;split at h
 ·split at h
  ·rename_i hc;cases h;simp[hc,bz]
  ·cases h
 ·split at h
  ·rename_i hc;cases h;simp[hc,bz]
  ·cases h
 ·simp only[bc,h,bq]
 ·cases h
theorem iB{U:cz}{cs:List V}{off:Nat}{v:V}(h:PB P U cs off=some v):PB P U (cs.map (V.ren σ δ)) off=some (v.ren σ δ):=by
 unfold PB at h|-;split at h
 ·split at h
  ·rename_i hc;cases h;simp[hc,bz,bx]
  ·cases h
 ·split at h
  ·rename_i hc;cases h;simp[hc,bz,bx]
  ·cases h
 ·simp only[bc,h,bq]
 ·cases h
theorem pL{T:cz}{x v:V}{f:Nat}(h:IW P T x f=some v):IW P T (x.ren σ δ) f=some (v.ren σ δ):=by
 unfold IW at h;split at h
 ·rename_i cs U off e;simp[IW,e,iB h]
 ·cases h
theorem YP{T:cz}{x v:V}{f:Nat}(h:DG P T x f=some v):DG P T (x.ren σ δ) f=some (v.ren σ δ):=by
 unfold DG at h;split at h
 ·rename_i U off e;split at h
  ·cases h
  ·rename_i hz;split at h<;>first
    |(cases h;done)
    |(cases h;simp[DG,e,hz,bx])
 ·cases h
theorem FG(es:List (List V))(j:Nat):(es.map (cx (V.ren σ δ))).getD j []=(es.getD j []).map (V.ren σ δ):=by simp only[List.getD_eq_getElem?_getD,bc];cases es[j]?<;>rfl
theorem YQ{T:cz}{x i v:V}(h:BV P s T x i=some v):BV P (s.emb σ pre) T (x.ren σ pre.length) (i.ren σ pre.length)=some (v.ren σ pre.length):=by
 unfold BV at h;split at h
 ·rename_i e f es k j e1;split at h
  ·rename_i hc;cases h;obtain⟨c1,c2,c3,c4⟩:=hc;simp only[E6,EV,BV,e1,bg,FG,NO];rw[if_pos ⟨c1,c2,c3,c4⟩]
  ·cases h
 ·rename_i e l k γ n k' j e1;split at h
  ·rename_i γ' U es e2;split at h
   ·rename_i hc;cases h;obtain⟨c1,c2,c3,c4,c5,c6⟩:=hc;subst c1;simp only[HV,EV,BV,e1,CA,e2,bq,A1.ren,bg,FG,PO];rw[if_pos ⟨trivial,c2,c3,c4,c5,c6⟩]
   ·cases h
  ·cases h
 ·rename_i n e cs k j e1;split at h
  ·rename_i hc;cases h;simp only[NO,EV,BV,e1,if_pos hc,bx]
  ·cases h
 ·rename_i n e l k γ o k' j e1;split at h
  ·rename_i hc;cases h;simp only[HU,EV,BV,e1,if_pos hc]
  ·cases h
 ·rename_i n e l k γ i' o k' j e1;split at h
  ·rename_i hc;cases h;simp only[PO,EV,BV,e1,if_pos hc]
  ·cases h
 ·cases h
theorem pM{T:cz}{x i v:V}(h:NC P T x i=some v):NC P T (x.ren σ δ) (i.ren σ δ)=some (v.ren σ δ):=by
 unfold NC at h;split at h
 ·rename_i n e cs k j e1;split at h
  ·rename_i hc;simp only[HT,EV,NC,e1,if_pos hc,iB h]
  ·cases h
 ·cases h
theorem tZ{S D:cz}{x v:V}(h:LU P S D x=some v):LU P S D (x.ren σ δ)=some (v.ren σ δ):=by
 unfold LU at h;split at h
 ·rename_i e1 e2;cases h;simp[LU,e1,e2]
 ·cases h
theorem AG3{op:UnOp}{x v:V}(h:jZ op x=some v):jZ op (x.ren σ δ)=some (v.ren σ δ):=by unfold jZ at h;split at h<;>first|(cases h;done)|(cases h;simp[jZ])
theorem AB6{x v:V}(h:PC x=some v):PC (x.ren σ δ)=some (v.ren σ δ):=by cases x<;>simp[PC]at h<;>subst h<;>simp[PC]
theorem fJ{x v:V}{i:Nat}(h:F4 x i=some v):F4 (x.ren σ δ) i=some (v.ren σ δ):=by cases x<;>simp[F4]at h;simp[F4,h]
theorem AB7{T:cz}{x v:V}(h:IA P T x=some v):IA P T (x.ren σ δ)=some (v.ren σ δ):=by
 unfold IA at h;split at h
 ·rename_i e f es hu;cases h;simp[IA,hu]
 ·rename_i e l k g n hu;cases h;simp[IA,hu]
 ·rename_i e hu;cases h;simp[IA,hu]
 ·rename_i n e hu;cases h;unfold IA;rw[hu];simp
 ·cases h
theorem ANB{n m:Nat}{h:Option V}(e:hiN n h=some m):hiN n (h.map (V.ren σ δ))=some m:=by
 cases h with
 |none=>exact e
 |some a=>cases a<;>first|(simp only[bq,EV];exact e)|(simp[hiN]at e)
theorem pN{T:cz}{x v:V}{lo hi mx:Option V}(h:CR P s T x lo hi mx=some v):CR P (s.emb σ pre) T (x.ren σ pre.length) (lo.map (V.ren σ pre.length)) (hi.map (V.ren σ pre.length)) (mx.map (V.ren σ pre.length))=some (v.ren σ pre.length):=by
 unfold CR at h;split at h
 ·rename_i e f es k h' e1;split at h
  ·rename_i hc;cases h;simp only[E6,bq,EV,bh,CR,e1,bg,if_pos hc,bz]
  ·cases h
 ·rename_i e f es k l e1;split at h
  ·rename_i hc;cases h;have:(es.map (cx (V.ren σ pre.length))).all (fun x=>x.length==P.cellsOf e)=true:=by rw[cw];exact hc.2.2.2▸(by congr 1;funext x;simp)
   simp only[E6,bq,EV,bh,CR,e1,bg,if_pos (⟨hc.1,hc.2.1,hc.2.2.1,this⟩:_/\_/\_/\_),bx]
  ·cases h
 ·rename_i e f es k l k' h' e1;split at h
  ·rename_i hc;cases h;have:(es.map (cx (V.ren σ pre.length))).all (fun x=>x.length==P.cellsOf e)=true:=by rw[cw];exact hc.2.2.2.2▸(by congr 1;funext x;simp)
   simp only[E6,bq,EV,bh,CR,e1,bg,if_pos (⟨hc.1,hc.2.1,hc.2.2.1,hc.2.2.2.1,this⟩:_/\_/\_/\_/\_),bx,bz]
  ·cases h
 ·rename_i e f es k h' k' m e1;split at h
  ·rename_i hc;cases h;simp only[E6,bq,EV,bh,CR,e1,if_pos hc,List.map_nil]
  ·cases h
 ·rename_i e l k g n k' h' e1;split at h
  ·rename_i hc;cases h;simp only[HV,bq,EV,bh,CR,e1,if_pos hc]
  ·cases h
 ·rename_i e l k g n k' i e1;split at h
  ·rename_i g' T' es hget;split at h
   ·rename_i hc;obtain⟨rfl,h1,h2,h3,h4,h5⟩:=hc;cases h;have:(es.map (cx (V.ren σ pre.length))).all (fun x=>x.length==P.cellsOf e)=true:=by rw[cw];exact h1▸(by congr 1;funext x;simp)
    simp only[HV,Y2,bq,EV,bh,CR,e1,CA,hget,A1.ren];rw[if_pos ⟨trivial,this,by simpa using h2,h3,h4,h5⟩]
   ·cases h
  ·cases h
 ·rename_i n e l k g o e1;split at h
  ·rename_i g' cs m hget hm;split at h
   ·rename_i hc;obtain⟨rfl,h1,h2⟩:=hc;cases h;simp only[HU,Y2,bh,CR,e1,CA,hget,A1.ren,bq,ANB hm];rw[if_pos ⟨trivial,h1,by simpa using h2⟩]
   ·cases h
  ·cases h
 ·cases h
theorem AB8{x y v:V}(h:UO x y=some v):UO (x.ren σ δ) (y.ren σ δ)=some (v.ren σ δ):=by
 unfold UO at h;split at h
 ·split at h
  ·rename_i hk;cases h;simp[UO,hk]
  ·cases h
 ·cases h
theorem AB9{x y v:V}(h:UP x y=some v):UP (x.ren σ δ) (y.ren σ δ)=some (v.ren σ δ):=by
 unfold UP at h;split at h
 ·split at h
  ·rename_i hk;cases h;simp[UP,hk]
  ·cases h
 ·cases h
theorem ACA{op:BinOp}{k:IntKind}{a b:Int}{v:V}(h:GB op k a b=some v):v.ren σ δ=v:=by
 unfold GB at h;split at h<;>first
  |(cases h;simp;done)
  |(split at h<;>first|(cases h;done)|(cases h;simp;done))
  |(obtain⟨r,_,rfl⟩:=bj.1 h;simp)
theorem NQ:∀(cs:List V),D9 (cs.map (V.ren σ δ))=D9 cs
 |[]=>rfl
 |c::cs=>by have ih:=NQ cs;cases c<;>simp[D9,ih]
theorem AG4{op:BinOp}{k:IntKind}{a b:Int}{v:V}(h:fB op k a b=some v):v.ren σ δ=v:=by
 cases op<;>simp only[fB]at h;case shl=>split at h<;>cases h;simp
 case shr=>split at h<;>cases h;simp
 all_goals cases h
theorem ACB{op:BinOp}{T:cz}{x y v:V}(h:I7 P op T x y=some v):I7 P op T (x.ren σ δ) (y.ren σ δ)=some (v.ren σ δ):=by
 unfold I7 at h;split at h
 ·split at h
  ·rename_i hk;simp only[EV,I7,if_pos hk,h,ACA h]
  ·rename_i hk;simp only[EV,I7,if_neg hk,h,AG4 h]
 ·split at h
  ·rename_i hk;have hv:v.ren σ δ=v:=by split at h<;>first|(cases h;done)|(cases h;simp)
   rw[hv];simp only[MQ,I7,if_pos hk];exact h
  ·cases h
 ·rename_i cs ds;have he:YJ P T (cs.map (V.ren σ δ)) (ds.map (V.ren σ δ))=YJ P T cs ds:=by unfold YJ;rw[NQ,NQ]
  have hv:v.ren σ δ=v:=by
   split at h
   ·obtain⟨r,_,rfl⟩:=bj.1 h;simp
   ·obtain⟨r,_,rfl⟩:=bj.1 h;simp
   ·cases h
  rw[hv];simp only[HT,I7,he];exact h
 ·rename_i x' _;have hi:JM (x.ren σ δ)=JM x:=by
   cases x with
   |list f es=>cases es<;>simp[JM]
   |vec l k g n=>cases n<;>simp[JM]
   |vtl l k g i n=>cases n<;>simp[JM]
   |_=>simp[JM]
  have hb:∀y:V,I7 P op T y .nil=if D3 P T then(match op with
   |.eql=>(JM y).map V.bool
   |.neq=>(JM y).map fun b=>V.bool !b
   | _=>none) else none:=fun y=>by cases y <;> rfl
  have hv:v.ren σ δ=v:=by
   split at h
   ·split at h
    ·obtain⟨r,_,rfl⟩:=bj.1 h;simp
    ·obtain⟨r,_,rfl⟩:=bj.1 h;simp
    ·cases h
   ·cases h
  rw[hv,ANA,hb,hi];exact h
 ·cases h
theorem WQ:∀{cs:List V} {l:List Value},D9 cs=some l->cs.map (V.ren σ δ)=cs
 |[],_,_=>rfl
 |c::cs,l,h=>by
  cases c with
  |int k n=>
   simp only[D9]at h
   split at h
   ·rename_i r hr;simp[WQ hr]
   ·cases h
  |bool b=>
   simp only[D9]at h
   split at h
   ·rename_i r hr;simp[WQ hr]
   ·cases h
  |_=>simp[D9]at h
theorem cL{K:cz}(v:V):YK P K (v.ren σ δ)=YK P K v:=by
 cases v with
 |agg cs=>
  simp only[HT,YK,NQ]
  split
  ·rename_i l hl;rw[WQ hl]
  ·rfl
 |_=>simp[YK]
theorem WR{K:cz}{ks:List V}:∀(es:List (V×V)) (i:Nat),OA P K ks (es.map fun p=>(p.1.ren σ δ,p.2.ren σ δ)) i=OA P K ks es i
 |[],_=>rfl
 |(k,v)::es,i=>by simp only[bm,OA,cL,WR es]
theorem uA{T:cz}{z:V}(h:WE P T=some z):z.ren σ δ=z:=by
 unfold WE at h;split at h
 ·split at h
  ·rename_i cs hz;cases h;simp[SE hz]
  ·cases h
 ·exact SD h
 ·cases h
theorem kN{T:cz}{x k v:V}{ok:Bool}(h:DT P s T x k ok=some v):DT P (s.emb σ pre) T (x.ren σ pre.length) (k.ren σ pre.length) ok=some (v.ren σ pre.length):=by
 unfold DT at h;split at h
 ·rename_i K E l q g hm;split at h
  ·rename_i g' es hget;split at h
   ·rename_i hc;obtain⟨rfl,hT⟩:=hc;split at h
    ·rename_i ks hks;simp only[SB,DT,hm,CA,hget,bq,A1.ren,cL,hks,WR,if_pos (⟨trivial,hT⟩:True/\_)];split at h
     ·rename_i hf;obtain⟨z,hz,rfl⟩:=bj.1 h;simp only[hz,bq];cases ok<;>simp[uA hz]
     ·rename_i i hf;obtain⟨e,he,rfl⟩:=bj.1 h;simp only[bc,he,bq];cases ok<;>simp
     ·cases h
    ·cases h
   ·cases h
  ·cases h
 ·cases h
theorem WS{T:cz}{x k v:V}{l q γ:Nat}{es:List (V×V)}(h:ML P s T x k v=some (l,q,γ,es)):ML P (s.emb σ pre) T (x.ren σ pre.length) (k.ren σ pre.length) (v.ren σ pre.length)=some (l+pre.length,q,σ γ,es.map fun p=>(p.1.ren σ pre.length,p.2.ren σ pre.length)):=by
 unfold ML at h;split at h
 ·rename_i K E l q g hm;split at h
  ·rename_i g' es hget;split at h
   ·rename_i hc;obtain⟨rfl,hT⟩:=hc;split at h
    ·rename_i ks hks;simp only[SB,ML,hm,CA,hget,bq,A1.ren,cL,hks,WR,if_pos (⟨trivial,hT⟩:True/\_)];split at h
     ·rename_i hf;cases h;simp
     ·rename_i i hf;cases h;simp[List.map_set]
     ·cases h
    ·cases h
   ·cases h
  ·cases h
 ·cases h
theorem JC{r:cd->Option V}:∀{l:List cd} {vs:List V},l.mapM r=some vs->l.mapM (fun x=>(r x).map (V.ren σ δ))=some (vs.map (V.ren σ δ))
 |[],vs,h=>by simp at h;subst h;rfl
 |x::l,vs,h=>by simp only[cj,bn,bk,cq,bb.injEq]at h;obtain⟨v,h1,us,h2,rfl⟩:=h;simp[h1,JC h2]
theorem ANC{o:Oper}{r:cd->Option V}{v:V}(h:J2 P o s r=some v):J2 P o (s.emb σ pre) (fun x=>(r x).map (V.ren σ pre.length))=some (v.ren σ pre.length):=by
 unfold J2 at h|-;split at h<;>(try simp only[bk]at h);case h_1=>simp[h]
 case h_2=>simp[h]
 case h_3=>obtain⟨a,h1,h2⟩:=h;simp[h1,AB6 h2]
 case h_4=>obtain⟨a,h1,b,h2,h3⟩:=h;simp[h1,X6 h2,iA h3]
 case h_5=>obtain⟨a,h1,b,h2,h3⟩:=h;simp[h1,h2,ACB h3]
 case h_6=>obtain⟨a,h1,h2⟩:=h;simp[h1,AG3 h2]
 case h_7=>obtain⟨a,h1,h2⟩:=h;simp[h1,tZ h2]
 case h_8=>obtain⟨a,h1,h2⟩:=h;simp[h1,YP h2]
 case h_9=>obtain⟨a,h1,h2⟩:=h;simp[h1,pL h2]
 case h_10=>obtain⟨a,h1,b,h2,h3⟩:=h;simp[h1,h2,YQ h3]
 case h_11=>obtain⟨a,h1,b,h2,h3⟩:=h;simp[h1,h2,pM h3]
 case h_12=>obtain⟨a,h1,h2⟩:=h;simp[h1,fJ h2]
 case h_13=>
  split at h
  ·rename_i e1 e2;simp only[bk]at h;obtain⟨a,h1,h2⟩:=h;simp[h1,AB7 h2]
  ·cases h
 case h_14=>
  split at h
  ·simp only[bk]at h;obtain⟨a,h1,b,h2,h3⟩:=h;simp[h1,h2,AB8 h3]
  ·cases h
 case h_15=>
  split at h
  ·simp only[bk]at h;obtain⟨a,h1,b,h2,h3⟩:=h;simp[h1,h2,AB9 h3]
  ·cases h
 case h_16 T x lo hi mx ho=>
  obtain⟨a,h1,l,h2,u,h3,m,h4,h5⟩:=h
  have key:∀(z:Option cd) (q:Option V),(match z with|none=>some none|some y=>(r y).map some)=some q->(z=none/\q=none)\/∃y b,z=some y/\r y=some b/\q=some b:=by
   intro z q hz;cases z with
   |none=>cases hz;exact .inl ⟨rfl,rfl⟩
   |some y=>
    obtain⟨b,hb,rfl⟩:=bj.1 hz
    exact .inr ⟨y,b,rfl,hb,rfl⟩
  have h6:=pN (σ:=σ) (pre:=pre) h5
  rcases key lo l h2 with⟨rfl,rfl⟩|⟨y1,b1,rfl,q1,rfl⟩<;>rcases key hi u h3 with⟨rfl,rfl⟩|⟨y2,b2,rfl,q2,rfl⟩<;>rcases key mx m h4 with⟨rfl,rfl⟩|⟨y3,b3,rfl,q3,rfl⟩<;>simp_all
 case h_17=>obtain⟨a,h1,b,h2,h3⟩:=h;simp[h1,h2,kN h3]
 case h_18 f first captured ho=>
  obtain⟨a,h1,b,h2,h3⟩:=h
  cases h3
  simp[JC h1,JC h2]
 case h_19=>cases h
end Go.Pg
namespace Go.Pg
variable {P:Program}{σ:Nat->Nat}{δ:Nat}{pre:List AA}{s:St}{fr:Fr}{g:Bool}
theorem G7{T:cz}{z:List V}(h:B9 P T=some z):z.map (V.ren σ δ)=z:=by
 unfold B9 at h;split at h
 ·exact SE h
 ·cases h
theorem DH{α β:Type}(f:α->β)(cs ds:List α)(off:Nat):A8 (cs.map f) off (ds.map f)=(A8 cs off ds).map f:=by simp[A8,bz,bx]
theorem QL{place:Nat->Option (Nat×Nat)}:∀{ps:List (Nat×V)} {cs ds:List V},DB place cs ps=some ds->DB place (cs.map (V.ren σ δ)) (ps.map fun p=>(p.1,p.2.ren σ δ))=some (ds.map (V.ren σ δ))
 |[],cs,ds,h=>by simp[DB]at h;subst h;rfl
 |(i,v)::r,cs,ds,h=>by
  simp only[DB]at h;split at h
  ·cases h
  ·rename_i off size e;split at h
   ·rename_i hc;have:=QL h;simp only[bm,DB,e,E0,bg];rw[if_pos hc,DH];exact this
   ·cases h
theorem NR(ps:List (Nat×V)):((ps.map fun p=>(p.1,p.2.ren σ δ)).all fun p=>BH p.2)=ps.all fun p=>BH p.2:=by rw[cw];congr 1;funext p;exact IM p.2
theorem pO{T:cz}{ps:List (Nat×V)}{v:V}(h:CS P T ps=some v):CS P T (ps.map fun p=>(p.1,p.2.ren σ δ))=some (v.ren σ δ):=by
 unfold CS at h|-;split at h
 ·rename_i z fs e1 e2;simp only[NR];split at h
  ·rename_i hc;obtain⟨cs,h1,rfl⟩:=bj.1 h;have:=QL (σ:=σ) (δ:=δ) h1;rw[G7 e1]at this;rw[if_pos hc,this];simp
  ·cases h
 ·rename_i z n e e1 e2;simp only[NR];split at h
  ·rename_i hc;obtain⟨cs,h1,rfl⟩:=bj.1 h;have:=QL (σ:=σ) (δ:=δ) h1;rw[G7 e1]at this;rw[if_pos hc,this];simp
  ·cases h
 ·cases h
theorem cM{β:Type}(f:V->V)(size:Nat):∀(n:Nat) (cs:List V),CT size (cs.map f) n=(CT size cs n).map (cx f)
 |0,_=>rfl
 |n+1,cs=>by simp only[CT,bm,bz];rw[<-bx,cM (β:=β) f size n]
theorem WT{T:cz}{len:Nat}{ps:List (Nat×V)}{v:V}(h:CE P T len ps=some v):CE P T len (ps.map fun p=>(p.1,p.2.ren σ δ))=some (v.ren σ δ):=by
 unfold CE at h|-;split at h
 ·rename_i e e1;split at h
  ·rename_i z e2;split at h
   ·rename_i hc;obtain⟨cs,h1,rfl⟩:=bj.1 h;have:=QL (σ:=σ) (δ:=δ) h1;have hz:(List.replicate len z).flatten.map (V.ren σ δ)=(List.replicate len z).flatten:=by rw[List.map_flatten,List.map_replicate,G7 e2]
    rw[hz]at this;simp only[NR];rw[if_pos hc,this];simp[cM (β:=Nat)]
   ·cases h
  ·cases h
 ·cases h
theorem SF{r:cd->Option V}:∀{l:List (Nat×cd)} {ps:List (Nat×V)},DI r l=some ps->DI (fun x=>(r x).map (V.ren σ δ)) l=some (ps.map fun p=>(p.1,p.2.ren σ δ))
 |[],ps,h=>by simp[DI]at h;subst h;rfl
 |(i,x)::l,ps,h=>by
  simp only[DI]at h;split at h
  ·rename_i v us h1 h2;cases h;simp[DI,h1,SF h2]
  ·cases h
theorem G8{v:V}{es:List (List V)}(h:elemsOf s v=some es):elemsOf (s.emb σ pre) (v.ren σ pre.length)=some (es.map (cx (V.ren σ pre.length))):=by
 cases v with
 |list f ds=>simp only[elemsOf,bb.injEq]at h;subst h;simp[elemsOf]
 |vec l k γ n=>
  simp only[elemsOf]at h
  split at h
  ·rename_i γ' T ds e;split at h
   ·rename_i hc;cases h;simp[elemsOf,CA,e,A1.ren,hc.1,hc.2,bz]
   ·cases h
  ·cases h
 |vtl l k γ i n=>
  simp only[elemsOf]at h
  split at h
  ·rename_i γ' cs e;split at h
   ·rename_i hc;cases h;simp[elemsOf,CA,e,A1.ren,hc.1,hc.2,bz,bx,Function.comp_def]
   ·cases h
  ·cases h
 |nil=>simp only[elemsOf,bb.injEq]at h;subst h;simp[elemsOf]
 |_=>cases h
theorem J4:D5 g (fr.ren σ δ)=fun x=>(D5 g fr x).map (V.ren σ δ):=by funext x;exact DS x
theorem JD{o:Oper}{v:V}(h:FV P g o fr s=some v):FV P g o (fr.ren σ pre.length) (s.emb σ pre)=some (v.ren σ pre.length):=by
 unfold FV at h|-;split at h
 ·rename_i c x y ho;split at h
  ·rename_i c' ca va cb vb e1 e2 e3;split at h
   ·rename_i hc;cases h;simp only[DS,AG2,e1,e2,e3,bq,MQ];rw[if_pos hc]
   ·cases h
  ·cases h
 ·rename_i T parts ho;obtain⟨ps,h1,h2⟩:=bk.1 h;rw[J4,SF h1];exact pO h2
 ·rename_i T len parts ho;obtain⟨ps,h1,h2⟩:=bk.1 h;rw[J4,SF h1];exact WT h2
 ·rw[J4];exact ANC h
def A7(s:St):Nat->V->Option V
 |0,_=>none
 |f+1,v=>match v with
  |.list _ es=>some (.list false es)
  | .vec l k g m=>if l=s.up.length then(match s.loc.get k with
    |some (g',.vec _ es)=>if g'=g/\m<=es.length then some (.list false (es.take m)) else none
    | _=>none) else some v
  | .ptr l k g off=>if l=s.up.length then(match s.loc.get k with
    |some (g',.box cs)=>if g'=g then(cs.mapM (A7 s f)).map fun ds=>.ref (ds.drop off) else none
    | _=>none) else some v
  |.agg cs=>(cs.mapM (A7 s f)).map .agg
  |.tup cs=>(cs.mapM (A7 s f)).map .tup
  |.fn g xs ys=>match xs.mapM (A7 s f),ys.mapM (A7 s f)with
   |some a,some b=>some (.fn g a b)
   |_,_=>none
  |v=>some v
theorem G9{α β:Type}{f:α->Option β}{g:α->β}(h:∀x y,f x=some y->g x=y):∀{l:List α} {r:List β},l.mapM f=some r->l.map g=r
 |[],r,e=>by simp at e;subst e;rfl
 |x::l,r,e=>by simp only[cj,bn,bk,cq,bb.injEq]at e;obtain⟨y,h1,ys,h2,rfl⟩:=e;simp[h x y h1,G9 h h2]
theorem PR:∀(f:Nat) {v r:V},A7 s f v=some r->DP s f v=r
 |0,v,r,h=>by cases h
 |f+1,v,r,h=>by
  have ih:=fun v r=>PR f (v:=v) (r:=r);cases v with
  |list b es=>simpa [A7,DP]using h
  |vec l k g m=>
   simp only[A7]at h
   simp only[DP]
   split at h
   ·rename_i hl;rw[if_pos hl];split at h
    ·rename_i g' T es e;split at h
     ·rename_i hc;rw[e];simp only[if_pos hc];exact bb.inj h
     ·cases h
    ·cases h
   ·rename_i hl;rw[if_neg hl];exact bb.inj h
  |ptr l k g off=>
   simp only[A7]at h
   simp only[DP]
   split at h
   ·rename_i hl;rw[if_pos hl];split at h
    ·rename_i g' cs e;split at h
     ·rename_i hc;obtain⟨ds,h1,rfl⟩:=bj.1 h;rw[e];simp only[if_pos hc,G9 ih h1]
     ·cases h
    ·cases h
   ·rename_i hl;rw[if_neg hl];exact bb.inj h
  |agg cs=>
   obtain⟨ds,h1,rfl⟩:=bj.1 h
   simp only[DP,G9 ih h1]
  |tup cs=>
   obtain⟨ds,h1,rfl⟩:=bj.1 h
   simp only[DP,G9 ih h1]
  |fn g xs ys=>
   simp only[A7]at h
   split at h
   ·rename_i a b h1 h2;cases h;simp only[DP,G9 ih h1,G9 ih h2]
   ·cases h
  |_=>simpa [A7,DP]using h
theorem F7{f f':V->Option V}(h:∀v r,f v=some r->f' (v.ren σ δ)=some (r.ren σ δ)):∀{l r:List V},l.mapM f=some r->(l.map (V.ren σ δ)).mapM f'=some (r.map (V.ren σ δ))
 |[],r,e=>by simp at e;subst e;rfl
 |x::l,r,e=>by simp only[cj,bn,bk,cq,bb.injEq]at e;obtain⟨y,h1,ys,h2,rfl⟩:=e;simp[h x y h1,F7 h h2]
theorem LD(k:Nat):(s.emb σ pre).loc.get k=(s.loc.get k).map fun p=>(σ p.1,p.2.ren σ pre.length):=AA.get_ren _ _
theorem KO:∀(f:Nat) {v r:V},A7 s f v=some r->A7 (s.emb σ pre) f (v.ren σ pre.length)=some (r.ren σ pre.length)
 |0,v,r,h=>by cases h
 |f+1,v,r,h=>by
  have ih:=fun v r=>KO f (v:=v) (r:=r);cases v with
  |list b es=>simp only[A7,bb.injEq]at h;subst h;simp[A7]
  |vec l k g m=>
   simp only[A7]at h
   split at h
   ·rename_i hl;split at h
    ·rename_i g' T es e;split at h
     ·rename_i hc;cases h;simp[A7,DK,LD,hl,e,A1.ren,hc.1,hc.2,bz]
     ·cases h
    ·cases h
   ·rename_i hl;cases h;have:¬l+pre.length=s.up.length+pre.length:=by omega
    simp[A7,DK,hl]
  |ptr l k g off=>
   simp only[A7]at h
   split at h
   ·rename_i hl;split at h
    ·rename_i g' cs e;split at h
     ·rename_i hc;obtain⟨ds,h1,rfl⟩:=bj.1 h;have:=F7 ih h1;simp[A7,DK,LD,hl,e,A1.ren,hc,this,bx]
     ·cases h
    ·cases h
   ·rename_i hl;cases h;simp[A7,DK,hl]
  |agg cs=>
   obtain⟨ds,h1,rfl⟩:=bj.1 h
   simp[A7,F7 ih h1]
  |tup cs=>
   obtain⟨ds,h1,rfl⟩:=bj.1 h
   simp[A7,F7 ih h1]
  |fn g xs ys=>
   simp only[A7]at h
   split at h
   ·rename_i a b h1 h2;cases h;simp[A7,F7 ih h1,F7 ih h2]
   ·cases h
  |_=>simp only[A7,bb.injEq]at h;subst h;simp[A7]
def B8(s:St)(v:V):Option V:=match v with
 |.list f es=>some (.list f es)
 |.int k n=>some (.int k n)
 |.bool b=>some (.bool b)
 |v=>A7 s 4 v
theorem J5{v r:V}(h:B8 s v=some r):FU s v=r:=by
 unfold B8 at h;unfold FU;split at h
 ·simpa using h
 ·simpa [DP]using h
 ·simpa [DP]using h
 ·rename_i h1 h2 h3;split
  ·rename_i f es;exact absurd rfl (h1 f es)
  ·exact PR 4 h
theorem X7{v:V}(h1:∀f es,v≠.list f es)(h2:∀k n,v≠.int k n)(h3:∀b,v≠.bool b):B8 s v=A7 s 4 v:=by
 unfold B8;split
 ·rename_i f es;exact absurd rfl (h1 f es)
 ·rename_i k n;exact absurd rfl (h2 k n)
 ·rename_i b;exact absurd rfl (h3 b)
 ·rfl
theorem LF{v r:V}(h:B8 s v=some r):B8 (s.emb σ pre) (v.ren σ pre.length)=some (r.ren σ pre.length):=by
 by_cases h1:∃f es,v=.list f es
 ·obtain⟨f,es,rfl⟩:=h1;simp only[B8,bb.injEq]at h;subst h;simp[B8]
 by_cases h2:∃k n,v=.int k n
 ·obtain⟨k,n,rfl⟩:=h2;simp only[B8,bb.injEq]at h;subst h;simp[B8]
 by_cases h3:∃b,v=.bool b
 ·obtain⟨b,rfl⟩:=h3;simp only[B8,bb.injEq]at h;subst h;simp[B8]
 rw[X7 (fun f es e=>h1 ⟨f,es,e⟩) (fun k n e=>h2 ⟨k,n,e⟩) (fun b e=>h3 ⟨b,e⟩)]at h;rw[X7 (fun f es e=>by cases v<;>simp at e;exact h1 ⟨_,_,rfl⟩) (fun k n e=>by cases v<;>simp at e;exact h2 ⟨_,_,rfl⟩) (fun b e=>by cases v<;>simp at e;exact h3 ⟨_,rfl⟩)];exact KO 4 h
def HA{α β:Type}(f:α->Option β):List α->Option (List β)
 |[]=>some []
 |x::l=>match f x with
  |some y=>match HA f l with
   |some r=>some (y::r)
   |none=>none
  |none=>none
theorem MR{α β:Type}{f:α->Option β}{g:α->β}(h:∀x y,f x=some y->g x=y):∀{l:List α} {r:List β},HA f l=some r->l.map g=r
 |[],r,e=>by cases e;rfl
 |x::l,r,e=>by
  simp only[HA]at e;split at e
  ·rename_i y hy;split at e
   ·rename_i q hq;cases e;simp[h _ _ hy,MR h hq]
   ·cases e
  ·cases e
theorem MS{α β:Type}{f f':α->Option β}{a:α->α}{b:β->β}(h:∀x y,f x=some y->f' (a x)=some (b y)):∀{l:List α} {r:List β},HA f l=some r->HA f' (l.map a)=some (r.map b)
 |[],r,e=>by cases e;rfl
 |x::l,r,e=>by
  simp only[HA]at e;split at e
  ·rename_i y hy;split at e
   ·rename_i q hq;cases e;simp[HA,h _ _ hy,MS h hq]
   ·cases e
  ·cases e
def CC(s:St)(r:A1):Option A1:=match r with
 |.box cs=>match HA (B8 s) cs with
  |some ds=>some (.box ds)
  |none=>none
 |.vec T es=>match HA (HA (B8 s)) es with
  |some ds=>some (.vec T ds)
  |none=>none
 | .map es=>match HA (fun e:V×V=>match B8 s e.1,B8 s e.2 with
   |some a,some b=>some (a,b)
   | _,_=>none) es with
  |some ds=>some (.map ds)
  |none=>none
 |r=>some r
def CW(s:St)(r:A1):A1:=match CC s r with
 |some r'=>r'
 |none=>r
theorem cN{r r':A1}(h:CC s r=some r'):r'=r\/r'=HO s r:=by
 unfold CC at h;split at h
 ·split at h
  ·rename_i ds hd;cases h;exact .inr (by simp only[HO,MR (fun x y=>J5) hd])
  ·cases h
 ·split at h
  ·rename_i ds hd;cases h;exact .inr (by simp only[HO,MR (fun x y=>MR (fun x y=>J5)) hd])
  ·cases h
 ·split at h
  ·rename_i ds hd;cases h;refine .inr ?_;simp only[HO];rw[MR (g:=fun e=>(FU s e.1,FU s e.2)) (fun x y h=>?_) hd];split at h
   ·rename_i a b h1 h2;cases h;rw[J5 h1,J5 h2]
   ·cases h
  ·cases h
 ·cases h;exact .inl rfl
theorem LV{r r':A1}(h:CC s r=some r'):CC (s.emb σ pre) (r.ren σ pre.length)=some (r'.ren σ pre.length):=by
 cases r with
 |box cs=>
  simp only[CC]at h
  split at h
  ·rename_i ds hd;cases h;simp[CC,A1.ren,MS (fun x y=>LF (σ:=σ) (pre:=pre)) hd]
  ·cases h
 |vec T es=>
  simp only[CC]at h
  split at h
  ·rename_i ds hd;cases h;simp[CC,A1.ren,MS (fun x y=>MS (fun x y=>LF (σ:=σ) (pre:=pre))) hd]
  ·cases h
 |map es=>
  simp only[CC]at h
  split at h
  ·rename_i ds hd;cases h;have:=MS (f':=fun e:V×V=>match B8 (s.emb σ pre) e.1,B8 (s.emb σ pre) e.2 with
    |some a,some b=>some (a,b)
    | _,_=>none) (a:=fun p:V×V=>(p.1.ren σ pre.length,p.2.ren σ pre.length)) (b:=fun p:V×V=>(p.1.ren σ pre.length,p.2.ren σ pre.length)) (fun x y h=>by
     split at h
     ·rename_i a b h1 h2;cases h;simp[LF h1,LF h2]
     ·cases h) hd
   simp[CC,A1.ren,this]
  ·cases h
 |loop fr ps asg body N st=>simp only[CC,bb.injEq]at h;subst h;rfl
 |dead=>simp only[CC,bb.injEq]at h;subst h;rfl
theorem pP(r:A1):(CW s r).ren σ pre.length=r.ren σ pre.length\/(CW s r).ren σ pre.length=HO (s.emb σ pre) (r.ren σ pre.length):=by
 unfold CW;split
 ·rename_i r' h;rcases cN (LV (σ:=σ) (pre:=pre) h)with h'|h'
  ·exact .inl h'
  ·exact .inr h'
 ·exact .inl rfl
def AH(s:St)(L:AA):AA:=L.map fun p=>(p.1,p.2.1,CW s p.2.2)
theorem NS(s:St):∀(L:AA) (k:Nat),(AH s L).get k=(L.get k).map fun p=>(p.1,CW s p.2)
 |[],k=>rfl
 |(j,x)::L,k=>by
  have:=NS s L k;simp only[AH,bm,AA.get]at this|-;split
  ·rfl
  ·exact this
theorem uB{rv:ResultVar}{v:V}(h:CU P fr s rv=some v):CU P (fr.ren σ pre.length) (s.emb σ pre) rv=some (v.ren σ pre.length):=by
 cases rv with
 |tmp t=>
  simp only[CU]at h|-
  split at h
  ·rename_i e;cases h;simp[Fr.get_ren,e]
  ·cases h
 |cell ad T=>
  simp only[CU]at h|-
  split at h
  ·rename_i p e;obtain⟨cs,h1,h2⟩:=bk.1 h;simp[Fr.get_ren,e,X6 h1,iA h2]
  ·cases h
theorem PS{rs:List ResultVar}{v:V}(h:GD P rs fr s=some v):GD P rs (fr.ren σ pre.length) (s.emb σ pre)=some (v.ren σ pre.length):=by
 have key:∀{rs:List ResultVar} {vs:List V},rs.mapM (CU P fr s)=some vs->rs.mapM (CU P (fr.ren σ pre.length) (s.emb σ pre))=some (vs.map (V.ren σ pre.length)):=by
  intro rs;induction rs with
  |nil=>intro vs e;simp at e;subst e;rfl
  |cons x l ih=>
   intro vs e
   simp only[cj,bn,bk,cq,bb.injEq]at e
   obtain⟨y,h1,ys,h2,rfl⟩:=e
   simp[uB h1,ih h2]
 unfold GD at h|-;split at h
 ·rename_i x e;cases h;rw[key e];rfl
 ·rename_i vs hne e;cases h;rw[key e];cases vs with
  |nil=>simp
  |cons a r=>
   cases r with
   |nil=>exact absurd rfl (hne a)
   |cons b r=>simp
 ·cases h
theorem QM:∀(i:Nat) (vs:List V),AF i (vs.map (V.ren σ δ))=(AF i vs).ren σ δ
 |_,[]=>rfl
 |i,v::vs=>by simp[AF,Fr.ren,QM (i+1) vs]
end Go.Pg
