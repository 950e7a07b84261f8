/- Names and levels turned into others: what the operations give turns with them. No program in sight. -/
import Derived.Test.YthhdhbalenanjaaGreatP4
noncomputable section
open Go renaming TypeId->cz,Operand->cd
open Option renaming map_eq_some_iff->bj,bind_eq_some_iff->bk,map_some->bq,some->bb,map_none->bh,bind_eq_bind->bn,pure_def->cq
open List renaming map_congr_left->bw,map_drop->bx,map_take->bz,getElem?_map->bc,length_map->bg,map_cons->bm,map_map->bp,mapM_cons->cj,sizeOf_lt_of_mem->ck,all_map->cw,map->cx
open Nat renaming add_assoc->bf
namespace Go.Pg
variable {P:Program}
variable {σ σ':Nat->Nat}{δ:Nat}
theorem QI:∀(l:List V),fH σ δ l=l.map (V.ren σ δ)
 |[]=>by simp[fH]
 |v::r=>by simp[fH,QI r]
theorem pJ:∀(l:List (List V)),oX σ δ l=l.map (cx (V.ren σ δ))
 |[]=>by simp[oX]
 |v::r=>by simp[oX,QI,pJ r]
@[simp] theorem EY(k:IntKind)(n:Int):(V.int k n).ren σ δ=.int k n:=by simp[V.ren]
@[simp] theorem MS(b:Bool):(V.bool b).ren σ δ=.bool b:=by simp[V.ren]
@[simp] theorem BEC(v:Value):(V.raw v).ren σ δ=.raw v:=by simp[V.ren]
@[simp] theorem H1(cs:List V):(V.agg cs).ren σ δ=.agg (cs.map (V.ren σ δ)):=by simp[V.ren,QI]
@[simp] theorem LN(cs:List V):(V.tup cs).ren σ δ=.tup (cs.map (V.ren σ δ)):=by simp[V.ren,QI]
@[simp] theorem E9(f:Bool)(es:List (List V)):(V.list f es).ren σ δ=.list f (es.map (cx (V.ren σ δ))):=by simp[V.ren,pJ]
@[simp] theorem NM(cs:List V):(V.ref cs).ren σ δ=.ref (cs.map (V.ren σ δ)):=by simp[V.ren,QI]
@[simp] theorem H2(l k g off:Nat):(V.ptr l k g off).ren σ δ=.ptr (l+δ) k (σ g) off:=by simp[V.ren]
@[simp] theorem PK(l k g i off:Nat):(V.eptr l k g i off).ren σ δ=.eptr (l+δ) k (σ g) i off:=by simp[V.ren]
@[simp] theorem H3(l k g n:Nat):(V.vec l k g n).ren σ δ=.vec (l+δ) k (σ g) n:=by simp[V.ren]
@[simp] theorem SG(l k g:Nat):(V.mp l k g).ren σ δ=.mp (l+δ) k (σ g):=by simp[V.ren]
@[simp] theorem PM(f:FuncId)(xs ys:List V):(V.fn f xs ys).ren σ δ=.fn f (xs.map (V.ren σ δ)) (ys.map (V.ren σ δ)):=by simp[V.ren,QI]
@[simp] theorem kI(l k g:Nat):(V.yld l k g).ren σ δ=.yld (l+δ) k (σ g):=by simp[V.ren]
@[simp] theorem AM6:V.nil.ren σ δ=.nil:=by simp[V.ren]
@[simp] theorem BED:V.any.ren σ δ=.any:=by simp[V.ren]
@[simp] theorem YZ(l k g i n:Nat):(V.vtl l k g i n).ren σ δ=.vtl (l+δ) k (σ g) i n:=by simp[V.ren]
theorem NN{σ':Nat->Nat}{δ':Nat}:∀(v:V),(v.ren σ δ).ren σ' δ'=v.ren (fun γ=>σ' (σ γ)) (δ+δ')
 |.agg cs=>by simp only[H1,bp];congr 1;exact bw fun v _=>NN v
 |.tup cs=>by simp only[LN,bp];congr 1;exact bw fun v _=>NN v
 |.ref cs=>by simp only[NM,bp];congr 1;exact bw fun v _=>NN v
 |.list b es=>by
  simp only[E9,bp];congr 1;refine bw fun e he=>?_;have hlt:=ck he;simp only[Function.comp,bp];exact bw fun v hv=>by have hlt2:=ck hv;exact NN v
 |.fn f xs ys=>by
  simp only[PM,bp];congr 1
  ·exact bw fun v _=>NN v
  ·exact bw fun v _=>NN v
 |.int k n=>by simp
 |.bool b=>by simp
 |.raw v=>by simp
 |.ptr l k g off=>by simp[bf]
 |.eptr l k g i off=>by simp[bf]
 |.vec l k g n=>by simp[bf]
 |.mp l k g=>by simp[bf]
 |.yld l k g=>by simp[bf]
 |.nil=>by simp
 |.vtl l k g i n=>by simp[bf]
 |.any=>by simp
decreasing_by all_goals first|(simp_wf;omega)|decreasing_tactic
def A0.ren(σ:Nat->Nat)(δ:Nat):A0->A0
 |.box cs=>.box (cs.map (V.ren σ δ))
 |.vec T es=>.vec T (es.map (cx (V.ren σ δ)))
 |.map es=>.map (es.map fun p=>(p.1.ren σ δ,p.2.ren σ δ))
 |.loop fr ps asg body N st=>.loop (fr.map fun p=>(p.1,p.2.1,p.2.2.ren σ δ)) ps asg body N st
 |.dead=>.dead
def AA.ren(σ:Nat->Nat)(δ:Nat)(L:AA):AA:=L.map fun p=>(p.1,σ p.2.1,p.2.2.ren σ δ)
def Fr.ren(σ:Nat->Nat)(δ:Nat)(fr:Fr):Fr:=fr.map fun p=>(p.1,p.2.1,p.2.2.ren σ δ)
def St.emb(σ:Nat->Nat)(pre:List AA)(s:St):St:=⟨pre++s.up.map (AA.ren σ pre.length),s.loc.ren σ pre.length⟩
theorem Fr.get_ren:∀(fr:Fr) (k:Nat),(fr.ren σ δ).get k=(fr.get k).map fun p=>(p.1,p.2.ren σ δ)
 |[],k=>rfl
 |(j,x)::fr,k=>by
  have:=Fr.get_ren fr k;simp only[Fr.ren,bm,Fr.get]at this|-;split
  ·rfl
  ·exact this
theorem AA.get_ren:∀(L:AA) (k:Nat),(L.ren σ δ).get k=(L.get k).map fun p=>(σ p.1,p.2.ren σ δ)
 |[],k=>rfl
 |(j,x)::L,k=>by
  have:=AA.get_ren L k;simp only[AA.ren,bm,AA.get]at this|-;split
  ·rfl
  ·exact this
variable {pre:List AA}{s:St}
theorem DN:(s.emb σ pre).up.length=s.up.length+pre.length:=by simp[St.emb,Nat.add_comm]
theorem CD(l k:Nat):(s.emb σ pre).get (l+pre.length) k=(s.get l k).map fun p=>(σ p.1,p.2.ren σ pre.length):=by
 unfold St.get;rw[DN];by_cases h:l=s.up.length
 ·rw[if_pos h,if_pos (by rw[h])];exact AA.get_ren _ _
 ·rw[if_neg h,if_neg (by omega)];simp only[St.emb];rw[List.getElem?_append_right (by omega),Nat.add_sub_cancel,bc];cases s.up[l]? with
  |none=>rfl
  |some L=>simp[AA.get_ren]
theorem cF{α:Type}(f:α->α)(M:List α)(l:Nat):∀(pre:List α),(pre++M).modify (l+pre.length) f=pre++M.modify l f
 |[]=>rfl
 |p::pre=>by have:=cF f M l pre;simp only[List.cons_append,List.length_cons,<-bf,List.modify_succ_cons,this]
theorem CW{l k g:Nat}{r:A0}:(s.put l k g r).emb σ pre=(s.emb σ pre).put (l+pre.length) k (σ g) (r.ren σ pre.length):=by
 unfold St.put;rw[DN];by_cases h:l=s.up.length
 ·rw[if_pos h,if_pos (by rw[h])];simp[St.emb,AA.ren,AA.put]
 ·rw[if_neg h,if_neg (by omega)];simp only[St.emb,St.mk.injEq,and_true];rw[cF];congr 1;refine List.ext_getElem? fun i=>?_;simp only[bc,List.getElem?_modify];by_cases hi:l=i
  ·subst hi;cases s.up[l]? with
   |none=>rfl
   |some L=>simp[AA.ren,AA.put]
  ·simp[hi]
theorem SH{u:Value}{v:V}(h:CS u=some v):v.ren σ δ=v:=by
 cases u with
 |int k n=>simp only[CS,bb.injEq]at h;subst h;simp
 |bool b=>simp only[CS,bb.injEq]at h;subst h;simp
 |agg cs=>simp[CS]at h
 |tuple cs=>simp[CS]at h
 |slice a n c=>
  unfold CS at h
  split at h<;>simp_all<;>subst h<;>simp
 |_=>simp only[CS,bb.injEq]at h;subst h;simp
theorem SI:∀{l:List Value} {cs:List V},G4 l=some cs->cs.map (V.ren σ δ)=cs
 |[],cs,h=>by simp[G4]at h;subst h;rfl
 |v::r,cs,h=>by
  unfold G4 at h;split at h
  ·rename_i x l h1 h2;cases h;simp[SH h1,SI h2]
  ·cases h
end Go.Pg
namespace Go.Pg
variable {P:Program}{σ:Nat->Nat}{δ:Nat}{pre:List AA}{s:St}{fr:Fr}{g:Bool}
theorem AGW(x:cd):rd (fr.ren σ δ) x=(rd fr x).map fun p=>(p.1,p.2.ren σ δ):=by
 cases x with
 |tmp t=>exact Fr.get_ren fr t
 |const u=>
  simp only[rd]
  cases h:CS u with
  |none=>rfl
  |some v=>simp[SH h]
 |func f=>simp[rd]
 |global g=>rfl
theorem DV(x:cd):D7 g (fr.ren σ δ) x=(D7 g fr x).map (V.ren σ δ):=by
 unfold D7;rw[AGW];cases rd fr x with
 |none=>rfl
 |some p=>
  obtain⟨c,v⟩:=p
  simp only[bq]
  split<;>rfl
theorem I1(v:V):BI (v.ren σ δ)=BI v:=by cases v<;>simp[BI]
theorem E2(v:V):BH (v.ren σ δ)=(BH v).map (V.ren σ δ):=by cases v<;>simp[BH]
theorem AB2(v:V):weakC (v.ren σ δ)=(weakC v).ren σ δ:=by cases v<;>simp[weakC]
theorem WP(v:V):weakV (v.ren σ δ)=(weakV v).ren σ δ:=by cases v<;>simp[weakV,AB2]
theorem X5{p:V}{cs:List V}(h:BG s p=some cs):BG (s.emb σ pre) (p.ren σ pre.length)=some (cs.map (V.ren σ pre.length)):=by
 cases p with
 |ref ds=>simp only[BG,bb.injEq]at h;subst h;simp[BG]
 |ptr l k γ off=>
  simp only[BG]at h
  split at h
  ·rename_i γ' ds e;split at h
   ·rename_i eg;cases h;simp[BG,CD,e,A0.ren,eg,bx]
   ·cases h
  ·cases h
 |eptr l k γ i off=>
  simp only[BG]at h
  split at h
  ·rename_i γ' T es e;split at h
   ·rename_i eg;obtain⟨x,hx,rfl⟩:=bj.1 h;simp[BG,CD,e,A0.ren,eg,hx,bx]
   ·cases h
  ·cases h
 |_=>cases h
theorem gZ{T:cz}{cs:List V}{v:V}(h:BR P T cs=some v):BR P T (cs.map (V.ren σ δ))=some (v.ren σ δ):=by
 unfold BR at h|-;split at h
 ·split at h
  ·rename_i hc;cases h;simp[hc,bz]
  ·cases h
 ·split at h
  ·rename_i hc;cases h;simp[hc,bz]
  ·cases h
 ·simp only[bc,h,bq]
 ·cases h
theorem hH{U:cz}{cs:List V}{off:Nat}{v:V}(h:MO P U cs off=some v):MO P U (cs.map (V.ren σ δ)) off=some (v.ren σ δ):=by
 unfold MO at h|-;split at h
 ·split at h
  ·rename_i hc;cases h;simp[hc,bz,bx]
  ·cases h
 ·split at h
  ·rename_i hc;cases h;simp[hc,bz,bx]
  ·cases h
 ·simp only[bc,h,bq]
 ·cases h
theorem pK{T:cz}{x v:V}{f:Nat}(h:I7 P T x f=some v):I7 P T (x.ren σ δ) f=some (v.ren σ δ):=by
 unfold I7 at h;split at h
 ·rename_i cs U off e;simp[I7,e,hH h]
 ·cases h
theorem YM{T:cz}{x v:V}{f:Nat}(h:DH P T x f=some v):DH P T (x.ren σ δ) f=some (v.ren σ δ):=by
 unfold DH at h;split at h
 ·rename_i U off e;split at h
  ·cases h
  ·rename_i hz;split at h<;>first
    |(cases h;done)
    |(cases h;simp[DH,e,hz,bx])
 ·cases h
theorem FK(es:List (List V))(j:Nat):(es.map (cx (V.ren σ δ))).getD j []=(es.getD j []).map (V.ren σ δ):=by simp only[List.getD_eq_getElem?_getD,bc];cases es[j]?<;>rfl
theorem YN{T:cz}{x i v:V}(h:B0 P s T x i=some v):B0 P (s.emb σ pre) T (x.ren σ pre.length) (i.ren σ pre.length)=some (v.ren σ pre.length):=by
 unfold B0 at h;split at h
 ·rename_i e f es k j e1;split at h
  ·rename_i hc;cases h;obtain⟨c1,c2,c3,c4⟩:=hc;simp only[E9,EY,B0,e1,bg,FK,NM];rw[if_pos ⟨c1,c2,c3,c4⟩]
  ·cases h
 ·rename_i e l k γ n k' j e1;split at h
  ·rename_i γ' U es e2;split at h
   ·rename_i hc;cases h;obtain⟨c1,c2,c3,c4,c5,c6⟩:=hc;subst c1;simp only[H3,EY,B0,e1,CD,e2,bq,A0.ren,bg,FK,PK];rw[if_pos ⟨trivial,c2,c3,c4,c5,c6⟩]
   ·cases h
  ·cases h
 ·rename_i n e cs k j e1;split at h
  ·rename_i hc;cases h;simp only[NM,EY,B0,e1,if_pos hc,bx]
  ·cases h
 ·rename_i n e l k γ o k' j e1;split at h
  ·rename_i hc;cases h;simp only[H2,EY,B0,e1,if_pos hc]
  ·cases h
 ·rename_i n e l k γ i' o k' j e1;split at h
  ·rename_i hc;cases h;simp only[PK,EY,B0,e1,if_pos hc]
  ·cases h
 ·cases h
theorem pL{T:cz}{x i v:V}(h:J7 P T x i=some v):J7 P T (x.ren σ δ) (i.ren σ δ)=some (v.ren σ δ):=by
 unfold J7 at h;split at h
 ·rename_i n e cs k j e1;split at h
  ·rename_i hc;simp only[H1,EY,J7,e1,if_pos hc,hH h]
  ·cases h
 ·cases h
theorem tY{S D:cz}{x v:V}(h:JS P S D x=some v):JS P S D (x.ren σ δ)=some (v.ren σ δ):=by
 unfold JS at h;split at h
 ·rename_i e1 e2;cases h;simp[JS,e1,e2]
 ·cases h
theorem AGX{op:UnOp}{x v:V}(h:fB op x=some v):fB op (x.ren σ δ)=some (v.ren σ δ):=by unfold fB at h;split at h<;>first|(cases h;done)|(cases h;simp[fB])
theorem AB3{x v:V}(h:N7 x=some v):N7 (x.ren σ δ)=some (v.ren σ δ):=by cases x<;>simp[N7]at h<;>subst h<;>simp[N7]
theorem fJ{x v:V}{i:Nat}(h:GA x i=some v):GA (x.ren σ δ) i=some (v.ren σ δ):=by cases x<;>simp[GA]at h;simp[GA,h]
theorem AB4{T:cz}{x v:V}(h:II P T x=some v):II P T (x.ren σ δ)=some (v.ren σ δ):=by
 unfold II at h;split at h
 ·rename_i e f es hu;cases h;simp[II,hu]
 ·rename_i e l k g n hu;cases h;simp[II,hu]
 ·rename_i e hu;cases h;simp[II,hu]
 ·rename_i n e hu;cases h;unfold II;rw[hu];simp
 ·cases h
theorem AM7{n m:Nat}{h:Option V}(e:hiN n h=some m):hiN n (h.map (V.ren σ δ))=some m:=by
 cases h with
 |none=>exact e
 |some a=>cases a<;>first|(simp only[bq,EY];exact e)|(simp[hiN]at e)
theorem pM{T:cz}{x v:V}{lo hi mx:Option V}(h:CH P s T x lo hi mx=some v):CH P (s.emb σ pre) T (x.ren σ pre.length) (lo.map (V.ren σ pre.length)) (hi.map (V.ren σ pre.length)) (mx.map (V.ren σ pre.length))=some (v.ren σ pre.length):=by
 unfold CH at h;split at h
 ·rename_i e f es k h' e1;split at h
  ·rename_i hc;cases h;simp only[E9,bq,EY,bh,CH,e1,bg,if_pos hc,bz]
  ·cases h
 ·rename_i e f es k l e1;split at h
  ·rename_i hc;cases h;have:(es.map (cx (V.ren σ pre.length))).all (fun x=>x.length==P.cellsOf e)=true:=by rw[cw];exact hc.2.2.2▸(by congr 1;funext x;simp)
   simp only[E9,bq,EY,bh,CH,e1,bg,if_pos (⟨hc.1,hc.2.1,hc.2.2.1,this⟩:_/\_/\_/\_),bx]
  ·cases h
 ·rename_i e f es k l k' h' e1;split at h
  ·rename_i hc;cases h;have:(es.map (cx (V.ren σ pre.length))).all (fun x=>x.length==P.cellsOf e)=true:=by rw[cw];exact hc.2.2.2.2▸(by congr 1;funext x;simp)
   simp only[E9,bq,EY,bh,CH,e1,bg,if_pos (⟨hc.1,hc.2.1,hc.2.2.1,hc.2.2.2.1,this⟩:_/\_/\_/\_/\_),bx,bz]
  ·cases h
 ·rename_i e f es k h' k' m e1;split at h
  ·rename_i hc;cases h;simp only[E9,bq,EY,bh,CH,e1,if_pos hc,List.map_nil]
  ·cases h
 ·rename_i e l k g n k' h' e1;split at h
  ·rename_i hc;cases h;simp only[H3,bq,EY,bh,CH,e1,if_pos hc]
  ·cases h
 ·rename_i e l k g n k' i e1;split at h
  ·rename_i g' T' es hget;split at h
   ·rename_i hc;obtain⟨rfl,h1,h2,h3,h4,h5⟩:=hc;cases h;have:(es.map (cx (V.ren σ pre.length))).all (fun x=>x.length==P.cellsOf e)=true:=by rw[cw];exact h1▸(by congr 1;funext x;simp)
    simp only[H3,YZ,bq,EY,bh,CH,e1,CD,hget,A0.ren];rw[if_pos ⟨trivial,this,by simpa using h2,h3,h4,h5⟩]
   ·cases h
  ·cases h
 ·rename_i n e l k g o e1;split at h
  ·rename_i g' cs m hget hm;split at h
   ·rename_i hc;obtain⟨rfl,h1,h2⟩:=hc;cases h;simp only[H2,YZ,bh,CH,e1,CD,hget,A0.ren,bq,AM7 hm];rw[if_pos ⟨trivial,h1,by simpa using h2⟩]
   ·cases h
  ·cases h
 ·cases h
theorem AB5{x y v:V}(h:UQ x y=some v):UQ (x.ren σ δ) (y.ren σ δ)=some (v.ren σ δ):=by
 unfold UQ at h;split at h
 ·split at h
  ·rename_i hk;cases h;simp[UQ,hk]
  ·cases h
 ·cases h
theorem AB6{x y v:V}(h:UR x y=some v):UR (x.ren σ δ) (y.ren σ δ)=some (v.ren σ δ):=by
 unfold UR at h;split at h
 ·split at h
  ·rename_i hk;cases h;simp[UR,hk]
  ·cases h
 ·cases h
theorem AB7{op:BinOp}{k:IntKind}{a b:Int}{v:V}(h:E7 op k a b=some v):v.ren σ δ=v:=by
 unfold E7 at h;split at h<;>first
  |(cases h;simp;done)
  |(split at h<;>first|(cases h;done)|(cases h;simp;done))
  |(obtain⟨r,_,rfl⟩:=bj.1 h;simp)
theorem NO:∀(cs:List V),ED (cs.map (V.ren σ δ))=ED cs
 |[]=>rfl
 |c::cs=>by have ih:=NO cs;cases c<;>simp[ED,ih]
theorem AGY{op:BinOp}{k:IntKind}{a b:Int}{v:V}(h:aQ op k a b=some v):v.ren σ δ=v:=by
 cases op<;>simp only[aQ]at h;case shl=>split at h<;>cases h;simp
 case shr=>split at h<;>cases h;simp
 all_goals cases h
theorem AB8{op:BinOp}{T:cz}{x y v:V}(h:HU P op T x y=some v):HU P op T (x.ren σ δ) (y.ren σ δ)=some (v.ren σ δ):=by
 unfold HU at h;split at h
 ·split at h
  ·rename_i hk;simp only[EY,HU,if_pos hk,h,AB7 h]
  ·rename_i hk;simp only[EY,HU,if_neg hk,h,AGY h]
 ·split at h
  ·rename_i hk;have hv:v.ren σ δ=v:=by split at h<;>first|(cases h;done)|(cases h;simp)
   rw[hv];simp only[MS,HU,if_pos hk];exact h
  ·cases h
 ·rename_i cs ds;have he:R9 P T (cs.map (V.ren σ δ)) (ds.map (V.ren σ δ))=R9 P T cs ds:=by unfold R9;rw[NO,NO]
  have hv:v.ren σ δ=v:=by
   split at h
   ·obtain⟨r,_,rfl⟩:=bj.1 h;simp
   ·obtain⟨r,_,rfl⟩:=bj.1 h;simp
   ·cases h
  rw[hv];simp only[H1,HU,he];exact h
 ·rename_i x' _;have hi:JQ (x.ren σ δ)=JQ x:=by
   cases x with
   |list f es=>cases es<;>simp[JQ]
   |vec l k g n=>cases n<;>simp[JQ]
   |vtl l k g i n=>cases n<;>simp[JQ]
   |_=>simp[JQ]
  have hb:∀y:V,HU P op T y .nil=if D5 P T then(match op with
   |.eql=>(JQ y).map V.bool
   |.neq=>(JQ y).map fun b=>V.bool !b
   | _=>none) else none:=fun y=>by cases y <;> rfl
  have hv:v.ren σ δ=v:=by
   split at h
   ·split at h
    ·obtain⟨r,_,rfl⟩:=bj.1 h;simp
    ·obtain⟨r,_,rfl⟩:=bj.1 h;simp
    ·cases h
   ·cases h
  rw[hv,AM6,hb,hi];exact h
 ·cases h
theorem WQ:∀{cs:List V} {l:List Value},ED cs=some l->cs.map (V.ren σ δ)=cs
 |[],_,_=>rfl
 |c::cs,l,h=>by
  cases c with
  |int k n=>
   simp only[ED]at h
   split at h
   ·rename_i r hr;simp[WQ hr]
   ·cases h
  |bool b=>
   simp only[ED]at h
   split at h
   ·rename_i r hr;simp[WQ hr]
   ·cases h
  |_=>simp[ED]at h
theorem cG{K:cz}(v:V):YI P K (v.ren σ δ)=YI P K v:=by
 cases v with
 |agg cs=>
  simp only[H1,YI,NO]
  split
  ·rename_i l hl;rw[WQ hl]
  ·rfl
 |_=>simp[YI]
theorem WR{K:cz}{ks:List V}:∀(es:List (V×V)) (i:Nat),N8 P K ks (es.map fun p=>(p.1.ren σ δ,p.2.ren σ δ)) i=N8 P K ks es i
 |[],_=>rfl
 |(k,v)::es,i=>by simp only[bm,N8,cG,WR es]
theorem tZ{T:cz}{z:V}(h:WD P T=some z):z.ren σ δ=z:=by
 unfold WD at h;split at h
 ·split at h
  ·rename_i cs hz;cases h;simp[SI hz]
  ·cases h
 ·exact SH h
 ·cases h
theorem kJ{T:cz}{x k v:V}{ok:Bool}(h:DW P s T x k ok=some v):DW P (s.emb σ pre) T (x.ren σ pre.length) (k.ren σ pre.length) ok=some (v.ren σ pre.length):=by
 unfold DW at h;split at h
 ·rename_i K E l q g hm;split at h
  ·rename_i g' es hget;split at h
   ·rename_i hc;obtain⟨rfl,hT⟩:=hc;split at h
    ·rename_i ks hks;simp only[SG,DW,hm,CD,hget,bq,A0.ren,cG,hks,WR,if_pos (⟨trivial,hT⟩:True/\_)];split at h
     ·rename_i hf;obtain⟨z,hz,rfl⟩:=bj.1 h;simp only[hz,bq];cases ok<;>simp[tZ hz]
     ·rename_i i hf;obtain⟨e,he,rfl⟩:=bj.1 h;simp only[bc,he,bq];cases ok<;>simp
     ·cases h
    ·cases h
   ·cases h
  ·cases h
 ·cases h
theorem WS{T:cz}{x k v:V}{l q γ:Nat}{es:List (V×V)}(h:MP P s T x k v=some (l,q,γ,es)):MP P (s.emb σ pre) T (x.ren σ pre.length) (k.ren σ pre.length) (v.ren σ pre.length)=some (l+pre.length,q,σ γ,es.map fun p=>(p.1.ren σ pre.length,p.2.ren σ pre.length)):=by
 unfold MP at h;split at h
 ·rename_i K E l q g hm;split at h
  ·rename_i g' es hget;split at h
   ·rename_i hc;obtain⟨rfl,hT⟩:=hc;split at h
    ·rename_i ks hks;simp only[SG,MP,hm,CD,hget,bq,A0.ren,cG,hks,WR,if_pos (⟨trivial,hT⟩:True/\_)];split at h
     ·rename_i hf;cases h;simp
     ·rename_i i hf;cases h;simp[List.map_set]
     ·cases h
    ·cases h
   ·cases h
  ·cases h
 ·cases h
theorem JJ{r:cd->Option V}:∀{l:List cd} {vs:List V},l.mapM r=some vs->l.mapM (fun x=>(r x).map (V.ren σ δ))=some (vs.map (V.ren σ δ))
 |[],vs,h=>by simp at h;subst h;rfl
 |x::l,vs,h=>by simp only[cj,bn,bk,cq,bb.injEq]at h;obtain⟨v,h1,us,h2,rfl⟩:=h;simp[h1,JJ h2]
theorem AM8{o:Oper}{r:cd->Option V}{v:V}(h:JT P o s r=some v):JT P o (s.emb σ pre) (fun x=>(r x).map (V.ren σ pre.length))=some (v.ren σ pre.length):=by
 unfold JT at h|-;split at h<;>(try simp only[bk]at h);case h_1=>simp[h]
 case h_2=>simp[h]
 case h_3=>obtain⟨a,h1,h2⟩:=h;simp[h1,AB3 h2]
 case h_4=>obtain⟨a,h1,b,h2,h3⟩:=h;simp[h1,X5 h2,gZ h3]
 case h_5=>obtain⟨a,h1,b,h2,h3⟩:=h;simp[h1,h2,AB8 h3]
 case h_6=>obtain⟨a,h1,h2⟩:=h;simp[h1,AGX h2]
 case h_7=>obtain⟨a,h1,h2⟩:=h;simp[h1,tY h2]
 case h_8=>obtain⟨a,h1,h2⟩:=h;simp[h1,YM h2]
 case h_9=>obtain⟨a,h1,h2⟩:=h;simp[h1,pK h2]
 case h_10=>obtain⟨a,h1,b,h2,h3⟩:=h;simp[h1,h2,YN h3]
 case h_11=>obtain⟨a,h1,b,h2,h3⟩:=h;simp[h1,h2,pL h3]
 case h_12=>obtain⟨a,h1,h2⟩:=h;simp[h1,fJ h2]
 case h_13=>
  split at h
  ·rename_i e1 e2;simp only[bk]at h;obtain⟨a,h1,h2⟩:=h;simp[h1,AB4 h2]
  ·cases h
 case h_14=>
  split at h
  ·simp only[bk]at h;obtain⟨a,h1,b,h2,h3⟩:=h;simp[h1,h2,AB5 h3]
  ·cases h
 case h_15=>
  split at h
  ·simp only[bk]at h;obtain⟨a,h1,b,h2,h3⟩:=h;simp[h1,h2,AB6 h3]
  ·cases h
 case h_16 T x lo hi mx ho=>
  obtain⟨a,h1,l,h2,u,h3,m,h4,h5⟩:=h
  have key:∀(z:Option cd) (q:Option V),(match z with|none=>some none|some y=>(r y).map some)=some q->(z=none/\q=none)\/∃y b,z=some y/\r y=some b/\q=some b:=by
   intro z q hz;cases z with
   |none=>cases hz;exact .inl ⟨rfl,rfl⟩
   |some y=>
    obtain⟨b,hb,rfl⟩:=bj.1 hz
    exact .inr ⟨y,b,rfl,hb,rfl⟩
  have h6:=pM (σ:=σ) (pre:=pre) h5
  rcases key lo l h2 with⟨rfl,rfl⟩|⟨y1,b1,rfl,q1,rfl⟩<;>rcases key hi u h3 with⟨rfl,rfl⟩|⟨y2,b2,rfl,q2,rfl⟩<;>rcases key mx m h4 with⟨rfl,rfl⟩|⟨y3,b3,rfl,q3,rfl⟩<;>simp_all
 case h_17=>obtain⟨a,h1,b,h2,h3⟩:=h;simp[h1,h2,kJ h3]
 case h_18 f first captured ho=>
  obtain⟨a,h1,b,h2,h3⟩:=h
  cases h3
  simp[JJ h1,JJ h2]
 case h_19=>cases h
end Go.Pg
namespace Go.Pg
variable {P:Program}{σ:Nat->Nat}{δ:Nat}{pre:List AA}{s:St}{fr:Fr}{g:Bool}
theorem HC{T:cz}{z:List V}(h:CC P T=some z):z.map (V.ren σ δ)=z:=by
 unfold CC at h;split at h
 ·exact SI h
 ·cases h
theorem DI{α β:Type}(f:α->β)(cs ds:List α)(off:Nat):A9 (cs.map f) off (ds.map f)=(A9 cs off ds).map f:=by simp[A9,bz,bx]
theorem QJ{place:Nat->Option (Nat×Nat)}:∀{ps:List (Nat×V)} {cs ds:List V},DD place cs ps=some ds->DD place (cs.map (V.ren σ δ)) (ps.map fun p=>(p.1,p.2.ren σ δ))=some (ds.map (V.ren σ δ))
 |[],cs,ds,h=>by simp[DD]at h;subst h;rfl
 |(i,v)::r,cs,ds,h=>by
  simp only[DD]at h;split at h
  ·cases h
  ·rename_i off size e;split at h
   ·rename_i hc;have:=QJ h;simp only[bm,DD,e,E2,bg];rw[if_pos hc,DI];exact this
   ·cases h
theorem NP(ps:List (Nat×V)):((ps.map fun p=>(p.1,p.2.ren σ δ)).all fun p=>BI p.2)=ps.all fun p=>BI p.2:=by rw[cw];congr 1;funext p;exact I1 p.2
theorem pN{T:cz}{ps:List (Nat×V)}{v:V}(h:CT P T ps=some v):CT P T (ps.map fun p=>(p.1,p.2.ren σ δ))=some (v.ren σ δ):=by
 unfold CT at h|-;split at h
 ·rename_i z fs e1 e2;simp only[NP];split at h
  ·rename_i hc;obtain⟨cs,h1,rfl⟩:=bj.1 h;have:=QJ (σ:=σ) (δ:=δ) h1;rw[HC e1]at this;rw[if_pos hc,this];simp
  ·cases h
 ·rename_i z n e e1 e2;simp only[NP];split at h
  ·rename_i hc;obtain⟨cs,h1,rfl⟩:=bj.1 h;have:=QJ (σ:=σ) (δ:=δ) h1;rw[HC e1]at this;rw[if_pos hc,this];simp
  ·cases h
 ·cases h
theorem cH{β:Type}(f:V->V)(size:Nat):∀(n:Nat) (cs:List V),CU size (cs.map f) n=(CU size cs n).map (cx f)
 |0,_=>rfl
 |n+1,cs=>by simp only[CU,bm,bz];rw[<-bx,cH (β:=β) f size n]
theorem WT{T:cz}{len:Nat}{ps:List (Nat×V)}{v:V}(h:CI P T len ps=some v):CI P T len (ps.map fun p=>(p.1,p.2.ren σ δ))=some (v.ren σ δ):=by
 unfold CI at h|-;split at h
 ·rename_i e e1;split at h
  ·rename_i z e2;split at h
   ·rename_i hc;obtain⟨cs,h1,rfl⟩:=bj.1 h;have:=QJ (σ:=σ) (δ:=δ) h1;have hz:(List.replicate len z).flatten.map (V.ren σ δ)=(List.replicate len z).flatten:=by rw[List.map_flatten,List.map_replicate,HC e2]
    rw[hz]at this;simp only[NP];rw[if_pos hc,this];simp[cH (β:=Nat)]
   ·cases h
  ·cases h
 ·cases h
theorem SJ{r:cd->Option V}:∀{l:List (Nat×cd)} {ps:List (Nat×V)},DK r l=some ps->DK (fun x=>(r x).map (V.ren σ δ)) l=some (ps.map fun p=>(p.1,p.2.ren σ δ))
 |[],ps,h=>by simp[DK]at h;subst h;rfl
 |(i,x)::l,ps,h=>by
  simp only[DK]at h;split at h
  ·rename_i v us h1 h2;cases h;simp[DK,h1,SJ h2]
  ·cases h
theorem HD{v:V}{es:List (List V)}(h:elemsOf s v=some es):elemsOf (s.emb σ pre) (v.ren σ pre.length)=some (es.map (cx (V.ren σ pre.length))):=by
 cases v with
 |list f ds=>simp only[elemsOf,bb.injEq]at h;subst h;simp[elemsOf]
 |vec l k γ n=>
  simp only[elemsOf]at h
  split at h
  ·rename_i γ' T ds e;split at h
   ·rename_i hc;cases h;simp[elemsOf,CD,e,A0.ren,hc.1,hc.2,bz]
   ·cases h
  ·cases h
 |vtl l k γ i n=>
  simp only[elemsOf]at h
  split at h
  ·rename_i γ' cs e;split at h
   ·rename_i hc;cases h;simp[elemsOf,CD,e,A0.ren,hc.1,hc.2,bz,bx,Function.comp_def]
   ·cases h
  ·cases h
 |nil=>simp only[elemsOf,bb.injEq]at h;subst h;simp[elemsOf]
 |_=>cases h
theorem J9:D7 g (fr.ren σ δ)=fun x=>(D7 g fr x).map (V.ren σ δ):=by funext x;exact DV x
theorem JK{o:Oper}{v:V}(h:F1 P g o fr s=some v):F1 P g o (fr.ren σ pre.length) (s.emb σ pre)=some (v.ren σ pre.length):=by
 unfold F1 at h|-;split at h
 ·rename_i c x y ho;split at h
  ·rename_i c' ca va cb vb e1 e2 e3;split at h
   ·rename_i hc;cases h;simp only[DV,AGW,e1,e2,e3,bq,MS];rw[if_pos hc]
   ·cases h
  ·cases h
 ·rename_i T parts ho;obtain⟨ps,h1,h2⟩:=bk.1 h;rw[J9,SJ h1];exact pN h2
 ·rename_i T len parts ho;obtain⟨ps,h1,h2⟩:=bk.1 h;rw[J9,SJ h1];exact WT h2
 ·rw[J9];exact AM8 h
def A7(s:St):Nat->V->Option V
 |0,_=>none
 |f+1,v=>match v with
  |.list _ es=>some (.list false es)
  | .vec l k g m=>if l=s.up.length then(match s.loc.get k with
    |some (g',.vec _ es)=>if g'=g/\m<=es.length then some (.list false (es.take m)) else none
    | _=>none) else some v
  | .ptr l k g off=>if l=s.up.length then(match s.loc.get k with
    |some (g',.box cs)=>if g'=g then(cs.mapM (A7 s f)).map fun ds=>.ref (ds.drop off) else none
    | _=>none) else some v
  |.agg cs=>(cs.mapM (A7 s f)).map .agg
  |.tup cs=>(cs.mapM (A7 s f)).map .tup
  |.fn g xs ys=>match xs.mapM (A7 s f),ys.mapM (A7 s f)with
   |some a,some b=>some (.fn g a b)
   |_,_=>none
  |v=>some v
theorem HE{α β:Type}{f:α->Option β}{g:α->β}(h:∀x y,f x=some y->g x=y):∀{l:List α} {r:List β},l.mapM f=some r->l.map g=r
 |[],r,e=>by simp at e;subst e;rfl
 |x::l,r,e=>by simp only[cj,bn,bk,cq,bb.injEq]at e;obtain⟨y,h1,ys,h2,rfl⟩:=e;simp[h x y h1,HE h h2]
theorem PN:∀(f:Nat) {v r:V},A7 s f v=some r->DR s f v=r
 |0,v,r,h=>by cases h
 |f+1,v,r,h=>by
  have ih:=fun v r=>PN f (v:=v) (r:=r);cases v with
  |list b es=>simpa [A7,DR]using h
  |vec l k g m=>
   simp only[A7]at h
   simp only[DR]
   split at h
   ·rename_i hl;rw[if_pos hl];split at h
    ·rename_i g' T es e;split at h
     ·rename_i hc;rw[e];simp only[if_pos hc];exact bb.inj h
     ·cases h
    ·cases h
   ·rename_i hl;rw[if_neg hl];exact bb.inj h
  |ptr l k g off=>
   simp only[A7]at h
   simp only[DR]
   split at h
   ·rename_i hl;rw[if_pos hl];split at h
    ·rename_i g' cs e;split at h
     ·rename_i hc;obtain⟨ds,h1,rfl⟩:=bj.1 h;rw[e];simp only[if_pos hc,HE ih h1]
     ·cases h
    ·cases h
   ·rename_i hl;rw[if_neg hl];exact bb.inj h
  |agg cs=>
   obtain⟨ds,h1,rfl⟩:=bj.1 h
   simp only[DR,HE ih h1]
  |tup cs=>
   obtain⟨ds,h1,rfl⟩:=bj.1 h
   simp only[DR,HE ih h1]
  |fn g xs ys=>
   simp only[A7]at h
   split at h
   ·rename_i a b h1 h2;cases h;simp only[DR,HE ih h1,HE ih h2]
   ·cases h
  |_=>simpa [A7,DR]using h
theorem GF{f f':V->Option V}(h:∀v r,f v=some r->f' (v.ren σ δ)=some (r.ren σ δ)):∀{l r:List V},l.mapM f=some r->(l.map (V.ren σ δ)).mapM f'=some (r.map (V.ren σ δ))
 |[],r,e=>by simp at e;subst e;rfl
 |x::l,r,e=>by simp only[cj,bn,bk,cq,bb.injEq]at e;obtain⟨y,h1,ys,h2,rfl⟩:=e;simp[h x y h1,GF h h2]
theorem LO(k:Nat):(s.emb σ pre).loc.get k=(s.loc.get k).map fun p=>(σ p.1,p.2.ren σ pre.length):=AA.get_ren _ _
theorem KS:∀(f:Nat) {v r:V},A7 s f v=some r->A7 (s.emb σ pre) f (v.ren σ pre.length)=some (r.ren σ pre.length)
 |0,v,r,h=>by cases h
 |f+1,v,r,h=>by
  have ih:=fun v r=>KS f (v:=v) (r:=r);cases v with
  |list b es=>simp only[A7,bb.injEq]at h;subst h;simp[A7]
  |vec l k g m=>
   simp only[A7]at h
   split at h
   ·rename_i hl;split at h
    ·rename_i g' T es e;split at h
     ·rename_i hc;cases h;simp[A7,DN,LO,hl,e,A0.ren,hc.1,hc.2,bz]
     ·cases h
    ·cases h
   ·rename_i hl;cases h;have:¬l+pre.length=s.up.length+pre.length:=by omega
    simp[A7,DN,hl]
  |ptr l k g off=>
   simp only[A7]at h
   split at h
   ·rename_i hl;split at h
    ·rename_i g' cs e;split at h
     ·rename_i hc;obtain⟨ds,h1,rfl⟩:=bj.1 h;have:=GF ih h1;simp[A7,DN,LO,hl,e,A0.ren,hc,this,bx]
     ·cases h
    ·cases h
   ·rename_i hl;cases h;simp[A7,DN,hl]
  |agg cs=>
   obtain⟨ds,h1,rfl⟩:=bj.1 h
   simp[A7,GF ih h1]
  |tup cs=>
   obtain⟨ds,h1,rfl⟩:=bj.1 h
   simp[A7,GF ih h1]
  |fn g xs ys=>
   simp only[A7]at h
   split at h
   ·rename_i a b h1 h2;cases h;simp[A7,GF ih h1,GF ih h2]
   ·cases h
  |_=>simp only[A7,bb.injEq]at h;subst h;simp[A7]
def CA(s:St)(v:V):Option V:=match v with
 |.list f es=>some (.list f es)
 |.int k n=>some (.int k n)
 |.bool b=>some (.bool b)
 |v=>A7 s 4 v
theorem KA{v r:V}(h:CA s v=some r):F0 s v=r:=by
 unfold CA at h;unfold F0;split at h
 ·simpa using h
 ·simpa [DR]using h
 ·simpa [DR]using h
 ·rename_i h1 h2 h3;split
  ·rename_i f es;exact absurd rfl (h1 f es)
  ·exact PN 4 h
theorem X6{v:V}(h1:∀f es,v≠.list f es)(h2:∀k n,v≠.int k n)(h3:∀b,v≠.bool b):CA s v=A7 s 4 v:=by
 unfold CA;split
 ·rename_i f es;exact absurd rfl (h1 f es)
 ·rename_i k n;exact absurd rfl (h2 k n)
 ·rename_i b;exact absurd rfl (h3 b)
 ·rfl
theorem LP{v r:V}(h:CA s v=some r):CA (s.emb σ pre) (v.ren σ pre.length)=some (r.ren σ pre.length):=by
 by_cases h1:∃f es,v=.list f es
 ·obtain⟨f,es,rfl⟩:=h1;simp only[CA,bb.injEq]at h;subst h;simp[CA]
 by_cases h2:∃k n,v=.int k n
 ·obtain⟨k,n,rfl⟩:=h2;simp only[CA,bb.injEq]at h;subst h;simp[CA]
 by_cases h3:∃b,v=.bool b
 ·obtain⟨b,rfl⟩:=h3;simp only[CA,bb.injEq]at h;subst h;simp[CA]
 rw[X6 (fun f es e=>h1 ⟨f,es,e⟩) (fun k n e=>h2 ⟨k,n,e⟩) (fun b e=>h3 ⟨b,e⟩)]at h;rw[X6 (fun f es e=>by cases v<;>simp at e;exact h1 ⟨_,_,rfl⟩) (fun k n e=>by cases v<;>simp at e;exact h2 ⟨_,_,rfl⟩) (fun b e=>by cases v<;>simp at e;exact h3 ⟨_,rfl⟩)];exact KS 4 h
def HF{α β:Type}(f:α->Option β):List α->Option (List β)
 |[]=>some []
 |x::l=>match f x with
  |some y=>match HF f l with
   |some r=>some (y::r)
   |none=>none
  |none=>none
theorem MT{α β:Type}{f:α->Option β}{g:α->β}(h:∀x y,f x=some y->g x=y):∀{l:List α} {r:List β},HF f l=some r->l.map g=r
 |[],r,e=>by cases e;rfl
 |x::l,r,e=>by
  simp only[HF]at e;split at e
  ·rename_i y hy;split at e
   ·rename_i q hq;cases e;simp[h _ _ hy,MT h hq]
   ·cases e
  ·cases e
theorem MU{α β:Type}{f f':α->Option β}{a:α->α}{b:β->β}(h:∀x y,f x=some y->f' (a x)=some (b y)):∀{l:List α} {r:List β},HF f l=some r->HF f' (l.map a)=some (r.map b)
 |[],r,e=>by cases e;rfl
 |x::l,r,e=>by
  simp only[HF]at e;split at e
  ·rename_i y hy;split at e
   ·rename_i q hq;cases e;simp[HF,h _ _ hy,MU h hq]
   ·cases e
  ·cases e
def CG(s:St)(r:A0):Option A0:=match r with
 |.box cs=>match HF (CA s) cs with
  |some ds=>some (.box ds)
  |none=>none
 |.vec T es=>match HF (HF (CA s)) es with
  |some ds=>some (.vec T ds)
  |none=>none
 | .map es=>match HF (fun e:V×V=>match CA s e.1,CA s e.2 with
   |some a,some b=>some (a,b)
   | _,_=>none) es with
  |some ds=>some (.map ds)
  |none=>none
 |r=>some r
def CO(s:St)(r:A0):A0:=match CG s r with
 |some r'=>r'
 |none=>r
theorem cI{r r':A0}(h:CG s r=some r'):r'=r\/r'=HW s r:=by
 unfold CG at h;split at h
 ·split at h
  ·rename_i ds hd;cases h;exact .inr (by simp only[HW,MT (fun x y=>KA) hd])
  ·cases h
 ·split at h
  ·rename_i ds hd;cases h;exact .inr (by simp only[HW,MT (fun x y=>MT (fun x y=>KA)) hd])
  ·cases h
 ·split at h
  ·rename_i ds hd;cases h;refine .inr ?_;simp only[HW];rw[MT (g:=fun e=>(F0 s e.1,F0 s e.2)) (fun x y h=>?_) hd];split at h
   ·rename_i a b h1 h2;cases h;rw[KA h1,KA h2]
   ·cases h
  ·cases h
 ·cases h;exact .inl rfl
theorem L7{r r':A0}(h:CG s r=some r'):CG (s.emb σ pre) (r.ren σ pre.length)=some (r'.ren σ pre.length):=by
 cases r with
 |box cs=>
  simp only[CG]at h
  split at h
  ·rename_i ds hd;cases h;simp[CG,A0.ren,MU (fun x y=>LP (σ:=σ) (pre:=pre)) hd]
  ·cases h
 |vec T es=>
  simp only[CG]at h
  split at h
  ·rename_i ds hd;cases h;simp[CG,A0.ren,MU (fun x y=>MU (fun x y=>LP (σ:=σ) (pre:=pre))) hd]
  ·cases h
 |map es=>
  simp only[CG]at h
  split at h
  ·rename_i ds hd;cases h;have:=MU (f':=fun e:V×V=>match CA (s.emb σ pre) e.1,CA (s.emb σ pre) e.2 with
    |some a,some b=>some (a,b)
    | _,_=>none) (a:=fun p:V×V=>(p.1.ren σ pre.length,p.2.ren σ pre.length)) (b:=fun p:V×V=>(p.1.ren σ pre.length,p.2.ren σ pre.length)) (fun x y h=>by
     split at h
     ·rename_i a b h1 h2;cases h;simp[LP h1,LP h2]
     ·cases h) hd
   simp[CG,A0.ren,this]
  ·cases h
 |loop fr ps asg body N st=>simp only[CG,bb.injEq]at h;subst h;rfl
 |dead=>simp only[CG,bb.injEq]at h;subst h;rfl
theorem pO(r:A0):(CO s r).ren σ pre.length=r.ren σ pre.length\/(CO s r).ren σ pre.length=HW (s.emb σ pre) (r.ren σ pre.length):=by
 unfold CO;split
 ·rename_i r' h;rcases cI (L7 (σ:=σ) (pre:=pre) h)with h'|h'
  ·exact .inl h'
  ·exact .inr h'
 ·exact .inl rfl
def AK(s:St)(L:AA):AA:=L.map fun p=>(p.1,p.2.1,CO s p.2.2)
theorem NQ(s:St):∀(L:AA) (k:Nat),(AK s L).get k=(L.get k).map fun p=>(p.1,CO s p.2)
 |[],k=>rfl
 |(j,x)::L,k=>by
  have:=NQ s L k;simp only[AK,bm,AA.get]at this|-;split
  ·rfl
  ·exact this
theorem uA{rv:ResultVar}{v:V}(h:CV P fr s rv=some v):CV P (fr.ren σ pre.length) (s.emb σ pre) rv=some (v.ren σ pre.length):=by
 cases rv with
 |tmp t=>
  simp only[CV]at h|-
  split at h
  ·rename_i e;cases h;simp[Fr.get_ren,e]
  ·cases h
 |cell ad T=>
  simp only[CV]at h|-
  split at h
  ·rename_i p e;obtain⟨cs,h1,h2⟩:=bk.1 h;simp[Fr.get_ren,e,X5 h1,gZ h2]
  ·cases h
theorem PO{rs:List ResultVar}{v:V}(h:GB P rs fr s=some v):GB P rs (fr.ren σ pre.length) (s.emb σ pre)=some (v.ren σ pre.length):=by
 have key:∀{rs:List ResultVar} {vs:List V},rs.mapM (CV P fr s)=some vs->rs.mapM (CV P (fr.ren σ pre.length) (s.emb σ pre))=some (vs.map (V.ren σ pre.length)):=by
  intro rs;induction rs with
  |nil=>intro vs e;simp at e;subst e;rfl
  |cons x l ih=>
   intro vs e
   simp only[cj,bn,bk,cq,bb.injEq]at e
   obtain⟨y,h1,ys,h2,rfl⟩:=e
   simp[uA h1,ih h2]
 unfold GB at h|-;split at h
 ·rename_i x e;cases h;rw[key e];rfl
 ·rename_i vs hne e;cases h;rw[key e];cases vs with
  |nil=>simp
  |cons a r=>
   cases r with
   |nil=>exact absurd rfl (hne a)
   |cons b r=>simp
 ·cases h
theorem QK:∀(i:Nat) (vs:List V),AG i (vs.map (V.ren σ δ))=(AG i vs).ren σ δ
 |_,[]=>rfl
 |i,v::vs=>by simp[AG,Fr.ren,QK (i+1) vs]
end Go.Pg
