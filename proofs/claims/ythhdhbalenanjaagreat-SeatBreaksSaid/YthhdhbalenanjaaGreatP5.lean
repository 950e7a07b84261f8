/- Names and levels turned into others: what the operations give turns with them. No program in sight. -/
import Derived.Test.YthhdhbalenanjaaGreatP4
noncomputable section
open Go renaming TypeId->cz,Operand->cd
open Option renaming map_eq_some_iff->bj,bind_eq_some_iff->bk,map_some->bq,some->bb,map_none->bh,bind_eq_bind->bn,pure_def->cq
open List renaming map_congr_left->bw,map_drop->bx,map_take->bz,getElem?_map->bc,length_map->bg,map_cons->bm,map_map->bp,mapM_cons->cj,sizeOf_lt_of_mem->ck,all_map->cw,map->cx
open Nat renaming add_assoc->bf
namespace Go.Pg
variable {P:Program}
variable {σ σ':Nat->Nat}{δ:Nat}
theorem QJ:∀(l:List V),fM σ δ l=l.map (V.ren σ δ)
 |[]=>by simp[fM]
 |v::r=>by simp[fM,QJ r]
theorem pQ:∀(l:List (List V)),pE σ δ l=l.map (cx (V.ren σ δ))
 |[]=>by simp[pE]
 |v::r=>by simp[pE,QJ,pQ r]
@[simp] theorem EU(k:IntKind)(n:Int):(V.int k n).ren σ δ=.int k n:=by simp[V.ren]
@[simp] theorem MP(b:Bool):(V.bool b).ren σ δ=.bool b:=by simp[V.ren]
@[simp] theorem BCH(v:Value):(V.raw v).ren σ δ=.raw v:=by simp[V.ren]
@[simp] theorem HS(cs:List V):(V.agg cs).ren σ δ=.agg (cs.map (V.ren σ δ)):=by simp[V.ren,QJ]
@[simp] theorem K7(cs:List V):(V.tup cs).ren σ δ=.tup (cs.map (V.ren σ δ)):=by simp[V.ren,QJ]
@[simp] theorem E5(f:Bool)(es:List (List V)):(V.list f es).ren σ δ=.list f (es.map (cx (V.ren σ δ))):=by simp[V.ren,pQ]
@[simp] theorem NN(cs:List V):(V.ref cs).ren σ δ=.ref (cs.map (V.ren σ δ)):=by simp[V.ren,QJ]
@[simp] theorem HT(l k g off:Nat):(V.ptr l k g off).ren σ δ=.ptr (l+δ) k (σ g) off:=by simp[V.ren]
@[simp] theorem PM(l k g i off:Nat):(V.eptr l k g i off).ren σ δ=.eptr (l+δ) k (σ g) i off:=by simp[V.ren]
@[simp] theorem HU(l k g n:Nat):(V.vec l k g n).ren σ δ=.vec (l+δ) k (σ g) n:=by simp[V.ren]
@[simp] theorem SA(l k g:Nat):(V.mp l k g).ren σ δ=.mp (l+δ) k (σ g):=by simp[V.ren]
@[simp] theorem PN(f:FuncId)(xs ys:List V):(V.fn f xs ys).ren σ δ=.fn f (xs.map (V.ren σ δ)) (ys.map (V.ren σ δ)):=by simp[V.ren,QJ]
@[simp] theorem kX(l k g:Nat):(V.yld l k g).ren σ δ=.yld (l+δ) k (σ g):=by simp[V.ren]
@[simp] theorem ANO:V.nil.ren σ δ=.nil:=by simp[V.ren]
@[simp] theorem BCI:V.any.ren σ δ=.any:=by simp[V.ren]
@[simp] theorem ZD(l k g i n:Nat):(V.vtl l k g i n).ren σ δ=.vtl (l+δ) k (σ g) i n:=by simp[V.ren]
theorem NO{σ':Nat->Nat}{δ':Nat}:∀(v:V),(v.ren σ δ).ren σ' δ'=v.ren (fun γ=>σ' (σ γ)) (δ+δ')
 |.agg cs=>by simp only[HS,bp];congr 1;exact bw fun v _=>NO v
 |.tup cs=>by simp only[K7,bp];congr 1;exact bw fun v _=>NO v
 |.ref cs=>by simp only[NN,bp];congr 1;exact bw fun v _=>NO v
 |.list b es=>by
  simp only[E5,bp];congr 1;refine bw fun e he=>?_;have hlt:=ck he;simp only[Function.comp,bp];exact bw fun v hv=>by have hlt2:=ck hv;exact NO v
 |.fn f xs ys=>by
  simp only[PN,bp];congr 1
  ·exact bw fun v _=>NO v
  ·exact bw fun v _=>NO v
 |.int k n=>by simp
 |.bool b=>by simp
 |.raw v=>by simp
 |.ptr l k g off=>by simp[bf]
 |.eptr l k g i off=>by simp[bf]
 |.vec l k g n=>by simp[bf]
 |.mp l k g=>by simp[bf]
 |.yld l k g=>by simp[bf]
 |.nil=>by simp
 |.vtl l k g i n=>by simp[bf]
 |.any=>by simp
decreasing_by all_goals first|(simp_wf;omega)|decreasing_tactic
def A0.ren(σ:Nat->Nat)(δ:Nat):A0->A0
 |.box cs=>.box (cs.map (V.ren σ δ))
 |.vec T es=>.vec T (es.map (cx (V.ren σ δ)))
 |.map es=>.map (es.map fun p=>(p.1.ren σ δ,p.2.ren σ δ))
 |.loop fr ps asg body N st=>.loop (fr.map fun p=>(p.1,p.2.1,p.2.2.ren σ δ)) ps asg body N st
 |.dead=>.dead
def AA.ren(σ:Nat->Nat)(δ:Nat)(L:AA):AA:=L.map fun p=>(p.1,σ p.2.1,p.2.2.ren σ δ)
def Fr.ren(σ:Nat->Nat)(δ:Nat)(fr:Fr):Fr:=fr.map fun p=>(p.1,p.2.1,p.2.2.ren σ δ)
def St.emb(σ:Nat->Nat)(pre:List AA)(s:St):St:=⟨pre++s.up.map (AA.ren σ pre.length),s.loc.ren σ pre.length⟩
theorem Fr.get_ren:∀(fr:Fr) (k:Nat),(fr.ren σ δ).get k=(fr.get k).map fun p=>(p.1,p.2.ren σ δ)
 |[],k=>rfl
 |(j,x)::fr,k=>by
  have:=Fr.get_ren fr k;simp only[Fr.ren,bm,Fr.get]at this|-;split
  ·rfl
  ·exact this
theorem AA.get_ren:∀(L:AA) (k:Nat),(L.ren σ δ).get k=(L.get k).map fun p=>(σ p.1,p.2.ren σ δ)
 |[],k=>rfl
 |(j,x)::L,k=>by
  have:=AA.get_ren L k;simp only[AA.ren,bm,AA.get]at this|-;split
  ·rfl
  ·exact this
variable {pre:List AA}{s:St}
theorem DK:(s.emb σ pre).up.length=s.up.length+pre.length:=by simp[St.emb,Nat.add_comm]
theorem CC(l k:Nat):(s.emb σ pre).get (l+pre.length) k=(s.get l k).map fun p=>(σ p.1,p.2.ren σ pre.length):=by
 unfold St.get;rw[DK];by_cases h:l=s.up.length
 ·rw[if_pos h,if_pos (by rw[h])];exact AA.get_ren _ _
 ·rw[if_neg h,if_neg (by omega)];simp only[St.emb];rw[List.getElem?_append_right (by omega),Nat.add_sub_cancel,bc];cases s.up[l]? with
  |none=>rfl
  |some L=>simp[AA.get_ren]
theorem cW{α:Type}(f:α->α)(M:List α)(l:Nat):∀(pre:List α),(pre++M).modify (l+pre.length) f=pre++M.modify l f
 |[]=>rfl
 |p::pre=>by have:=cW f M l pre;simp only[List.cons_append,List.length_cons,<-bf,List.modify_succ_cons,this]
theorem CU{l k g:Nat}{r:A0}:(s.put l k g r).emb σ pre=(s.emb σ pre).put (l+pre.length) k (σ g) (r.ren σ pre.length):=by
 unfold St.put;rw[DK];by_cases h:l=s.up.length
 ·rw[if_pos h,if_pos (by rw[h])];simp[St.emb,AA.ren,AA.put]
 ·rw[if_neg h,if_neg (by omega)];simp only[St.emb,St.mk.injEq,and_true];rw[cW];congr 1;refine List.ext_getElem? fun i=>?_;simp only[bc,List.getElem?_modify];by_cases hi:l=i
  ·subst hi;cases s.up[l]? with
   |none=>rfl
   |some L=>simp[AA.ren,AA.put]
  ·simp[hi]
theorem SB{u:Value}{v:V}(h:CR u=some v):v.ren σ δ=v:=by
 cases u with
 |int k n=>simp only[CR,bb.injEq]at h;subst h;simp
 |bool b=>simp only[CR,bb.injEq]at h;subst h;simp
 |agg cs=>simp[CR]at h
 |tuple cs=>simp[CR]at h
 |slice a n c=>
  unfold CR at h
  split at h<;>simp_all<;>subst h<;>simp
 |_=>simp only[CR,bb.injEq]at h;subst h;simp
theorem SD:∀{l:List Value} {cs:List V},GW l=some cs->cs.map (V.ren σ δ)=cs
 |[],cs,h=>by simp[GW]at h;subst h;rfl
 |v::r,cs,h=>by
  unfold GW at h;split at h
  ·rename_i x l h1 h2;cases h;simp[SB h1,SD h2]
  ·cases h
end Go.Pg
namespace Go.Pg
variable {P:Program}{σ:Nat->Nat}{δ:Nat}{pre:List AA}{s:St}{fr:Fr}{g:Bool}
theorem AHB(x:cd):rd (fr.ren σ δ) x=(rd fr x).map fun p=>(p.1,p.2.ren σ δ):=by
 cases x with
 |tmp t=>exact Fr.get_ren fr t
 |const u=>
  simp only[rd]
  cases h:CR u with
  |none=>rfl
  |some v=>simp[SB h]
 |func f=>simp[rd]
 |global g=>rfl
theorem DS(x:cd):D3 g (fr.ren σ δ) x=(D3 g fr x).map (V.ren σ δ):=by
 unfold D3;rw[AHB];cases rd fr x with
 |none=>rfl
 |some p=>
  obtain⟨c,v⟩:=p
  simp only[bq]
  split<;>rfl
theorem IV(v:V):BE (v.ren σ δ)=BE v:=by cases v<;>simp[BE]
theorem EZ(v:V):BD (v.ren σ δ)=(BD v).map (V.ren σ δ):=by cases v<;>simp[BD]
theorem ACB(v:V):weakC (v.ren σ δ)=(weakC v).ren σ δ:=by cases v<;>simp[weakC]
theorem WW(v:V):weakV (v.ren σ δ)=(weakV v).ren σ δ:=by cases v<;>simp[weakV,ACB]
theorem YG{p:V}{cs:List V}(h:BA s p=some cs):BA (s.emb σ pre) (p.ren σ pre.length)=some (cs.map (V.ren σ pre.length)):=by
 cases p with
 |ref ds=>simp only[BA,bb.injEq]at h;subst h;simp[BA]
 |ptr l k γ off=>
  simp only[BA]at h
  split at h
  ·rename_i γ' ds e;split at h
   ·rename_i eg;cases h;simp[BA,CC,e,A0.ren,eg,bx]
   ·cases h
  ·cases h
 |eptr l k γ i off=>
  simp only[BA]at h
  split at h
  ·rename_i γ' T es e;split at h
   ·rename_i eg;obtain⟨x,hx,rfl⟩:=bj.1 h;simp[BA,CC,e,A0.ren,eg,hx,bx]
   ·cases h
  ·cases h
 |_=>cases h
theorem iI{T:cz}{cs:List V}{v:V}(h:BM P T cs=some v):BM P T (cs.map (V.ren σ δ))=some (v.ren σ δ):=by
 unfold BM at h|-;split at h
 ·split at h
  ·rename_i hc;cases h;simp[hc,bz]
  ·cases h
 ·split at h
  ·rename_i hc;cases h;simp[hc,bz]
  ·cases h
 ·simp only[bc,h,bq]
 ·cases h
theorem iJ{U:cz}{cs:List V}{off:Nat}{v:V}(h:PA P U cs off=some v):PA P U (cs.map (V.ren σ δ)) off=some (v.ren σ δ):=by
 unfold PA at h|-;split at h
 ·split at h
  ·rename_i hc;cases h;simp[hc,bz,bx]
  ·cases h
 ·split at h
  ·rename_i hc;cases h;simp[hc,bz,bx]
  ·cases h
 ·simp only[bc,h,bq]
 ·cases h
theorem pR{T:cz}{x v:V}{f:Nat}(h:I1 P T x f=some v):I1 P T (x.ren σ δ) f=some (v.ren σ δ):=by
 unfold I1 at h;split at h
 ·rename_i cs U off e;simp[I1,e,iJ h]
 ·cases h
theorem YZ{T:cz}{x v:V}{f:Nat}(h:DE P T x f=some v):DE P T (x.ren σ δ) f=some (v.ren σ δ):=by
 unfold DE at h;split at h
 ·rename_i U off e;split at h
  ·cases h
  ·rename_i hz;split at h<;>first
    |(cases h;done)
    |(cases h;simp[DE,e,hz,bx])
 ·cases h
theorem FD(es:List (List V))(j:Nat):(es.map (cx (V.ren σ δ))).getD j []=(es.getD j []).map (V.ren σ δ):=by simp only[List.getD_eq_getElem?_getD,bc];cases es[j]?<;>rfl
theorem Y0{T:cz}{x i v:V}(h:BW P s T x i=some v):BW P (s.emb σ pre) T (x.ren σ pre.length) (i.ren σ pre.length)=some (v.ren σ pre.length):=by
 unfold BW at h;split at h
 ·rename_i e f es k j e1;split at h
  ·rename_i hc;cases h;obtain⟨c1,c2,c3,c4⟩:=hc;simp only[E5,EU,BW,e1,bg,FD,NN];rw[if_pos ⟨c1,c2,c3,c4⟩]
  ·cases h
 ·rename_i e l k γ n k' j e1;split at h
  ·rename_i γ' U es e2;split at h
   ·rename_i hc;cases h;obtain⟨c1,c2,c3,c4,c5,c6⟩:=hc;subst c1;simp only[HU,EU,BW,e1,CC,e2,bq,A0.ren,bg,FD,PM];rw[if_pos ⟨trivial,c2,c3,c4,c5,c6⟩]
   ·cases h
  ·cases h
 ·rename_i n e cs k j e1;split at h
  ·rename_i hc;cases h;simp only[NN,EU,BW,e1,if_pos hc,bx]
  ·cases h
 ·rename_i n e l k γ o k' j e1;split at h
  ·rename_i hc;cases h;simp only[HT,EU,BW,e1,if_pos hc]
  ·cases h
 ·rename_i n e l k γ i' o k' j e1;split at h
  ·rename_i hc;cases h;simp only[PM,EU,BW,e1,if_pos hc]
  ·cases h
 ·cases h
theorem pS{T:cz}{x i v:V}(h:NB P T x i=some v):NB P T (x.ren σ δ) (i.ren σ δ)=some (v.ren σ δ):=by
 unfold NB at h;split at h
 ·rename_i n e cs k j e1;split at h
  ·rename_i hc;simp only[HS,EU,NB,e1,if_pos hc,iJ h]
  ·cases h
 ·cases h
theorem uJ{S D:cz}{x v:V}(h:LO P S D x=some v):LO P S D (x.ren σ δ)=some (v.ren σ δ):=by
 unfold LO at h;split at h
 ·rename_i e1 e2;cases h;simp[LO,e1,e2]
 ·cases h
theorem AHC{op:UnOp}{x v:V}(h:kJ op x=some v):kJ op (x.ren σ δ)=some (v.ren σ δ):=by unfold kJ at h;split at h<;>first|(cases h;done)|(cases h;simp[kJ])
theorem ACC{x v:V}(h:PB x=some v):PB (x.ren σ δ)=some (v.ren σ δ):=by cases x<;>simp[PB]at h<;>subst h<;>simp[PB]
theorem fO{x v:V}{i:Nat}(h:F3 x i=some v):F3 (x.ren σ δ) i=some (v.ren σ δ):=by cases x<;>simp[F3]at h;simp[F3,h]
theorem ACD{T:cz}{x v:V}(h:ID P T x=some v):ID P T (x.ren σ δ)=some (v.ren σ δ):=by
 unfold ID at h;split at h
 ·rename_i e f es hu;cases h;simp[ID,hu]
 ·rename_i e l k g n hu;cases h;simp[ID,hu]
 ·rename_i e hu;cases h;simp[ID,hu]
 ·rename_i n e hu;cases h;unfold ID;rw[hu];simp
 ·cases h
theorem ANP{n m:Nat}{h:Option V}(e:hiN n h=some m):hiN n (h.map (V.ren σ δ))=some m:=by
 cases h with
 |none=>exact e
 |some a=>cases a<;>first|(simp only[bq,EU];exact e)|(simp[hiN]at e)
theorem pT{T:cz}{x v:V}{lo hi mx:Option V}(h:DB P s T x lo hi mx=some v):DB P (s.emb σ pre) T (x.ren σ pre.length) (lo.map (V.ren σ pre.length)) (hi.map (V.ren σ pre.length)) (mx.map (V.ren σ pre.length))=some (v.ren σ pre.length):=by
 unfold DB at h;split at h
 ·rename_i e f es k h' e1;split at h
  ·rename_i hc;cases h;simp only[E5,bq,EU,bh,DB,e1,bg,if_pos hc,bz]
  ·cases h
 ·rename_i e f es k l e1;split at h
  ·rename_i hc;cases h;have:(es.map (cx (V.ren σ pre.length))).all (fun x=>x.length==P.cellsOf e)=true:=by rw[cw];exact hc.2.2.2▸(by congr 1;funext x;simp)
   simp only[E5,bq,EU,bh,DB,e1,bg,if_pos (⟨hc.1,hc.2.1,hc.2.2.1,this⟩:_/\_/\_/\_),bx]
  ·cases h
 ·rename_i e f es k l k' h' e1;split at h
  ·rename_i hc;cases h;have:(es.map (cx (V.ren σ pre.length))).all (fun x=>x.length==P.cellsOf e)=true:=by rw[cw];exact hc.2.2.2.2▸(by congr 1;funext x;simp)
   simp only[E5,bq,EU,bh,DB,e1,bg,if_pos (⟨hc.1,hc.2.1,hc.2.2.1,hc.2.2.2.1,this⟩:_/\_/\_/\_/\_),bx,bz]
  ·cases h
 ·rename_i e f es k h' k' m e1;split at h
  ·rename_i hc;cases h;simp only[E5,bq,EU,bh,DB,e1,if_pos hc,List.map_nil]
  ·cases h
 ·rename_i e l k g n k' h' e1;split at h
  ·rename_i hc;cases h;simp only[HU,bq,EU,bh,DB,e1,if_pos hc]
  ·cases h
 ·rename_i e l k g n k' i e1;split at h
  ·rename_i g' T' es hget;split at h
   ·rename_i hc;obtain⟨rfl,h1,h2,h3,h4,h5⟩:=hc;cases h;have:(es.map (cx (V.ren σ pre.length))).all (fun x=>x.length==P.cellsOf e)=true:=by rw[cw];exact h1▸(by congr 1;funext x;simp)
    simp only[HU,ZD,bq,EU,bh,DB,e1,CC,hget,A0.ren];rw[if_pos ⟨trivial,this,by simpa using h2,h3,h4,h5⟩]
   ·cases h
  ·cases h
 ·rename_i n e l k g o e1;split at h
  ·rename_i g' cs m hget hm;split at h
   ·rename_i hc;obtain⟨rfl,h1,h2⟩:=hc;cases h;simp only[HT,ZD,bh,DB,e1,CC,hget,A0.ren,bq,ANP hm];rw[if_pos ⟨trivial,h1,by simpa using h2⟩]
   ·cases h
  ·cases h
 ·cases h
theorem ACE{x y v:V}(h:UQ x y=some v):UQ (x.ren σ δ) (y.ren σ δ)=some (v.ren σ δ):=by
 unfold UQ at h;split at h
 ·split at h
  ·rename_i hk;cases h;simp[UQ,hk]
  ·cases h
 ·cases h
theorem ACF{x y v:V}(h:UR x y=some v):UR (x.ren σ δ) (y.ren σ δ)=some (v.ren σ δ):=by
 unfold UR at h;split at h
 ·split at h
  ·rename_i hk;cases h;simp[UR,hk]
  ·cases h
 ·cases h
theorem ACG{op:BinOp}{k:IntKind}{a b:Int}{v:V}(h:GC op k a b=some v):v.ren σ δ=v:=by
 unfold GC at h;split at h<;>first
  |(cases h;simp;done)
  |(split at h<;>first|(cases h;done)|(cases h;simp;done))
  |(obtain⟨r,_,rfl⟩:=bj.1 h;simp)
theorem NP:∀(cs:List V),DV (cs.map (V.ren σ δ))=DV cs
 |[]=>rfl
 |c::cs=>by have ih:=NP cs;cases c<;>simp[DV,ih]
theorem AHD{op:BinOp}{k:IntKind}{a b:Int}{v:V}(h:fG op k a b=some v):v.ren σ δ=v:=by
 cases op<;>simp only[fG]at h;case shl=>split at h<;>cases h;simp
 case shr=>split at h<;>cases h;simp
 all_goals cases h
theorem ACH{op:BinOp}{T:cz}{x y v:V}(h:IC P op T x y=some v):IC P op T (x.ren σ δ) (y.ren σ δ)=some (v.ren σ δ):=by
 unfold IC at h;split at h
 ·split at h
  ·rename_i hk;simp only[EU,IC,if_pos hk,h,ACG h]
  ·rename_i hk;simp only[EU,IC,if_neg hk,h,AHD h]
 ·split at h
  ·rename_i hk;have hv:v.ren σ δ=v:=by split at h<;>first|(cases h;done)|(cases h;simp)
   rw[hv];simp only[MP,IC,if_pos hk];exact h
  ·cases h
 ·rename_i cs ds;have he:NA P T (cs.map (V.ren σ δ)) (ds.map (V.ren σ δ))=NA P T cs ds:=by unfold NA;rw[NP,NP]
  have hv:v.ren σ δ=v:=by
   split at h
   ·obtain⟨r,_,rfl⟩:=bj.1 h;simp
   ·obtain⟨r,_,rfl⟩:=bj.1 h;simp
   ·cases h
  rw[hv];simp only[HS,IC,he];exact h
 ·rename_i x' _;have hi:IP (x.ren σ δ)=IP x:=by
   cases x with
   |list f es=>cases es<;>simp[IP]
   |vec l k g n=>cases n<;>simp[IP]
   |vtl l k g i n=>cases n<;>simp[IP]
   |_=>simp[IP]
  have hb:∀y:V,IC P op T y .nil=if DH P T then(match op with
   |.eql=>(IP y).map V.bool
   |.neq=>(IP y).map fun b=>V.bool !b
   | _=>none) else none:=fun y=>by cases y <;> rfl
  have hv:v.ren σ δ=v:=by
   split at h
   ·split at h
    ·obtain⟨r,_,rfl⟩:=bj.1 h;simp
    ·obtain⟨r,_,rfl⟩:=bj.1 h;simp
    ·cases h
   ·cases h
  rw[hv,ANO,hb,hi];exact h
 ·cases h
theorem WX:∀{cs:List V} {l:List Value},DV cs=some l->cs.map (V.ren σ δ)=cs
 |[],_,_=>rfl
 |c::cs,l,h=>by
  cases c with
  |int k n=>
   simp only[DV]at h
   split at h
   ·rename_i r hr;simp[WX hr]
   ·cases h
  |bool b=>
   simp only[DV]at h
   split at h
   ·rename_i r hr;simp[WX hr]
   ·cases h
  |_=>simp[DV]at h
theorem cX{K:cz}(v:V):YT P K (v.ren σ δ)=YT P K v:=by
 cases v with
 |agg cs=>
  simp only[HS,YT,NP]
  split
  ·rename_i l hl;rw[WX hl]
  ·rfl
 |_=>simp[YT]
theorem WY{K:cz}{ks:List V}:∀(es:List (V×V)) (i:Nat),N8 P K ks (es.map fun p=>(p.1.ren σ δ,p.2.ren σ δ)) i=N8 P K ks es i
 |[],_=>rfl
 |(k,v)::es,i=>by simp only[bm,N8,cX,WY es]
theorem uK{T:cz}{z:V}(h:WL P T=some z):z.ren σ δ=z:=by
 unfold WL at h;split at h
 ·split at h
  ·rename_i cs hz;cases h;simp[SD hz]
  ·cases h
 ·exact SB h
 ·cases h
theorem kY{T:cz}{x k v:V}{ok:Bool}(h:DW P s T x k ok=some v):DW P (s.emb σ pre) T (x.ren σ pre.length) (k.ren σ pre.length) ok=some (v.ren σ pre.length):=by
 unfold DW at h;split at h
 ·rename_i K E l q g hm;split at h
  ·rename_i g' es hget;split at h
   ·rename_i hc;obtain⟨rfl,hT⟩:=hc;split at h
    ·rename_i ks hks;simp only[SA,DW,hm,CC,hget,bq,A0.ren,cX,hks,WY,if_pos (⟨trivial,hT⟩:True/\_)];split at h
     ·rename_i hf;obtain⟨z,hz,rfl⟩:=bj.1 h;simp only[hz,bq];cases ok<;>simp[uK hz]
     ·rename_i i hf;obtain⟨e,he,rfl⟩:=bj.1 h;simp only[bc,he,bq];cases ok<;>simp
     ·cases h
    ·cases h
   ·cases h
  ·cases h
 ·cases h
theorem WZ{T:cz}{x k v:V}{l q γ:Nat}{es:List (V×V)}(h:MM P s T x k v=some (l,q,γ,es)):MM P (s.emb σ pre) T (x.ren σ pre.length) (k.ren σ pre.length) (v.ren σ pre.length)=some (l+pre.length,q,σ γ,es.map fun p=>(p.1.ren σ pre.length,p.2.ren σ pre.length)):=by
 unfold MM at h;split at h
 ·rename_i K E l q g hm;split at h
  ·rename_i g' es hget;split at h
   ·rename_i hc;obtain⟨rfl,hT⟩:=hc;split at h
    ·rename_i ks hks;simp only[SA,MM,hm,CC,hget,bq,A0.ren,cX,hks,WY,if_pos (⟨trivial,hT⟩:True/\_)];split at h
     ·rename_i hf;cases h;simp
     ·rename_i i hf;cases h;simp[List.map_set]
     ·cases h
    ·cases h
   ·cases h
  ·cases h
 ·cases h
theorem JF{r:cd->Option V}:∀{l:List cd} {vs:List V},l.mapM r=some vs->l.mapM (fun x=>(r x).map (V.ren σ δ))=some (vs.map (V.ren σ δ))
 |[],vs,h=>by simp at h;subst h;rfl
 |x::l,vs,h=>by simp only[cj,bn,bk,cq,bb.injEq]at h;obtain⟨v,h1,us,h2,rfl⟩:=h;simp[h1,JF h2]
theorem ANQ{o:Oper}{r:cd->Option V}{v:V}(h:J2 P o s r=some v):J2 P o (s.emb σ pre) (fun x=>(r x).map (V.ren σ pre.length))=some (v.ren σ pre.length):=by
 unfold J2 at h|-;split at h<;>(try simp only[bk]at h);case h_1=>simp[h]
 case h_2=>simp[h]
 case h_3=>obtain⟨a,h1,h2⟩:=h;simp[h1,ACC h2]
 case h_4=>obtain⟨a,h1,b,h2,h3⟩:=h;simp[h1,YG h2,iI h3]
 case h_5=>obtain⟨a,h1,b,h2,h3⟩:=h;simp[h1,h2,ACH h3]
 case h_6=>obtain⟨a,h1,h2⟩:=h;simp[h1,AHC h2]
 case h_7=>obtain⟨a,h1,h2⟩:=h;simp[h1,uJ h2]
 case h_8=>obtain⟨a,h1,h2⟩:=h;simp[h1,YZ h2]
 case h_9=>obtain⟨a,h1,h2⟩:=h;simp[h1,pR h2]
 case h_10=>obtain⟨a,h1,b,h2,h3⟩:=h;simp[h1,h2,Y0 h3]
 case h_11=>obtain⟨a,h1,b,h2,h3⟩:=h;simp[h1,h2,pS h3]
 case h_12=>obtain⟨a,h1,h2⟩:=h;simp[h1,fO h2]
 case h_13=>
  split at h
  ·rename_i e1 e2;simp only[bk]at h;obtain⟨a,h1,h2⟩:=h;simp[h1,ACD h2]
  ·cases h
 case h_14=>
  split at h
  ·simp only[bk]at h;obtain⟨a,h1,b,h2,h3⟩:=h;simp[h1,h2,ACE h3]
  ·cases h
 case h_15=>
  split at h
  ·simp only[bk]at h;obtain⟨a,h1,b,h2,h3⟩:=h;simp[h1,h2,ACF h3]
  ·cases h
 case h_16 T x lo hi mx ho=>
  obtain⟨a,h1,l,h2,u,h3,m,h4,h5⟩:=h
  have key:∀(z:Option cd) (q:Option V),(match z with|none=>some none|some y=>(r y).map some)=some q->(z=none/\q=none)\/∃y b,z=some y/\r y=some b/\q=some b:=by
   intro z q hz;cases z with
   |none=>cases hz;exact .inl ⟨rfl,rfl⟩
   |some y=>
    obtain⟨b,hb,rfl⟩:=bj.1 hz
    exact .inr ⟨y,b,rfl,hb,rfl⟩
  have h6:=pT (σ:=σ) (pre:=pre) h5
  rcases key lo l h2 with⟨rfl,rfl⟩|⟨y1,b1,rfl,q1,rfl⟩<;>rcases key hi u h3 with⟨rfl,rfl⟩|⟨y2,b2,rfl,q2,rfl⟩<;>rcases key mx m h4 with⟨rfl,rfl⟩|⟨y3,b3,rfl,q3,rfl⟩<;>simp_all
 case h_17=>obtain⟨a,h1,b,h2,h3⟩:=h;simp[h1,h2,kY h3]
 case h_18 f first captured ho=>
  obtain⟨a,h1,b,h2,h3⟩:=h
  cases h3
  simp[JF h1,JF h2]
 case h_19=>cases h
end Go.Pg
namespace Go.Pg
variable {P:Program}{σ:Nat->Nat}{δ:Nat}{pre:List AA}{s:St}{fr:Fr}{g:Bool}
theorem G7{T:cz}{z:List V}(h:CA P T=some z):z.map (V.ren σ δ)=z:=by
 unfold CA at h;split at h
 ·exact SD h
 ·cases h
theorem DF{α β:Type}(f:α->β)(cs ds:List α)(off:Nat):A6 (cs.map f) off (ds.map f)=(A6 cs off ds).map f:=by simp[A6,bz,bx]
theorem QK{place:Nat->Option (Nat×Nat)}:∀{ps:List (Nat×V)} {cs ds:List V},C8 place cs ps=some ds->C8 place (cs.map (V.ren σ δ)) (ps.map fun p=>(p.1,p.2.ren σ δ))=some (ds.map (V.ren σ δ))
 |[],cs,ds,h=>by simp[C8]at h;subst h;rfl
 |(i,v)::r,cs,ds,h=>by
  simp only[C8]at h;split at h
  ·cases h
  ·rename_i off size e;split at h
   ·rename_i hc;have:=QK h;simp only[bm,C8,e,EZ,bg];rw[if_pos hc,DF];exact this
   ·cases h
theorem NQ(ps:List (Nat×V)):((ps.map fun p=>(p.1,p.2.ren σ δ)).all fun p=>BE p.2)=ps.all fun p=>BE p.2:=by rw[cw];congr 1;funext p;exact IV p.2
theorem pU{T:cz}{ps:List (Nat×V)}{v:V}(h:CS P T ps=some v):CS P T (ps.map fun p=>(p.1,p.2.ren σ δ))=some (v.ren σ δ):=by
 unfold CS at h|-;split at h
 ·rename_i z fs e1 e2;simp only[NQ];split at h
  ·rename_i hc;obtain⟨cs,h1,rfl⟩:=bj.1 h;have:=QK (σ:=σ) (δ:=δ) h1;rw[G7 e1]at this;rw[if_pos hc,this];simp
  ·cases h
 ·rename_i z n e e1 e2;simp only[NQ];split at h
  ·rename_i hc;obtain⟨cs,h1,rfl⟩:=bj.1 h;have:=QK (σ:=σ) (δ:=δ) h1;rw[G7 e1]at this;rw[if_pos hc,this];simp
  ·cases h
 ·cases h
theorem cY{β:Type}(f:V->V)(size:Nat):∀(n:Nat) (cs:List V),CT size (cs.map f) n=(CT size cs n).map (cx f)
 |0,_=>rfl
 |n+1,cs=>by simp only[CT,bm,bz];rw[<-bx,cY (β:=β) f size n]
theorem W0{T:cz}{len:Nat}{ps:List (Nat×V)}{v:V}(h:CE P T len ps=some v):CE P T len (ps.map fun p=>(p.1,p.2.ren σ δ))=some (v.ren σ δ):=by
 unfold CE at h|-;split at h
 ·rename_i e e1;split at h
  ·rename_i z e2;split at h
   ·rename_i hc;obtain⟨cs,h1,rfl⟩:=bj.1 h;have:=QK (σ:=σ) (δ:=δ) h1;have hz:(List.replicate len z).flatten.map (V.ren σ δ)=(List.replicate len z).flatten:=by rw[List.map_flatten,List.map_replicate,G7 e2]
    rw[hz]at this;simp only[NQ];rw[if_pos hc,this];simp[cY (β:=Nat)]
   ·cases h
  ·cases h
 ·cases h
theorem SE{r:cd->Option V}:∀{l:List (Nat×cd)} {ps:List (Nat×V)},DI r l=some ps->DI (fun x=>(r x).map (V.ren σ δ)) l=some (ps.map fun p=>(p.1,p.2.ren σ δ))
 |[],ps,h=>by simp[DI]at h;subst h;rfl
 |(i,x)::l,ps,h=>by
  simp only[DI]at h;split at h
  ·rename_i v us h1 h2;cases h;simp[DI,h1,SE h2]
  ·cases h
theorem G8{v:V}{es:List (List V)}(h:elemsOf s v=some es):elemsOf (s.emb σ pre) (v.ren σ pre.length)=some (es.map (cx (V.ren σ pre.length))):=by
 cases v with
 |list f ds=>simp only[elemsOf,bb.injEq]at h;subst h;simp[elemsOf]
 |vec l k γ n=>
  simp only[elemsOf]at h
  split at h
  ·rename_i γ' T ds e;split at h
   ·rename_i hc;cases h;simp[elemsOf,CC,e,A0.ren,hc.1,hc.2,bz]
   ·cases h
  ·cases h
 |vtl l k γ i n=>
  simp only[elemsOf]at h
  split at h
  ·rename_i γ' cs e;split at h
   ·rename_i hc;cases h;simp[elemsOf,CC,e,A0.ren,hc.1,hc.2,bz,bx,Function.comp_def]
   ·cases h
  ·cases h
 |nil=>simp only[elemsOf,bb.injEq]at h;subst h;simp[elemsOf]
 |raw v=>cases v with
  |slice a n c=>cases n with
   |zero=>cases h;simp[elemsOf]
   |succ n=>cases h
  |_=>cases h
 |_=>cases h
theorem J4:D3 g (fr.ren σ δ)=fun x=>(D3 g fr x).map (V.ren σ δ):=by funext x;exact DS x
theorem JG{o:Oper}{v:V}(h:FT P g o fr s=some v):FT P g o (fr.ren σ pre.length) (s.emb σ pre)=some (v.ren σ pre.length):=by
 unfold FT at h|-;split at h
 ·rename_i c x y ho;split at h
  ·rename_i c' ca va cb vb e1 e2 e3;split at h
   ·rename_i hc;cases h;simp only[DS,AHB,e1,e2,e3,bq,MP];rw[if_pos hc]
   ·cases h
  ·cases h
 ·rename_i T parts ho;obtain⟨ps,h1,h2⟩:=bk.1 h;rw[J4,SE h1];exact pU h2
 ·rename_i T len parts ho;obtain⟨ps,h1,h2⟩:=bk.1 h;rw[J4,SE h1];exact W0 h2
 ·rw[J4];exact ANQ h
def A5(s:St):Nat->V->Option V
 |0,_=>none
 |f+1,v=>match v with
  |.list _ es=>some (.list false es)
  | .vec l k g m=>if l=s.up.length then(match s.loc.get k with
    |some (g',.vec _ es)=>if g'=g/\m<=es.length then some (.list false (es.take m)) else none
    | _=>none) else some v
  | .ptr l k g off=>if l=s.up.length then(match s.loc.get k with
    |some (g',.box cs)=>if g'=g then(cs.mapM (A5 s f)).map fun ds=>.ref (ds.drop off) else none
    | _=>none) else some v
  |.agg cs=>(cs.mapM (A5 s f)).map .agg
  |.tup cs=>(cs.mapM (A5 s f)).map .tup
  |.fn g xs ys=>match xs.mapM (A5 s f),ys.mapM (A5 s f)with
   |some a,some b=>some (.fn g a b)
   |_,_=>none
  |v=>some v
theorem G9{α β:Type}{f:α->Option β}{g:α->β}(h:∀x y,f x=some y->g x=y):∀{l:List α} {r:List β},l.mapM f=some r->l.map g=r
 |[],r,e=>by simp at e;subst e;rfl
 |x::l,r,e=>by simp only[cj,bn,bk,cq,bb.injEq]at e;obtain⟨y,h1,ys,h2,rfl⟩:=e;simp[h x y h1,G9 h h2]
theorem PO:∀(f:Nat) {v r:V},A5 s f v=some r->DO s f v=r
 |0,v,r,h=>by cases h
 |f+1,v,r,h=>by
  have ih:=fun v r=>PO f (v:=v) (r:=r);cases v with
  |list b es=>simpa [A5,DO]using h
  |vec l k g m=>
   simp only[A5]at h
   simp only[DO]
   split at h
   ·rename_i hl;rw[if_pos hl];split at h
    ·rename_i g' T es e;split at h
     ·rename_i hc;rw[e];simp only[if_pos hc];exact bb.inj h
     ·cases h
    ·cases h
   ·rename_i hl;rw[if_neg hl];exact bb.inj h
  |ptr l k g off=>
   simp only[A5]at h
   simp only[DO]
   split at h
   ·rename_i hl;rw[if_pos hl];split at h
    ·rename_i g' cs e;split at h
     ·rename_i hc;obtain⟨ds,h1,rfl⟩:=bj.1 h;rw[e];simp only[if_pos hc,G9 ih h1]
     ·cases h
    ·cases h
   ·rename_i hl;rw[if_neg hl];exact bb.inj h
  |agg cs=>
   obtain⟨ds,h1,rfl⟩:=bj.1 h
   simp only[DO,G9 ih h1]
  |tup cs=>
   obtain⟨ds,h1,rfl⟩:=bj.1 h
   simp only[DO,G9 ih h1]
  |fn g xs ys=>
   simp only[A5]at h
   split at h
   ·rename_i a b h1 h2;cases h;simp only[DO,G9 ih h1,G9 ih h2]
   ·cases h
  |_=>simpa [A5,DO]using h
theorem F6{f f':V->Option V}(h:∀v r,f v=some r->f' (v.ren σ δ)=some (r.ren σ δ)):∀{l r:List V},l.mapM f=some r->(l.map (V.ren σ δ)).mapM f'=some (r.map (V.ren σ δ))
 |[],r,e=>by simp at e;subst e;rfl
 |x::l,r,e=>by simp only[cj,bn,bk,cq,bb.injEq]at e;obtain⟨y,h1,ys,h2,rfl⟩:=e;simp[h x y h1,F6 h h2]
theorem K8(k:Nat):(s.emb σ pre).loc.get k=(s.loc.get k).map fun p=>(σ p.1,p.2.ren σ pre.length):=AA.get_ren _ _
theorem KM:∀(f:Nat) {v r:V},A5 s f v=some r->A5 (s.emb σ pre) f (v.ren σ pre.length)=some (r.ren σ pre.length)
 |0,v,r,h=>by cases h
 |f+1,v,r,h=>by
  have ih:=fun v r=>KM f (v:=v) (r:=r);cases v with
  |list b es=>simp only[A5,bb.injEq]at h;subst h;simp[A5]
  |vec l k g m=>
   simp only[A5]at h
   split at h
   ·rename_i hl;split at h
    ·rename_i g' T es e;split at h
     ·rename_i hc;cases h;simp[A5,DK,K8,hl,e,A0.ren,hc.1,hc.2,bz]
     ·cases h
    ·cases h
   ·rename_i hl;cases h;have:¬l+pre.length=s.up.length+pre.length:=by omega
    simp[A5,DK,hl]
  |ptr l k g off=>
   simp only[A5]at h
   split at h
   ·rename_i hl;split at h
    ·rename_i g' cs e;split at h
     ·rename_i hc;obtain⟨ds,h1,rfl⟩:=bj.1 h;have:=F6 ih h1;simp[A5,DK,K8,hl,e,A0.ren,hc,this,bx]
     ·cases h
    ·cases h
   ·rename_i hl;cases h;simp[A5,DK,hl]
  |agg cs=>
   obtain⟨ds,h1,rfl⟩:=bj.1 h
   simp[A5,F6 ih h1]
  |tup cs=>
   obtain⟨ds,h1,rfl⟩:=bj.1 h
   simp[A5,F6 ih h1]
  |fn g xs ys=>
   simp only[A5]at h
   split at h
   ·rename_i a b h1 h2;cases h;simp[A5,F6 ih h1,F6 ih h2]
   ·cases h
  |_=>simp only[A5,bb.injEq]at h;subst h;simp[A5]
def CB(s:St)(v:V):Option V:=match v with
 |.list f es=>some (.list f es)
 |.int k n=>some (.int k n)
 |.bool b=>some (.bool b)
 |v=>A5 s 4 v
theorem J5{v r:V}(h:CB s v=some r):FS s v=r:=by
 unfold CB at h;unfold FS;split at h
 ·simpa using h
 ·simpa [DO]using h
 ·simpa [DO]using h
 ·rename_i h1 h2 h3;split
  ·rename_i f es;exact absurd rfl (h1 f es)
  ·exact PO 4 h
theorem YH{v:V}(h1:∀f es,v≠.list f es)(h2:∀k n,v≠.int k n)(h3:∀b,v≠.bool b):CB s v=A5 s 4 v:=by
 unfold CB;split
 ·rename_i f es;exact absurd rfl (h1 f es)
 ·rename_i k n;exact absurd rfl (h2 k n)
 ·rename_i b;exact absurd rfl (h3 b)
 ·rfl
theorem K9{v r:V}(h:CB s v=some r):CB (s.emb σ pre) (v.ren σ pre.length)=some (r.ren σ pre.length):=by
 by_cases h1:∃f es,v=.list f es
 ·obtain⟨f,es,rfl⟩:=h1;simp only[CB,bb.injEq]at h;subst h;simp[CB]
 by_cases h2:∃k n,v=.int k n
 ·obtain⟨k,n,rfl⟩:=h2;simp only[CB,bb.injEq]at h;subst h;simp[CB]
 by_cases h3:∃b,v=.bool b
 ·obtain⟨b,rfl⟩:=h3;simp only[CB,bb.injEq]at h;subst h;simp[CB]
 rw[YH (fun f es e=>h1 ⟨f,es,e⟩) (fun k n e=>h2 ⟨k,n,e⟩) (fun b e=>h3 ⟨b,e⟩)]at h;rw[YH (fun f es e=>by cases v<;>simp at e;exact h1 ⟨_,_,rfl⟩) (fun k n e=>by cases v<;>simp at e;exact h2 ⟨_,_,rfl⟩) (fun b e=>by cases v<;>simp at e;exact h3 ⟨_,rfl⟩)];exact KM 4 h
def HA{α β:Type}(f:α->Option β):List α->Option (List β)
 |[]=>some []
 |x::l=>match f x with
  |some y=>match HA f l with
   |some r=>some (y::r)
   |none=>none
  |none=>none
theorem MQ{α β:Type}{f:α->Option β}{g:α->β}(h:∀x y,f x=some y->g x=y):∀{l:List α} {r:List β},HA f l=some r->l.map g=r
 |[],r,e=>by cases e;rfl
 |x::l,r,e=>by
  simp only[HA]at e;split at e
  ·rename_i y hy;split at e
   ·rename_i q hq;cases e;simp[h _ _ hy,MQ h hq]
   ·cases e
  ·cases e
theorem MR{α β:Type}{f f':α->Option β}{a:α->α}{b:β->β}(h:∀x y,f x=some y->f' (a x)=some (b y)):∀{l:List α} {r:List β},HA f l=some r->HA f' (l.map a)=some (r.map b)
 |[],r,e=>by cases e;rfl
 |x::l,r,e=>by
  simp only[HA]at e;split at e
  ·rename_i y hy;split at e
   ·rename_i q hq;cases e;simp[HA,h _ _ hy,MR h hq]
   ·cases e
  ·cases e
def CD(s:St)(r:A0):Option A0:=match r with
 |.box cs=>match HA (CB s) cs with
  |some ds=>some (.box ds)
  |none=>none
 |.vec T es=>match HA (HA (CB s)) es with
  |some ds=>some (.vec T ds)
  |none=>none
 | .map es=>match HA (fun e:V×V=>match CB s e.1,CB s e.2 with
   |some a,some b=>some (a,b)
   | _,_=>none) es with
  |some ds=>some (.map ds)
  |none=>none
 |r=>some r
def CV(s:St)(r:A0):A0:=match CD s r with
 |some r'=>r'
 |none=>r
theorem cZ{r r':A0}(h:CD s r=some r'):r'=r\/r'=HN s r:=by
 unfold CD at h;split at h
 ·split at h
  ·rename_i ds hd;cases h;exact .inr (by simp only[HN,MQ (fun x y=>J5) hd])
  ·cases h
 ·split at h
  ·rename_i ds hd;cases h;exact .inr (by simp only[HN,MQ (fun x y=>MQ (fun x y=>J5)) hd])
  ·cases h
 ·split at h
  ·rename_i ds hd;cases h;refine .inr ?_;simp only[HN];rw[MQ (g:=fun e=>(FS s e.1,FS s e.2)) (fun x y h=>?_) hd];split at h
   ·rename_i a b h1 h2;cases h;rw[J5 h1,J5 h2]
   ·cases h
  ·cases h
 ·cases h;exact .inl rfl
theorem LR{r r':A0}(h:CD s r=some r'):CD (s.emb σ pre) (r.ren σ pre.length)=some (r'.ren σ pre.length):=by
 cases r with
 |box cs=>
  simp only[CD]at h
  split at h
  ·rename_i ds hd;cases h;simp[CD,A0.ren,MR (fun x y=>K9 (σ:=σ) (pre:=pre)) hd]
  ·cases h
 |vec T es=>
  simp only[CD]at h
  split at h
  ·rename_i ds hd;cases h;simp[CD,A0.ren,MR (fun x y=>MR (fun x y=>K9 (σ:=σ) (pre:=pre))) hd]
  ·cases h
 |map es=>
  simp only[CD]at h
  split at h
  ·rename_i ds hd;cases h;have:=MR (f':=fun e:V×V=>match CB (s.emb σ pre) e.1,CB (s.emb σ pre) e.2 with
    |some a,some b=>some (a,b)
    | _,_=>none) (a:=fun p:V×V=>(p.1.ren σ pre.length,p.2.ren σ pre.length)) (b:=fun p:V×V=>(p.1.ren σ pre.length,p.2.ren σ pre.length)) (fun x y h=>by
     split at h
     ·rename_i a b h1 h2;cases h;simp[K9 h1,K9 h2]
     ·cases h) hd
   simp[CD,A0.ren,this]
  ·cases h
 |loop fr ps asg body N st=>simp only[CD,bb.injEq]at h;subst h;rfl
 |dead=>simp only[CD,bb.injEq]at h;subst h;rfl
theorem pV(r:A0):(CV s r).ren σ pre.length=r.ren σ pre.length\/(CV s r).ren σ pre.length=HN (s.emb σ pre) (r.ren σ pre.length):=by
 unfold CV;split
 ·rename_i r' h;rcases cZ (LR (σ:=σ) (pre:=pre) h)with h'|h'
  ·exact .inl h'
  ·exact .inr h'
 ·exact .inl rfl
def AJ(s:St)(L:AA):AA:=L.map fun p=>(p.1,p.2.1,CV s p.2.2)
theorem NR(s:St):∀(L:AA) (k:Nat),(AJ s L).get k=(L.get k).map fun p=>(p.1,CV s p.2)
 |[],k=>rfl
 |(j,x)::L,k=>by
  have:=NR s L k;simp only[AJ,bm,AA.get]at this|-;split
  ·rfl
  ·exact this
theorem uL{rv:ResultVar}{v:V}(h:DX P fr s rv=some v):DX P (fr.ren σ pre.length) (s.emb σ pre) rv=some (v.ren σ pre.length):=by
 cases rv with
 |tmp t=>
  simp only[DX]at h|-
  split at h
  ·rename_i e;cases h;simp[Fr.get_ren,e]
  ·cases h
 |cell ad T=>
  simp only[DX]at h|-
  split at h
  ·rename_i p e;obtain⟨cs,h1,h2⟩:=bk.1 h;simp[Fr.get_ren,e,YG h1,iI h2]
  ·cases h
theorem PQ{rs:List ResultVar}{v:V}(h:GL P rs fr s=some v):GL P rs (fr.ren σ pre.length) (s.emb σ pre)=some (v.ren σ pre.length):=by
 have key:∀{rs:List ResultVar} {vs:List V},rs.mapM (DX P fr s)=some vs->rs.mapM (DX P (fr.ren σ pre.length) (s.emb σ pre))=some (vs.map (V.ren σ pre.length)):=by
  intro rs;induction rs with
  |nil=>intro vs e;simp at e;subst e;rfl
  |cons x l ih=>
   intro vs e
   simp only[cj,bn,bk,cq,bb.injEq]at e
   obtain⟨y,h1,ys,h2,rfl⟩:=e
   simp[uL h1,ih h2]
 unfold GL at h|-;split at h
 ·rename_i x e;cases h;rw[key e];rfl
 ·rename_i vs hne e;cases h;rw[key e];cases vs with
  |nil=>simp
  |cons a r=>
   cases r with
   |nil=>exact absurd rfl (hne a)
   |cons b r=>simp
 ·cases h
theorem QL:∀(i:Nat) (vs:List V),AF i (vs.map (V.ren σ δ))=(AF i vs).ren σ δ
 |_,[]=>rfl
 |i,v::vs=>by simp[AF,Fr.ren,QL (i+1) vs]
end Go.Pg
