/- Names and levels turned into others: what the operations give turns with them. No program in sight. -/
import Derived.Test.YthhdhbalenanjaaGreatP4
noncomputable section
open Go renaming TypeId->cx,Operand->cz
open Option renaming map_eq_some_iff->bj,bind_eq_some_iff->bk,map_some->bq,some->bb,map_none->bh,bind_eq_bind->bn,pure_def->ck
open List renaming map_congr_left->bw,map_drop->bx,map_take->bz,getElem?_map->bc,length_map->bg,map_cons->bm,map_map->bp,mapM_cons->bt,sizeOf_lt_of_mem->cj,all_map->cq,map->cw
open Nat renaming add_assoc->bf
namespace Go.Pg
variable {P:Program}
variable {σ σ':Nat->Nat}{δ:Nat}
theorem PR:∀(l:List V),eU σ δ l=l.map (V.ren σ δ)
 |[]=>by simp[eU]
 |v::r=>by simp[eU,PR r]
theorem oL:∀(l:List (List V)),nZ σ δ l=l.map (cw (V.ren σ δ))
 |[]=>by simp[nZ]
 |v::r=>by simp[nZ,PR,oL r]
@[simp] theorem EI(k:IntKind)(n:Int):(V.int k n).ren σ δ=.int k n:=by simp[V.ren]
@[simp] theorem L8(b:Bool):(V.bool b).ren σ δ=.bool b:=by simp[V.ren]
@[simp] theorem BAU(v:Value):(V.raw v).ren σ δ=.raw v:=by simp[V.ren]
@[simp] theorem HH(cs:List V):(V.agg cs).ren σ δ=.agg (cs.map (V.ren σ δ)):=by simp[V.ren,PR]
@[simp] theorem KZ(cs:List V):(V.tup cs).ren σ δ=.tup (cs.map (V.ren σ δ)):=by simp[V.ren,PR]
@[simp] theorem EW(f:Bool)(es:List (List V)):(V.list f es).ren σ δ=.list f (es.map (cw (V.ren σ δ))):=by simp[V.ren,oL]
@[simp] theorem M2(cs:List V):(V.ref cs).ren σ δ=.ref (cs.map (V.ren σ δ)):=by simp[V.ren,PR]
@[simp] theorem HI(l k g off:Nat):(V.ptr l k g off).ren σ δ=.ptr (l+δ) k (σ g) off:=by simp[V.ren]
@[simp] theorem OW(l k g i off:Nat):(V.eptr l k g i off).ren σ δ=.eptr (l+δ) k (σ g) i off:=by simp[V.ren]
@[simp] theorem HJ(l k g n:Nat):(V.vec l k g n).ren σ δ=.vec (l+δ) k (σ g) n:=by simp[V.ren]
@[simp] theorem Q9(l k g:Nat):(V.mp l k g).ren σ δ=.mp (l+δ) k (σ g):=by simp[V.ren]
@[simp] theorem OX(f:FuncId)(xs ys:List V):(V.fn f xs ys).ren σ δ=.fn f (xs.map (V.ren σ δ)) (ys.map (V.ren σ δ)):=by simp[V.ren,PR]
@[simp] theorem jT(l k g:Nat):(V.yld l k g).ren σ δ=.yld (l+δ) k (σ g):=by simp[V.ren]
@[simp] theorem AMI:V.nil.ren σ δ=.nil:=by simp[V.ren]
@[simp] theorem BAV:V.any.ren σ δ=.any:=by simp[V.ren]
@[simp] theorem YT(l k g i n:Nat):(V.vtl l k g i n).ren σ δ=.vtl (l+δ) k (σ g) i n:=by simp[V.ren]
theorem M3{σ':Nat->Nat}{δ':Nat}:∀(v:V),(v.ren σ δ).ren σ' δ'=v.ren (fun γ=>σ' (σ γ)) (δ+δ')
 |.agg cs=>by simp only[HH,bp];congr 1;exact bw fun v _=>M3 v
 |.tup cs=>by simp only[KZ,bp];congr 1;exact bw fun v _=>M3 v
 |.ref cs=>by simp only[M2,bp];congr 1;exact bw fun v _=>M3 v
 |.list b es=>by
  simp only[EW,bp];congr 1;refine bw fun e he=>?_;have hlt:=cj he;simp only[Function.comp,bp];exact bw fun v hv=>by have hlt2:=cj hv;exact M3 v
 |.fn f xs ys=>by
  simp only[OX,bp];congr 1
  ·exact bw fun v _=>M3 v
  ·exact bw fun v _=>M3 v
 |.int k n=>by simp
 |.bool b=>by simp
 |.raw v=>by simp
 |.ptr l k g off=>by simp[bf]
 |.eptr l k g i off=>by simp[bf]
 |.vec l k g n=>by simp[bf]
 |.mp l k g=>by simp[bf]
 |.yld l k g=>by simp[bf]
 |.nil=>by simp
 |.vtl l k g i n=>by simp[bf]
 |.any=>by simp
decreasing_by all_goals first|(simp_wf;omega)|decreasing_tactic
def AX.ren(σ:Nat->Nat)(δ:Nat):AX->AX
 |.box cs=>.box (cs.map (V.ren σ δ))
 |.vec T es=>.vec T (es.map (cw (V.ren σ δ)))
 |.map es=>.map (es.map fun p=>(p.1.ren σ δ,p.2.ren σ δ))
 |.loop fr ps asg body N st=>.loop (fr.map fun p=>(p.1,p.2.1,p.2.2.ren σ δ)) ps asg body N st
 |.dead=>.dead
def AA.ren(σ:Nat->Nat)(δ:Nat)(L:AA):AA:=L.map fun p=>(p.1,σ p.2.1,p.2.2.ren σ δ)
def Fr.ren(σ:Nat->Nat)(δ:Nat)(fr:Fr):Fr:=fr.map fun p=>(p.1,p.2.1,p.2.2.ren σ δ)
def St.emb(σ:Nat->Nat)(pre:List AA)(s:St):St:=⟨pre++s.up.map (AA.ren σ pre.length),s.loc.ren σ pre.length⟩
theorem Fr.get_ren:∀(fr:Fr) (k:Nat),(fr.ren σ δ).get k=(fr.get k).map fun p=>(p.1,p.2.ren σ δ)
 |[],k=>rfl
 |(j,x)::fr,k=>by
  have:=Fr.get_ren fr k;simp only[Fr.ren,bm,Fr.get]at this|-;split
  ·rfl
  ·exact this
theorem AA.get_ren:∀(L:AA) (k:Nat),(L.ren σ δ).get k=(L.get k).map fun p=>(σ p.1,p.2.ren σ δ)
 |[],k=>rfl
 |(j,x)::L,k=>by
  have:=AA.get_ren L k;simp only[AA.ren,bm,AA.get]at this|-;split
  ·rfl
  ·exact this
variable {pre:List AA}{s:St}
theorem DA:(s.emb σ pre).up.length=s.up.length+pre.length:=by simp[St.emb,Nat.add_comm]
theorem B9(l k:Nat):(s.emb σ pre).get (l+pre.length) k=(s.get l k).map fun p=>(σ p.1,p.2.ren σ pre.length):=by
 unfold St.get;rw[DA];by_cases h:l=s.up.length
 ·rw[if_pos h,if_pos (by rw[h])];exact AA.get_ren _ _
 ·rw[if_neg h,if_neg (by omega)];simp only[St.emb];rw[List.getElem?_append_right (by omega),Nat.add_sub_cancel,bc];cases s.up[l]? with
  |none=>rfl
  |some L=>simp[AA.get_ren]
theorem cA{α:Type}(f:α->α)(M:List α)(l:Nat):∀(pre:List α),(pre++M).modify (l+pre.length) f=pre++M.modify l f
 |[]=>rfl
 |p::pre=>by have:=cA f M l pre;simp only[List.cons_append,List.length_cons,<-bf,List.modify_succ_cons,this]
theorem CN{l k g:Nat}{r:AX}:(s.put l k g r).emb σ pre=(s.emb σ pre).put (l+pre.length) k (σ g) (r.ren σ pre.length):=by
 unfold St.put;rw[DA];by_cases h:l=s.up.length
 ·rw[if_pos h,if_pos (by rw[h])];simp[St.emb,AA.ren,AA.put]
 ·rw[if_neg h,if_neg (by omega)];simp only[St.emb,St.mk.injEq,and_true];rw[cA];congr 1;refine List.ext_getElem? fun i=>?_;simp only[bc,List.getElem?_modify];by_cases hi:l=i
  ·subst hi;cases s.up[l]? with
   |none=>rfl
   |some L=>simp[AA.ren,AA.put]
  ·simp[hi]
theorem RA{u:Value}{v:V}(h:CL u=some v):v.ren σ δ=v:=by
 cases u with
 |int k n=>simp only[CL,bb.injEq]at h;subst h;simp
 |bool b=>simp only[CL,bb.injEq]at h;subst h;simp
 |agg cs=>simp[CL]at h
 |tuple cs=>simp[CL]at h
 |slice a n c=>
  unfold CL at h
  split at h<;>simp_all<;>subst h<;>simp
 |_=>simp only[CL,bb.injEq]at h;subst h;simp
theorem RB:∀{l:List Value} {cs:List V},GM l=some cs->cs.map (V.ren σ δ)=cs
 |[],cs,h=>by simp[GM]at h;subst h;rfl
 |v::r,cs,h=>by
  unfold GM at h;split at h
  ·rename_i x l h1 h2;cases h;simp[RA h1,RB h2]
  ·cases h
end Go.Pg
namespace Go.Pg
variable {P:Program}{σ:Nat->Nat}{δ:Nat}{pre:List AA}{s:St}{fr:Fr}{g:Bool}
theorem AGA(x:cz):rd (fr.ren σ δ) x=(rd fr x).map fun p=>(p.1,p.2.ren σ δ):=by
 cases x with
 |tmp t=>exact Fr.get_ren fr t
 |const u=>
  simp only[rd]
  cases h:CL u with
  |none=>rfl
  |some v=>simp[RA h]
 |func f=>simp[rd]
 |global g=>rfl
theorem DK(x:cz):DW g (fr.ren σ δ) x=(DW g fr x).map (V.ren σ δ):=by
 unfold DW;rw[AGA];cases rd fr x with
 |none=>rfl
 |some p=>
  obtain⟨c,v⟩:=p
  simp only[bq]
  split<;>rfl
theorem IE(v:V):BA (v.ren σ δ)=BA v:=by cases v<;>simp[BA]
theorem EM(v:V):A9 (v.ren σ δ)=(A9 v).map (V.ren σ δ):=by cases v<;>simp[A9]
theorem AA4(v:V):weakC (v.ren σ δ)=(weakC v).ren σ δ:=by cases v<;>simp[weakC]
theorem V0(v:V):weakV (v.ren σ δ)=(weakV v).ren σ δ:=by cases v<;>simp[weakV,AA4]
theorem XM{p:V}{cs:List V}(h:A6 s p=some cs):A6 (s.emb σ pre) (p.ren σ pre.length)=some (cs.map (V.ren σ pre.length)):=by
 cases p with
 |ref ds=>simp only[A6,bb.injEq]at h;subst h;simp[A6]
 |ptr l k γ off=>
  simp only[A6]at h
  split at h
  ·rename_i γ' ds e;split at h
   ·rename_i eg;cases h;simp[A6,B9,e,AX.ren,eg,bx]
   ·cases h
  ·cases h
 |eptr l k γ i off=>
  simp only[A6]at h
  split at h
  ·rename_i γ' T es e;split at h
   ·rename_i eg;obtain⟨x,hx,rfl⟩:=bj.1 h;simp[A6,B9,e,AX.ren,eg,hx,bx]
   ·cases h
  ·cases h
 |_=>cases h
theorem gM{T:cx}{cs:List V}{v:V}(h:BH P T cs=some v):BH P T (cs.map (V.ren σ δ))=some (v.ren σ δ):=by
 unfold BH at h|-;split at h
 ·split at h
  ·rename_i hc;cases h;simp[hc,bz]
  ·cases h
 ·split at h
  ·rename_i hc;cases h;simp[hc,bz]
  ·cases h
 ·simp only[bc,h,bq]
 ·cases h
theorem gN{U:cx}{cs:List V}{off:Nat}{v:V}(h:OL P U cs off=some v):OL P U (cs.map (V.ren σ δ)) off=some (v.ren σ δ):=by
 unfold OL at h|-;split at h
 ·split at h
  ·rename_i hc;cases h;simp[hc,bz,bx]
  ·cases h
 ·split at h
  ·rename_i hc;cases h;simp[hc,bz,bx]
  ·cases h
 ·simp only[bc,h,bq]
 ·cases h
theorem oM{T:cx}{x v:V}{f:Nat}(h:IM P T x f=some v):IM P T (x.ren σ δ) f=some (v.ren σ δ):=by
 unfold IM at h;split at h
 ·rename_i cs U off e;simp[IM,e,gN h]
 ·cases h
theorem YD{T:cx}{x v:V}{f:Nat}(h:C6 P T x f=some v):C6 P T (x.ren σ δ) f=some (v.ren σ δ):=by
 unfold C6 at h;split at h
 ·rename_i U off e;split at h
  ·cases h
  ·rename_i hz;split at h<;>first
    |(cases h;done)
    |(cases h;simp[C6,e,hz,bx])
 ·cases h
theorem E7(es:List (List V))(j:Nat):(es.map (cw (V.ren σ δ))).getD j []=(es.getD j []).map (V.ren σ δ):=by simp only[List.getD_eq_getElem?_getD,bc];cases es[j]?<;>rfl
theorem YE{T:cx}{x i v:V}(h:BT P s T x i=some v):BT P (s.emb σ pre) T (x.ren σ pre.length) (i.ren σ pre.length)=some (v.ren σ pre.length):=by
 unfold BT at h;split at h
 ·rename_i e f es k j e1;split at h
  ·rename_i hc;cases h;obtain⟨c1,c2,c3,c4⟩:=hc;simp only[EW,EI,BT,e1,bg,E7,M2];rw[if_pos ⟨c1,c2,c3,c4⟩]
  ·cases h
 ·rename_i e l k γ n k' j e1;split at h
  ·rename_i γ' U es e2;split at h
   ·rename_i hc;cases h;obtain⟨c1,c2,c3,c4,c5,c6⟩:=hc;subst c1;simp only[HJ,EI,BT,e1,B9,e2,bq,AX.ren,bg,E7,OW];rw[if_pos ⟨trivial,c2,c3,c4,c5,c6⟩]
   ·cases h
  ·cases h
 ·rename_i n e cs k j e1;split at h
  ·rename_i hc;cases h;simp only[M2,EI,BT,e1,if_pos hc,bx]
  ·cases h
 ·rename_i n e l k γ o k' j e1;split at h
  ·rename_i hc;cases h;simp only[HI,EI,BT,e1,if_pos hc]
  ·cases h
 ·rename_i n e l k γ i' o k' j e1;split at h
  ·rename_i hc;cases h;simp only[OW,EI,BT,e1,if_pos hc]
  ·cases h
 ·cases h
theorem oN{T:cx}{x i v:V}(h:MQ P T x i=some v):MQ P T (x.ren σ δ) (i.ren σ δ)=some (v.ren σ δ):=by
 unfold MQ at h;split at h
 ·rename_i n e cs k j e1;split at h
  ·rename_i hc;simp only[HH,EI,MQ,e1,if_pos hc,gN h]
  ·cases h
 ·cases h
theorem tG{S D:cx}{x v:V}(h:LC P S D x=some v):LC P S D (x.ren σ δ)=some (v.ren σ δ):=by
 unfold LC at h;split at h
 ·rename_i e1 e2;cases h;simp[LC,e1,e2]
 ·cases h
theorem AGB{op:UnOp}{x v:V}(h:jI op x=some v):jI op (x.ren σ δ)=some (v.ren σ δ):=by unfold jI at h;split at h<;>first|(cases h;done)|(cases h;simp[jI])
theorem AA5{x v:V}(h:OM x=some v):OM (x.ren σ δ)=some (v.ren σ δ):=by cases x<;>simp[OM]at h<;>subst h<;>simp[OM]
theorem eW{x v:V}{i:Nat}(h:F0 x i=some v):F0 (x.ren σ δ) i=some (v.ren σ δ):=by cases x<;>simp[F0]at h;simp[F0,h]
theorem AA6{T:cx}{x v:V}(h:H1 P T x=some v):H1 P T (x.ren σ δ)=some (v.ren σ δ):=by
 unfold H1 at h;split at h
 ·rename_i e f es hu;cases h;simp[H1,hu]
 ·rename_i e l k g n hu;cases h;simp[H1,hu]
 ·rename_i e hu;cases h;simp[H1,hu]
 ·rename_i n e hu;cases h;unfold H1;rw[hu];simp
 ·cases h
theorem AMJ{n m:Nat}{h:Option V}(e:hiN n h=some m):hiN n (h.map (V.ren σ δ))=some m:=by
 cases h with
 |none=>exact e
 |some a=>cases a<;>first|(simp only[bq,EI];exact e)|(simp[hiN]at e)
theorem oO{T:cx}{x v:V}{lo hi mx:Option V}(h:C3 P s T x lo hi mx=some v):C3 P (s.emb σ pre) T (x.ren σ pre.length) (lo.map (V.ren σ pre.length)) (hi.map (V.ren σ pre.length)) (mx.map (V.ren σ pre.length))=some (v.ren σ pre.length):=by
 unfold C3 at h;split at h
 ·rename_i e f es k h' e1;split at h
  ·rename_i hc;cases h;simp only[EW,bq,EI,bh,C3,e1,bg,if_pos hc,bz]
  ·cases h
 ·rename_i e f es k l e1;split at h
  ·rename_i hc;cases h;have:(es.map (cw (V.ren σ pre.length))).all (fun x=>x.length==P.cellsOf e)=true:=by rw[cq];exact hc.2.2.2▸(by congr 1;funext x;simp)
   simp only[EW,bq,EI,bh,C3,e1,bg,if_pos (⟨hc.1,hc.2.1,hc.2.2.1,this⟩:_/\_/\_/\_),bx]
  ·cases h
 ·rename_i e f es k l k' h' e1;split at h
  ·rename_i hc;cases h;have:(es.map (cw (V.ren σ pre.length))).all (fun x=>x.length==P.cellsOf e)=true:=by rw[cq];exact hc.2.2.2.2▸(by congr 1;funext x;simp)
   simp only[EW,bq,EI,bh,C3,e1,bg,if_pos (⟨hc.1,hc.2.1,hc.2.2.1,hc.2.2.2.1,this⟩:_/\_/\_/\_/\_),bx,bz]
  ·cases h
 ·rename_i e f es k h' k' m e1;split at h
  ·rename_i hc;cases h;simp only[EW,bq,EI,bh,C3,e1,if_pos hc,List.map_nil]
  ·cases h
 ·rename_i e l k g n k' h' e1;split at h
  ·rename_i hc;cases h;simp only[HJ,bq,EI,bh,C3,e1,if_pos hc]
  ·cases h
 ·rename_i e l k g n k' i e1;split at h
  ·rename_i g' T' es hget;split at h
   ·rename_i hc;obtain⟨rfl,h1,h2,h3,h4,h5⟩:=hc;cases h;have:(es.map (cw (V.ren σ pre.length))).all (fun x=>x.length==P.cellsOf e)=true:=by rw[cq];exact h1▸(by congr 1;funext x;simp)
    simp only[HJ,YT,bq,EI,bh,C3,e1,B9,hget,AX.ren];rw[if_pos ⟨trivial,this,by simpa using h2,h3,h4,h5⟩]
   ·cases h
  ·cases h
 ·rename_i n e l k g o e1;split at h
  ·rename_i g' cs m hget hm;split at h
   ·rename_i hc;obtain⟨rfl,h1,h2⟩:=hc;cases h;simp only[HI,YT,bh,C3,e1,B9,hget,AX.ren,bq,AMJ hm];rw[if_pos ⟨trivial,h1,by simpa using h2⟩]
   ·cases h
  ·cases h
 ·cases h
theorem AA7{x y v:V}(h:TV x y=some v):TV (x.ren σ δ) (y.ren σ δ)=some (v.ren σ δ):=by
 unfold TV at h;split at h
 ·split at h
  ·rename_i hk;cases h;simp[TV,hk]
  ·cases h
 ·cases h
theorem AA8{x y v:V}(h:TW x y=some v):TW (x.ren σ δ) (y.ren σ δ)=some (v.ren σ δ):=by
 unfold TW at h;split at h
 ·split at h
  ·rename_i hk;cases h;simp[TW,hk]
  ·cases h
 ·cases h
theorem AA9{op:BinOp}{k:IntKind}{a b:Int}{v:V}(h:F8 op k a b=some v):v.ren σ δ=v:=by
 unfold F8 at h;split at h<;>first
  |(cases h;simp;done)
  |(split at h<;>first|(cases h;done)|(cases h;simp;done))
  |(obtain⟨r,_,rfl⟩:=bj.1 h;simp)
theorem M4:∀(cs:List V),D3 (cs.map (V.ren σ δ))=D3 cs
 |[]=>rfl
 |c::cs=>by have ih:=M4 cs;cases c<;>simp[D3,ih]
theorem AGC{op:BinOp}{k:IntKind}{a b:Int}{v:V}(h:TR op k a b=some v):v.ren σ δ=v:=by
 cases op<;>simp only[TR]at h;case shl=>split at h<;>cases h;simp
 case shr=>split at h<;>cases h;simp
 all_goals cases h
theorem ABA{op:BinOp}{T:cx}{x y v:V}(h:H0 P op T x y=some v):H0 P op T (x.ren σ δ) (y.ren σ δ)=some (v.ren σ δ):=by
 unfold H0 at h;split at h
 ·split at h
  ·rename_i hk;simp only[EI,H0,if_pos hk,h,AA9 h]
  ·rename_i hk;simp only[EI,H0,if_neg hk,h,AGC h]
 ·split at h
  ·rename_i hk;have hv:v.ren σ δ=v:=by split at h<;>first|(cases h;done)|(cases h;simp)
   rw[hv];simp only[L8,H0,if_pos hk];exact h
  ·cases h
 ·rename_i cs ds;have he:X5 P T (cs.map (V.ren σ δ)) (ds.map (V.ren σ δ))=X5 P T cs ds:=by unfold X5;rw[M4,M4]
  have hv:v.ren σ δ=v:=by
   split at h
   ·obtain⟨r,_,rfl⟩:=bj.1 h;simp
   ·obtain⟨r,_,rfl⟩:=bj.1 h;simp
   ·cases h
  rw[hv];simp only[HH,H0,he];exact h
 ·rename_i x' _;have hi:IB (x.ren σ δ)=IB x:=by
   cases x with
   |list f es=>cases es<;>simp[IB]
   |vec l k g n=>cases n<;>simp[IB]
   |vtl l k g i n=>cases n<;>simp[IB]
   |_=>simp[IB]
  have hb:∀y:V,H0 P op T y .nil=if DN P T then(match op with
   |.eql=>(IB y).map V.bool
   |.neq=>(IB y).map fun b=>V.bool !b
   | _=>none) else none:=fun y=>by cases y <;> rfl
  have hv:v.ren σ δ=v:=by
   split at h
   ·split at h
    ·obtain⟨r,_,rfl⟩:=bj.1 h;simp
    ·obtain⟨r,_,rfl⟩:=bj.1 h;simp
    ·cases h
   ·cases h
  rw[hv,AMI,hb,hi];exact h
 ·cases h
theorem V1:∀{cs:List V} {l:List Value},D3 cs=some l->cs.map (V.ren σ δ)=cs
 |[],_,_=>rfl
 |c::cs,l,h=>by
  cases c with
  |int k n=>
   simp only[D3]at h
   split at h
   ·rename_i r hr;simp[V1 hr]
   ·cases h
  |bool b=>
   simp only[D3]at h
   split at h
   ·rename_i r hr;simp[V1 hr]
   ·cases h
  |_=>simp[D3]at h
theorem cC{K:cx}(v:V):X6 P K (v.ren σ δ)=X6 P K v:=by
 cases v with
 |agg cs=>
  simp only[HH,X6,M4]
  split
  ·rename_i l hl;rw[V1 hl]
  ·rfl
 |_=>simp[X6]
theorem V2{K:cx}{ks:List V}:∀(es:List (V×V)) (i:Nat),NK P K ks (es.map fun p=>(p.1.ren σ δ,p.2.ren σ δ)) i=NK P K ks es i
 |[],_=>rfl
 |(k,v)::es,i=>by simp only[bm,NK,cC,V2 es]
theorem tH{T:cx}{z:V}(h:VP P T=some z):z.ren σ δ=z:=by
 unfold VP at h;split at h
 ·split at h
  ·rename_i cs hz;cases h;simp[RB hz]
  ·cases h
 ·exact RA h
 ·cases h
theorem jU{T:cx}{x k v:V}{ok:Bool}(h:DO P s T x k ok=some v):DO P (s.emb σ pre) T (x.ren σ pre.length) (k.ren σ pre.length) ok=some (v.ren σ pre.length):=by
 unfold DO at h;split at h
 ·rename_i K E l q g hm;split at h
  ·rename_i g' es hget;split at h
   ·rename_i hc;obtain⟨rfl,hT⟩:=hc;split at h
    ·rename_i ks hks;simp only[Q9,DO,hm,B9,hget,bq,AX.ren,cC,hks,V2,if_pos (⟨trivial,hT⟩:True/\_)];split at h
     ·rename_i hf;obtain⟨z,hz,rfl⟩:=bj.1 h;simp only[hz,bq];cases ok<;>simp[tH hz]
     ·rename_i i hf;obtain⟨e,he,rfl⟩:=bj.1 h;simp only[bc,he,bq];cases ok<;>simp
     ·cases h
    ·cases h
   ·cases h
  ·cases h
 ·cases h
theorem V3{T:cx}{x k v:V}{l q γ:Nat}{es:List (V×V)}(h:L5 P s T x k v=some (l,q,γ,es)):L5 P (s.emb σ pre) T (x.ren σ pre.length) (k.ren σ pre.length) (v.ren σ pre.length)=some (l+pre.length,q,σ γ,es.map fun p=>(p.1.ren σ pre.length,p.2.ren σ pre.length)):=by
 unfold L5 at h;split at h
 ·rename_i K E l q g hm;split at h
  ·rename_i g' es hget;split at h
   ·rename_i hc;obtain⟨rfl,hT⟩:=hc;split at h
    ·rename_i ks hks;simp only[Q9,L5,hm,B9,hget,bq,AX.ren,cC,hks,V2,if_pos (⟨trivial,hT⟩:True/\_)];split at h
     ·rename_i hf;cases h;simp
     ·rename_i i hf;cases h;simp[List.map_set]
     ·cases h
    ·cases h
   ·cases h
  ·cases h
 ·cases h
theorem I5{r:cz->Option V}:∀{l:List cz} {vs:List V},l.mapM r=some vs->l.mapM (fun x=>(r x).map (V.ren σ δ))=some (vs.map (V.ren σ δ))
 |[],vs,h=>by simp at h;subst h;rfl
 |x::l,vs,h=>by simp only[bt,bn,bk,ck,bb.injEq]at h;obtain⟨v,h1,us,h2,rfl⟩:=h;simp[h1,I5 h2]
theorem AMK{o:Oper}{r:cz->Option V}{v:V}(h:JN P o s r=some v):JN P o (s.emb σ pre) (fun x=>(r x).map (V.ren σ pre.length))=some (v.ren σ pre.length):=by
 unfold JN at h|-;split at h<;>(try simp only[bk]at h);case h_1=>simp[h]
 case h_2=>simp[h]
 case h_3=>obtain⟨a,h1,h2⟩:=h;simp[h1,AA5 h2]
 case h_4=>obtain⟨a,h1,b,h2,h3⟩:=h;simp[h1,XM h2,gM h3]
 case h_5=>obtain⟨a,h1,b,h2,h3⟩:=h;simp[h1,h2,ABA h3]
 case h_6=>obtain⟨a,h1,h2⟩:=h;simp[h1,AGB h2]
 case h_7=>obtain⟨a,h1,h2⟩:=h;simp[h1,tG h2]
 case h_8=>obtain⟨a,h1,h2⟩:=h;simp[h1,YD h2]
 case h_9=>obtain⟨a,h1,h2⟩:=h;simp[h1,oM h2]
 case h_10=>obtain⟨a,h1,b,h2,h3⟩:=h;simp[h1,h2,YE h3]
 case h_11=>obtain⟨a,h1,b,h2,h3⟩:=h;simp[h1,h2,oN h3]
 case h_12=>obtain⟨a,h1,h2⟩:=h;simp[h1,eW h2]
 case h_13=>
  split at h
  ·rename_i e1 e2;simp only[bk]at h;obtain⟨a,h1,h2⟩:=h;simp[h1,AA6 h2]
  ·cases h
 case h_14=>
  split at h
  ·simp only[bk]at h;obtain⟨a,h1,b,h2,h3⟩:=h;simp[h1,h2,AA7 h3]
  ·cases h
 case h_15=>
  split at h
  ·simp only[bk]at h;obtain⟨a,h1,b,h2,h3⟩:=h;simp[h1,h2,AA8 h3]
  ·cases h
 case h_16 T x lo hi mx ho=>
  obtain⟨a,h1,l,h2,u,h3,m,h4,h5⟩:=h
  have key:∀(z:Option cz) (q:Option V),(match z with|none=>some none|some y=>(r y).map some)=some q->(z=none/\q=none)\/∃y b,z=some y/\r y=some b/\q=some b:=by
   intro z q hz;cases z with
   |none=>cases hz;exact .inl ⟨rfl,rfl⟩
   |some y=>
    obtain⟨b,hb,rfl⟩:=bj.1 hz
    exact .inr ⟨y,b,rfl,hb,rfl⟩
  have h6:=oO (σ:=σ) (pre:=pre) h5
  rcases key lo l h2 with⟨rfl,rfl⟩|⟨y1,b1,rfl,q1,rfl⟩<;>rcases key hi u h3 with⟨rfl,rfl⟩|⟨y2,b2,rfl,q2,rfl⟩<;>rcases key mx m h4 with⟨rfl,rfl⟩|⟨y3,b3,rfl,q3,rfl⟩<;>simp_all
 case h_17=>obtain⟨a,h1,b,h2,h3⟩:=h;simp[h1,h2,jU h3]
 case h_18 f first captured ho=>
  obtain⟨a,h1,b,h2,h3⟩:=h
  cases h3
  simp[I5 h1,I5 h2]
 case h_19=>cases h
end Go.Pg
namespace Go.Pg
variable {P:Program}{σ:Nat->Nat}{δ:Nat}{pre:List AA}{s:St}{fr:Fr}{g:Bool}
theorem GR{T:cx}{z:List V}(h:B8 P T=some z):z.map (V.ren σ δ)=z:=by
 unfold B8 at h;split at h
 ·exact RB h
 ·cases h
theorem C7{α β:Type}(f:α->β)(cs ds:List α)(off:Nat):A4 (cs.map f) off (ds.map f)=(A4 cs off ds).map f:=by simp[A4,bz,bx]
theorem PS{place:Nat->Option (Nat×Nat)}:∀{ps:List (Nat×V)} {cs ds:List V},C4 place cs ps=some ds->C4 place (cs.map (V.ren σ δ)) (ps.map fun p=>(p.1,p.2.ren σ δ))=some (ds.map (V.ren σ δ))
 |[],cs,ds,h=>by simp[C4]at h;subst h;rfl
 |(i,v)::r,cs,ds,h=>by
  simp only[C4]at h;split at h
  ·cases h
  ·rename_i off size e;split at h
   ·rename_i hc;have:=PS h;simp only[bm,C4,e,EM,bg];rw[if_pos hc,C7];exact this
   ·cases h
theorem M5(ps:List (Nat×V)):((ps.map fun p=>(p.1,p.2.ren σ δ)).all fun p=>BA p.2)=ps.all fun p=>BA p.2:=by rw[cq];congr 1;funext p;exact IE p.2
theorem oP{T:cx}{ps:List (Nat×V)}{v:V}(h:CQ P T ps=some v):CQ P T (ps.map fun p=>(p.1,p.2.ren σ δ))=some (v.ren σ δ):=by
 unfold CQ at h|-;split at h
 ·rename_i z fs e1 e2;simp only[M5];split at h
  ·rename_i hc;obtain⟨cs,h1,rfl⟩:=bj.1 h;have:=PS (σ:=σ) (δ:=δ) h1;rw[GR e1]at this;rw[if_pos hc,this];simp
  ·cases h
 ·rename_i z n e e1 e2;simp only[M5];split at h
  ·rename_i hc;obtain⟨cs,h1,rfl⟩:=bj.1 h;have:=PS (σ:=σ) (δ:=δ) h1;rw[GR e1]at this;rw[if_pos hc,this];simp
  ·cases h
 ·cases h
theorem cD{β:Type}(f:V->V)(size:Nat):∀(n:Nat) (cs:List V),CM size (cs.map f) n=(CM size cs n).map (cw f)
 |0,_=>rfl
 |n+1,cs=>by simp only[CM,bm,bz];rw[<-bx,cD (β:=β) f size n]
theorem V4{T:cx}{len:Nat}{ps:List (Nat×V)}{v:V}(h:CB P T len ps=some v):CB P T len (ps.map fun p=>(p.1,p.2.ren σ δ))=some (v.ren σ δ):=by
 unfold CB at h|-;split at h
 ·rename_i e e1;split at h
  ·rename_i z e2;split at h
   ·rename_i hc;obtain⟨cs,h1,rfl⟩:=bj.1 h;have:=PS (σ:=σ) (δ:=δ) h1;have hz:(List.replicate len z).flatten.map (V.ren σ δ)=(List.replicate len z).flatten:=by rw[List.map_flatten,List.map_replicate,GR e2]
    rw[hz]at this;simp only[M5];rw[if_pos hc,this];simp[cD (β:=Nat)]
   ·cases h
  ·cases h
 ·cases h
theorem RD{r:cz->Option V}:∀{l:List (Nat×cz)} {ps:List (Nat×V)},C8 r l=some ps->C8 (fun x=>(r x).map (V.ren σ δ)) l=some (ps.map fun p=>(p.1,p.2.ren σ δ))
 |[],ps,h=>by simp[C8]at h;subst h;rfl
 |(i,x)::l,ps,h=>by
  simp only[C8]at h;split at h
  ·rename_i v us h1 h2;cases h;simp[C8,h1,RD h2]
  ·cases h
theorem GS{v:V}{es:List (List V)}(h:elemsOf s v=some es):elemsOf (s.emb σ pre) (v.ren σ pre.length)=some (es.map (cw (V.ren σ pre.length))):=by
 cases v with
 |list f ds=>simp only[elemsOf,bb.injEq]at h;subst h;simp[elemsOf]
 |vec l k γ n=>
  simp only[elemsOf]at h
  split at h
  ·rename_i γ' T ds e;split at h
   ·rename_i hc;cases h;simp[elemsOf,B9,e,AX.ren,hc.1,hc.2,bz]
   ·cases h
  ·cases h
 |vtl l k γ i n=>
  simp only[elemsOf]at h
  split at h
  ·rename_i γ' cs e;split at h
   ·rename_i hc;cases h;simp[elemsOf,B9,e,AX.ren,hc.1,hc.2,bz,bx,Function.comp_def]
   ·cases h
  ·cases h
 |nil=>simp only[elemsOf,bb.injEq]at h;subst h;simp[elemsOf]
 |_=>cases h
theorem JP:DW g (fr.ren σ δ)=fun x=>(DW g fr x).map (V.ren σ δ):=by funext x;exact DK x
theorem I6{o:Oper}{v:V}(h:FN P g o fr s=some v):FN P g o (fr.ren σ pre.length) (s.emb σ pre)=some (v.ren σ pre.length):=by
 unfold FN at h|-;split at h
 ·rename_i c x y ho;split at h
  ·rename_i c' ca va cb vb e1 e2 e3;split at h
   ·rename_i hc;cases h;simp only[DK,AGA,e1,e2,e3,bq,L8];rw[if_pos hc]
   ·cases h
  ·cases h
 ·rename_i T parts ho;obtain⟨ps,h1,h2⟩:=bk.1 h;rw[JP,RD h1];exact oP h2
 ·rename_i T len parts ho;obtain⟨ps,h1,h2⟩:=bk.1 h;rw[JP,RD h1];exact V4 h2
 ·rw[JP];exact AMK h
def A3(s:St):Nat->V->Option V
 |0,_=>none
 |f+1,v=>match v with
  |.list _ es=>some (.list false es)
  | .vec l k g m=>if l=s.up.length then(match s.loc.get k with
    |some (g',.vec _ es)=>if g'=g/\m<=es.length then some (.list false (es.take m)) else none
    | _=>none) else some v
  | .ptr l k g off=>if l=s.up.length then(match s.loc.get k with
    |some (g',.box cs)=>if g'=g then(cs.mapM (A3 s f)).map fun ds=>.ref (ds.drop off) else none
    | _=>none) else some v
  |.agg cs=>(cs.mapM (A3 s f)).map .agg
  |.tup cs=>(cs.mapM (A3 s f)).map .tup
  |.fn g xs ys=>match xs.mapM (A3 s f),ys.mapM (A3 s f)with
   |some a,some b=>some (.fn g a b)
   |_,_=>none
  |v=>some v
theorem GU{α β:Type}{f:α->Option β}{g:α->β}(h:∀x y,f x=some y->g x=y):∀{l:List α} {r:List β},l.mapM f=some r->l.map g=r
 |[],r,e=>by simp at e;subst e;rfl
 |x::l,r,e=>by simp only[bt,bn,bk,ck,bb.injEq]at e;obtain⟨y,h1,ys,h2,rfl⟩:=e;simp[h x y h1,GU h h2]
theorem OY:∀(f:Nat) {v r:V},A3 s f v=some r->DE s f v=r
 |0,v,r,h=>by cases h
 |f+1,v,r,h=>by
  have ih:=fun v r=>OY f (v:=v) (r:=r);cases v with
  |list b es=>simpa [A3,DE]using h
  |vec l k g m=>
   simp only[A3]at h
   simp only[DE]
   split at h
   ·rename_i hl;rw[if_pos hl];split at h
    ·rename_i g' T es e;split at h
     ·rename_i hc;rw[e];simp only[if_pos hc];exact bb.inj h
     ·cases h
    ·cases h
   ·rename_i hl;rw[if_neg hl];exact bb.inj h
  |ptr l k g off=>
   simp only[A3]at h
   simp only[DE]
   split at h
   ·rename_i hl;rw[if_pos hl];split at h
    ·rename_i g' cs e;split at h
     ·rename_i hc;obtain⟨ds,h1,rfl⟩:=bj.1 h;rw[e];simp only[if_pos hc,GU ih h1]
     ·cases h
    ·cases h
   ·rename_i hl;rw[if_neg hl];exact bb.inj h
  |agg cs=>
   obtain⟨ds,h1,rfl⟩:=bj.1 h
   simp only[DE,GU ih h1]
  |tup cs=>
   obtain⟨ds,h1,rfl⟩:=bj.1 h
   simp only[DE,GU ih h1]
  |fn g xs ys=>
   simp only[A3]at h
   split at h
   ·rename_i a b h1 h2;cases h;simp only[DE,GU ih h1,GU ih h2]
   ·cases h
  |_=>simpa [A3,DE]using h
theorem F3{f f':V->Option V}(h:∀v r,f v=some r->f' (v.ren σ δ)=some (r.ren σ δ)):∀{l r:List V},l.mapM f=some r->(l.map (V.ren σ δ)).mapM f'=some (r.map (V.ren σ δ))
 |[],r,e=>by simp at e;subst e;rfl
 |x::l,r,e=>by simp only[bt,bn,bk,ck,bb.injEq]at e;obtain⟨y,h1,ys,h2,rfl⟩:=e;simp[h x y h1,F3 h h2]
theorem K0(k:Nat):(s.emb σ pre).loc.get k=(s.loc.get k).map fun p=>(σ p.1,p.2.ren σ pre.length):=AA.get_ren _ _
theorem J7:∀(f:Nat) {v r:V},A3 s f v=some r->A3 (s.emb σ pre) f (v.ren σ pre.length)=some (r.ren σ pre.length)
 |0,v,r,h=>by cases h
 |f+1,v,r,h=>by
  have ih:=fun v r=>J7 f (v:=v) (r:=r);cases v with
  |list b es=>simp only[A3,bb.injEq]at h;subst h;simp[A3]
  |vec l k g m=>
   simp only[A3]at h
   split at h
   ·rename_i hl;split at h
    ·rename_i g' T es e;split at h
     ·rename_i hc;cases h;simp[A3,DA,K0,hl,e,AX.ren,hc.1,hc.2,bz]
     ·cases h
    ·cases h
   ·rename_i hl;cases h;have:¬l+pre.length=s.up.length+pre.length:=by omega
    simp[A3,DA,hl]
  |ptr l k g off=>
   simp only[A3]at h
   split at h
   ·rename_i hl;split at h
    ·rename_i g' cs e;split at h
     ·rename_i hc;obtain⟨ds,h1,rfl⟩:=bj.1 h;have:=F3 ih h1;simp[A3,DA,K0,hl,e,AX.ren,hc,this,bx]
     ·cases h
    ·cases h
   ·rename_i hl;cases h;simp[A3,DA,hl]
  |agg cs=>
   obtain⟨ds,h1,rfl⟩:=bj.1 h
   simp[A3,F3 ih h1]
  |tup cs=>
   obtain⟨ds,h1,rfl⟩:=bj.1 h
   simp[A3,F3 ih h1]
  |fn g xs ys=>
   simp only[A3]at h
   split at h
   ·rename_i a b h1 h2;cases h;simp[A3,F3 ih h1,F3 ih h2]
   ·cases h
  |_=>simp only[A3,bb.injEq]at h;subst h;simp[A3]
def B7(s:St)(v:V):Option V:=match v with
 |.list f es=>some (.list f es)
 |.int k n=>some (.int k n)
 |.bool b=>some (.bool b)
 |v=>A3 s 4 v
theorem JQ{v r:V}(h:B7 s v=some r):FM s v=r:=by
 unfold B7 at h;unfold FM;split at h
 ·simpa using h
 ·simpa [DE]using h
 ·simpa [DE]using h
 ·rename_i h1 h2 h3;split
  ·rename_i f es;exact absurd rfl (h1 f es)
  ·exact OY 4 h
theorem XN{v:V}(h1:∀f es,v≠.list f es)(h2:∀k n,v≠.int k n)(h3:∀b,v≠.bool b):B7 s v=A3 s 4 v:=by
 unfold B7;split
 ·rename_i f es;exact absurd rfl (h1 f es)
 ·rename_i k n;exact absurd rfl (h2 k n)
 ·rename_i b;exact absurd rfl (h3 b)
 ·rfl
theorem K1{v r:V}(h:B7 s v=some r):B7 (s.emb σ pre) (v.ren σ pre.length)=some (r.ren σ pre.length):=by
 by_cases h1:∃f es,v=.list f es
 ·obtain⟨f,es,rfl⟩:=h1;simp only[B7,bb.injEq]at h;subst h;simp[B7]
 by_cases h2:∃k n,v=.int k n
 ·obtain⟨k,n,rfl⟩:=h2;simp only[B7,bb.injEq]at h;subst h;simp[B7]
 by_cases h3:∃b,v=.bool b
 ·obtain⟨b,rfl⟩:=h3;simp only[B7,bb.injEq]at h;subst h;simp[B7]
 rw[XN (fun f es e=>h1 ⟨f,es,e⟩) (fun k n e=>h2 ⟨k,n,e⟩) (fun b e=>h3 ⟨b,e⟩)]at h;rw[XN (fun f es e=>by cases v<;>simp at e;exact h1 ⟨_,_,rfl⟩) (fun k n e=>by cases v<;>simp at e;exact h2 ⟨_,_,rfl⟩) (fun b e=>by cases v<;>simp at e;exact h3 ⟨_,rfl⟩)];exact J7 4 h
def GV{α β:Type}(f:α->Option β):List α->Option (List β)
 |[]=>some []
 |x::l=>match f x with
  |some y=>match GV f l with
   |some r=>some (y::r)
   |none=>none
  |none=>none
theorem L9{α β:Type}{f:α->Option β}{g:α->β}(h:∀x y,f x=some y->g x=y):∀{l:List α} {r:List β},GV f l=some r->l.map g=r
 |[],r,e=>by cases e;rfl
 |x::l,r,e=>by
  simp only[GV]at e;split at e
  ·rename_i y hy;split at e
   ·rename_i q hq;cases e;simp[h _ _ hy,L9 h hq]
   ·cases e
  ·cases e
theorem MA{α β:Type}{f f':α->Option β}{a:α->α}{b:β->β}(h:∀x y,f x=some y->f' (a x)=some (b y)):∀{l:List α} {r:List β},GV f l=some r->GV f' (l.map a)=some (r.map b)
 |[],r,e=>by cases e;rfl
 |x::l,r,e=>by
  simp only[GV]at e;split at e
  ·rename_i y hy;split at e
   ·rename_i q hq;cases e;simp[GV,h _ _ hy,MA h hq]
   ·cases e
  ·cases e
def CA(s:St)(r:AX):Option AX:=match r with
 |.box cs=>match GV (B7 s) cs with
  |some ds=>some (.box ds)
  |none=>none
 |.vec T es=>match GV (GV (B7 s)) es with
  |some ds=>some (.vec T ds)
  |none=>none
 | .map es=>match GV (fun e:V×V=>match B7 s e.1,B7 s e.2 with
   |some a,some b=>some (a,b)
   | _,_=>none) es with
  |some ds=>some (.map ds)
  |none=>none
 |r=>some r
def CG(s:St)(r:AX):AX:=match CA s r with
 |some r'=>r'
 |none=>r
theorem cE{r r':AX}(h:CA s r=some r'):r'=r\/r'=HC s r:=by
 unfold CA at h;split at h
 ·split at h
  ·rename_i ds hd;cases h;exact .inr (by simp only[HC,L9 (fun x y=>JQ) hd])
  ·cases h
 ·split at h
  ·rename_i ds hd;cases h;exact .inr (by simp only[HC,L9 (fun x y=>L9 (fun x y=>JQ)) hd])
  ·cases h
 ·split at h
  ·rename_i ds hd;cases h;refine .inr ?_;simp only[HC];rw[L9 (g:=fun e=>(FM s e.1,FM s e.2)) (fun x y h=>?_) hd];split at h
   ·rename_i a b h1 h2;cases h;rw[JQ h1,JQ h2]
   ·cases h
  ·cases h
 ·cases h;exact .inl rfl
theorem LD{r r':AX}(h:CA s r=some r'):CA (s.emb σ pre) (r.ren σ pre.length)=some (r'.ren σ pre.length):=by
 cases r with
 |box cs=>
  simp only[CA]at h
  split at h
  ·rename_i ds hd;cases h;simp[CA,AX.ren,MA (fun x y=>K1 (σ:=σ) (pre:=pre)) hd]
  ·cases h
 |vec T es=>
  simp only[CA]at h
  split at h
  ·rename_i ds hd;cases h;simp[CA,AX.ren,MA (fun x y=>MA (fun x y=>K1 (σ:=σ) (pre:=pre))) hd]
  ·cases h
 |map es=>
  simp only[CA]at h
  split at h
  ·rename_i ds hd;cases h;have:=MA (f':=fun e:V×V=>match B7 (s.emb σ pre) e.1,B7 (s.emb σ pre) e.2 with
    |some a,some b=>some (a,b)
    | _,_=>none) (a:=fun p:V×V=>(p.1.ren σ pre.length,p.2.ren σ pre.length)) (b:=fun p:V×V=>(p.1.ren σ pre.length,p.2.ren σ pre.length)) (fun x y h=>by
     split at h
     ·rename_i a b h1 h2;cases h;simp[K1 h1,K1 h2]
     ·cases h) hd
   simp[CA,AX.ren,this]
  ·cases h
 |loop fr ps asg body N st=>simp only[CA,bb.injEq]at h;subst h;rfl
 |dead=>simp only[CA,bb.injEq]at h;subst h;rfl
theorem oQ(r:AX):(CG s r).ren σ pre.length=r.ren σ pre.length\/(CG s r).ren σ pre.length=HC (s.emb σ pre) (r.ren σ pre.length):=by
 unfold CG;split
 ·rename_i r' h;rcases cE (LD (σ:=σ) (pre:=pre) h)with h'|h'
  ·exact .inl h'
  ·exact .inr h'
 ·exact .inl rfl
def AH(s:St)(L:AA):AA:=L.map fun p=>(p.1,p.2.1,CG s p.2.2)
theorem M6(s:St):∀(L:AA) (k:Nat),(AH s L).get k=(L.get k).map fun p=>(p.1,CG s p.2)
 |[],k=>rfl
 |(j,x)::L,k=>by
  have:=M6 s L k;simp only[AH,bm,AA.get]at this|-;split
  ·rfl
  ·exact this
theorem tI{rv:ResultVar}{v:V}(h:EV P fr s rv=some v):EV P (fr.ren σ pre.length) (s.emb σ pre) rv=some (v.ren σ pre.length):=by
 cases rv with
 |tmp t=>
  simp only[EV]at h|-
  split at h
  ·rename_i e;cases h;simp[Fr.get_ren,e]
  ·cases h
 |cell ad T=>
  simp only[EV]at h|-
  split at h
  ·rename_i p e;obtain⟨cs,h1,h2⟩:=bk.1 h;simp[Fr.get_ren,e,XM h1,gM h2]
  ·cases h
theorem OZ{rs:List ResultVar}{v:V}(h:GZ P rs fr s=some v):GZ P rs (fr.ren σ pre.length) (s.emb σ pre)=some (v.ren σ pre.length):=by
 have key:∀{rs:List ResultVar} {vs:List V},rs.mapM (EV P fr s)=some vs->rs.mapM (EV P (fr.ren σ pre.length) (s.emb σ pre))=some (vs.map (V.ren σ pre.length)):=by
  intro rs;induction rs with
  |nil=>intro vs e;simp at e;subst e;rfl
  |cons x l ih=>
   intro vs e
   simp only[bt,bn,bk,ck,bb.injEq]at e
   obtain⟨y,h1,ys,h2,rfl⟩:=e
   simp[tI h1,ih h2]
 unfold GZ at h|-;split at h
 ·rename_i x e;cases h;rw[key e];rfl
 ·rename_i vs hne e;cases h;rw[key e];cases vs with
  |nil=>simp
  |cons a r=>
   cases r with
   |nil=>exact absurd rfl (hne a)
   |cons b r=>simp
 ·cases h
theorem PT:∀(i:Nat) (vs:List V),AF i (vs.map (V.ren σ δ))=(AF i vs).ren σ δ
 |_,[]=>rfl
 |i,v::vs=>by simp[AF,Fr.ren,PT (i+1) vs]
end Go.Pg
