/- Names and levels turned into others: what the operations give turns with them. No program in sight. -/
import Derived.Test.YthhdhbalenanjaaGreatP4
noncomputable section
open Go renaming TypeId->cz,Operand->cd
open Option renaming map_eq_some_iff->bj,bind_eq_some_iff->bk,map_some->bq,some->bb,map_none->bh,bind_eq_bind->bn,pure_def->cq
open List renaming map_congr_left->bw,map_drop->bx,map_take->bz,getElem?_map->bc,length_map->bg,map_cons->bm,map_map->bp,mapM_cons->cj,sizeOf_lt_of_mem->ck,all_map->cw,map->cx
open Nat renaming add_assoc->bf
namespace Go.Pg
variable {P:Program}
variable {σ σ':Nat->Nat}{δ:Nat}
theorem O7:∀(l:List V),bE σ δ l=l.map (V.ren σ δ)
 |[]=>by simp[bE]
 |v::r=>by simp[bE,O7 r]
theorem kI:∀(l:List (List V)),jU σ δ l=l.map (cx (V.ren σ δ))
 |[]=>by simp[jU]
 |v::r=>by simp[jU,O7,kI r]
@[simp] theorem EB(k:IntKind)(n:Int):(V.int k n).ren σ δ=.int k n:=by simp[V.ren]
@[simp] theorem LJ(b:Bool):(V.bool b).ren σ δ=.bool b:=by simp[V.ren]
@[simp] theorem A67(v:Value):(V.raw v).ren σ δ=.raw v:=by simp[V.ren]
@[simp] theorem HA(cs:List V):(V.agg cs).ren σ δ=.agg (cs.map (V.ren σ δ)):=by simp[V.ren,O7]
@[simp] theorem KH(cs:List V):(V.tup cs).ren σ δ=.tup (cs.map (V.ren σ δ)):=by simp[V.ren,O7]
@[simp] theorem EL(f:Bool)(es:List (List V)):(V.list f es).ren σ δ=.list f (es.map (cx (V.ren σ δ))):=by simp[V.ren,kI]
@[simp] theorem MK(cs:List V):(V.ref cs).ren σ δ=.ref (cs.map (V.ren σ δ)):=by simp[V.ren,O7]
@[simp] theorem HB(l k g off:Nat):(V.ptr l k g off).ren σ δ=.ptr (l+δ) k (σ g) off:=by simp[V.ren]
@[simp] theorem OA(l k g i off:Nat):(V.eptr l k g i off).ren σ δ=.eptr (l+δ) k (σ g) i off:=by simp[V.ren]
@[simp] theorem HC(l k g n:Nat):(V.vec l k g n).ren σ δ=.vec (l+δ) k (σ g) n:=by simp[V.ren]
@[simp] theorem QJ(l k g:Nat):(V.mp l k g).ren σ δ=.mp (l+δ) k (σ g):=by simp[V.ren]
@[simp] theorem OB(f:FuncId)(xs ys:List V):(V.fn f xs ys).ren σ δ=.fn f (xs.map (V.ren σ δ)) (ys.map (V.ren σ δ)):=by simp[V.ren,O7]
@[simp] theorem eY(l k g:Nat):(V.yld l k g).ren σ δ=.yld (l+δ) k (σ g):=by simp[V.ren]
@[simp] theorem AH9:V.nil.ren σ δ=.nil:=by simp[V.ren]
@[simp] theorem A68:V.any.ren σ δ=.any:=by simp[V.ren]
@[simp] theorem WV(l k g i n:Nat):(V.vtl l k g i n).ren σ δ=.vtl (l+δ) k (σ g) i n:=by simp[V.ren]
theorem ML{σ':Nat->Nat}{δ':Nat}:∀(v:V),(v.ren σ δ).ren σ' δ'=v.ren (fun γ=>σ' (σ γ)) (δ+δ')
 |.agg cs=>by simp only[HA,bp];congr 1;exact bw fun v _=>ML v
 |.tup cs=>by simp only[KH,bp];congr 1;exact bw fun v _=>ML v
 |.ref cs=>by simp only[MK,bp];congr 1;exact bw fun v _=>ML v
 |.list b es=>by
  simp only[EL,bp];congr 1;refine bw fun e he=>?_;have hlt:=ck he;simp only[Function.comp,bp];exact bw fun v hv=>by have hlt2:=ck hv;exact ML v
 |.fn f xs ys=>by
  simp only[OB,bp];congr 1
  ·exact bw fun v _=>ML v
  ·exact bw fun v _=>ML v
 |.int k n=>by simp
 |.bool b=>by simp
 |.raw v=>by simp
 |.ptr l k g off=>by simp[bf]
 |.eptr l k g i off=>by simp[bf]
 |.vec l k g n=>by simp[bf]
 |.mp l k g=>by simp[bf]
 |.yld l k g=>by simp[bf]
 |.nil=>by simp
 |.vtl l k g i n=>by simp[bf]
 |.any=>by simp
decreasing_by all_goals first|(simp_wf;omega)|decreasing_tactic
def AX.ren(σ:Nat->Nat)(δ:Nat):AX->AX
 |.box cs=>.box (cs.map (V.ren σ δ))
 |.vec T es=>.vec T (es.map (cx (V.ren σ δ)))
 |.map es=>.map (es.map fun p=>(p.1.ren σ δ,p.2.ren σ δ))
 |.loop fr ps asg body N st=>.loop (fr.map fun p=>(p.1,p.2.1,p.2.2.ren σ δ)) ps asg body N st
 |.dead=>.dead
def AA.ren(σ:Nat->Nat)(δ:Nat)(L:AA):AA:=L.map fun p=>(p.1,σ p.2.1,p.2.2.ren σ δ)
def Fr.ren(σ:Nat->Nat)(δ:Nat)(fr:Fr):Fr:=fr.map fun p=>(p.1,p.2.1,p.2.2.ren σ δ)
def St.emb(σ:Nat->Nat)(pre:List AA)(s:St):St:=⟨pre++s.up.map (AA.ren σ pre.length),s.loc.ren σ pre.length⟩
theorem Fr.get_ren:∀(fr:Fr) (k:Nat),(fr.ren σ δ).get k=(fr.get k).map fun p=>(p.1,p.2.ren σ δ)
 |[],k=>rfl
 |(j,x)::fr,k=>by
  have:=Fr.get_ren fr k;simp only[Fr.ren,bm,Fr.get]at this|-;split
  ·rfl
  ·exact this
theorem AA.get_ren:∀(L:AA) (k:Nat),(L.ren σ δ).get k=(L.get k).map fun p=>(σ p.1,p.2.ren σ δ)
 |[],k=>rfl
 |(j,x)::L,k=>by
  have:=AA.get_ren L k;simp only[AA.ren,bm,AA.get]at this|-;split
  ·rfl
  ·exact this
variable {pre:List AA}{s:St}
theorem DB:(s.emb σ pre).up.length=s.up.length+pre.length:=by simp[St.emb,Nat.add_comm]
theorem BW(l k:Nat):(s.emb σ pre).get (l+pre.length) k=(s.get l k).map fun p=>(σ p.1,p.2.ren σ pre.length):=by
 unfold St.get;rw[DB];by_cases h:l=s.up.length
 ·rw[if_pos h,if_pos (by rw[h])];exact AA.get_ren _ _
 ·rw[if_neg h,if_neg (by omega)];simp only[St.emb];rw[List.getElem?_append_right (by omega),Nat.add_sub_cancel,bc];cases s.up[l]? with
  |none=>rfl
  |some L=>simp[AA.get_ren]
theorem Y7{α:Type}(f:α->α)(M:List α)(l:Nat):∀(pre:List α),(pre++M).modify (l+pre.length) f=pre++M.modify l f
 |[]=>rfl
 |p::pre=>by have:=Y7 f M l pre;simp only[List.cons_append,List.length_cons,<-bf,List.modify_succ_cons,this]
theorem CP{l k g:Nat}{r:AX}:(s.put l k g r).emb σ pre=(s.emb σ pre).put (l+pre.length) k (σ g) (r.ren σ pre.length):=by
 unfold St.put;rw[DB];by_cases h:l=s.up.length
 ·rw[if_pos h,if_pos (by rw[h])];simp[St.emb,AA.ren,AA.put]
 ·rw[if_neg h,if_neg (by omega)];simp only[St.emb,St.mk.injEq,and_true];rw[Y7];congr 1;refine List.ext_getElem? fun i=>?_;simp only[bc,List.getElem?_modify];by_cases hi:l=i
  ·subst hi;cases s.up[l]? with
   |none=>rfl
   |some L=>simp[AA.ren,AA.put]
  ·simp[hi]
theorem QK{u:Value}{v:V}(h:CM u=some v):v.ren σ δ=v:=by
 cases u with
 |int k n=>simp only[CM,bb.injEq]at h;subst h;simp
 |bool b=>simp only[CM,bb.injEq]at h;subst h;simp
 |agg cs=>simp[CM]at h
 |tuple cs=>simp[CM]at h
 |slice a n c=>
  unfold CM at h
  split at h<;>simp_all<;>subst h<;>simp
 |_=>simp only[CM,bb.injEq]at h;subst h;simp
theorem QL:∀{l:List Value} {cs:List V},GG l=some cs->cs.map (V.ren σ δ)=cs
 |[],cs,h=>by simp[GG]at h;subst h;rfl
 |v::r,cs,h=>by
  unfold GG at h;split at h
  ·rename_i x l h1 h2;cases h;simp[QK h1,QL h2]
  ·cases h
end Go.Pg
namespace Go.Pg
variable {P:Program}{σ:Nat->Nat}{δ:Nat}{pre:List AA}{s:St}{fr:Fr}{g:Bool}
theorem ACL(x:cd):rd (fr.ren σ δ) x=(rd fr x).map fun p=>(p.1,p.2.ren σ δ):=by
 cases x with
 |tmp t=>exact Fr.get_ren fr t
 |const u=>
  simp only[rd]
  cases h:CM u with
  |none=>rfl
  |some v=>simp[QK h]
 |func f=>simp[rd]
 |global g=>rfl
theorem DI(x:cd):DQ g (fr.ren σ δ) x=(DQ g fr x).map (V.ren σ δ):=by
 unfold DQ;rw[ACL];cases rd fr x with
 |none=>rfl
 |some p=>
  obtain⟨c,v⟩:=p
  simp only[bq]
  split<;>rfl
theorem H3(v:V):BC (v.ren σ δ)=BC v:=by cases v<;>simp[BC]
theorem EE(v:V):A7 (v.ren σ δ)=(A7 v).map (V.ren σ δ):=by cases v<;>simp[A7]
theorem wL(v:V):weakC (v.ren σ δ)=(weakC v).ren σ δ:=by cases v<;>simp[weakC]
theorem UP(v:V):weakV (v.ren σ δ)=(weakV v).ren σ δ:=by cases v<;>simp[weakV,wL]
theorem V1{p:V}{cs:List V}(h:A5 s p=some cs):A5 (s.emb σ pre) (p.ren σ pre.length)=some (cs.map (V.ren σ pre.length)):=by
 cases p with
 |ref ds=>simp only[A5,bb.injEq]at h;subst h;simp[A5]
 |ptr l k γ off=>
  simp only[A5]at h
  split at h
  ·rename_i γ' ds e;split at h
   ·rename_i eg;cases h;simp[A5,BW,e,AX.ren,eg,bx]
   ·cases h
  ·cases h
 |eptr l k γ i off=>
  simp only[A5]at h
  split at h
  ·rename_i γ' T es e;split at h
   ·rename_i eg;obtain⟨x,hx,rfl⟩:=bj.1 h;simp[A5,BW,e,AX.ren,eg,hx,bx]
   ·cases h
  ·cases h
 |_=>cases h
theorem cQ{T:cz}{cs:List V}{v:V}(h:BJ P T cs=some v):BJ P T (cs.map (V.ren σ δ))=some (v.ren σ δ):=by
 unfold BJ at h|-;split at h
 ·split at h
  ·rename_i hc;cases h;simp[hc,bz]
  ·cases h
 ·split at h
  ·rename_i hc;cases h;simp[hc,bz]
  ·cases h
 ·simp only[bc,h,bq]
 ·cases h
theorem cR{U:cz}{cs:List V}{off:Nat}{v:V}(h:LF P U cs off=some v):LF P U (cs.map (V.ren σ δ)) off=some (v.ren σ δ):=by
 unfold LF at h|-;split at h
 ·split at h
  ·rename_i hc;cases h;simp[hc,bz,bx]
  ·cases h
 ·split at h
  ·rename_i hc;cases h;simp[hc,bz,bx]
  ·cases h
 ·simp only[bc,h,bq]
 ·cases h
theorem kJ{T:cz}{x v:V}{f:Nat}(h:H7 P T x f=some v):H7 P T (x.ren σ δ) f=some (v.ren σ δ):=by
 unfold H7 at h;split at h
 ·rename_i cs U off e;simp[H7,e,cR h]
 ·cases h
theorem WI{T:cz}{x v:V}{f:Nat}(h:C7 P T x f=some v):C7 P T (x.ren σ δ) f=some (v.ren σ δ):=by
 unfold C7 at h;split at h
 ·rename_i U off e;split at h
  ·cases h
  ·rename_i hz;split at h<;>first
    |(cases h;done)
    |(cases h;simp[C7,e,hz,bx])
 ·cases h
theorem EU(es:List (List V))(j:Nat):(es.map (cx (V.ren σ δ))).getD j []=(es.getD j []).map (V.ren σ δ):=by simp only[List.getD_eq_getElem?_getD,bc];cases es[j]?<;>rfl
theorem WJ{T:cz}{x i v:V}(h:BK P s T x i=some v):BK P (s.emb σ pre) T (x.ren σ pre.length) (i.ren σ pre.length)=some (v.ren σ pre.length):=by
 unfold BK at h;split at h
 ·rename_i e f es k j e1;split at h
  ·rename_i hc;cases h;obtain⟨c1,c2,c3,c4⟩:=hc;simp only[EL,EB,BK,e1,bg,EU,MK];rw[if_pos ⟨c1,c2,c3,c4⟩]
  ·cases h
 ·rename_i e l k γ n k' j e1;split at h
  ·rename_i γ' U es e2;split at h
   ·rename_i hc;cases h;obtain⟨c1,c2,c3,c4,c5,c6⟩:=hc;subst c1;simp only[HC,EB,BK,e1,BW,e2,bq,AX.ren,bg,EU,OA];rw[if_pos ⟨trivial,c2,c3,c4,c5,c6⟩]
   ·cases h
  ·cases h
 ·rename_i n e cs k j e1;split at h
  ·rename_i hc;cases h;simp only[MK,EB,BK,e1,if_pos hc,bx]
  ·cases h
 ·rename_i n e l k γ o k' j e1;split at h
  ·rename_i hc;cases h;simp only[HB,EB,BK,e1,if_pos hc]
  ·cases h
 ·rename_i n e l k γ i' o k' j e1;split at h
  ·rename_i hc;cases h;simp only[OA,EB,BK,e1,if_pos hc]
  ·cases h
 ·cases h
theorem kK{T:cz}{x i v:V}(h:JD P T x i=some v):JD P T (x.ren σ δ) (i.ren σ δ)=some (v.ren σ δ):=by
 unfold JD at h;split at h
 ·rename_i n e cs k j e1;split at h
  ·rename_i hc;simp only[HA,EB,JD,e1,if_pos hc,cR h]
  ·cases h
 ·cases h
theorem oM{S D:cz}{x v:V}(h:KS P S D x=some v):KS P S D (x.ren σ δ)=some (v.ren σ δ):=by
 unfold KS at h;split at h
 ·rename_i e1 e2;cases h;simp[KS,e1,e2]
 ·cases h
theorem ACM{op:UnOp}{x v:V}(h:aX op x=some v):aX op (x.ren σ δ)=some (v.ren σ δ):=by unfold aX at h;split at h<;>first|(cases h;done)|(cases h;simp[aX])
theorem wM{x v:V}(h:M1 x=some v):M1 (x.ren σ δ)=some (v.ren σ δ):=by cases x<;>simp[M1]at h<;>subst h<;>simp[M1]
theorem bG{x v:V}{i:Nat}(h:FI x i=some v):FI (x.ren σ δ) i=some (v.ren σ δ):=by cases x<;>simp[FI]at h;simp[FI,h]
theorem wN{T:cz}{x v:V}(h:HU P T x=some v):HU P T (x.ren σ δ)=some (v.ren σ δ):=by
 unfold HU at h;split at h
 ·rename_i e f es hu;cases h;simp[HU,hu]
 ·rename_i e l k g n hu;cases h;simp[HU,hu]
 ·rename_i e hu;cases h;simp[HU,hu]
 ·rename_i n e hu;cases h;unfold HU;rw[hu];simp
 ·cases h
theorem AIA{n m:Nat}{h:Option V}(e:hiN n h=some m):hiN n (h.map (V.ren σ δ))=some m:=by
 cases h with
 |none=>exact e
 |some a=>cases a<;>first|(simp only[bq,EB];exact e)|(simp[hiN]at e)
theorem kL{T:cz}{x v:V}{lo hi mx:Option V}(h:CU P s T x lo hi mx=some v):CU P (s.emb σ pre) T (x.ren σ pre.length) (lo.map (V.ren σ pre.length)) (hi.map (V.ren σ pre.length)) (mx.map (V.ren σ pre.length))=some (v.ren σ pre.length):=by
 unfold CU at h;split at h
 ·rename_i e f es k h' e1;split at h
  ·rename_i hc;cases h;simp only[EL,bq,EB,bh,CU,e1,bg,if_pos hc,bz]
  ·cases h
 ·rename_i e f es k l e1;split at h
  ·rename_i hc;cases h;have:(es.map (cx (V.ren σ pre.length))).all (fun x=>x.length==P.cellsOf e)=true:=by rw[cw];exact hc.2.2.2▸(by congr 1;funext x;simp)
   simp only[EL,bq,EB,bh,CU,e1,bg,if_pos (⟨hc.1,hc.2.1,hc.2.2.1,this⟩:_/\_/\_/\_),bx]
  ·cases h
 ·rename_i e f es k l k' h' e1;split at h
  ·rename_i hc;cases h;have:(es.map (cx (V.ren σ pre.length))).all (fun x=>x.length==P.cellsOf e)=true:=by rw[cw];exact hc.2.2.2.2▸(by congr 1;funext x;simp)
   simp only[EL,bq,EB,bh,CU,e1,bg,if_pos (⟨hc.1,hc.2.1,hc.2.2.1,hc.2.2.2.1,this⟩:_/\_/\_/\_/\_),bx,bz]
  ·cases h
 ·rename_i e f es k h' k' m e1;split at h
  ·rename_i hc;cases h;simp only[EL,bq,EB,bh,CU,e1,if_pos hc,List.map_nil]
  ·cases h
 ·rename_i e l k g n k' h' e1;split at h
  ·rename_i hc;cases h;simp only[HC,bq,EB,bh,CU,e1,if_pos hc]
  ·cases h
 ·rename_i e l k g n k' i e1;split at h
  ·rename_i g' T' es hget;split at h
   ·rename_i hc;obtain⟨rfl,h1,h2,h3,h4,h5⟩:=hc;cases h;have:(es.map (cx (V.ren σ pre.length))).all (fun x=>x.length==P.cellsOf e)=true:=by rw[cw];exact h1▸(by congr 1;funext x;simp)
    simp only[HC,WV,bq,EB,bh,CU,e1,BW,hget,AX.ren];rw[if_pos ⟨trivial,this,by simpa using h2,h3,h4,h5⟩]
   ·cases h
  ·cases h
 ·rename_i n e l k g o e1;split at h
  ·rename_i g' cs m hget hm;split at h
   ·rename_i hc;obtain⟨rfl,h1,h2⟩:=hc;cases h;simp only[HB,WV,bh,CU,e1,BW,hget,AX.ren,bq,AIA hm];rw[if_pos ⟨trivial,h1,by simpa using h2⟩]
   ·cases h
  ·cases h
 ·cases h
theorem wO{x y v:V}(h:SK x y=some v):SK (x.ren σ δ) (y.ren σ δ)=some (v.ren σ δ):=by
 unfold SK at h;split at h
 ·split at h
  ·rename_i hk;cases h;simp[SK,hk]
  ·cases h
 ·cases h
theorem wP{x y v:V}(h:SL x y=some v):SL (x.ren σ δ) (y.ren σ δ)=some (v.ren σ δ):=by
 unfold SL at h;split at h
 ·split at h
  ·rename_i hk;cases h;simp[SL,hk]
  ·cases h
 ·cases h
theorem wQ{op:BinOp}{k:IntKind}{a b:Int}{v:V}(h:EJ op k a b=some v):v.ren σ δ=v:=by
 unfold EJ at h;split at h<;>first
  |(cases h;simp;done)
  |(split at h<;>first|(cases h;done)|(cases h;simp;done))
  |(obtain⟨r,_,rfl⟩:=bj.1 h;simp)
theorem MM:∀(cs:List V),DY (cs.map (V.ren σ δ))=DY cs
 |[]=>rfl
 |c::cs=>by have ih:=MM cs;cases c<;>simp[DY,ih]
theorem ACN{op:BinOp}{k:IntKind}{a b:Int}{v:V}(h:SH op k a b=some v):v.ren σ δ=v:=by
 cases op<;>simp only[SH]at h;case shl=>split at h<;>cases h;simp
 case shr=>split at h<;>cases h;simp
 all_goals cases h
theorem wR{op:BinOp}{T:cz}{x y v:V}(h:GZ P op T x y=some v):GZ P op T (x.ren σ δ) (y.ren σ δ)=some (v.ren σ δ):=by
 unfold GZ at h;split at h
 ·split at h
  ·rename_i hk;simp only[EB,GZ,if_pos hk,h,wQ h]
  ·rename_i hk;simp only[EB,GZ,if_neg hk,h,ACN h]
 ·split at h
  ·rename_i hk;have hv:v.ren σ δ=v:=by split at h<;>first|(cases h;done)|(cases h;simp)
   rw[hv];simp only[LJ,GZ,if_pos hk];exact h
  ·cases h
 ·rename_i cs ds;have he:UD P T (cs.map (V.ren σ δ)) (ds.map (V.ren σ δ))=UD P T cs ds:=by unfold UD;rw[MM,MM]
  have hv:v.ren σ δ=v:=by
   split at h
   ·obtain⟨r,_,rfl⟩:=bj.1 h;simp
   ·obtain⟨r,_,rfl⟩:=bj.1 h;simp
   ·cases h
  rw[hv];simp only[HA,GZ,he];exact h
 ·rename_i x' _;have hi:I0 (x.ren σ δ)=I0 x:=by
   cases x with
   |list f es=>cases es<;>simp[I0]
   |vec l k g n=>cases n<;>simp[I0]
   |vtl l k g i n=>cases n<;>simp[I0]
   |_=>simp[I0]
  have hb:∀y:V,GZ P op T y .nil=if DZ P T then(match op with
   |.eql=>(I0 y).map V.bool
   |.neq=>(I0 y).map fun b=>V.bool !b
   | _=>none) else none:=fun y=>by cases y <;> rfl
  have hv:v.ren σ δ=v:=by
   split at h
   ·split at h
    ·obtain⟨r,_,rfl⟩:=bj.1 h;simp
    ·obtain⟨r,_,rfl⟩:=bj.1 h;simp
    ·cases h
   ·cases h
  rw[hv,AH9,hb,hi];exact h
 ·cases h
theorem UQ:∀{cs:List V} {l:List Value},DY cs=some l->cs.map (V.ren σ δ)=cs
 |[],_,_=>rfl
 |c::cs,l,h=>by
  cases c with
  |int k n=>
   simp only[DY]at h
   split at h
   ·rename_i r hr;simp[UQ hr]
   ·cases h
  |bool b=>
   simp only[DY]at h
   split at h
   ·rename_i r hr;simp[UQ hr]
   ·cases h
  |_=>simp[DY]at h
theorem Y8{K:cz}(v:V):WD P K (v.ren σ δ)=WD P K v:=by
 cases v with
 |agg cs=>
  simp only[HA,WD,MM]
  split
  ·rename_i l hl;rw[UQ hl]
  ·rfl
 |_=>simp[WD]
theorem UR{K:cz}{ks:List V}:∀(es:List (V×V)) (i:Nat),M2 P K ks (es.map fun p=>(p.1.ren σ δ,p.2.ren σ δ)) i=M2 P K ks es i
 |[],_=>rfl
 |(k,v)::es,i=>by simp only[bm,M2,Y8,UR es]
theorem oN{T:cz}{z:V}(h:UE P T=some z):z.ren σ δ=z:=by
 unfold UE at h;split at h
 ·split at h
  ·rename_i cs hz;cases h;simp[QL hz]
  ·cases h
 ·exact QK h
 ·cases h
theorem eZ{T:cz}{x k v:V}{ok:Bool}(h:DK P s T x k ok=some v):DK P (s.emb σ pre) T (x.ren σ pre.length) (k.ren σ pre.length) ok=some (v.ren σ pre.length):=by
 unfold DK at h;split at h
 ·rename_i K E l q g hm;split at h
  ·rename_i g' es hget;split at h
   ·rename_i hc;obtain⟨rfl,hT⟩:=hc;split at h
    ·rename_i ks hks;simp only[QJ,DK,hm,BW,hget,bq,AX.ren,Y8,hks,UR,if_pos (⟨trivial,hT⟩:True/\_)];split at h
     ·rename_i hf;obtain⟨z,hz,rfl⟩:=bj.1 h;simp only[hz,bq];cases ok<;>simp[oN hz]
     ·rename_i i hf;obtain⟨e,he,rfl⟩:=bj.1 h;simp only[bc,he,bq];cases ok<;>simp
     ·cases h
    ·cases h
   ·cases h
  ·cases h
 ·cases h
theorem US{T:cz}{x k v:V}{l q γ:Nat}{es:List (V×V)}(h:LG P s T x k v=some (l,q,γ,es)):LG P (s.emb σ pre) T (x.ren σ pre.length) (k.ren σ pre.length) (v.ren σ pre.length)=some (l+pre.length,q,σ γ,es.map fun p=>(p.1.ren σ pre.length,p.2.ren σ pre.length)):=by
 unfold LG at h;split at h
 ·rename_i K E l q g hm;split at h
  ·rename_i g' es hget;split at h
   ·rename_i hc;obtain⟨rfl,hT⟩:=hc;split at h
    ·rename_i ks hks;simp only[QJ,LG,hm,BW,hget,bq,AX.ren,Y8,hks,UR,if_pos (⟨trivial,hT⟩:True/\_)];split at h
     ·rename_i hf;cases h;simp
     ·rename_i i hf;cases h;simp[List.map_set]
     ·cases h
    ·cases h
   ·cases h
  ·cases h
 ·cases h
theorem IP{r:cd->Option V}:∀{l:List cd} {vs:List V},l.mapM r=some vs->l.mapM (fun x=>(r x).map (V.ren σ δ))=some (vs.map (V.ren σ δ))
 |[],vs,h=>by simp at h;subst h;rfl
 |x::l,vs,h=>by simp only[cj,bn,bk,cq,bb.injEq]at h;obtain⟨v,h1,us,h2,rfl⟩:=h;simp[h1,IP h2]
theorem AIB{o:Oper}{r:cd->Option V}{v:V}(h:I9 P o s r=some v):I9 P o (s.emb σ pre) (fun x=>(r x).map (V.ren σ pre.length))=some (v.ren σ pre.length):=by
 unfold I9 at h|-;split at h<;>(try simp only[bk]at h);case h_1=>simp[h]
 case h_2=>simp[h]
 case h_3=>obtain⟨a,h1,h2⟩:=h;simp[h1,wM h2]
 case h_4=>obtain⟨a,h1,b,h2,h3⟩:=h;simp[h1,V1 h2,cQ h3]
 case h_5=>obtain⟨a,h1,b,h2,h3⟩:=h;simp[h1,h2,wR h3]
 case h_6=>obtain⟨a,h1,h2⟩:=h;simp[h1,ACM h2]
 case h_7=>obtain⟨a,h1,h2⟩:=h;simp[h1,oM h2]
 case h_8=>obtain⟨a,h1,h2⟩:=h;simp[h1,WI h2]
 case h_9=>obtain⟨a,h1,h2⟩:=h;simp[h1,kJ h2]
 case h_10=>obtain⟨a,h1,b,h2,h3⟩:=h;simp[h1,h2,WJ h3]
 case h_11=>obtain⟨a,h1,b,h2,h3⟩:=h;simp[h1,h2,kK h3]
 case h_12=>obtain⟨a,h1,h2⟩:=h;simp[h1,bG h2]
 case h_13=>
  split at h
  ·rename_i e1 e2;simp only[bk]at h;obtain⟨a,h1,h2⟩:=h;simp[h1,wN h2]
  ·cases h
 case h_14=>
  split at h
  ·simp only[bk]at h;obtain⟨a,h1,b,h2,h3⟩:=h;simp[h1,h2,wO h3]
  ·cases h
 case h_15=>
  split at h
  ·simp only[bk]at h;obtain⟨a,h1,b,h2,h3⟩:=h;simp[h1,h2,wP h3]
  ·cases h
 case h_16 T x lo hi mx ho=>
  obtain⟨a,h1,l,h2,u,h3,m,h4,h5⟩:=h
  have key:∀(z:Option cd) (q:Option V),(match z with|none=>some none|some y=>(r y).map some)=some q->(z=none/\q=none)\/∃y b,z=some y/\r y=some b/\q=some b:=by
   intro z q hz;cases z with
   |none=>cases hz;exact .inl ⟨rfl,rfl⟩
   |some y=>
    obtain⟨b,hb,rfl⟩:=bj.1 hz
    exact .inr ⟨y,b,rfl,hb,rfl⟩
  have h6:=kL (σ:=σ) (pre:=pre) h5
  rcases key lo l h2 with⟨rfl,rfl⟩|⟨y1,b1,rfl,q1,rfl⟩<;>rcases key hi u h3 with⟨rfl,rfl⟩|⟨y2,b2,rfl,q2,rfl⟩<;>rcases key mx m h4 with⟨rfl,rfl⟩|⟨y3,b3,rfl,q3,rfl⟩<;>simp_all
 case h_17=>obtain⟨a,h1,b,h2,h3⟩:=h;simp[h1,h2,eZ h3]
 case h_18 f first captured ho=>
  obtain⟨a,h1,b,h2,h3⟩:=h
  cases h3
  simp[IP h1,IP h2]
 case h_19=>cases h
end Go.Pg
namespace Go.Pg
variable {P:Program}{σ:Nat->Nat}{δ:Nat}{pre:List AA}{s:St}{fr:Fr}{g:Bool}
theorem GO{T:cz}{z:List V}(h:CB P T=some z):z.map (V.ren σ δ)=z:=by
 unfold CB at h;split at h
 ·exact QL h
 ·cases h
theorem C8{α β:Type}(f:α->β)(cs ds:List α)(off:Nat):A0 (cs.map f) off (ds.map f)=(A0 cs off ds).map f:=by simp[A0,bz,bx]
theorem O8{place:Nat->Option (Nat×Nat)}:∀{ps:List (Nat×V)} {cs ds:List V},DC place cs ps=some ds->DC place (cs.map (V.ren σ δ)) (ps.map fun p=>(p.1,p.2.ren σ δ))=some (ds.map (V.ren σ δ))
 |[],cs,ds,h=>by simp[DC]at h;subst h;rfl
 |(i,v)::r,cs,ds,h=>by
  simp only[DC]at h;split at h
  ·cases h
  ·rename_i off size e;split at h
   ·rename_i hc;have:=O8 h;simp only[bm,DC,e,EE,bg];rw[if_pos hc,C8];exact this
   ·cases h
theorem MN(ps:List (Nat×V)):((ps.map fun p=>(p.1,p.2.ren σ δ)).all fun p=>BC p.2)=ps.all fun p=>BC p.2:=by rw[cw];congr 1;funext p;exact H3 p.2
theorem kM{T:cz}{ps:List (Nat×V)}{v:V}(h:C4 P T ps=some v):C4 P T (ps.map fun p=>(p.1,p.2.ren σ δ))=some (v.ren σ δ):=by
 unfold C4 at h|-;split at h
 ·rename_i z fs e1 e2;simp only[MN];split at h
  ·rename_i hc;obtain⟨cs,h1,rfl⟩:=bj.1 h;have:=O8 (σ:=σ) (δ:=δ) h1;rw[GO e1]at this;rw[if_pos hc,this];simp
  ·cases h
 ·rename_i z n e e1 e2;simp only[MN];split at h
  ·rename_i hc;obtain⟨cs,h1,rfl⟩:=bj.1 h;have:=O8 (σ:=σ) (δ:=δ) h1;rw[GO e1]at this;rw[if_pos hc,this];simp
  ·cases h
 ·cases h
theorem Y9{β:Type}(f:V->V)(size:Nat):∀(n:Nat) (cs:List V),CN size (cs.map f) n=(CN size cs n).map (cx f)
 |0,_=>rfl
 |n+1,cs=>by simp only[CN,bm,bz];rw[<-bx,Y9 (β:=β) f size n]
theorem UT{T:cz}{len:Nat}{ps:List (Nat×V)}{v:V}(h:B8 P T len ps=some v):B8 P T len (ps.map fun p=>(p.1,p.2.ren σ δ))=some (v.ren σ δ):=by
 unfold B8 at h|-;split at h
 ·rename_i e e1;split at h
  ·rename_i z e2;split at h
   ·rename_i hc;obtain⟨cs,h1,rfl⟩:=bj.1 h;have:=O8 (σ:=σ) (δ:=δ) h1;have hz:(List.replicate len z).flatten.map (V.ren σ δ)=(List.replicate len z).flatten:=by rw[List.map_flatten,List.map_replicate,GO e2]
    rw[hz]at this;simp only[MN];rw[if_pos hc,this];simp[Y9 (β:=Nat)]
   ·cases h
  ·cases h
 ·cases h
theorem QM{r:cd->Option V}:∀{l:List (Nat×cd)} {ps:List (Nat×V)},C9 r l=some ps->C9 (fun x=>(r x).map (V.ren σ δ)) l=some (ps.map fun p=>(p.1,p.2.ren σ δ))
 |[],ps,h=>by simp[C9]at h;subst h;rfl
 |(i,x)::l,ps,h=>by
  simp only[C9]at h;split at h
  ·rename_i v us h1 h2;cases h;simp[C9,h1,QM h2]
  ·cases h
theorem GP{v:V}{es:List (List V)}(h:elemsOf s v=some es):elemsOf (s.emb σ pre) (v.ren σ pre.length)=some (es.map (cx (V.ren σ pre.length))):=by
 cases v with
 |list f ds=>simp only[elemsOf,bb.injEq]at h;subst h;simp[elemsOf]
 |vec l k γ n=>
  simp only[elemsOf]at h
  split at h
  ·rename_i γ' T ds e;split at h
   ·rename_i hc;cases h;simp[elemsOf,BW,e,AX.ren,hc.1,hc.2,bz]
   ·cases h
  ·cases h
 |vtl l k γ i n=>
  simp only[elemsOf]at h
  split at h
  ·rename_i γ' cs e;split at h
   ·rename_i hc;cases h;simp[elemsOf,BW,e,AX.ren,hc.1,hc.2,bz,bx,Function.comp_def]
   ·cases h
  ·cases h
 |nil=>simp only[elemsOf,bb.injEq]at h;subst h;simp[elemsOf]
 |_=>cases h
theorem JF:DQ g (fr.ren σ δ)=fun x=>(DQ g fr x).map (V.ren σ δ):=by funext x;exact DI x
theorem IQ{o:Oper}{v:V}(h:E9 P g o fr s=some v):E9 P g o (fr.ren σ pre.length) (s.emb σ pre)=some (v.ren σ pre.length):=by
 unfold E9 at h|-;split at h
 ·rename_i c x y ho;split at h
  ·rename_i c' ca va cb vb e1 e2 e3;split at h
   ·rename_i hc;cases h;simp only[DI,ACL,e1,e2,e3,bq,LJ];rw[if_pos hc]
   ·cases h
  ·cases h
 ·rename_i T parts ho;obtain⟨ps,h1,h2⟩:=bk.1 h;rw[JF,QM h1];exact kM h2
 ·rename_i T len parts ho;obtain⟨ps,h1,h2⟩:=bk.1 h;rw[JF,QM h1];exact UT h2
 ·rw[JF];exact AIB h
def AY(s:St):Nat->V->Option V
 |0,_=>none
 |f+1,v=>match v with
  |.list _ es=>some (.list false es)
  | .vec l k g m=>if l=s.up.length then(match s.loc.get k with
    |some (g',.vec _ es)=>if g'=g/\m<=es.length then some (.list false (es.take m)) else none
    | _=>none) else some v
  | .ptr l k g off=>if l=s.up.length then(match s.loc.get k with
    |some (g',.box cs)=>if g'=g then(cs.mapM (AY s f)).map fun ds=>.ref (ds.drop off) else none
    | _=>none) else some v
  |.agg cs=>(cs.mapM (AY s f)).map .agg
  |.tup cs=>(cs.mapM (AY s f)).map .tup
  |.fn g xs ys=>match xs.mapM (AY s f),ys.mapM (AY s f)with
   |some a,some b=>some (.fn g a b)
   |_,_=>none
  |v=>some v
theorem GQ{α β:Type}{f:α->Option β}{g:α->β}(h:∀x y,f x=some y->g x=y):∀{l:List α} {r:List β},l.mapM f=some r->l.map g=r
 |[],r,e=>by simp at e;subst e;rfl
 |x::l,r,e=>by simp only[cj,bn,bk,cq,bb.injEq]at e;obtain⟨y,h1,ys,h2,rfl⟩:=e;simp[h x y h1,GQ h h2]
theorem OC:∀(f:Nat) {v r:V},AY s f v=some r->DF s f v=r
 |0,v,r,h=>by cases h
 |f+1,v,r,h=>by
  have ih:=fun v r=>OC f (v:=v) (r:=r);cases v with
  |list b es=>simpa [AY,DF]using h
  |vec l k g m=>
   simp only[AY]at h
   simp only[DF]
   split at h
   ·rename_i hl;rw[if_pos hl];split at h
    ·rename_i g' T es e;split at h
     ·rename_i hc;rw[e];simp only[if_pos hc];exact bb.inj h
     ·cases h
    ·cases h
   ·rename_i hl;rw[if_neg hl];exact bb.inj h
  |ptr l k g off=>
   simp only[AY]at h
   simp only[DF]
   split at h
   ·rename_i hl;rw[if_pos hl];split at h
    ·rename_i g' cs e;split at h
     ·rename_i hc;obtain⟨ds,h1,rfl⟩:=bj.1 h;rw[e];simp only[if_pos hc,GQ ih h1]
     ·cases h
    ·cases h
   ·rename_i hl;rw[if_neg hl];exact bb.inj h
  |agg cs=>
   obtain⟨ds,h1,rfl⟩:=bj.1 h
   simp only[DF,GQ ih h1]
  |tup cs=>
   obtain⟨ds,h1,rfl⟩:=bj.1 h
   simp only[DF,GQ ih h1]
  |fn g xs ys=>
   simp only[AY]at h
   split at h
   ·rename_i a b h1 h2;cases h;simp only[DF,GQ ih h1,GQ ih h2]
   ·cases h
  |_=>simpa [AY,DF]using h
theorem FL{f f':V->Option V}(h:∀v r,f v=some r->f' (v.ren σ δ)=some (r.ren σ δ)):∀{l r:List V},l.mapM f=some r->(l.map (V.ren σ δ)).mapM f'=some (r.map (V.ren σ δ))
 |[],r,e=>by simp at e;subst e;rfl
 |x::l,r,e=>by simp only[cj,bn,bk,cq,bb.injEq]at e;obtain⟨y,h1,ys,h2,rfl⟩:=e;simp[h x y h1,FL h h2]
theorem KI(k:Nat):(s.emb σ pre).loc.get k=(s.loc.get k).map fun p=>(σ p.1,p.2.ren σ pre.length):=AA.get_ren _ _
theorem JY:∀(f:Nat) {v r:V},AY s f v=some r->AY (s.emb σ pre) f (v.ren σ pre.length)=some (r.ren σ pre.length)
 |0,v,r,h=>by cases h
 |f+1,v,r,h=>by
  have ih:=fun v r=>JY f (v:=v) (r:=r);cases v with
  |list b es=>simp only[AY,bb.injEq]at h;subst h;simp[AY]
  |vec l k g m=>
   simp only[AY]at h
   split at h
   ·rename_i hl;split at h
    ·rename_i g' T es e;split at h
     ·rename_i hc;cases h;simp[AY,DB,KI,hl,e,AX.ren,hc.1,hc.2,bz]
     ·cases h
    ·cases h
   ·rename_i hl;cases h;have:¬l+pre.length=s.up.length+pre.length:=by omega
    simp[AY,DB,hl]
  |ptr l k g off=>
   simp only[AY]at h
   split at h
   ·rename_i hl;split at h
    ·rename_i g' cs e;split at h
     ·rename_i hc;obtain⟨ds,h1,rfl⟩:=bj.1 h;have:=FL ih h1;simp[AY,DB,KI,hl,e,AX.ren,hc,this,bx]
     ·cases h
    ·cases h
   ·rename_i hl;cases h;simp[AY,DB,hl]
  |agg cs=>
   obtain⟨ds,h1,rfl⟩:=bj.1 h
   simp[AY,FL ih h1]
  |tup cs=>
   obtain⟨ds,h1,rfl⟩:=bj.1 h
   simp[AY,FL ih h1]
  |fn g xs ys=>
   simp only[AY]at h
   split at h
   ·rename_i a b h1 h2;cases h;simp[AY,FL ih h1,FL ih h2]
   ·cases h
  |_=>simp only[AY,bb.injEq]at h;subst h;simp[AY]
def BU(s:St)(v:V):Option V:=match v with
 |.list f es=>some (.list f es)
 |.int k n=>some (.int k n)
 |.bool b=>some (.bool b)
 |v=>AY s 4 v
theorem JG{v r:V}(h:BU s v=some r):E7 s v=r:=by
 unfold BU at h;unfold E7;split at h
 ·simpa using h
 ·simpa [DF]using h
 ·simpa [DF]using h
 ·rename_i h1 h2 h3;split
  ·rename_i f es;exact absurd rfl (h1 f es)
  ·exact OC 4 h
theorem V2{v:V}(h1:∀f es,v≠.list f es)(h2:∀k n,v≠.int k n)(h3:∀b,v≠.bool b):BU s v=AY s 4 v:=by
 unfold BU;split
 ·rename_i f es;exact absurd rfl (h1 f es)
 ·rename_i k n;exact absurd rfl (h2 k n)
 ·rename_i b;exact absurd rfl (h3 b)
 ·rfl
theorem KJ{v r:V}(h:BU s v=some r):BU (s.emb σ pre) (v.ren σ pre.length)=some (r.ren σ pre.length):=by
 by_cases h1:∃f es,v=.list f es
 ·obtain⟨f,es,rfl⟩:=h1;simp only[BU,bb.injEq]at h;subst h;simp[BU]
 by_cases h2:∃k n,v=.int k n
 ·obtain⟨k,n,rfl⟩:=h2;simp only[BU,bb.injEq]at h;subst h;simp[BU]
 by_cases h3:∃b,v=.bool b
 ·obtain⟨b,rfl⟩:=h3;simp only[BU,bb.injEq]at h;subst h;simp[BU]
 rw[V2 (fun f es e=>h1 ⟨f,es,e⟩) (fun k n e=>h2 ⟨k,n,e⟩) (fun b e=>h3 ⟨b,e⟩)]at h;rw[V2 (fun f es e=>by cases v<;>simp at e;exact h1 ⟨_,_,rfl⟩) (fun k n e=>by cases v<;>simp at e;exact h2 ⟨_,_,rfl⟩) (fun b e=>by cases v<;>simp at e;exact h3 ⟨_,rfl⟩)];exact JY 4 h
def GR{α β:Type}(f:α->Option β):List α->Option (List β)
 |[]=>some []
 |x::l=>match f x with
  |some y=>match GR f l with
   |some r=>some (y::r)
   |none=>none
  |none=>none
theorem LK{α β:Type}{f:α->Option β}{g:α->β}(h:∀x y,f x=some y->g x=y):∀{l:List α} {r:List β},GR f l=some r->l.map g=r
 |[],r,e=>by cases e;rfl
 |x::l,r,e=>by
  simp only[GR]at e;split at e
  ·rename_i y hy;split at e
   ·rename_i q hq;cases e;simp[h _ _ hy,LK h hq]
   ·cases e
  ·cases e
theorem LL{α β:Type}{f f':α->Option β}{a:α->α}{b:β->β}(h:∀x y,f x=some y->f' (a x)=some (b y)):∀{l:List α} {r:List β},GR f l=some r->GR f' (l.map a)=some (r.map b)
 |[],r,e=>by cases e;rfl
 |x::l,r,e=>by
  simp only[GR]at e;split at e
  ·rename_i y hy;split at e
   ·rename_i q hq;cases e;simp[GR,h _ _ hy,LL h hq]
   ·cases e
  ·cases e
def B7(s:St)(r:AX):Option AX:=match r with
 |.box cs=>match GR (BU s) cs with
  |some ds=>some (.box ds)
  |none=>none
 |.vec T es=>match GR (GR (BU s)) es with
  |some ds=>some (.vec T ds)
  |none=>none
 | .map es=>match GR (fun e:V×V=>match BU s e.1,BU s e.2 with
   |some a,some b=>some (a,b)
   | _,_=>none) es with
  |some ds=>some (.map ds)
  |none=>none
 |r=>some r
def CE(s:St)(r:AX):AX:=match B7 s r with
 |some r'=>r'
 |none=>r
theorem ZA{r r':AX}(h:B7 s r=some r'):r'=r\/r'=G5 s r:=by
 unfold B7 at h;split at h
 ·split at h
  ·rename_i ds hd;cases h;exact .inr (by simp only[G5,LK (fun x y=>JG) hd])
  ·cases h
 ·split at h
  ·rename_i ds hd;cases h;exact .inr (by simp only[G5,LK (fun x y=>LK (fun x y=>JG)) hd])
  ·cases h
 ·split at h
  ·rename_i ds hd;cases h;refine .inr ?_;simp only[G5];rw[LK (g:=fun e=>(E7 s e.1,E7 s e.2)) (fun x y h=>?_) hd];split at h
   ·rename_i a b h1 h2;cases h;rw[JG h1,JG h2]
   ·cases h
  ·cases h
 ·cases h;exact .inl rfl
theorem KT{r r':AX}(h:B7 s r=some r'):B7 (s.emb σ pre) (r.ren σ pre.length)=some (r'.ren σ pre.length):=by
 cases r with
 |box cs=>
  simp only[B7]at h
  split at h
  ·rename_i ds hd;cases h;simp[B7,AX.ren,LL (fun x y=>KJ (σ:=σ) (pre:=pre)) hd]
  ·cases h
 |vec T es=>
  simp only[B7]at h
  split at h
  ·rename_i ds hd;cases h;simp[B7,AX.ren,LL (fun x y=>LL (fun x y=>KJ (σ:=σ) (pre:=pre))) hd]
  ·cases h
 |map es=>
  simp only[B7]at h
  split at h
  ·rename_i ds hd;cases h;have:=LL (f':=fun e:V×V=>match BU (s.emb σ pre) e.1,BU (s.emb σ pre) e.2 with
    |some a,some b=>some (a,b)
    | _,_=>none) (a:=fun p:V×V=>(p.1.ren σ pre.length,p.2.ren σ pre.length)) (b:=fun p:V×V=>(p.1.ren σ pre.length,p.2.ren σ pre.length)) (fun x y h=>by
     split at h
     ·rename_i a b h1 h2;cases h;simp[KJ h1,KJ h2]
     ·cases h) hd
   simp[B7,AX.ren,this]
  ·cases h
 |loop fr ps asg body N st=>simp only[B7,bb.injEq]at h;subst h;rfl
 |dead=>simp only[B7,bb.injEq]at h;subst h;rfl
theorem kN(r:AX):(CE s r).ren σ pre.length=r.ren σ pre.length\/(CE s r).ren σ pre.length=G5 (s.emb σ pre) (r.ren σ pre.length):=by
 unfold CE;split
 ·rename_i r' h;rcases ZA (KT (σ:=σ) (pre:=pre) h)with h'|h'
  ·exact .inl h'
  ·exact .inr h'
 ·exact .inl rfl
def AH(s:St)(L:AA):AA:=L.map fun p=>(p.1,p.2.1,CE s p.2.2)
theorem MO(s:St):∀(L:AA) (k:Nat),(AH s L).get k=(L.get k).map fun p=>(p.1,CE s p.2)
 |[],k=>rfl
 |(j,x)::L,k=>by
  have:=MO s L k;simp only[AH,bm,AA.get]at this|-;split
  ·rfl
  ·exact this
theorem oO{rv:ResultVar}{v:V}(h:CO P fr s rv=some v):CO P (fr.ren σ pre.length) (s.emb σ pre) rv=some (v.ren σ pre.length):=by
 cases rv with
 |tmp t=>
  simp only[CO]at h|-
  split at h
  ·rename_i e;cases h;simp[Fr.get_ren,e]
  ·cases h
 |cell ad T=>
  simp only[CO]at h|-
  split at h
  ·rename_i p e;obtain⟨cs,h1,h2⟩:=bk.1 h;simp[Fr.get_ren,e,V1 h1,cQ h2]
  ·cases h
theorem OD{rs:List ResultVar}{v:V}(h:E8 P rs fr s=some v):E8 P rs (fr.ren σ pre.length) (s.emb σ pre)=some (v.ren σ pre.length):=by
 have key:∀{rs:List ResultVar} {vs:List V},rs.mapM (CO P fr s)=some vs->rs.mapM (CO P (fr.ren σ pre.length) (s.emb σ pre))=some (vs.map (V.ren σ pre.length)):=by
  intro rs;induction rs with
  |nil=>intro vs e;simp at e;subst e;rfl
  |cons x l ih=>
   intro vs e
   simp only[cj,bn,bk,cq,bb.injEq]at e
   obtain⟨y,h1,ys,h2,rfl⟩:=e
   simp[oO h1,ih h2]
 unfold E8 at h|-;split at h
 ·rename_i x e;cases h;rw[key e];rfl
 ·rename_i vs hne e;cases h;rw[key e];cases vs with
  |nil=>simp
  |cons a r=>
   cases r with
   |nil=>exact absurd rfl (hne a)
   |cons b r=>simp
 ·cases h
theorem O9:∀(i:Nat) (vs:List V),AD i (vs.map (V.ren σ δ))=(AD i vs).ren σ δ
 |_,[]=>rfl
 |i,v::vs=>by simp[AD,Fr.ren,O9 (i+1) vs]
end Go.Pg
