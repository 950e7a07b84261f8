/- Names and levels turned into others: what the operations give turns with them. No program in sight. -/
import Derived.Test.YtmnlpgjklibndaaGreatP4
noncomputable section
open Go renaming TypeId->cg,Operand->cm
open Option renaming map_eq_some_iff->bj,bind_eq_some_iff->bq,map_some->bw,some->bf,map_none->bp,bind_eq_bind->bt,pure_def->cz
open List renaming map_congr_left->bx,map_drop->bz,map_take->bc,length_map->bg,getElem?_map->bh,map_cons->br,map_map->cj,mapM_cons->ck,all_map->cq,sizeOf_lt_of_mem->cx,map->cd
open Nat renaming add_assoc->bn
namespace Go.Pg
variable {P:Program}
variable {σ σ':Nat->Nat}{δ:Nat}
theorem O3:∀(l:List V),aL σ δ l=l.map (V.ren σ δ)
 |[]=>by simp[aL]
 |v::r=>by simp[aL,O3 r]
theorem kT:∀(l:List (List V)),kF σ δ l=l.map (cd (V.ren σ δ))
 |[]=>by simp[kF]
 |v::r=>by simp[kF,O3,kT r]
@[simp] theorem D6(k:IntKind)(n:Int):(V.int k n).ren σ δ=.int k n:=by simp[V.ren]
@[simp] theorem K4(b:Bool):(V.bool b).ren σ δ=.bool b:=by simp[V.ren]
@[simp] theorem AH9(v:Value):(V.raw v).ren σ δ=.raw v:=by simp[V.ren]
@[simp] theorem E8(cs:List V):(V.agg cs).ren σ δ=.agg (cs.map (V.ren σ δ)):=by simp[V.ren,O3]
@[simp] theorem HC(cs:List V):(V.tup cs).ren σ δ=.tup (cs.map (V.ren σ δ)):=by simp[V.ren,O3]
@[simp] theorem DY(f:Bool)(es:List (List V)):(V.list f es).ren σ δ=.list f (es.map (cd (V.ren σ δ))):=by simp[V.ren,kT]
@[simp] theorem J8(cs:List V):(V.ref cs).ren σ δ=.ref (cs.map (V.ren σ δ)):=by simp[V.ren,O3]
@[simp] theorem HD(l k g off:Nat):(V.ptr l k g off).ren σ δ=.ptr (l+δ) k (σ g) off:=by simp[V.ren]
@[simp] theorem NY(l k g i off:Nat):(V.eptr l k g i off).ren σ δ=.eptr (l+δ) k (σ g) i off:=by simp[V.ren]
@[simp] theorem HE(l k g n:Nat):(V.vec l k g n).ren σ δ=.vec (l+δ) k (σ g) n:=by simp[V.ren]
@[simp] theorem MF(l k g:Nat):(V.mp l k g).ren σ δ=.mp (l+δ) k (σ g):=by simp[V.ren]
@[simp] theorem MG(f:FuncId)(xs ys:List V):(V.fn f xs ys).ren σ δ=.fn f (xs.map (V.ren σ δ)) (ys.map (V.ren σ δ)):=by simp[V.ren,O3]
@[simp] theorem eX(l k g:Nat):(V.yld l k g).ren σ δ=.yld (l+δ) k (σ g):=by simp[V.ren]
@[simp] theorem tR:V.nil.ren σ δ=.nil:=by simp[V.ren]
@[simp] theorem A7P:V.any.ren σ δ=.any:=by simp[V.ren]
@[simp] theorem YF(d:List V):(V.memo d).ren σ δ=.memo d:=by simp[V.ren]
@[simp] theorem WE(l k g i n:Nat):(V.vtl l k g i n).ren σ δ=.vtl (l+δ) k (σ g) i n:=by simp[V.ren]
theorem MH{σ':Nat->Nat}{δ':Nat}:∀(v:V),(v.ren σ δ).ren σ' δ'=v.ren (fun γ=>σ' (σ γ)) (δ+δ')
 |.agg cs=>by simp only[E8,cj];congr 1;exact bx fun v _=>MH v
 |.tup cs=>by simp only[HC,cj];congr 1;exact bx fun v _=>MH v
 |.ref cs=>by simp only[J8,cj];congr 1;exact bx fun v _=>MH v
 |.list b es=>by
  simp only[DY,cj];congr 1;refine bx fun e he=>?_;have hlt:=cx he;simp only[Function.comp,cj];exact bx fun v hv=>by have hlt2:=cx hv;exact MH v
 |.fn f xs ys=>by
  simp only[MG,cj];congr 1
  ·exact bx fun v _=>MH v
  ·exact bx fun v _=>MH v
 |.int k n=>by simp
 |.bool b=>by simp
 |.raw v=>by simp
 |.ptr l k g off=>by simp[bn]
 |.eptr l k g i off=>by simp[bn]
 |.vec l k g n=>by simp[bn]
 |.mp l k g=>by simp[bn]
 |.yld l k g=>by simp[bn]
 |.nil=>by simp
 |.vtl l k g i n=>by simp[bn]
 |.any=>by simp
 |.memo d=>by simp
decreasing_by all_goals first|(simp_wf;omega)|decreasing_tactic
def AZ.ren(σ:Nat->Nat)(δ:Nat):AZ->AZ
 |.box cs=>.box (cs.map (V.ren σ δ))
 |.vec T es=>.vec T (es.map (cd (V.ren σ δ)))
 |.map es=>.map (es.map fun p=>(p.1.ren σ δ,p.2.ren σ δ))
 |.loop fr ps asg body N st=>.loop (fr.map fun p=>(p.1,p.2.1,p.2.2.ren σ δ)) ps asg body N st
 |.dead=>.dead
def AA.ren(σ:Nat->Nat)(δ:Nat)(L:AA):AA:=L.map fun p=>(p.1,σ p.2.1,p.2.2.ren σ δ)
def Fr.ren(σ:Nat->Nat)(δ:Nat)(fr:Fr):Fr:=fr.map fun p=>(p.1,p.2.1,p.2.2.ren σ δ)
def St.emb(σ:Nat->Nat)(pre:List AA)(s:St):St:=⟨pre++s.up.map (AA.ren σ pre.length),s.loc.ren σ pre.length⟩
theorem Fr.get_ren:∀(fr:Fr) (k:Nat),(fr.ren σ δ).get k=(fr.get k).map fun p=>(p.1,p.2.ren σ δ)
 |[],k=>rfl
 |(j,x)::fr,k=>by
  have:=Fr.get_ren fr k;simp only[Fr.ren,br,Fr.get]at this|-;split
  ·rfl
  ·exact this
theorem AA.get_ren:∀(L:AA) (k:Nat),(L.ren σ δ).get k=(L.get k).map fun p=>(σ p.1,p.2.ren σ δ)
 |[],k=>rfl
 |(j,x)::L,k=>by
  have:=AA.get_ren L k;simp only[AA.ren,br,AA.get]at this|-;split
  ·rfl
  ·exact this
variable {pre:List AA}{s:St}
theorem CZ:(s.emb σ pre).up.length=s.up.length+pre.length:=by simp[St.emb,Nat.add_comm]
theorem BP(l k:Nat):(s.emb σ pre).get (l+pre.length) k=(s.get l k).map fun p=>(σ p.1,p.2.ren σ pre.length):=by
 unfold St.get;rw[CZ];by_cases h:l=s.up.length
 ·rw[if_pos h,if_pos (by rw[h])];exact AA.get_ren _ _
 ·rw[if_neg h,if_neg (by omega)];simp only[St.emb];rw[List.getElem?_append_right (by omega),Nat.add_sub_cancel,bh];cases s.up[l]? with
  |none=>rfl
  |some L=>simp[AA.get_ren]
theorem YG{α:Type}(f:α->α)(M:List α)(l:Nat):∀(pre:List α),(pre++M).modify (l+pre.length) f=pre++M.modify l f
 |[]=>rfl
 |p::pre=>by have:=YG f M l pre;simp only[List.cons_append,List.length_cons,<-bn,List.modify_succ_cons,this]
theorem CK{l k g:Nat}{r:AZ}:(s.put l k g r).emb σ pre=(s.emb σ pre).put (l+pre.length) k (σ g) (r.ren σ pre.length):=by
 unfold St.put;rw[CZ];by_cases h:l=s.up.length
 ·rw[if_pos h,if_pos (by rw[h])];simp[St.emb,AA.ren,AA.put]
 ·rw[if_neg h,if_neg (by omega)];simp only[St.emb,St.mk.injEq,and_true];rw[YG];congr 1;refine List.ext_getElem? fun i=>?_;simp only[bh,List.getElem?_modify];by_cases hi:l=i
  ·subst hi;cases s.up[l]? with
   |none=>rfl
   |some L=>simp[AA.ren,AA.put]
  ·simp[hi]
theorem QS{u:Value}{v:V}(h:CH u=some v):v.ren σ δ=v:=by
 cases u with
 |int k n=>simp only[CH,bf.injEq]at h;subst h;simp
 |bool b=>simp only[CH,bf.injEq]at h;subst h;simp
 |agg cs=>simp[CH]at h
 |tuple cs=>simp[CH]at h
 |slice a n c=>
  unfold CH at h
  split at h<;>simp_all<;>subst h<;>simp
 |_=>simp only[CH,bf.injEq]at h;subst h;simp
theorem QT:∀{l:List Value} {cs:List V},GF l=some cs->cs.map (V.ren σ δ)=cs
 |[],cs,h=>by simp[GF]at h;subst h;rfl
 |v::r,cs,h=>by
  unfold GF at h;split at h
  ·rename_i x l h1 h2;cases h;simp[QS h1,QT h2]
  ·cases h
end Go.Pg
namespace Go.Pg
variable {P:Program}{σ:Nat->Nat}{δ:Nat}{pre:List AA}{s:St}{fr:Fr}{g:Bool}
theorem ACX(x:cm):rd (fr.ren σ δ) x=(rd fr x).map fun p=>(p.1,p.2.ren σ δ):=by
 cases x with
 |tmp t=>exact Fr.get_ren fr t
 |const u=>
  simp only[rd]
  cases h:CH u with
  |none=>rfl
  |some v=>simp[QS h]
 |func f=>simp[rd]
 |global g=>rfl
theorem C4(x:cm):DO g (fr.ren σ δ) x=(DO g fr x).map (V.ren σ δ):=by
 unfold DO;rw[ACX];cases rd fr x with
 |none=>rfl
 |some p=>
  obtain⟨c,v⟩:=p
  simp only[bw]
  split<;>rfl
theorem H1(v:V):A9 (v.ren σ δ)=A9 v:=by cases v<;>simp[A9]
theorem ED(v:V):A8 (v.ren σ δ)=(A8 v).map (V.ren σ δ):=by cases v<;>simp[A8]
theorem xM(v:V):weakC (v.ren σ δ)=(weakC v).ren σ δ:=by cases v<;>simp[weakC]
theorem TL(v:V):weakV (v.ren σ δ)=(weakV v).ren σ δ:=by cases v<;>simp[weakV,xM]
theorem UV{p:V}{cs:List V}(h:BA s p=some cs):BA (s.emb σ pre) (p.ren σ pre.length)=some (cs.map (V.ren σ pre.length)):=by
 cases p with
 |ref ds=>simp only[BA,bf.injEq]at h;subst h;simp[BA]
 |ptr l k γ off=>
  simp only[BA]at h
  split at h
  ·rename_i γ' ds e;split at h
   ·rename_i eg;cases h;simp[BA,BP,e,AZ.ren,eg,bz]
   ·cases h
  ·cases h
 |eptr l k γ i off=>
  simp only[BA]at h
  split at h
  ·rename_i γ' T es e;split at h
   ·rename_i eg;obtain⟨x,hx,rfl⟩:=bj.1 h;simp[BA,BP,e,AZ.ren,eg,hx,bz]
   ·cases h
  ·cases h
 |_=>cases h
theorem bZ{T:cg}{cs:List V}{v:V}(h:BJ P T cs=some v):BJ P T (cs.map (V.ren σ δ))=some (v.ren σ δ):=by
 unfold BJ at h|-;split at h
 ·split at h
  ·rename_i hc;cases h;simp[hc,bc]
  ·cases h
 ·split at h
  ·rename_i hc;cases h;simp[hc,bc]
  ·cases h
 ·simp only[bh,h,bw]
 ·cases h
theorem cA{U:cg}{cs:List V}{off:Nat}{v:V}(h:M5 P U cs off=some v):M5 P U (cs.map (V.ren σ δ)) off=some (v.ren σ δ):=by
 unfold M5 at h|-;split at h
 ·split at h
  ·rename_i hc;cases h;simp[hc,bc,bz]
  ·cases h
 ·split at h
  ·rename_i hc;cases h;simp[hc,bc,bz]
  ·cases h
 ·simp only[bh,h,bw]
 ·cases h
theorem kU{T:cg}{x v:V}{f:Nat}(h:JA P T x f=some v):JA P T (x.ren σ δ) f=some (v.ren σ δ):=by
 unfold JA at h;split at h
 ·rename_i cs U off e;simp[JA,e,cA h]
 ·cases h
theorem VH{T:cg}{x v:V}{f:Nat}(h:C8 P T x f=some v):C8 P T (x.ren σ δ) f=some (v.ren σ δ):=by
 unfold C8 at h;split at h
 ·rename_i U off e;split at h
  ·cases h
  ·rename_i hz;split at h<;>first
    |(cases h;done)
    |(cases h;simp[C8,e,hz,bz])
 ·cases h
theorem EU(es:List (List V))(j:Nat):(es.map (cd (V.ren σ δ))).getD j []=(es.getD j []).map (V.ren σ δ):=by simp only[List.getD_eq_getElem?_getD,bh];cases es[j]?<;>rfl
theorem VI{T:cg}{x i v:V}(h:BL P s T x i=some v):BL P (s.emb σ pre) T (x.ren σ pre.length) (i.ren σ pre.length)=some (v.ren σ pre.length):=by
 unfold BL at h;split at h
 ·rename_i e f es k j e1;split at h
  ·rename_i hc;cases h;obtain⟨c1,c2,c3,c4⟩:=hc;simp only[DY,D6,BL,e1,bg,EU,J8];rw[if_pos ⟨c1,c2,c3,c4⟩]
  ·cases h
 ·rename_i e l k γ n k' j e1;split at h
  ·rename_i γ' U es e2;split at h
   ·rename_i hc;cases h;obtain⟨c1,c2,c3,c4,c5,c6⟩:=hc;subst c1;simp only[HE,D6,BL,e1,BP,e2,bw,AZ.ren,bg,EU,NY];rw[if_pos ⟨trivial,c2,c3,c4,c5,c6⟩]
   ·cases h
  ·cases h
 ·rename_i n e cs k j e1;split at h
  ·rename_i hc;cases h;simp only[J8,D6,BL,e1,if_pos hc,bz]
  ·cases h
 ·rename_i n e l k γ o k' j e1;split at h
  ·rename_i hc;cases h;simp only[HD,D6,BL,e1,if_pos hc]
  ·cases h
 ·rename_i n e l k γ i' o k' j e1;split at h
  ·rename_i hc;cases h;simp only[NY,D6,BL,e1,if_pos hc]
  ·cases h
 ·cases h
theorem kV{T:cg}{x i v:V}(h:F8 P T x i=some v):F8 P T (x.ren σ δ) (i.ren σ δ)=some (v.ren σ δ):=by
 unfold F8 at h;split at h
 ·rename_i n e cs k j e1;split at h
  ·rename_i hc;simp only[E8,D6,F8,e1,if_pos hc,cA h]
  ·cases h
 ·rename_i b k j e1;split at h
  ·rename_i hc;obtain⟨c,hb,rfl⟩:=bj.1 h;simp only[AH9,D6,F8,e1,if_pos hc,hb,bw]
  ·cases h
 ·cases h
theorem pI{S D:cg}{x v:V}(h:LW P S D x=some v):LW P S D (x.ren σ δ)=some (v.ren σ δ):=by
 unfold LW at h;split at h
 ·rename_i e1 e2;cases h;simp[LW,e1,e2]
 ·cases h
theorem ACY{op:UnOp}{x v:V}(h:aE op x=some v):aE op (x.ren σ δ)=some (v.ren σ δ):=by unfold aE at h;split at h<;>first|(cases h;done)|(cases h;simp[aE])
theorem xN{x v:V}(h:M6 x=some v):M6 (x.ren σ δ)=some (v.ren σ δ):=by cases x<;>simp[M6]at h<;>subst h<;>simp[M6]
theorem aN{x v:V}{i:Nat}(h:FL x i=some v):FL (x.ren σ δ) i=some (v.ren σ δ):=by cases x<;>simp[FL]at h;simp[FL,h]
theorem xO{T:cg}{x v:V}(h:GK P T x=some v):GK P T (x.ren σ δ)=some (v.ren σ δ):=by
 unfold GK at h;split at h
 ·rename_i e f es hu;cases h;simp[GK,hu]
 ·rename_i e l k g n hu;cases h;simp[GK,hu]
 ·rename_i e hu;cases h;simp[GK,hu]
 ·rename_i n e hu;cases h;unfold GK;rw[hu];simp
 ·cases h
theorem AIA{n m:Nat}{h:Option V}(e:hiN n h=some m):hiN n (h.map (V.ren σ δ))=some m:=by
 cases h with
 |none=>exact e
 |some a=>cases a<;>first|(simp only[bw,D6];exact e)|(simp[hiN]at e)
theorem kX{T:cg}{x v:V}{lo hi mx:Option V}(h:CC P s T x lo hi mx=some v):CC P (s.emb σ pre) T (x.ren σ pre.length) (lo.map (V.ren σ pre.length)) (hi.map (V.ren σ pre.length)) (mx.map (V.ren σ pre.length))=some (v.ren σ pre.length):=by
 unfold CC at h;split at h
 ·rename_i e f es k h' e1;split at h
  ·rename_i hc;cases h;simp only[DY,bw,D6,bp,CC,e1,bg,if_pos hc,bc]
  ·cases h
 ·rename_i e f es k l e1;split at h
  ·rename_i hc;cases h;have:(es.map (cd (V.ren σ pre.length))).all (fun x=>x.length==P.cellsOf e)=true:=by rw[cq];exact hc.2.2.2▸(by congr 1;funext x;simp)
   simp only[DY,bw,D6,bp,CC,e1,bg,if_pos (⟨hc.1,hc.2.1,hc.2.2.1,this⟩:_/\_/\_/\_),bz]
  ·cases h
 ·rename_i e f es k l k' h' e1;split at h
  ·rename_i hc;cases h;have:(es.map (cd (V.ren σ pre.length))).all (fun x=>x.length==P.cellsOf e)=true:=by rw[cq];exact hc.2.2.2.2▸(by congr 1;funext x;simp)
   simp only[DY,bw,D6,bp,CC,e1,bg,if_pos (⟨hc.1,hc.2.1,hc.2.2.1,hc.2.2.2.1,this⟩:_/\_/\_/\_/\_),bz,bc]
  ·cases h
 ·rename_i e f es k h' k' m e1;split at h
  ·rename_i hc;cases h;simp only[DY,bw,D6,bp,CC,e1,if_pos hc,List.map_nil]
  ·cases h
 ·rename_i e l k g n k' h' e1;split at h
  ·rename_i hc;cases h;simp only[HE,bw,D6,bp,CC,e1,if_pos hc]
  ·cases h
 ·rename_i e l k g n k' i e1;split at h
  ·rename_i g' T' es hget;split at h
   ·rename_i hc;obtain⟨rfl,h1,h2,h3,h4,h5⟩:=hc;cases h;have:(es.map (cd (V.ren σ pre.length))).all (fun x=>x.length==P.cellsOf e)=true:=by rw[cq];exact h1▸(by congr 1;funext x;simp)
    simp only[HE,WE,bw,D6,bp,CC,e1,BP,hget,AZ.ren];rw[if_pos ⟨trivial,this,by simpa using h2,h3,h4,h5⟩]
   ·cases h
  ·cases h
 ·rename_i n e l k g o e1;split at h
  ·rename_i g' cs m hget hm;split at h
   ·rename_i hc;obtain⟨rfl,h1,h2⟩:=hc;cases h;simp only[HD,WE,bp,CC,e1,BP,hget,AZ.ren,bw,AIA hm];rw[if_pos ⟨trivial,h1,by simpa using h2⟩]
   ·cases h
  ·cases h
 ·cases h
theorem xP{x y v:V}(h:RR x y=some v):RR (x.ren σ δ) (y.ren σ δ)=some (v.ren σ δ):=by
 unfold RR at h;split at h
 ·split at h
  ·rename_i hk;cases h;simp[RR,hk]
  ·cases h
 ·cases h
theorem xQ{x y v:V}(h:RS x y=some v):RS (x.ren σ δ) (y.ren σ δ)=some (v.ren σ δ):=by
 unfold RS at h;split at h
 ·split at h
  ·rename_i hk;cases h;simp[RS,hk]
  ·cases h
 ·cases h
theorem xR{op:BinOp}{k:IntKind}{a b:Int}{v:V}(h:EL op k a b=some v):v.ren σ δ=v:=by
 unfold EL at h;split at h<;>first
  |(cases h;simp;done)
  |(split at h<;>first|(cases h;done)|(cases h;simp;done))
  |(obtain⟨r,_,rfl⟩:=bj.1 h;simp)
theorem MI:∀(cs:List V),DJ (cs.map (V.ren σ δ))=DJ cs
 |[]=>rfl
 |c::cs=>by have ih:=MI cs;cases c<;>simp[DJ,ih]
theorem ACZ{op:BinOp}{k:IntKind}{a b:Int}{v:V}(h:aD op k a b=some v):v.ren σ δ=v:=by
 cases op<;>simp only[aD]at h;case shl=>split at h<;>cases h;simp
 case shr=>split at h<;>cases h;simp
 all_goals cases h
theorem xS{op:BinOp}{T:cg}{x y v:V}(h:FZ P op T x y=some v):FZ P op T (x.ren σ δ) (y.ren σ δ)=some (v.ren σ δ):=by
 unfold FZ at h;split at h
 ·split at h
  ·rename_i hk;simp only[D6,FZ,if_pos hk,h,xR h]
  ·rename_i hk;simp only[D6,FZ,if_neg hk,h,ACZ h]
 ·split at h
  ·rename_i hk;have hv:v.ren σ δ=v:=by split at h<;>first|(cases h;done)|(cases h;simp)
   rw[hv];simp only[K4,FZ,if_pos hk];exact h
  ·cases h
 ·rename_i cs ds;have he:QK P T (cs.map (V.ren σ δ)) (ds.map (V.ren σ δ))=QK P T cs ds:=by unfold QK;rw[MI,MI]
  have hv:v.ren σ δ=v:=by
   split at h
   ·obtain⟨r,_,rfl⟩:=bj.1 h;simp
   ·obtain⟨r,_,rfl⟩:=bj.1 h;simp
   ·cases h
  rw[hv];simp only[E8,FZ,he];exact h
 ·rename_i x' _;have hi:HZ (x.ren σ δ)=HZ x:=by
   cases x with
   |list f es=>cases es<;>simp[HZ]
   |vec l k g n=>cases n<;>simp[HZ]
   |vtl l k g i n=>cases n<;>simp[HZ]
   |_=>simp[HZ]
  have hb:∀y:V,FZ P op T y .nil=if DW P T then(match op with
   |.eql=>(HZ y).map V.bool
   |.neq=>(HZ y).map fun b=>V.bool !b
   | _=>none) else none:=fun y=>by cases y <;> rfl
  have hv:v.ren σ δ=v:=by
   split at h
   ·split at h
    ·obtain⟨r,_,rfl⟩:=bj.1 h;simp
    ·obtain⟨r,_,rfl⟩:=bj.1 h;simp
    ·cases h
   ·cases h
  rw[hv,tR,hb,hi];exact h
 ·cases h
theorem TM:∀{cs:List V} {l:List Value},DJ cs=some l->cs.map (V.ren σ δ)=cs
 |[],_,_=>rfl
 |c::cs,l,h=>by
  cases c with
  |int k n=>
   simp only[DJ]at h
   split at h
   ·rename_i r hr;simp[TM hr]
   ·cases h
  |bool b=>
   simp only[DJ]at h
   split at h
   ·rename_i r hr;simp[TM hr]
   ·cases h
  |_=>simp[DJ]at h
theorem YH{K:cg}(v:V):PQ P K (v.ren σ δ)=PQ P K v:=by
 cases v with
 |agg cs=>
  simp only[E8,PQ,MI]
  split
  ·rename_i l hl;rw[TM hl]
  ·rfl
 |_=>simp[PQ]
theorem TN{K:cg}{ks:List V}:∀(es:List (V×V)) (i:Nat),HP P K ks (es.map fun p=>(p.1.ren σ δ,p.2.ren σ δ)) i=HP P K ks es i
 |[],_=>rfl
 |(k,v)::es,i=>by simp only[br,HP,YH,TN es]
theorem pJ{T:cg}{z:V}(h:QL P T=some z):z.ren σ δ=z:=by
 unfold QL at h;split at h
 ·split at h
  ·rename_i cs hz;cases h;simp[QT hz]
  ·cases h
 ·exact QS h
 ·cases h
theorem eY{T:cg}{x k v:V}{ok:Bool}(h:CM P s T x k ok=some v):CM P (s.emb σ pre) T (x.ren σ pre.length) (k.ren σ pre.length) ok=some (v.ren σ pre.length):=by
 unfold CM at h;split at h
 ·rename_i K E l q g hm;split at h
  ·rename_i g' es hget;split at h
   ·rename_i hc;obtain⟨rfl,hT⟩:=hc;split at h
    ·rename_i ks hks;simp only[MF,CM,hm,BP,hget,bw,AZ.ren,YH,hks,TN,if_pos (⟨trivial,hT⟩:True/\_)];split at h
     ·rename_i hf;obtain⟨z,hz,rfl⟩:=bj.1 h;simp only[hz,bw];cases ok<;>simp[pJ hz]
     ·rename_i i hf;obtain⟨e,he,rfl⟩:=bj.1 h;simp only[bh,he,bw];cases ok<;>simp
     ·cases h
    ·cases h
   ·cases h
  ·cases h
 ·cases h
theorem TO{T:cg}{x k v:V}{l q γ:Nat}{es:List (V×V)}(h:IE P s T x k v=some (l,q,γ,es)):IE P (s.emb σ pre) T (x.ren σ pre.length) (k.ren σ pre.length) (v.ren σ pre.length)=some (l+pre.length,q,σ γ,es.map fun p=>(p.1.ren σ pre.length,p.2.ren σ pre.length)):=by
 unfold IE at h;split at h
 ·rename_i K E l q g hm;split at h
  ·rename_i g' es hget;split at h
   ·rename_i hc;obtain⟨rfl,hT⟩:=hc;split at h
    ·rename_i ks hks;simp only[MF,IE,hm,BP,hget,bw,AZ.ren,YH,hks,TN,if_pos (⟨trivial,hT⟩:True/\_)];split at h
     ·rename_i hf;cases h;simp
     ·rename_i i hf;cases h;simp[List.map_set]
     ·cases h
    ·cases h
   ·cases h
  ·cases h
 ·cases h
theorem HF{r:cm->Option V}:∀{l:List cm} {vs:List V},l.mapM r=some vs->l.mapM (fun x=>(r x).map (V.ren σ δ))=some (vs.map (V.ren σ δ))
 |[],vs,h=>by simp at h;subst h;rfl
 |x::l,vs,h=>by simp only[ck,bt,bq,cz,bf.injEq]at h;obtain⟨v,h1,us,h2,rfl⟩:=h;simp[h1,HF h2]
theorem AIB{o:Oper}{r:cm->Option V}{v:V}(h:IU P o s r=some v):IU P o (s.emb σ pre) (fun x=>(r x).map (V.ren σ pre.length))=some (v.ren σ pre.length):=by
 unfold IU at h|-;split at h<;>(try simp only[bq]at h);case h_1=>simp[h]
 case h_2=>simp[h]
 case h_3=>obtain⟨a,h1,h2⟩:=h;simp[h1,xN h2]
 case h_4=>obtain⟨a,h1,b,h2,h3⟩:=h;simp[h1,UV h2,bZ h3]
 case h_5=>obtain⟨a,h1,b,h2,h3⟩:=h;simp[h1,h2,xS h3]
 case h_6=>obtain⟨a,h1,h2⟩:=h;simp[h1,ACY h2]
 case h_7=>obtain⟨a,h1,h2⟩:=h;simp[h1,pI h2]
 case h_8=>obtain⟨a,h1,h2⟩:=h;simp[h1,VH h2]
 case h_9=>obtain⟨a,h1,h2⟩:=h;simp[h1,kU h2]
 case h_10=>obtain⟨a,h1,b,h2,h3⟩:=h;simp[h1,h2,VI h3]
 case h_11=>obtain⟨a,h1,b,h2,h3⟩:=h;simp[h1,h2,kV h3]
 case h_12=>obtain⟨a,h1,h2⟩:=h;simp[h1,aN h2]
 case h_13=>
  split at h
  ·rename_i e1 e2;simp only[bq]at h;obtain⟨a,h1,h2⟩:=h;simp[h1,xO h2]
  ·cases h
 case h_14=>
  split at h
  ·simp only[bq]at h;obtain⟨a,h1,b,h2,h3⟩:=h;simp[h1,h2,xP h3]
  ·cases h
 case h_15=>
  split at h
  ·simp only[bq]at h;obtain⟨a,h1,b,h2,h3⟩:=h;simp[h1,h2,xQ h3]
  ·cases h
 case h_16 T x lo hi mx ho=>
  obtain⟨a,h1,l,h2,u,h3,m,h4,h5⟩:=h
  have key:∀(z:Option cm) (q:Option V),(match z with|none=>some none|some y=>(r y).map some)=some q->(z=none/\q=none)\/∃y b,z=some y/\r y=some b/\q=some b:=by
   intro z q hz;cases z with
   |none=>cases hz;exact .inl ⟨rfl,rfl⟩
   |some y=>
    obtain⟨b,hb,rfl⟩:=bj.1 hz
    exact .inr ⟨y,b,rfl,hb,rfl⟩
  have h6:=kX (σ:=σ) (pre:=pre) h5
  rcases key lo l h2 with⟨rfl,rfl⟩|⟨y1,b1,rfl,q1,rfl⟩<;>rcases key hi u h3 with⟨rfl,rfl⟩|⟨y2,b2,rfl,q2,rfl⟩<;>rcases key mx m h4 with⟨rfl,rfl⟩|⟨y3,b3,rfl,q3,rfl⟩<;>simp_all
 case h_17=>obtain⟨a,h1,b,h2,h3⟩:=h;simp[h1,h2,eY h3]
 case h_18 f first captured ho=>
  obtain⟨a,h1,b,h2,h3⟩:=h
  cases h3
  simp[HF h1,HF h2]
 case h_19=>cases h
end Go.Pg
namespace Go.Pg
variable {P:Program}{σ:Nat->Nat}{δ:Nat}{pre:List AA}{s:St}{fr:Fr}{g:Bool}
theorem GM{T:cg}{z:List V}(h:BZ P T=some z):z.map (V.ren σ δ)=z:=by
 unfold BZ at h;split at h
 ·exact QT h
 ·cases h
theorem C9{α β:Type}(f:α->β)(cs ds:List α)(off:Nat):A6 (cs.map f) off (ds.map f)=(A6 cs off ds).map f:=by simp[A6,bc,bz]
theorem O4{place:Nat->Option (Nat×Nat)}:∀{ps:List (Nat×V)} {cs ds:List V},CX place cs ps=some ds->CX place (cs.map (V.ren σ δ)) (ps.map fun p=>(p.1,p.2.ren σ δ))=some (ds.map (V.ren σ δ))
 |[],cs,ds,h=>by simp[CX]at h;subst h;rfl
 |(i,v)::r,cs,ds,h=>by
  simp only[CX]at h;split at h
  ·cases h
  ·rename_i off size e;split at h
   ·rename_i hc;have:=O4 h;simp only[br,CX,e,ED,bg];rw[if_pos hc,C9];exact this
   ·cases h
theorem MJ(ps:List (Nat×V)):((ps.map fun p=>(p.1,p.2.ren σ δ)).all fun p=>A9 p.2)=ps.all fun p=>A9 p.2:=by rw[cq];congr 1;funext p;exact H1 p.2
theorem kY{T:cg}{ps:List (Nat×V)}{v:V}(h:CO P T ps=some v):CO P T (ps.map fun p=>(p.1,p.2.ren σ δ))=some (v.ren σ δ):=by
 unfold CO at h|-;split at h
 ·rename_i z fs e1 e2;simp only[MJ];split at h
  ·rename_i hc;obtain⟨cs,h1,rfl⟩:=bj.1 h;have:=O4 (σ:=σ) (δ:=δ) h1;rw[GM e1]at this;rw[if_pos hc,this];simp
  ·cases h
 ·rename_i z n e e1 e2;simp only[MJ];split at h
  ·rename_i hc;obtain⟨cs,h1,rfl⟩:=bj.1 h;have:=O4 (σ:=σ) (δ:=δ) h1;rw[GM e1]at this;rw[if_pos hc,this];simp
  ·cases h
 ·cases h
theorem YI{β:Type}(f:V->V)(size:Nat):∀(n:Nat) (cs:List V),CI size (cs.map f) n=(CI size cs n).map (cd f)
 |0,_=>rfl
 |n+1,cs=>by simp only[CI,br,bc];rw[<-bz,YI (β:=β) f size n]
theorem TP{T:cg}{len:Nat}{ps:List (Nat×V)}{v:V}(h:B5 P T len ps=some v):B5 P T len (ps.map fun p=>(p.1,p.2.ren σ δ))=some (v.ren σ δ):=by
 unfold B5 at h|-;split at h
 ·rename_i e e1;split at h
  ·rename_i z e2;split at h
   ·rename_i hc;obtain⟨cs,h1,rfl⟩:=bj.1 h;have:=O4 (σ:=σ) (δ:=δ) h1;have hz:(List.replicate len z).flatten.map (V.ren σ δ)=(List.replicate len z).flatten:=by rw[List.map_flatten,List.map_replicate,GM e2]
    rw[hz]at this;simp only[MJ];rw[if_pos hc,this];simp[YI (β:=Nat)]
   ·cases h
  ·cases h
 ·cases h
theorem QU{r:cm->Option V}:∀{l:List (Nat×cm)} {ps:List (Nat×V)},DA r l=some ps->DA (fun x=>(r x).map (V.ren σ δ)) l=some (ps.map fun p=>(p.1,p.2.ren σ δ))
 |[],ps,h=>by simp[DA]at h;subst h;rfl
 |(i,x)::l,ps,h=>by
  simp only[DA]at h;split at h
  ·rename_i v us h1 h2;cases h;simp[DA,h1,QU h2]
  ·cases h
theorem GN{v:V}{es:List (List V)}(h:elemsOf s v=some es):elemsOf (s.emb σ pre) (v.ren σ pre.length)=some (es.map (cd (V.ren σ pre.length))):=by
 cases v with
 |list f ds=>simp only[elemsOf,bf.injEq]at h;subst h;simp[elemsOf]
 |vec l k γ n=>
  simp only[elemsOf]at h
  split at h
  ·rename_i γ' T ds e;split at h
   ·rename_i hc;cases h;simp[elemsOf,BP,e,AZ.ren,hc.1,hc.2,bc]
   ·cases h
  ·cases h
 |vtl l k γ i n=>
  simp only[elemsOf]at h
  split at h
  ·rename_i γ' cs e;split at h
   ·rename_i hc;cases h;simp[elemsOf,BP,e,AZ.ren,hc.1,hc.2,bc,bz,Function.comp_def]
   ·cases h
  ·cases h
 |nil=>simp only[elemsOf,bf.injEq]at h;subst h;simp[elemsOf]
 |raw v=>cases v with
  |slice a n c=>cases n with
   |zero=>cases h;simp[elemsOf]
   |succ n=>cases h
  |_=>cases h
 |_=>cases h
theorem H7:DO g (fr.ren σ δ)=fun x=>(DO g fr x).map (V.ren σ δ):=by funext x;exact C4 x
theorem pK{T:cg}{xv yv v:V}(h:NN P T xv yv=some v):NN P T (xv.ren σ δ) (yv.ren σ δ)=some (v.ren σ δ):=by
 unfold NN at h;split at h
 ·rename_i e ys hel hy;split at h
  ·rename_i hc;cases h;have hr:ALN (yv.ren σ δ)=some (ys.map (cd (V.ren σ δ))):=by
    cases yv with
    |list b es=>cases hy;simp only[DY];rfl
    |nil=>cases hy;simp only[tR];rfl
    |_=>cases hy
   unfold NN;simp only[hel,DY,List.map_nil,hr];rw[if_pos];refine⟨hc.1,?_,by rw[bg];exact hc.2.2.1,by rw[bg];exact hc.2.2.2⟩;rw[cq];have:=hc.2.1;simpa [Function.comp_def]using this
  ·cases h
 ·cases h
theorem AC0{o:Oper}{args:Array cm}{Ts:Array cg}{v:V}(h:appS P g o args Ts fr=some v):appS P g o args Ts (fr.ren σ δ)=some (v.ren σ δ):=by
 unfold appS at h|-;split at h
 ·split at h
  ·rename_i hc;obtain⟨xv,h1,h⟩:=bq.1 h;obtain⟨yv,h2,h⟩:=bq.1 h;rw[if_pos hc,C4,h1,C4,h2];exact pK h
  ·cases h
 ·cases h
theorem IL{o:Oper}{v:V}(h:FD P g o fr s=some v):FD P g o (fr.ren σ pre.length) (s.emb σ pre)=some (v.ren σ pre.length):=by
 unfold FD at h|-;split at h
 ·rename_i c x y ho;split at h
  ·rename_i c' ca va cb vb e1 e2 e3;split at h
   ·rename_i hc;cases h;simp only[C4,ACX,e1,e2,e3,bw,K4];rw[if_pos hc]
   ·cases h
  ·cases h
 ·rename_i T parts ho;obtain⟨ps,h1,h2⟩:=bq.1 h;rw[H7,QU h1];exact kY h2
 ·rename_i T len parts ho;obtain⟨ps,h1,h2⟩:=bq.1 h;rw[H7,QU h1];exact TP h2
 ·exact AC0 h
 ·rw[H7];exact AIB h
def AX(s:St):Nat->V->Option V
 |0,_=>none
 |f+1,v=>match v with
  |.list _ es=>some (.list false es)
  | .vec l k g m=>if l=s.up.length then(match s.loc.get k with
    |some (g',.vec _ es)=>if g'=g/\m<=es.length then some (.list false (es.take m)) else none
    | _=>none) else some v
  | .ptr l k g off=>if l=s.up.length then(match s.loc.get k with
    |some (g',.box cs)=>if g'=g then(cs.mapM (AX s f)).map fun ds=>.ref (ds.drop off) else none
    | _=>none) else some v
  |.agg cs=>(cs.mapM (AX s f)).map .agg
  |.tup cs=>(cs.mapM (AX s f)).map .tup
  |.fn g xs ys=>match xs.mapM (AX s f),ys.mapM (AX s f)with
   |some a,some b=>some (.fn g a b)
   |_,_=>none
  |v=>some v
theorem GO{α β:Type}{f:α->Option β}{g:α->β}(h:∀x y,f x=some y->g x=y):∀{l:List α} {r:List β},l.mapM f=some r->l.map g=r
 |[],r,e=>by simp at e;subst e;rfl
 |x::l,r,e=>by simp only[ck,bt,bq,cz,bf.injEq]at e;obtain⟨y,h1,ys,h2,rfl⟩:=e;simp[h x y h1,GO h h2]
theorem N3:∀(f:Nat) {v r:V},AX s f v=some r->DF s f v=r
 |0,v,r,h=>by cases h
 |f+1,v,r,h=>by
  have ih:=fun v r=>N3 f (v:=v) (r:=r);cases v with
  |list b es=>simpa [AX,DF]using h
  |vec l k g m=>
   simp only[AX]at h
   simp only[DF]
   split at h
   ·rename_i hl;rw[if_pos hl];split at h
    ·rename_i g' T es e;split at h
     ·rename_i hc;rw[e];simp only[if_pos hc];exact bf.inj h
     ·cases h
    ·cases h
   ·rename_i hl;rw[if_neg hl];exact bf.inj h
  |ptr l k g off=>
   simp only[AX]at h
   simp only[DF]
   split at h
   ·rename_i hl;rw[if_pos hl];split at h
    ·rename_i g' cs e;split at h
     ·rename_i hc;obtain⟨ds,h1,rfl⟩:=bj.1 h;rw[e];simp only[if_pos hc,GO ih h1]
     ·cases h
    ·cases h
   ·rename_i hl;rw[if_neg hl];exact bf.inj h
  |agg cs=>
   obtain⟨ds,h1,rfl⟩:=bj.1 h
   simp only[DF,GO ih h1]
  |tup cs=>
   obtain⟨ds,h1,rfl⟩:=bj.1 h
   simp only[DF,GO ih h1]
  |fn g xs ys=>
   simp only[AX]at h
   split at h
   ·rename_i a b h1 h2;cases h;simp only[DF,GO ih h1,GO ih h2]
   ·cases h
  |_=>simpa [AX,DF]using h
theorem FO{f f':V->Option V}(h:∀v r,f v=some r->f' (v.ren σ δ)=some (r.ren σ δ)):∀{l r:List V},l.mapM f=some r->(l.map (V.ren σ δ)).mapM f'=some (r.map (V.ren σ δ))
 |[],r,e=>by simp at e;subst e;rfl
 |x::l,r,e=>by simp only[ck,bt,bq,cz,bf.injEq]at e;obtain⟨y,h1,ys,h2,rfl⟩:=e;simp[h x y h1,FO h h2]
theorem J9(k:Nat):(s.emb σ pre).loc.get k=(s.loc.get k).map fun p=>(σ p.1,p.2.ren σ pre.length):=AA.get_ren _ _
theorem JP:∀(f:Nat) {v r:V},AX s f v=some r->AX (s.emb σ pre) f (v.ren σ pre.length)=some (r.ren σ pre.length)
 |0,v,r,h=>by cases h
 |f+1,v,r,h=>by
  have ih:=fun v r=>JP f (v:=v) (r:=r);cases v with
  |list b es=>simp only[AX,bf.injEq]at h;subst h;simp[AX]
  |vec l k g m=>
   simp only[AX]at h
   split at h
   ·rename_i hl;split at h
    ·rename_i g' T es e;split at h
     ·rename_i hc;cases h;simp[AX,CZ,J9,hl,e,AZ.ren,hc.1,hc.2,bc]
     ·cases h
    ·cases h
   ·rename_i hl;cases h;have:¬l+pre.length=s.up.length+pre.length:=by omega
    simp[AX,CZ,hl]
  |ptr l k g off=>
   simp only[AX]at h
   split at h
   ·rename_i hl;split at h
    ·rename_i g' cs e;split at h
     ·rename_i hc;obtain⟨ds,h1,rfl⟩:=bj.1 h;have:=FO ih h1;simp[AX,CZ,J9,hl,e,AZ.ren,hc,this,bz]
     ·cases h
    ·cases h
   ·rename_i hl;cases h;simp[AX,CZ,hl]
  |agg cs=>
   obtain⟨ds,h1,rfl⟩:=bj.1 h
   simp[AX,FO ih h1]
  |tup cs=>
   obtain⟨ds,h1,rfl⟩:=bj.1 h
   simp[AX,FO ih h1]
  |fn g xs ys=>
   simp only[AX]at h
   split at h
   ·rename_i a b h1 h2;cases h;simp[AX,FO ih h1,FO ih h2]
   ·cases h
  |_=>simp only[AX,bf.injEq]at h;subst h;simp[AX]
def BT(s:St)(v:V):Option V:=match v with
 |.list f es=>some (.list f es)
 |.int k n=>some (.int k n)
 |.bool b=>some (.bool b)
 |v=>AX s 4 v
theorem JC{v r:V}(h:BT s v=some r):FC s v=r:=by
 unfold BT at h;unfold FC;split at h
 ·simpa using h
 ·simpa [DF]using h
 ·simpa [DF]using h
 ·rename_i h1 h2 h3;split
  ·rename_i f es;exact absurd rfl (h1 f es)
  ·exact N3 4 h
theorem UW{v:V}(h1:∀f es,v≠.list f es)(h2:∀k n,v≠.int k n)(h3:∀b,v≠.bool b):BT s v=AX s 4 v:=by
 unfold BT;split
 ·rename_i f es;exact absurd rfl (h1 f es)
 ·rename_i k n;exact absurd rfl (h2 k n)
 ·rename_i b;exact absurd rfl (h3 b)
 ·rfl
theorem KA{v r:V}(h:BT s v=some r):BT (s.emb σ pre) (v.ren σ pre.length)=some (r.ren σ pre.length):=by
 by_cases h1:∃f es,v=.list f es
 ·obtain⟨f,es,rfl⟩:=h1;simp only[BT,bf.injEq]at h;subst h;simp[BT]
 by_cases h2:∃k n,v=.int k n
 ·obtain⟨k,n,rfl⟩:=h2;simp only[BT,bf.injEq]at h;subst h;simp[BT]
 by_cases h3:∃b,v=.bool b
 ·obtain⟨b,rfl⟩:=h3;simp only[BT,bf.injEq]at h;subst h;simp[BT]
 rw[UW (fun f es e=>h1 ⟨f,es,e⟩) (fun k n e=>h2 ⟨k,n,e⟩) (fun b e=>h3 ⟨b,e⟩)]at h;rw[UW (fun f es e=>by cases v<;>simp at e;exact h1 ⟨_,_,rfl⟩) (fun k n e=>by cases v<;>simp at e;exact h2 ⟨_,_,rfl⟩) (fun b e=>by cases v<;>simp at e;exact h3 ⟨_,rfl⟩)];exact JP 4 h
def GP{α β:Type}(f:α->Option β):List α->Option (List β)
 |[]=>some []
 |x::l=>match f x with
  |some y=>match GP f l with
   |some r=>some (y::r)
   |none=>none
  |none=>none
theorem K5{α β:Type}{f:α->Option β}{g:α->β}(h:∀x y,f x=some y->g x=y):∀{l:List α} {r:List β},GP f l=some r->l.map g=r
 |[],r,e=>by cases e;rfl
 |x::l,r,e=>by
  simp only[GP]at e;split at e
  ·rename_i y hy;split at e
   ·rename_i q hq;cases e;simp[h _ _ hy,K5 h hq]
   ·cases e
  ·cases e
theorem K6{α β:Type}{f f':α->Option β}{a:α->α}{b:β->β}(h:∀x y,f x=some y->f' (a x)=some (b y)):∀{l:List α} {r:List β},GP f l=some r->GP f' (l.map a)=some (r.map b)
 |[],r,e=>by cases e;rfl
 |x::l,r,e=>by
  simp only[GP]at e;split at e
  ·rename_i y hy;split at e
   ·rename_i q hq;cases e;simp[GP,h _ _ hy,K6 h hq]
   ·cases e
  ·cases e
def BO(s:St)(r:AZ):Option AZ:=match r with
 |.box cs=>match GP (BT s) cs with
  |some ds=>some (.box ds)
  |none=>none
 |.vec T es=>match GP (GP (BT s)) es with
  |some ds=>some (.vec T ds)
  |none=>none
 | .map es=>match GP (fun e:V×V=>match BT s e.1,BT s e.2 with
   |some a,some b=>some (a,b)
   | _,_=>none) es with
  |some ds=>some (.map ds)
  |none=>none
 |r=>some r
def BN(s:St)(r:AZ):AZ:=match BO s r with
 |some r'=>r'
 |none=>r
theorem YJ{r r':AZ}(h:BO s r=some r'):r'=r\/r'=G7 s r:=by
 unfold BO at h;split at h
 ·split at h
  ·rename_i ds hd;cases h;exact .inr (by simp only[G7,K5 (fun x y=>JC) hd])
  ·cases h
 ·split at h
  ·rename_i ds hd;cases h;exact .inr (by simp only[G7,K5 (fun x y=>K5 (fun x y=>JC)) hd])
  ·cases h
 ·split at h
  ·rename_i ds hd;cases h;refine .inr ?_;simp only[G7];rw[K5 (g:=fun e=>(FC s e.1,FC s e.2)) (fun x y h=>?_) hd];split at h
   ·rename_i a b h1 h2;cases h;rw[JC h1,JC h2]
   ·cases h
  ·cases h
 ·cases h;exact .inl rfl
theorem KQ{r r':AZ}(h:BO s r=some r'):BO (s.emb σ pre) (r.ren σ pre.length)=some (r'.ren σ pre.length):=by
 cases r with
 |box cs=>
  simp only[BO]at h
  split at h
  ·rename_i ds hd;cases h;simp[BO,AZ.ren,K6 (fun x y=>KA (σ:=σ) (pre:=pre)) hd]
  ·cases h
 |vec T es=>
  simp only[BO]at h
  split at h
  ·rename_i ds hd;cases h;simp[BO,AZ.ren,K6 (fun x y=>K6 (fun x y=>KA (σ:=σ) (pre:=pre))) hd]
  ·cases h
 |map es=>
  simp only[BO]at h
  split at h
  ·rename_i ds hd;cases h;have:=K6 (f':=fun e:V×V=>match BT (s.emb σ pre) e.1,BT (s.emb σ pre) e.2 with
    |some a,some b=>some (a,b)
    | _,_=>none) (a:=fun p:V×V=>(p.1.ren σ pre.length,p.2.ren σ pre.length)) (b:=fun p:V×V=>(p.1.ren σ pre.length,p.2.ren σ pre.length)) (fun x y h=>by
     split at h
     ·rename_i a b h1 h2;cases h;simp[KA h1,KA h2]
     ·cases h) hd
   simp[BO,AZ.ren,this]
  ·cases h
 |loop fr ps asg body N st=>simp only[BO,bf.injEq]at h;subst h;rfl
 |dead=>simp only[BO,bf.injEq]at h;subst h;rfl
theorem kZ(r:AZ):(BN s r).ren σ pre.length=r.ren σ pre.length\/(BN s r).ren σ pre.length=G7 (s.emb σ pre) (r.ren σ pre.length):=by
 unfold BN;split
 ·rename_i r' h;rcases YJ (KQ (σ:=σ) (pre:=pre) h)with h'|h'
  ·exact .inl h'
  ·exact .inr h'
 ·exact .inl rfl
def AO(s:St)(L:AA):AA:=L.map fun p=>(p.1,p.2.1,BN s p.2.2)
theorem MK(s:St):∀(L:AA) (k:Nat),(AO s L).get k=(L.get k).map fun p=>(p.1,BN s p.2)
 |[],k=>rfl
 |(j,x)::L,k=>by
  have:=MK s L k;simp only[AO,br,AA.get]at this|-;split
  ·rfl
  ·exact this
theorem pL{rv:ResultVar}{v:V}(h:DK P fr s rv=some v):DK P (fr.ren σ pre.length) (s.emb σ pre) rv=some (v.ren σ pre.length):=by
 cases rv with
 |tmp t=>
  simp only[DK]at h|-
  split at h
  ·rename_i e;cases h;simp[Fr.get_ren,e]
  ·cases h
 |cell ad T=>
  simp only[DK]at h|-
  split at h
  ·rename_i p e;obtain⟨cs,h1,h2⟩:=bq.1 h;simp[Fr.get_ren,e,UV h1,bZ h2]
  ·cases h
theorem N4{rs:List ResultVar}{v:V}(h:FT P rs fr s=some v):FT P rs (fr.ren σ pre.length) (s.emb σ pre)=some (v.ren σ pre.length):=by
 have key:∀{rs:List ResultVar} {vs:List V},rs.mapM (DK P fr s)=some vs->rs.mapM (DK P (fr.ren σ pre.length) (s.emb σ pre))=some (vs.map (V.ren σ pre.length)):=by
  intro rs;induction rs with
  |nil=>intro vs e;simp at e;subst e;rfl
  |cons x l ih=>
   intro vs e
   simp only[ck,bt,bq,cz,bf.injEq]at e
   obtain⟨y,h1,ys,h2,rfl⟩:=e
   simp[pL h1,ih h2]
 unfold FT at h|-;split at h
 ·rename_i x e;cases h;rw[key e];rfl
 ·rename_i vs hne e;cases h;rw[key e];cases vs with
  |nil=>simp
  |cons a r=>
   cases r with
   |nil=>exact absurd rfl (hne a)
   |cons b r=>simp
 ·cases h
theorem O5:∀(i:Nat) (vs:List V),AH i (vs.map (V.ren σ δ))=(AH i vs).ren σ δ
 |_,[]=>rfl
 |i,v::vs=>by simp[AH,Fr.ren,O5 (i+1) vs]
end Go.Pg
