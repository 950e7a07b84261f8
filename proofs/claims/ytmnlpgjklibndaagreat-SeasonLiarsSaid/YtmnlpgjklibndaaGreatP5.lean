/- Names and levels turned into others: what the operations give turns with them. No program in sight. -/
import Derived.Test.YtmnlpgjklibndaaGreatP4
noncomputable section
open Go renaming TypeId->cg,Operand->cm
open Option renaming map_eq_some_iff->bj,bind_eq_some_iff->bq,map_some->bw,some->bf,map_none->bp,bind_eq_bind->bt,pure_def->cz
open List renaming map_congr_left->bx,map_drop->bz,map_take->bc,length_map->bg,getElem?_map->bh,map_cons->br,map_map->cj,mapM_cons->ck,all_map->cq,sizeOf_lt_of_mem->cx,map->cd
open Nat renaming add_assoc->bn
namespace Go.Pg
variable {P:Program}
variable {σ σ':Nat->Nat}{δ:Nat}
theorem OH:∀(l:List V),ZL σ δ l=l.map (V.ren σ δ)
 |[]=>by simp[ZL]
 |v::r=>by simp[ZL,OH r]
theorem iZ:∀(l:List (List V)),iN σ δ l=l.map (cd (V.ren σ δ))
 |[]=>by simp[iN]
 |v::r=>by simp[iN,OH,iZ r]
@[simp] theorem DU(k:IntKind)(n:Int):(V.int k n).ren σ δ=.int k n:=by simp[V.ren]
@[simp] theorem KN(b:Bool):(V.bool b).ren σ δ=.bool b:=by simp[V.ren]
@[simp] theorem AGW(v:Value):(V.raw v).ren σ δ=.raw v:=by simp[V.ren]
@[simp] theorem E0(cs:List V):(V.agg cs).ren σ δ=.agg (cs.map (V.ren σ δ)):=by simp[V.ren,OH]
@[simp] theorem GU(cs:List V):(V.tup cs).ren σ δ=.tup (cs.map (V.ren σ δ)):=by simp[V.ren,OH]
@[simp] theorem DR(f:Bool)(es:List (List V)):(V.list f es).ren σ δ=.list f (es.map (cd (V.ren σ δ))):=by simp[V.ren,iZ]
@[simp] theorem JU(cs:List V):(V.ref cs).ren σ δ=.ref (cs.map (V.ren σ δ)):=by simp[V.ren,OH]
@[simp] theorem GV(l k g off:Nat):(V.ptr l k g off).ren σ δ=.ptr (l+δ) k (σ g) off:=by simp[V.ren]
@[simp] theorem NE(l k g i off:Nat):(V.eptr l k g i off).ren σ δ=.eptr (l+δ) k (σ g) i off:=by simp[V.ren]
@[simp] theorem GW(l k g n:Nat):(V.vec l k g n).ren σ δ=.vec (l+δ) k (σ g) n:=by simp[V.ren]
@[simp] theorem LR(l k g:Nat):(V.mp l k g).ren σ δ=.mp (l+δ) k (σ g):=by simp[V.ren]
@[simp] theorem LU(f:FuncId)(xs ys:List V):(V.fn f xs ys).ren σ δ=.fn f (xs.map (V.ren σ δ)) (ys.map (V.ren σ δ)):=by simp[V.ren,OH]
@[simp] theorem dP(l k g:Nat):(V.yld l k g).ren σ δ=.yld (l+δ) k (σ g):=by simp[V.ren]
@[simp] theorem rX:V.nil.ren σ δ=.nil:=by simp[V.ren]
@[simp] theorem A5Z:V.any.ren σ δ=.any:=by simp[V.ren]
@[simp] theorem XI(d:List V):(V.memo d).ren σ δ=.memo d:=by simp[V.ren]
@[simp] theorem VL(l k g i n:Nat):(V.vtl l k g i n).ren σ δ=.vtl (l+δ) k (σ g) i n:=by simp[V.ren]
theorem LV{σ':Nat->Nat}{δ':Nat}:∀(v:V),(v.ren σ δ).ren σ' δ'=v.ren (fun γ=>σ' (σ γ)) (δ+δ')
 |.agg cs=>by simp only[E0,cj];congr 1;exact bx fun v _=>LV v
 |.tup cs=>by simp only[GU,cj];congr 1;exact bx fun v _=>LV v
 |.ref cs=>by simp only[JU,cj];congr 1;exact bx fun v _=>LV v
 |.list b es=>by
  simp only[DR,cj];congr 1;refine bx fun e he=>?_;have hlt:=cx he;simp only[Function.comp,cj];exact bx fun v hv=>by have hlt2:=cx hv;exact LV v
 |.fn f xs ys=>by
  simp only[LU,cj];congr 1
  ·exact bx fun v _=>LV v
  ·exact bx fun v _=>LV v
 |.int k n=>by simp
 |.bool b=>by simp
 |.raw v=>by simp
 |.ptr l k g off=>by simp[bn]
 |.eptr l k g i off=>by simp[bn]
 |.vec l k g n=>by simp[bn]
 |.mp l k g=>by simp[bn]
 |.yld l k g=>by simp[bn]
 |.nil=>by simp
 |.vtl l k g i n=>by simp[bn]
 |.any=>by simp
 |.memo d=>by simp
decreasing_by all_goals first|(simp_wf;omega)|decreasing_tactic
def AZ.ren(σ:Nat->Nat)(δ:Nat):AZ->AZ
 |.box cs=>.box (cs.map (V.ren σ δ))
 |.vec T es=>.vec T (es.map (cd (V.ren σ δ)))
 |.map es=>.map (es.map fun p=>(p.1.ren σ δ,p.2.ren σ δ))
 |.loop fr ps asg body N st=>.loop (fr.map fun p=>(p.1,p.2.1,p.2.2.ren σ δ)) ps asg body N st
 |.dead=>.dead
def AA.ren(σ:Nat->Nat)(δ:Nat)(L:AA):AA:=L.map fun p=>(p.1,σ p.2.1,p.2.2.ren σ δ)
def Fr.ren(σ:Nat->Nat)(δ:Nat)(fr:Fr):Fr:=fr.map fun p=>(p.1,p.2.1,p.2.2.ren σ δ)
def St.emb(σ:Nat->Nat)(pre:List AA)(s:St):St:=⟨pre++s.up.map (AA.ren σ pre.length),s.loc.ren σ pre.length⟩
theorem Fr.get_ren:∀(fr:Fr) (k:Nat),(fr.ren σ δ).get k=(fr.get k).map fun p=>(p.1,p.2.ren σ δ)
 |[],k=>rfl
 |(j,x)::fr,k=>by
  have:=Fr.get_ren fr k;simp only[Fr.ren,br,Fr.get]at this|-;split
  ·rfl
  ·exact this
theorem AA.get_ren:∀(L:AA) (k:Nat),(L.ren σ δ).get k=(L.get k).map fun p=>(σ p.1,p.2.ren σ δ)
 |[],k=>rfl
 |(j,x)::L,k=>by
  have:=AA.get_ren L k;simp only[AA.ren,br,AA.get]at this|-;split
  ·rfl
  ·exact this
variable {pre:List AA}{s:St}
theorem CS:(s.emb σ pre).up.length=s.up.length+pre.length:=by simp[St.emb,Nat.add_comm]
theorem BO(l k:Nat):(s.emb σ pre).get (l+pre.length) k=(s.get l k).map fun p=>(σ p.1,p.2.ren σ pre.length):=by
 unfold St.get;rw[CS];by_cases h:l=s.up.length
 ·rw[if_pos h,if_pos (by rw[h])];exact AA.get_ren _ _
 ·rw[if_neg h,if_neg (by omega)];simp only[St.emb];rw[List.getElem?_append_right (by omega),Nat.add_sub_cancel,bh];cases s.up[l]? with
  |none=>rfl
  |some L=>simp[AA.get_ren]
theorem XJ{α:Type}(f:α->α)(M:List α)(l:Nat):∀(pre:List α),(pre++M).modify (l+pre.length) f=pre++M.modify l f
 |[]=>rfl
 |p::pre=>by have:=XJ f M l pre;simp only[List.cons_append,List.length_cons,<-bn,List.modify_succ_cons,this]
theorem CE{l k g:Nat}{r:AZ}:(s.put l k g r).emb σ pre=(s.emb σ pre).put (l+pre.length) k (σ g) (r.ren σ pre.length):=by
 unfold St.put;rw[CS];by_cases h:l=s.up.length
 ·rw[if_pos h,if_pos (by rw[h])];simp[St.emb,AA.ren,AA.put]
 ·rw[if_neg h,if_neg (by omega)];simp only[St.emb,St.mk.injEq,and_true];rw[XJ];congr 1;refine List.ext_getElem? fun i=>?_;simp only[bh,List.getElem?_modify];by_cases hi:l=i
  ·subst hi;cases s.up[l]? with
   |none=>rfl
   |some L=>simp[AA.ren,AA.put]
  ·simp[hi]
theorem P4{u:Value}{v:V}(h:CB u=some v):v.ren σ δ=v:=by
 cases u with
 |int k n=>simp only[CB,bf.injEq]at h;subst h;simp
 |bool b=>simp only[CB,bf.injEq]at h;subst h;simp
 |agg cs=>simp[CB]at h
 |tuple cs=>simp[CB]at h
 |slice a n c=>
  unfold CB at h
  split at h<;>simp_all<;>subst h<;>simp
 |_=>simp only[CB,bf.injEq]at h;subst h;simp
theorem P5:∀{l:List Value} {cs:List V},F3 l=some cs->cs.map (V.ren σ δ)=cs
 |[],cs,h=>by simp[F3]at h;subst h;rfl
 |v::r,cs,h=>by
  unfold F3 at h;split at h
  ·rename_i x l h1 h2;cases h;simp[P4 h1,P5 h2]
  ·cases h
end Go.Pg
namespace Go.Pg
variable {P:Program}{σ:Nat->Nat}{δ:Nat}{pre:List AA}{s:St}{fr:Fr}{g:Bool}
theorem ABG(x:cm):rd (fr.ren σ δ) x=(rd fr x).map fun p=>(p.1,p.2.ren σ δ):=by
 cases x with
 |tmp t=>exact Fr.get_ren fr t
 |const u=>
  simp only[rd]
  cases h:CB u with
  |none=>rfl
  |some v=>simp[P4 h]
 |func f=>simp[rd]
 |global g=>rfl
theorem CT(x:cm):DI g (fr.ren σ δ) x=(DI g fr x).map (V.ren σ δ):=by
 unfold DI;rw[ABG];cases rd fr x with
 |none=>rfl
 |some p=>
  obtain⟨c,v⟩:=p
  simp only[bw]
  split<;>rfl
theorem HP(v:V):A9 (v.ren σ δ)=A9 v:=by cases v<;>simp[A9]
theorem D5(v:V):A8 (v.ren σ δ)=(A8 v).map (V.ren σ δ):=by cases v<;>simp[A8]
theorem vJ(v:V):weakC (v.ren σ δ)=(weakC v).ren σ δ:=by cases v<;>simp[weakC]
theorem SP(v:V):weakV (v.ren σ δ)=(weakV v).ren σ δ:=by cases v<;>simp[weakV,vJ]
theorem T2{p:V}{cs:List V}(h:BA s p=some cs):BA (s.emb σ pre) (p.ren σ pre.length)=some (cs.map (V.ren σ pre.length)):=by
 cases p with
 |ref ds=>simp only[BA,bf.injEq]at h;subst h;simp[BA]
 |ptr l k γ off=>
  simp only[BA]at h
  split at h
  ·rename_i γ' ds e;split at h
   ·rename_i eg;cases h;simp[BA,BO,e,AZ.ren,eg,bz]
   ·cases h
  ·cases h
 |eptr l k γ i off=>
  simp only[BA]at h
  split at h
  ·rename_i γ' T es e;split at h
   ·rename_i eg;obtain⟨x,hx,rfl⟩:=bj.1 h;simp[BA,BO,e,AZ.ren,eg,hx,bz]
   ·cases h
  ·cases h
 |_=>cases h
theorem aT{T:cg}{cs:List V}{v:V}(h:BI P T cs=some v):BI P T (cs.map (V.ren σ δ))=some (v.ren σ δ):=by
 unfold BI at h|-;split at h
 ·split at h
  ·rename_i hc;cases h;simp[hc,bc]
  ·cases h
 ·split at h
  ·rename_i hc;cases h;simp[hc,bc]
  ·cases h
 ·simp only[bh,h,bw]
 ·cases h
theorem aU{U:cg}{cs:List V}{off:Nat}{v:V}(h:MN P U cs off=some v):MN P U (cs.map (V.ren σ δ)) off=some (v.ren σ δ):=by
 unfold MN at h|-;split at h
 ·split at h
  ·rename_i hc;cases h;simp[hc,bc,bz]
  ·cases h
 ·split at h
  ·rename_i hc;cases h;simp[hc,bc,bz]
  ·cases h
 ·simp only[bh,h,bw]
 ·cases h
theorem jA{T:cg}{x v:V}{f:Nat}(h:IY P T x f=some v):IY P T (x.ren σ δ) f=some (v.ren σ δ):=by
 unfold IY at h;split at h
 ·rename_i cs U off e;simp[IY,e,aU h]
 ·cases h
theorem UN{T:cg}{x v:V}{f:Nat}(h:CV P T x f=some v):CV P T (x.ren σ δ) f=some (v.ren σ δ):=by
 unfold CV at h;split at h
 ·rename_i U off e;split at h
  ·cases h
  ·rename_i hz;split at h<;>first
    |(cases h;done)
    |(cases h;simp[CV,e,hz,bz])
 ·cases h
theorem EN(es:List (List V))(j:Nat):(es.map (cd (V.ren σ δ))).getD j []=(es.getD j []).map (V.ren σ δ):=by simp only[List.getD_eq_getElem?_getD,bh];cases es[j]?<;>rfl
theorem UO{T:cg}{x i v:V}(h:BK P s T x i=some v):BK P (s.emb σ pre) T (x.ren σ pre.length) (i.ren σ pre.length)=some (v.ren σ pre.length):=by
 unfold BK at h;split at h
 ·rename_i e f es k j e1;split at h
  ·rename_i hc;cases h;obtain⟨c1,c2,c3,c4⟩:=hc;simp only[DR,DU,BK,e1,bg,EN,JU];rw[if_pos ⟨c1,c2,c3,c4⟩]
  ·cases h
 ·rename_i e l k γ n k' j e1;split at h
  ·rename_i γ' U es e2;split at h
   ·rename_i hc;cases h;obtain⟨c1,c2,c3,c4,c5,c6⟩:=hc;subst c1;simp only[GW,DU,BK,e1,BO,e2,bw,AZ.ren,bg,EN,NE];rw[if_pos ⟨trivial,c2,c3,c4,c5,c6⟩]
   ·cases h
  ·cases h
 ·rename_i n e cs k j e1;split at h
  ·rename_i hc;cases h;simp only[JU,DU,BK,e1,if_pos hc,bz]
  ·cases h
 ·rename_i n e l k γ o k' j e1;split at h
  ·rename_i hc;cases h;simp only[GV,DU,BK,e1,if_pos hc]
  ·cases h
 ·rename_i n e l k γ i' o k' j e1;split at h
  ·rename_i hc;cases h;simp only[NE,DU,BK,e1,if_pos hc]
  ·cases h
 ·cases h
theorem jB{T:cg}{x i v:V}(h:FZ P T x i=some v):FZ P T (x.ren σ δ) (i.ren σ δ)=some (v.ren σ δ):=by
 unfold FZ at h;split at h
 ·rename_i n e cs k j e1;split at h
  ·rename_i hc;simp only[E0,DU,FZ,e1,if_pos hc,aU h]
  ·cases h
 ·rename_i b k j e1;split at h
  ·rename_i hc;obtain⟨c,hb,rfl⟩:=bj.1 h;simp only[AGW,DU,FZ,e1,if_pos hc,hb,bw]
  ·cases h
 ·cases h
theorem nR{S D:cg}{x v:V}(h:LC P S D x=some v):LC P S D (x.ren σ δ)=some (v.ren σ δ):=by
 unfold LC at h;split at h
 ·rename_i e1 e2;cases h;simp[LC,e1,e2]
 ·cases h
theorem ABH{op:UnOp}{x v:V}(h:ZF op x=some v):ZF op (x.ren σ δ)=some (v.ren σ δ):=by unfold ZF at h;split at h<;>first|(cases h;done)|(cases h;simp[ZF])
theorem vK{x v:V}(h:MO x=some v):MO (x.ren σ δ)=some (v.ren σ δ):=by cases x<;>simp[MO]at h<;>subst h<;>simp[MO]
theorem ZN{x v:V}{i:Nat}(h:FB x i=some v):FB (x.ren σ δ) i=some (v.ren σ δ):=by cases x<;>simp[FB]at h;simp[FB,h]
theorem vL{T:cg}{x v:V}(h:F8 P T x=some v):F8 P T (x.ren σ δ)=some (v.ren σ δ):=by
 unfold F8 at h;split at h
 ·rename_i e f es hu;cases h;simp[F8,hu]
 ·rename_i e l k g n hu;cases h;simp[F8,hu]
 ·rename_i e hu;cases h;simp[F8,hu]
 ·rename_i n e hu;cases h;unfold F8;rw[hu];simp
 ·cases h
theorem AGX{n m:Nat}{h:Option V}(e:hiN n h=some m):hiN n (h.map (V.ren σ δ))=some m:=by
 cases h with
 |none=>exact e
 |some a=>cases a<;>first|(simp only[bw,DU];exact e)|(simp[hiN]at e)
theorem jC{T:cg}{x v:V}{lo hi mx:Option V}(h:B7 P s T x lo hi mx=some v):B7 P (s.emb σ pre) T (x.ren σ pre.length) (lo.map (V.ren σ pre.length)) (hi.map (V.ren σ pre.length)) (mx.map (V.ren σ pre.length))=some (v.ren σ pre.length):=by
 unfold B7 at h;split at h
 ·rename_i e f es k h' e1;split at h
  ·rename_i hc;cases h;simp only[DR,bw,DU,bp,B7,e1,bg,if_pos hc,bc]
  ·cases h
 ·rename_i e f es k l e1;split at h
  ·rename_i hc;cases h;have:(es.map (cd (V.ren σ pre.length))).all (fun x=>x.length==P.cellsOf e)=true:=by rw[cq];exact hc.2.2.2▸(by congr 1;funext x;simp)
   simp only[DR,bw,DU,bp,B7,e1,bg,if_pos (⟨hc.1,hc.2.1,hc.2.2.1,this⟩:_/\_/\_/\_),bz]
  ·cases h
 ·rename_i e f es k l k' h' e1;split at h
  ·rename_i hc;cases h;have:(es.map (cd (V.ren σ pre.length))).all (fun x=>x.length==P.cellsOf e)=true:=by rw[cq];exact hc.2.2.2.2▸(by congr 1;funext x;simp)
   simp only[DR,bw,DU,bp,B7,e1,bg,if_pos (⟨hc.1,hc.2.1,hc.2.2.1,hc.2.2.2.1,this⟩:_/\_/\_/\_/\_),bz,bc]
  ·cases h
 ·rename_i e f es k h' k' m e1;split at h
  ·rename_i hc;cases h;simp only[DR,bw,DU,bp,B7,e1,if_pos hc,List.map_nil]
  ·cases h
 ·rename_i e l k g n k' h' e1;split at h
  ·rename_i hc;cases h;simp only[GW,bw,DU,bp,B7,e1,if_pos hc]
  ·cases h
 ·rename_i e l k g n k' i e1;split at h
  ·rename_i g' T' es hget;split at h
   ·rename_i hc;obtain⟨rfl,h1,h2,h3,h4,h5⟩:=hc;cases h;have:(es.map (cd (V.ren σ pre.length))).all (fun x=>x.length==P.cellsOf e)=true:=by rw[cq];exact h1▸(by congr 1;funext x;simp)
    simp only[GW,VL,bw,DU,bp,B7,e1,BO,hget,AZ.ren];rw[if_pos ⟨trivial,this,by simpa using h2,h3,h4,h5⟩]
   ·cases h
  ·cases h
 ·rename_i n e l k g o e1;split at h
  ·rename_i g' cs m hget hm;split at h
   ·rename_i hc;obtain⟨rfl,h1,h2⟩:=hc;cases h;simp only[GV,VL,bp,B7,e1,BO,hget,AZ.ren,bw,AGX hm];rw[if_pos ⟨trivial,h1,by simpa using h2⟩]
   ·cases h
  ·cases h
 ·cases h
theorem vM{x y v:V}(h:QY x y=some v):QY (x.ren σ δ) (y.ren σ δ)=some (v.ren σ δ):=by
 unfold QY at h;split at h
 ·split at h
  ·rename_i hk;cases h;simp[QY,hk]
  ·cases h
 ·cases h
theorem vN{x y v:V}(h:QZ x y=some v):QZ (x.ren σ δ) (y.ren σ δ)=some (v.ren σ δ):=by
 unfold QZ at h;split at h
 ·split at h
  ·rename_i hk;cases h;simp[QZ,hk]
  ·cases h
 ·cases h
theorem vO{op:BinOp}{k:IntKind}{a b:Int}{v:V}(h:ED op k a b=some v):v.ren σ δ=v:=by
 unfold ED at h;split at h<;>first
  |(cases h;simp;done)
  |(split at h<;>first|(cases h;done)|(cases h;simp;done))
  |(obtain⟨r,_,rfl⟩:=bj.1 h;simp)
theorem LW:∀(cs:List V),DD (cs.map (V.ren σ δ))=DD cs
 |[]=>rfl
 |c::cs=>by have ih:=LW cs;cases c<;>simp[DD,ih]
theorem ABI{op:BinOp}{k:IntKind}{a b:Int}{v:V}(h:ZE op k a b=some v):v.ren σ δ=v:=by
 cases op<;>simp only[ZE]at h;case shl=>split at h<;>cases h;simp
 case shr=>split at h<;>cases h;simp
 all_goals cases h
theorem vP{op:BinOp}{T:cg}{x y v:V}(h:FP P op T x y=some v):FP P op T (x.ren σ δ) (y.ren σ δ)=some (v.ren σ δ):=by
 unfold FP at h;split at h
 ·split at h
  ·rename_i hk;simp only[DU,FP,if_pos hk,h,vO h]
  ·rename_i hk;simp only[DU,FP,if_neg hk,h,ABI h]
 ·split at h
  ·rename_i hk;have hv:v.ren σ δ=v:=by split at h<;>first|(cases h;done)|(cases h;simp)
   rw[hv];simp only[KN,FP,if_pos hk];exact h
  ·cases h
 ·rename_i cs ds;have he:PW P T (cs.map (V.ren σ δ)) (ds.map (V.ren σ δ))=PW P T cs ds:=by unfold PW;rw[LW,LW]
  have hv:v.ren σ δ=v:=by
   split at h
   ·obtain⟨r,_,rfl⟩:=bj.1 h;simp
   ·obtain⟨r,_,rfl⟩:=bj.1 h;simp
   ·cases h
  rw[hv];simp only[E0,FP,he];exact h
 ·rename_i x' _;have hi:HN (x.ren σ δ)=HN x:=by
   cases x with
   |list f es=>cases es<;>simp[HN]
   |vec l k g n=>cases n<;>simp[HN]
   |vtl l k g i n=>cases n<;>simp[HN]
   |_=>simp[HN]
  have hb:∀y:V,FP P op T y .nil=if DP P T then(match op with
   |.eql=>(HN y).map V.bool
   |.neq=>(HN y).map fun b=>V.bool !b
   | _=>none) else none:=fun y=>by cases y <;> rfl
  have hv:v.ren σ δ=v:=by
   split at h
   ·split at h
    ·obtain⟨r,_,rfl⟩:=bj.1 h;simp
    ·obtain⟨r,_,rfl⟩:=bj.1 h;simp
    ·cases h
   ·cases h
  rw[hv,rX,hb,hi];exact h
 ·cases h
theorem SQ:∀{cs:List V} {l:List Value},DD cs=some l->cs.map (V.ren σ δ)=cs
 |[],_,_=>rfl
 |c::cs,l,h=>by
  cases c with
  |int k n=>
   simp only[DD]at h
   split at h
   ·rename_i r hr;simp[SQ hr]
   ·cases h
  |bool b=>
   simp only[DD]at h
   split at h
   ·rename_i r hr;simp[SQ hr]
   ·cases h
  |_=>simp[DD]at h
theorem XK{K:cg}(v:V):O3 P K (v.ren σ δ)=O3 P K v:=by
 cases v with
 |agg cs=>
  simp only[E0,O3,LW]
  split
  ·rename_i l hl;rw[SQ hl]
  ·rfl
 |_=>simp[O3]
theorem SR{K:cg}{ks:List V}:∀(es:List (V×V)) (i:Nat),HE P K ks (es.map fun p=>(p.1.ren σ δ,p.2.ren σ δ)) i=HE P K ks es i
 |[],_=>rfl
 |(k,v)::es,i=>by simp only[br,HE,XK,SR es]
theorem nS{T:cg}{z:V}(h:PX P T=some z):z.ren σ δ=z:=by
 unfold PX at h;split at h
 ·split at h
  ·rename_i cs hz;cases h;simp[P5 hz]
  ·cases h
 ·exact P4 h
 ·cases h
theorem dQ{T:cg}{x k v:V}{ok:Bool}(h:CG P s T x k ok=some v):CG P (s.emb σ pre) T (x.ren σ pre.length) (k.ren σ pre.length) ok=some (v.ren σ pre.length):=by
 unfold CG at h;split at h
 ·rename_i K E l q g hm;split at h
  ·rename_i g' es hget;split at h
   ·rename_i hc;obtain⟨rfl,hT⟩:=hc;split at h
    ·rename_i ks hks;simp only[LR,CG,hm,BO,hget,bw,AZ.ren,XK,hks,SR,if_pos (⟨trivial,hT⟩:True/\_)];split at h
     ·rename_i hf;obtain⟨z,hz,rfl⟩:=bj.1 h;simp only[hz,bw];cases ok<;>simp[nS hz]
     ·rename_i i hf;obtain⟨e,he,rfl⟩:=bj.1 h;simp only[bh,he,bw];cases ok<;>simp
     ·cases h
    ·cases h
   ·cases h
  ·cases h
 ·cases h
theorem SS{T:cg}{x k v:V}{l q γ:Nat}{es:List (V×V)}(h:H4 P s T x k v=some (l,q,γ,es)):H4 P (s.emb σ pre) T (x.ren σ pre.length) (k.ren σ pre.length) (v.ren σ pre.length)=some (l+pre.length,q,σ γ,es.map fun p=>(p.1.ren σ pre.length,p.2.ren σ pre.length)):=by
 unfold H4 at h;split at h
 ·rename_i K E l q g hm;split at h
  ·rename_i g' es hget;split at h
   ·rename_i hc;obtain⟨rfl,hT⟩:=hc;split at h
    ·rename_i ks hks;simp only[LR,H4,hm,BO,hget,bw,AZ.ren,XK,hks,SR,if_pos (⟨trivial,hT⟩:True/\_)];split at h
     ·rename_i hf;cases h;simp
     ·rename_i i hf;cases h;simp[List.map_set]
     ·cases h
    ·cases h
   ·cases h
  ·cases h
 ·cases h
theorem GY{r:cm->Option V}:∀{l:List cm} {vs:List V},l.mapM r=some vs->l.mapM (fun x=>(r x).map (V.ren σ δ))=some (vs.map (V.ren σ δ))
 |[],vs,h=>by simp at h;subst h;rfl
 |x::l,vs,h=>by simp only[ck,bt,bq,cz,bf.injEq]at h;obtain⟨v,h1,us,h2,rfl⟩:=h;simp[h1,GY h2]
theorem AGY{o:Oper}{r:cm->Option V}{v:V}(h:ID P o s r=some v):ID P o (s.emb σ pre) (fun x=>(r x).map (V.ren σ pre.length))=some (v.ren σ pre.length):=by
 unfold ID at h|-;split at h<;>(try simp only[bq]at h);case h_1=>simp[h]
 case h_2=>simp[h]
 case h_3=>obtain⟨a,h1,h2⟩:=h;simp[h1,vK h2]
 case h_4=>obtain⟨a,h1,b,h2,h3⟩:=h;simp[h1,T2 h2,aT h3]
 case h_5=>obtain⟨a,h1,b,h2,h3⟩:=h;simp[h1,h2,vP h3]
 case h_6=>obtain⟨a,h1,h2⟩:=h;simp[h1,ABH h2]
 case h_7=>obtain⟨a,h1,h2⟩:=h;simp[h1,nR h2]
 case h_8=>obtain⟨a,h1,h2⟩:=h;simp[h1,UN h2]
 case h_9=>obtain⟨a,h1,h2⟩:=h;simp[h1,jA h2]
 case h_10=>obtain⟨a,h1,b,h2,h3⟩:=h;simp[h1,h2,UO h3]
 case h_11=>obtain⟨a,h1,b,h2,h3⟩:=h;simp[h1,h2,jB h3]
 case h_12=>obtain⟨a,h1,h2⟩:=h;simp[h1,ZN h2]
 case h_13=>
  split at h
  ·rename_i e1 e2;simp only[bq]at h;obtain⟨a,h1,h2⟩:=h;simp[h1,vL h2]
  ·cases h
 case h_14=>
  split at h
  ·simp only[bq]at h;obtain⟨a,h1,b,h2,h3⟩:=h;simp[h1,h2,vM h3]
  ·cases h
 case h_15=>
  split at h
  ·simp only[bq]at h;obtain⟨a,h1,b,h2,h3⟩:=h;simp[h1,h2,vN h3]
  ·cases h
 case h_16 T x lo hi mx ho=>
  obtain⟨a,h1,l,h2,u,h3,m,h4,h5⟩:=h
  have key:∀(z:Option cm) (q:Option V),(match z with|none=>some none|some y=>(r y).map some)=some q->(z=none/\q=none)\/∃y b,z=some y/\r y=some b/\q=some b:=by
   intro z q hz;cases z with
   |none=>cases hz;exact .inl ⟨rfl,rfl⟩
   |some y=>
    obtain⟨b,hb,rfl⟩:=bj.1 hz
    exact .inr ⟨y,b,rfl,hb,rfl⟩
  have h6:=jC (σ:=σ) (pre:=pre) h5
  rcases key lo l h2 with⟨rfl,rfl⟩|⟨y1,b1,rfl,q1,rfl⟩<;>rcases key hi u h3 with⟨rfl,rfl⟩|⟨y2,b2,rfl,q2,rfl⟩<;>rcases key mx m h4 with⟨rfl,rfl⟩|⟨y3,b3,rfl,q3,rfl⟩<;>simp_all
 case h_17=>obtain⟨a,h1,b,h2,h3⟩:=h;simp[h1,h2,dQ h3]
 case h_18 f first captured ho=>
  obtain⟨a,h1,b,h2,h3⟩:=h
  cases h3
  simp[GY h1,GY h2]
 case h_19=>cases h
end Go.Pg
namespace Go.Pg
variable {P:Program}{σ:Nat->Nat}{δ:Nat}{pre:List AA}{s:St}{fr:Fr}{g:Bool}
theorem GA{T:cg}{z:List V}(h:BZ P T=some z):z.map (V.ren σ δ)=z:=by
 unfold BZ at h;split at h
 ·exact P5 h
 ·cases h
theorem CW{α β:Type}(f:α->β)(cs ds:List α)(off:Nat):A6 (cs.map f) off (ds.map f)=(A6 cs off ds).map f:=by simp[A6,bc,bz]
theorem OI{place:Nat->Option (Nat×Nat)}:∀{ps:List (Nat×V)} {cs ds:List V},CR place cs ps=some ds->CR place (cs.map (V.ren σ δ)) (ps.map fun p=>(p.1,p.2.ren σ δ))=some (ds.map (V.ren σ δ))
 |[],cs,ds,h=>by simp[CR]at h;subst h;rfl
 |(i,v)::r,cs,ds,h=>by
  simp only[CR]at h;split at h
  ·cases h
  ·rename_i off size e;split at h
   ·rename_i hc;have:=OI h;simp only[br,CR,e,D5,bg];rw[if_pos hc,CW];exact this
   ·cases h
theorem LY(ps:List (Nat×V)):((ps.map fun p=>(p.1,p.2.ren σ δ)).all fun p=>A9 p.2)=ps.all fun p=>A9 p.2:=by rw[cq];congr 1;funext p;exact HP p.2
theorem jD{T:cg}{ps:List (Nat×V)}{v:V}(h:CI P T ps=some v):CI P T (ps.map fun p=>(p.1,p.2.ren σ δ))=some (v.ren σ δ):=by
 unfold CI at h|-;split at h
 ·rename_i z fs e1 e2;simp only[LY];split at h
  ·rename_i hc;obtain⟨cs,h1,rfl⟩:=bj.1 h;have:=OI (σ:=σ) (δ:=δ) h1;rw[GA e1]at this;rw[if_pos hc,this];simp
  ·cases h
 ·rename_i z n e e1 e2;simp only[LY];split at h
  ·rename_i hc;obtain⟨cs,h1,rfl⟩:=bj.1 h;have:=OI (σ:=σ) (δ:=δ) h1;rw[GA e1]at this;rw[if_pos hc,this];simp
  ·cases h
 ·cases h
theorem XL{β:Type}(f:V->V)(size:Nat):∀(n:Nat) (cs:List V),CC size (cs.map f) n=(CC size cs n).map (cd f)
 |0,_=>rfl
 |n+1,cs=>by simp only[CC,br,bc];rw[<-bz,XL (β:=β) f size n]
theorem SU{T:cg}{len:Nat}{ps:List (Nat×V)}{v:V}(h:BW P T len ps=some v):BW P T len (ps.map fun p=>(p.1,p.2.ren σ δ))=some (v.ren σ δ):=by
 unfold BW at h|-;split at h
 ·rename_i e e1;split at h
  ·rename_i z e2;split at h
   ·rename_i hc;obtain⟨cs,h1,rfl⟩:=bj.1 h;have:=OI (σ:=σ) (δ:=δ) h1;have hz:(List.replicate len z).flatten.map (V.ren σ δ)=(List.replicate len z).flatten:=by rw[List.map_flatten,List.map_replicate,GA e2]
    rw[hz]at this;simp only[LY];rw[if_pos hc,this];simp[XL (β:=Nat)]
   ·cases h
  ·cases h
 ·cases h
theorem P6{r:cm->Option V}:∀{l:List (Nat×cm)} {ps:List (Nat×V)},CX r l=some ps->CX (fun x=>(r x).map (V.ren σ δ)) l=some (ps.map fun p=>(p.1,p.2.ren σ δ))
 |[],ps,h=>by simp[CX]at h;subst h;rfl
 |(i,x)::l,ps,h=>by
  simp only[CX]at h;split at h
  ·rename_i v us h1 h2;cases h;simp[CX,h1,P6 h2]
  ·cases h
theorem GB{v:V}{es:List (List V)}(h:elemsOf s v=some es):elemsOf (s.emb σ pre) (v.ren σ pre.length)=some (es.map (cd (V.ren σ pre.length))):=by
 cases v with
 |list f ds=>simp only[elemsOf,bf.injEq]at h;subst h;simp[elemsOf]
 |vec l k γ n=>
  simp only[elemsOf]at h
  split at h
  ·rename_i γ' T ds e;split at h
   ·rename_i hc;cases h;simp[elemsOf,BO,e,AZ.ren,hc.1,hc.2,bc]
   ·cases h
  ·cases h
 |vtl l k γ i n=>
  simp only[elemsOf]at h
  split at h
  ·rename_i γ' cs e;split at h
   ·rename_i hc;cases h;simp[elemsOf,BO,e,AZ.ren,hc.1,hc.2,bc,bz,Function.comp_def]
   ·cases h
  ·cases h
 |nil=>simp only[elemsOf,bf.injEq]at h;subst h;simp[elemsOf]
 |raw v=>cases v with
  |slice a n c=>cases n with
   |zero=>cases h;simp[elemsOf]
   |succ n=>cases h
  |_=>cases h
 |_=>cases h
theorem HX:DI g (fr.ren σ δ)=fun x=>(DI g fr x).map (V.ren σ δ):=by funext x;exact CT x
theorem nT{T:cg}{xv yv v:V}(h:M4 P T xv yv=some v):M4 P T (xv.ren σ δ) (yv.ren σ δ)=some (v.ren σ δ):=by
 unfold M4 at h;split at h
 ·rename_i e ys hel hy;split at h
  ·rename_i hc;cases h;have hr:AJ2 (yv.ren σ δ)=some (ys.map (cd (V.ren σ δ))):=by
    cases yv with
    |list b es=>cases hy;simp only[DR];rfl
    |nil=>cases hy;simp only[rX];rfl
    |_=>cases hy
   unfold M4;simp only[hel,DR,List.map_nil,hr];rw[if_pos];refine⟨hc.1,?_,by rw[bg];exact hc.2.2.1,by rw[bg];exact hc.2.2.2⟩;rw[cq];have:=hc.2.1;simpa [Function.comp_def]using this
  ·cases h
 ·cases h
theorem ABJ{o:Oper}{args:Array cm}{Ts:Array cg}{v:V}(h:appS P g o args Ts fr=some v):appS P g o args Ts (fr.ren σ δ)=some (v.ren σ δ):=by
 unfold appS at h|-;split at h
 ·split at h
  ·rename_i hc;obtain⟨xv,h1,h⟩:=bq.1 h;obtain⟨yv,h2,h⟩:=bq.1 h;rw[if_pos hc,CT,h1,CT,h2];exact nT h
  ·cases h
 ·cases h
theorem H9{o:Oper}{v:V}(h:E4 P g o fr s=some v):E4 P g o (fr.ren σ pre.length) (s.emb σ pre)=some (v.ren σ pre.length):=by
 unfold E4 at h|-;split at h
 ·rename_i c x y ho;split at h
  ·rename_i c' ca va cb vb e1 e2 e3;split at h
   ·rename_i hc;cases h;simp only[CT,ABG,e1,e2,e3,bw,KN];rw[if_pos hc]
   ·cases h
  ·cases h
 ·rename_i T parts ho;obtain⟨ps,h1,h2⟩:=bq.1 h;rw[HX,P6 h1];exact jD h2
 ·rename_i T len parts ho;obtain⟨ps,h1,h2⟩:=bq.1 h;rw[HX,P6 h1];exact SU h2
 ·exact ABJ h
 ·rw[HX];exact AGY h
def AX(s:St):Nat->V->Option V
 |0,_=>none
 |f+1,v=>match v with
  |.list _ es=>some (.list false es)
  | .vec l k g m=>if l=s.up.length then(match s.loc.get k with
    |some (g',.vec _ es)=>if g'=g/\m<=es.length then some (.list false (es.take m)) else none
    | _=>none) else some v
  | .ptr l k g off=>if l=s.up.length then(match s.loc.get k with
    |some (g',.box cs)=>if g'=g then(cs.mapM (AX s f)).map fun ds=>.ref (ds.drop off) else none
    | _=>none) else some v
  |.agg cs=>(cs.mapM (AX s f)).map .agg
  |.tup cs=>(cs.mapM (AX s f)).map .tup
  |.fn g xs ys=>match xs.mapM (AX s f),ys.mapM (AX s f)with
   |some a,some b=>some (.fn g a b)
   |_,_=>none
  |v=>some v
theorem GC{α β:Type}{f:α->Option β}{g:α->β}(h:∀x y,f x=some y->g x=y):∀{l:List α} {r:List β},l.mapM f=some r->l.map g=r
 |[],r,e=>by simp at e;subst e;rfl
 |x::l,r,e=>by simp only[ck,bt,bq,cz,bf.injEq]at e;obtain⟨y,h1,ys,h2,rfl⟩:=e;simp[h x y h1,GC h h2]
theorem NF:∀(f:Nat) {v r:V},AX s f v=some r->C8 s f v=r
 |0,v,r,h=>by cases h
 |f+1,v,r,h=>by
  have ih:=fun v r=>NF f (v:=v) (r:=r);cases v with
  |list b es=>simpa [AX,C8]using h
  |vec l k g m=>
   simp only[AX]at h
   simp only[C8]
   split at h
   ·rename_i hl;rw[if_pos hl];split at h
    ·rename_i g' T es e;split at h
     ·rename_i hc;rw[e];simp only[if_pos hc];exact bf.inj h
     ·cases h
    ·cases h
   ·rename_i hl;rw[if_neg hl];exact bf.inj h
  |ptr l k g off=>
   simp only[AX]at h
   simp only[C8]
   split at h
   ·rename_i hl;rw[if_pos hl];split at h
    ·rename_i g' cs e;split at h
     ·rename_i hc;obtain⟨ds,h1,rfl⟩:=bj.1 h;rw[e];simp only[if_pos hc,GC ih h1]
     ·cases h
    ·cases h
   ·rename_i hl;rw[if_neg hl];exact bf.inj h
  |agg cs=>
   obtain⟨ds,h1,rfl⟩:=bj.1 h
   simp only[C8,GC ih h1]
  |tup cs=>
   obtain⟨ds,h1,rfl⟩:=bj.1 h
   simp only[C8,GC ih h1]
  |fn g xs ys=>
   simp only[AX]at h
   split at h
   ·rename_i a b h1 h2;cases h;simp only[C8,GC ih h1,GC ih h2]
   ·cases h
  |_=>simpa [AX,C8]using h
theorem FE{f f':V->Option V}(h:∀v r,f v=some r->f' (v.ren σ δ)=some (r.ren σ δ)):∀{l r:List V},l.mapM f=some r->(l.map (V.ren σ δ)).mapM f'=some (r.map (V.ren σ δ))
 |[],r,e=>by simp at e;subst e;rfl
 |x::l,r,e=>by simp only[ck,bt,bq,cz,bf.injEq]at e;obtain⟨y,h1,ys,h2,rfl⟩:=e;simp[h x y h1,FE h h2]
theorem JV(k:Nat):(s.emb σ pre).loc.get k=(s.loc.get k).map fun p=>(σ p.1,p.2.ren σ pre.length):=AA.get_ren _ _
theorem JA:∀(f:Nat) {v r:V},AX s f v=some r->AX (s.emb σ pre) f (v.ren σ pre.length)=some (r.ren σ pre.length)
 |0,v,r,h=>by cases h
 |f+1,v,r,h=>by
  have ih:=fun v r=>JA f (v:=v) (r:=r);cases v with
  |list b es=>simp only[AX,bf.injEq]at h;subst h;simp[AX]
  |vec l k g m=>
   simp only[AX]at h
   split at h
   ·rename_i hl;split at h
    ·rename_i g' T es e;split at h
     ·rename_i hc;cases h;simp[AX,CS,JV,hl,e,AZ.ren,hc.1,hc.2,bc]
     ·cases h
    ·cases h
   ·rename_i hl;cases h;have:¬l+pre.length=s.up.length+pre.length:=by omega
    simp[AX,CS,hl]
  |ptr l k g off=>
   simp only[AX]at h
   split at h
   ·rename_i hl;split at h
    ·rename_i g' cs e;split at h
     ·rename_i hc;obtain⟨ds,h1,rfl⟩:=bj.1 h;have:=FE ih h1;simp[AX,CS,JV,hl,e,AZ.ren,hc,this,bz]
     ·cases h
    ·cases h
   ·rename_i hl;cases h;simp[AX,CS,hl]
  |agg cs=>
   obtain⟨ds,h1,rfl⟩:=bj.1 h
   simp[AX,FE ih h1]
  |tup cs=>
   obtain⟨ds,h1,rfl⟩:=bj.1 h
   simp[AX,FE ih h1]
  |fn g xs ys=>
   simp only[AX]at h
   split at h
   ·rename_i a b h1 h2;cases h;simp[AX,FE ih h1,FE ih h2]
   ·cases h
  |_=>simp only[AX,bf.injEq]at h;subst h;simp[AX]
def BQ(s:St)(v:V):Option V:=match v with
 |.list f es=>some (.list f es)
 |.int k n=>some (.int k n)
 |.bool b=>some (.bool b)
 |v=>AX s 4 v
theorem I0{v r:V}(h:BQ s v=some r):E3 s v=r:=by
 unfold BQ at h;unfold E3;split at h
 ·simpa using h
 ·simpa [C8]using h
 ·simpa [C8]using h
 ·rename_i h1 h2 h3;split
  ·rename_i f es;exact absurd rfl (h1 f es)
  ·exact NF 4 h
theorem T4{v:V}(h1:∀f es,v≠.list f es)(h2:∀k n,v≠.int k n)(h3:∀b,v≠.bool b):BQ s v=AX s 4 v:=by
 unfold BQ;split
 ·rename_i f es;exact absurd rfl (h1 f es)
 ·rename_i k n;exact absurd rfl (h2 k n)
 ·rename_i b;exact absurd rfl (h3 b)
 ·rfl
theorem JW{v r:V}(h:BQ s v=some r):BQ (s.emb σ pre) (v.ren σ pre.length)=some (r.ren σ pre.length):=by
 by_cases h1:∃f es,v=.list f es
 ·obtain⟨f,es,rfl⟩:=h1;simp only[BQ,bf.injEq]at h;subst h;simp[BQ]
 by_cases h2:∃k n,v=.int k n
 ·obtain⟨k,n,rfl⟩:=h2;simp only[BQ,bf.injEq]at h;subst h;simp[BQ]
 by_cases h3:∃b,v=.bool b
 ·obtain⟨b,rfl⟩:=h3;simp only[BQ,bf.injEq]at h;subst h;simp[BQ]
 rw[T4 (fun f es e=>h1 ⟨f,es,e⟩) (fun k n e=>h2 ⟨k,n,e⟩) (fun b e=>h3 ⟨b,e⟩)]at h;rw[T4 (fun f es e=>by cases v<;>simp at e;exact h1 ⟨_,_,rfl⟩) (fun k n e=>by cases v<;>simp at e;exact h2 ⟨_,_,rfl⟩) (fun b e=>by cases v<;>simp at e;exact h3 ⟨_,rfl⟩)];exact JA 4 h
def GD{α β:Type}(f:α->Option β):List α->Option (List β)
 |[]=>some []
 |x::l=>match f x with
  |some y=>match GD f l with
   |some r=>some (y::r)
   |none=>none
  |none=>none
theorem KO{α β:Type}{f:α->Option β}{g:α->β}(h:∀x y,f x=some y->g x=y):∀{l:List α} {r:List β},GD f l=some r->l.map g=r
 |[],r,e=>by cases e;rfl
 |x::l,r,e=>by
  simp only[GD]at e;split at e
  ·rename_i y hy;split at e
   ·rename_i q hq;cases e;simp[h _ _ hy,KO h hq]
   ·cases e
  ·cases e
theorem KP{α β:Type}{f f':α->Option β}{a:α->α}{b:β->β}(h:∀x y,f x=some y->f' (a x)=some (b y)):∀{l:List α} {r:List β},GD f l=some r->GD f' (l.map a)=some (r.map b)
 |[],r,e=>by cases e;rfl
 |x::l,r,e=>by
  simp only[GD]at e;split at e
  ·rename_i y hy;split at e
   ·rename_i q hq;cases e;simp[GD,h _ _ hy,KP h hq]
   ·cases e
  ·cases e
def BN(s:St)(r:AZ):Option AZ:=match r with
 |.box cs=>match GD (BQ s) cs with
  |some ds=>some (.box ds)
  |none=>none
 |.vec T es=>match GD (GD (BQ s)) es with
  |some ds=>some (.vec T ds)
  |none=>none
 | .map es=>match GD (fun e:V×V=>match BQ s e.1,BQ s e.2 with
   |some a,some b=>some (a,b)
   | _,_=>none) es with
  |some ds=>some (.map ds)
  |none=>none
 |r=>some r
def BM(s:St)(r:AZ):AZ:=match BN s r with
 |some r'=>r'
 |none=>r
theorem XM{r r':AZ}(h:BN s r=some r'):r'=r\/r'=GP s r:=by
 unfold BN at h;split at h
 ·split at h
  ·rename_i ds hd;cases h;exact .inr (by simp only[GP,KO (fun x y=>I0) hd])
  ·cases h
 ·split at h
  ·rename_i ds hd;cases h;exact .inr (by simp only[GP,KO (fun x y=>KO (fun x y=>I0)) hd])
  ·cases h
 ·split at h
  ·rename_i ds hd;cases h;refine .inr ?_;simp only[GP];rw[KO (g:=fun e=>(E3 s e.1,E3 s e.2)) (fun x y h=>?_) hd];split at h
   ·rename_i a b h1 h2;cases h;rw[I0 h1,I0 h2]
   ·cases h
  ·cases h
 ·cases h;exact .inl rfl
theorem KA{r r':AZ}(h:BN s r=some r'):BN (s.emb σ pre) (r.ren σ pre.length)=some (r'.ren σ pre.length):=by
 cases r with
 |box cs=>
  simp only[BN]at h
  split at h
  ·rename_i ds hd;cases h;simp[BN,AZ.ren,KP (fun x y=>JW (σ:=σ) (pre:=pre)) hd]
  ·cases h
 |vec T es=>
  simp only[BN]at h
  split at h
  ·rename_i ds hd;cases h;simp[BN,AZ.ren,KP (fun x y=>KP (fun x y=>JW (σ:=σ) (pre:=pre))) hd]
  ·cases h
 |map es=>
  simp only[BN]at h
  split at h
  ·rename_i ds hd;cases h;have:=KP (f':=fun e:V×V=>match BQ (s.emb σ pre) e.1,BQ (s.emb σ pre) e.2 with
    |some a,some b=>some (a,b)
    | _,_=>none) (a:=fun p:V×V=>(p.1.ren σ pre.length,p.2.ren σ pre.length)) (b:=fun p:V×V=>(p.1.ren σ pre.length,p.2.ren σ pre.length)) (fun x y h=>by
     split at h
     ·rename_i a b h1 h2;cases h;simp[JW h1,JW h2]
     ·cases h) hd
   simp[BN,AZ.ren,this]
  ·cases h
 |loop fr ps asg body N st=>simp only[BN,bf.injEq]at h;subst h;rfl
 |dead=>simp only[BN,bf.injEq]at h;subst h;rfl
theorem jE(r:AZ):(BM s r).ren σ pre.length=r.ren σ pre.length\/(BM s r).ren σ pre.length=GP (s.emb σ pre) (r.ren σ pre.length):=by
 unfold BM;split
 ·rename_i r' h;rcases XM (KA (σ:=σ) (pre:=pre) h)with h'|h'
  ·exact .inl h'
  ·exact .inr h'
 ·exact .inl rfl
def AN(s:St)(L:AA):AA:=L.map fun p=>(p.1,p.2.1,BM s p.2.2)
theorem LZ(s:St):∀(L:AA) (k:Nat),(AN s L).get k=(L.get k).map fun p=>(p.1,BM s p.2)
 |[],k=>rfl
 |(j,x)::L,k=>by
  have:=LZ s L k;simp only[AN,br,AA.get]at this|-;split
  ·rfl
  ·exact this
theorem nU{rv:ResultVar}{v:V}(h:DE P fr s rv=some v):DE P (fr.ren σ pre.length) (s.emb σ pre) rv=some (v.ren σ pre.length):=by
 cases rv with
 |tmp t=>
  simp only[DE]at h|-
  split at h
  ·rename_i e;cases h;simp[Fr.get_ren,e]
  ·cases h
 |cell ad T=>
  simp only[DE]at h|-
  split at h
  ·rename_i p e;obtain⟨cs,h1,h2⟩:=bq.1 h;simp[Fr.get_ren,e,T2 h1,aT h2]
  ·cases h
theorem NG{rs:List ResultVar}{v:V}(h:FJ P rs fr s=some v):FJ P rs (fr.ren σ pre.length) (s.emb σ pre)=some (v.ren σ pre.length):=by
 have key:∀{rs:List ResultVar} {vs:List V},rs.mapM (DE P fr s)=some vs->rs.mapM (DE P (fr.ren σ pre.length) (s.emb σ pre))=some (vs.map (V.ren σ pre.length)):=by
  intro rs;induction rs with
  |nil=>intro vs e;simp at e;subst e;rfl
  |cons x l ih=>
   intro vs e
   simp only[ck,bt,bq,cz,bf.injEq]at e
   obtain⟨y,h1,ys,h2,rfl⟩:=e
   simp[nU h1,ih h2]
 unfold FJ at h|-;split at h
 ·rename_i x e;cases h;rw[key e];rfl
 ·rename_i vs hne e;cases h;rw[key e];cases vs with
  |nil=>simp
  |cons a r=>
   cases r with
   |nil=>exact absurd rfl (hne a)
   |cons b r=>simp
 ·cases h
theorem OJ:∀(i:Nat) (vs:List V),AH i (vs.map (V.ren σ δ))=(AH i vs).ren σ δ
 |_,[]=>rfl
 |i,v::vs=>by simp[AH,Fr.ren,OJ (i+1) vs]
end Go.Pg
