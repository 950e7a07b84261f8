/- Names and levels turned into others: what the operations give turns with them. No program in sight. -/
import Derived.Test.YthhdhbalenanjaaGreatP4
noncomputable section
open Go renaming TypeId->cd,Operand->cg
open Option renaming map_eq_some_iff->bj,bind_eq_some_iff->bk,map_some->bq,some->bc,map_none->bm,bind_eq_bind->bp,pure_def->cw
open List renaming map_congr_left->bw,map_drop->bx,map_take->bz,getElem?_map->bf,length_map->bh,map_cons->bn,map_map->cj,mapM_cons->ck,sizeOf_lt_of_mem->cq,all_map->cx,map->cz
open Nat renaming add_assoc->bg
namespace Go.Pg
variable {P:Program}
variable {σ σ':Nat->Nat}{δ:Nat}
theorem PT:∀(l:List V),cU σ δ l=l.map (V.ren σ δ)
 |[]=>by simp[cU]
 |v::r=>by simp[cU,PT r]
theorem mB:∀(l:List (List V)),lP σ δ l=l.map (cz (V.ren σ δ))
 |[]=>by simp[lP]
 |v::r=>by simp[lP,PT,mB r]
@[simp] theorem ER(k:IntKind)(n:Int):(V.int k n).ren σ δ=.int k n:=by simp[V.ren]
@[simp] theorem MH(b:Bool):(V.bool b).ren σ δ=.bool b:=by simp[V.ren]
@[simp] theorem A84(v:Value):(V.raw v).ren σ δ=.raw v:=by simp[V.ren]
@[simp] theorem H0(cs:List V):(V.agg cs).ren σ δ=.agg (cs.map (V.ren σ δ)):=by simp[V.ren,PT]
@[simp] theorem LD(cs:List V):(V.tup cs).ren σ δ=.tup (cs.map (V.ren σ δ)):=by simp[V.ren,PT]
@[simp] theorem E3(f:Bool)(es:List (List V)):(V.list f es).ren σ δ=.list f (es.map (cz (V.ren σ δ))):=by simp[V.ren,mB]
@[simp] theorem M6(cs:List V):(V.ref cs).ren σ δ=.ref (cs.map (V.ren σ δ)):=by simp[V.ren,PT]
@[simp] theorem H1(l k g off:Nat):(V.ptr l k g off).ren σ δ=.ptr (l+δ) k (σ g) off:=by simp[V.ren]
@[simp] theorem OY(l k g i off:Nat):(V.eptr l k g i off).ren σ δ=.eptr (l+δ) k (σ g) i off:=by simp[V.ren]
@[simp] theorem H2(l k g n:Nat):(V.vec l k g n).ren σ δ=.vec (l+δ) k (σ g) n:=by simp[V.ren]
@[simp] theorem RF(l k g:Nat):(V.mp l k g).ren σ δ=.mp (l+δ) k (σ g):=by simp[V.ren]
@[simp] theorem OZ(f:FuncId)(xs ys:List V):(V.fn f xs ys).ren σ δ=.fn f (xs.map (V.ren σ δ)) (ys.map (V.ren σ δ)):=by simp[V.ren,PT]
@[simp] theorem gV(l k g:Nat):(V.yld l k g).ren σ δ=.yld (l+δ) k (σ g):=by simp[V.ren]
@[simp] theorem AJZ:V.nil.ren σ δ=.nil:=by simp[V.ren]
@[simp] theorem A85:V.any.ren σ δ=.any:=by simp[V.ren]
@[simp] theorem XQ(l k g i n:Nat):(V.vtl l k g i n).ren σ δ=.vtl (l+δ) k (σ g) i n:=by simp[V.ren]
theorem M7{σ':Nat->Nat}{δ':Nat}:∀(v:V),(v.ren σ δ).ren σ' δ'=v.ren (fun γ=>σ' (σ γ)) (δ+δ')
 |.agg cs=>by simp only[H0,cj];congr 1;exact bw fun v _=>M7 v
 |.tup cs=>by simp only[LD,cj];congr 1;exact bw fun v _=>M7 v
 |.ref cs=>by simp only[M6,cj];congr 1;exact bw fun v _=>M7 v
 |.list b es=>by
  simp only[E3,cj];congr 1;refine bw fun e he=>?_;have hlt:=cq he;simp only[Function.comp,cj];exact bw fun v hv=>by have hlt2:=cq hv;exact M7 v
 |.fn f xs ys=>by
  simp only[OZ,cj];congr 1
  ·exact bw fun v _=>M7 v
  ·exact bw fun v _=>M7 v
 |.int k n=>by simp
 |.bool b=>by simp
 |.raw v=>by simp
 |.ptr l k g off=>by simp[bg]
 |.eptr l k g i off=>by simp[bg]
 |.vec l k g n=>by simp[bg]
 |.mp l k g=>by simp[bg]
 |.yld l k g=>by simp[bg]
 |.nil=>by simp
 |.vtl l k g i n=>by simp[bg]
 |.any=>by simp
decreasing_by all_goals first|(simp_wf;omega)|decreasing_tactic
def AX.ren(σ:Nat->Nat)(δ:Nat):AX->AX
 |.box cs=>.box (cs.map (V.ren σ δ))
 |.vec T es=>.vec T (es.map (cz (V.ren σ δ)))
 |.map es=>.map (es.map fun p=>(p.1.ren σ δ,p.2.ren σ δ))
 |.loop fr ps asg body N st=>.loop (fr.map fun p=>(p.1,p.2.1,p.2.2.ren σ δ)) ps asg body N st
 |.dead=>.dead
def AA.ren(σ:Nat->Nat)(δ:Nat)(L:AA):AA:=L.map fun p=>(p.1,σ p.2.1,p.2.2.ren σ δ)
def Fr.ren(σ:Nat->Nat)(δ:Nat)(fr:Fr):Fr:=fr.map fun p=>(p.1,p.2.1,p.2.2.ren σ δ)
def St.emb(σ:Nat->Nat)(pre:List AA)(s:St):St:=⟨pre++s.up.map (AA.ren σ pre.length),s.loc.ren σ pre.length⟩
theorem Fr.get_ren:∀(fr:Fr) (k:Nat),(fr.ren σ δ).get k=(fr.get k).map fun p=>(p.1,p.2.ren σ δ)
 |[],k=>rfl
 |(j,x)::fr,k=>by
  have:=Fr.get_ren fr k;simp only[Fr.ren,bn,Fr.get]at this|-;split
  ·rfl
  ·exact this
theorem AA.get_ren:∀(L:AA) (k:Nat),(L.ren σ δ).get k=(L.get k).map fun p=>(σ p.1,p.2.ren σ δ)
 |[],k=>rfl
 |(j,x)::L,k=>by
  have:=AA.get_ren L k;simp only[AA.ren,bn,AA.get]at this|-;split
  ·rfl
  ·exact this
variable {pre:List AA}{s:St}
theorem DI:(s.emb σ pre).up.length=s.up.length+pre.length:=by simp[St.emb,Nat.add_comm]
theorem B0(l k:Nat):(s.emb σ pre).get (l+pre.length) k=(s.get l k).map fun p=>(σ p.1,p.2.ren σ pre.length):=by
 unfold St.get;rw[DI];by_cases h:l=s.up.length
 ·rw[if_pos h,if_pos (by rw[h])];exact AA.get_ren _ _
 ·rw[if_neg h,if_neg (by omega)];simp only[St.emb];rw[List.getElem?_append_right (by omega),Nat.add_sub_cancel,bf];cases s.up[l]? with
  |none=>rfl
  |some L=>simp[AA.get_ren]
theorem Z6{α:Type}(f:α->α)(M:List α)(l:Nat):∀(pre:List α),(pre++M).modify (l+pre.length) f=pre++M.modify l f
 |[]=>rfl
 |p::pre=>by have:=Z6 f M l pre;simp only[List.cons_append,List.length_cons,<-bg,List.modify_succ_cons,this]
theorem CS{l k g:Nat}{r:AX}:(s.put l k g r).emb σ pre=(s.emb σ pre).put (l+pre.length) k (σ g) (r.ren σ pre.length):=by
 unfold St.put;rw[DI];by_cases h:l=s.up.length
 ·rw[if_pos h,if_pos (by rw[h])];simp[St.emb,AA.ren,AA.put]
 ·rw[if_neg h,if_neg (by omega)];simp only[St.emb,St.mk.injEq,and_true];rw[Z6];congr 1;refine List.ext_getElem? fun i=>?_;simp only[bf,List.getElem?_modify];by_cases hi:l=i
  ·subst hi;cases s.up[l]? with
   |none=>rfl
   |some L=>simp[AA.ren,AA.put]
  ·simp[hi]
theorem RG{u:Value}{v:V}(h:CP u=some v):v.ren σ δ=v:=by
 cases u with
 |int k n=>simp only[CP,bc.injEq]at h;subst h;simp
 |bool b=>simp only[CP,bc.injEq]at h;subst h;simp
 |agg cs=>simp[CP]at h
 |tuple cs=>simp[CP]at h
 |slice a n c=>
  unfold CP at h
  split at h<;>simp_all<;>subst h<;>simp
 |_=>simp only[CP,bc.injEq]at h;subst h;simp
theorem RH:∀{l:List Value} {cs:List V},HA l=some cs->cs.map (V.ren σ δ)=cs
 |[],cs,h=>by simp[HA]at h;subst h;rfl
 |v::r,cs,h=>by
  unfold HA at h;split at h
  ·rename_i x l h1 h2;cases h;simp[RG h1,RH h2]
  ·cases h
end Go.Pg
namespace Go.Pg
variable {P:Program}{σ:Nat->Nat}{δ:Nat}{pre:List AA}{s:St}{fr:Fr}{g:Bool}
theorem AD8(x:cg):rd (fr.ren σ δ) x=(rd fr x).map fun p=>(p.1,p.2.ren σ δ):=by
 cases x with
 |tmp t=>exact Fr.get_ren fr t
 |const u=>
  simp only[rd]
  cases h:CP u with
  |none=>rfl
  |some v=>simp[RG h]
 |func f=>simp[rd]
 |global g=>rfl
theorem DR(x:cg):D5 g (fr.ren σ δ) x=(D5 g fr x).map (V.ren σ δ):=by
 unfold D5;rw[AD8];cases rd fr x with
 |none=>rfl
 |some p=>
  obtain⟨c,v⟩:=p
  simp only[bq]
  split<;>rfl
theorem I5(v:V):BD (v.ren σ δ)=BD v:=by cases v<;>simp[BD]
theorem EX(v:V):A7 (v.ren σ δ)=(A7 v).map (V.ren σ δ):=by cases v<;>simp[A7]
theorem yM(v:V):weakC (v.ren σ δ)=(weakC v).ren σ δ:=by cases v<;>simp[weakC]
theorem VD(v:V):weakV (v.ren σ δ)=(weakV v).ren σ δ:=by cases v<;>simp[weakV,yM]
theorem WV{p:V}{cs:List V}(h:A8 s p=some cs):A8 (s.emb σ pre) (p.ren σ pre.length)=some (cs.map (V.ren σ pre.length)):=by
 cases p with
 |ref ds=>simp only[A8,bc.injEq]at h;subst h;simp[A8]
 |ptr l k γ off=>
  simp only[A8]at h
  split at h
  ·rename_i γ' ds e;split at h
   ·rename_i eg;cases h;simp[A8,B0,e,AX.ren,eg,bx]
   ·cases h
  ·cases h
 |eptr l k γ i off=>
  simp only[A8]at h
  split at h
  ·rename_i γ' T es e;split at h
   ·rename_i eg;obtain⟨x,hx,rfl⟩:=bj.1 h;simp[A8,B0,e,AX.ren,eg,hx,bx]
   ·cases h
  ·cases h
 |_=>cases h
theorem eG{T:cd}{cs:List V}{v:V}(h:BM P T cs=some v):BM P T (cs.map (V.ren σ δ))=some (v.ren σ δ):=by
 unfold BM at h|-;split at h
 ·split at h
  ·rename_i hc;cases h;simp[hc,bz]
  ·cases h
 ·split at h
  ·rename_i hc;cases h;simp[hc,bz]
  ·cases h
 ·simp only[bf,h,bq]
 ·cases h
theorem eH{U:cd}{cs:List V}{off:Nat}{v:V}(h:MD P U cs off=some v):MD P U (cs.map (V.ren σ δ)) off=some (v.ren σ δ):=by
 unfold MD at h|-;split at h
 ·split at h
  ·rename_i hc;cases h;simp[hc,bz,bx]
  ·cases h
 ·split at h
  ·rename_i hc;cases h;simp[hc,bz,bx]
  ·cases h
 ·simp only[bf,h,bq]
 ·cases h
theorem mC{T:cd}{x v:V}{f:Nat}(h:JB P T x f=some v):JB P T (x.ren σ δ) f=some (v.ren σ δ):=by
 unfold JB at h;split at h
 ·rename_i cs U off e;simp[JB,e,eH h]
 ·cases h
theorem XC{T:cd}{x v:V}{f:Nat}(h:DC P T x f=some v):DC P T (x.ren σ δ) f=some (v.ren σ δ):=by
 unfold DC at h;split at h
 ·rename_i U off e;split at h
  ·cases h
  ·rename_i hz;split at h<;>first
    |(cases h;done)
    |(cases h;simp[DC,e,hz,bx])
 ·cases h
theorem E9(es:List (List V))(j:Nat):(es.map (cz (V.ren σ δ))).getD j []=(es.getD j []).map (V.ren σ δ):=by simp only[List.getD_eq_getElem?_getD,bf];cases es[j]?<;>rfl
theorem XD{T:cd}{x i v:V}(h:BN P s T x i=some v):BN P (s.emb σ pre) T (x.ren σ pre.length) (i.ren σ pre.length)=some (v.ren σ pre.length):=by
 unfold BN at h;split at h
 ·rename_i e f es k j e1;split at h
  ·rename_i hc;cases h;obtain⟨c1,c2,c3,c4⟩:=hc;simp only[E3,ER,BN,e1,bh,E9,M6];rw[if_pos ⟨c1,c2,c3,c4⟩]
  ·cases h
 ·rename_i e l k γ n k' j e1;split at h
  ·rename_i γ' U es e2;split at h
   ·rename_i hc;cases h;obtain⟨c1,c2,c3,c4,c5,c6⟩:=hc;subst c1;simp only[H2,ER,BN,e1,B0,e2,bq,AX.ren,bh,E9,OY];rw[if_pos ⟨trivial,c2,c3,c4,c5,c6⟩]
   ·cases h
  ·cases h
 ·rename_i n e cs k j e1;split at h
  ·rename_i hc;cases h;simp only[M6,ER,BN,e1,if_pos hc,bx]
  ·cases h
 ·rename_i n e l k γ o k' j e1;split at h
  ·rename_i hc;cases h;simp only[H1,ER,BN,e1,if_pos hc]
  ·cases h
 ·rename_i n e l k γ i' o k' j e1;split at h
  ·rename_i hc;cases h;simp only[OY,ER,BN,e1,if_pos hc]
  ·cases h
 ·cases h
theorem mD{T:cd}{x i v:V}(h:J4 P T x i=some v):J4 P T (x.ren σ δ) (i.ren σ δ)=some (v.ren σ δ):=by
 unfold J4 at h;split at h
 ·rename_i n e cs k j e1;split at h
  ·rename_i hc;simp only[H0,ER,J4,e1,if_pos hc,eH h]
  ·cases h
 ·cases h
theorem pY{S D:cd}{x v:V}(h:MU P S D x=some v):MU P S D (x.ren σ δ)=some (v.ren σ δ):=by
 unfold MU at h;split at h
 ·rename_i e1 e2;cases h;simp[MU,e1,e2]
 ·cases h
theorem AD9{op:UnOp}{x v:V}(h:cN op x=some v):cN op (x.ren σ δ)=some (v.ren σ δ):=by unfold cN at h;split at h<;>first|(cases h;done)|(cases h;simp[cN])
theorem yN{x v:V}(h:NN x=some v):NN (x.ren σ δ)=some (v.ren σ δ):=by cases x<;>simp[NN]at h<;>subst h<;>simp[NN]
theorem cW{x v:V}{i:Nat}(h:F9 x i=some v):F9 (x.ren σ δ) i=some (v.ren σ δ):=by cases x<;>simp[F9]at h;simp[F9,h]
theorem yO{T:cd}{x v:V}(h:IP P T x=some v):IP P T (x.ren σ δ)=some (v.ren σ δ):=by
 unfold IP at h;split at h
 ·rename_i e f es hu;cases h;simp[IP,hu]
 ·rename_i e l k g n hu;cases h;simp[IP,hu]
 ·rename_i e hu;cases h;simp[IP,hu]
 ·rename_i n e hu;cases h;unfold IP;rw[hu];simp
 ·cases h
theorem AJ0{n m:Nat}{h:Option V}(e:hiN n h=some m):hiN n (h.map (V.ren σ δ))=some m:=by
 cases h with
 |none=>exact e
 |some a=>cases a<;>first|(simp only[bq,ER];exact e)|(simp[hiN]at e)
theorem mE{T:cd}{x v:V}{lo hi mx:Option V}(h:C0 P s T x lo hi mx=some v):C0 P (s.emb σ pre) T (x.ren σ pre.length) (lo.map (V.ren σ pre.length)) (hi.map (V.ren σ pre.length)) (mx.map (V.ren σ pre.length))=some (v.ren σ pre.length):=by
 unfold C0 at h;split at h
 ·rename_i e f es k h' e1;split at h
  ·rename_i hc;cases h;simp only[E3,bq,ER,bm,C0,e1,bh,if_pos hc,bz]
  ·cases h
 ·rename_i e f es k l e1;split at h
  ·rename_i hc;cases h;have:(es.map (cz (V.ren σ pre.length))).all (fun x=>x.length==P.cellsOf e)=true:=by rw[cx];exact hc.2.2.2▸(by congr 1;funext x;simp)
   simp only[E3,bq,ER,bm,C0,e1,bh,if_pos (⟨hc.1,hc.2.1,hc.2.2.1,this⟩:_/\_/\_/\_),bx]
  ·cases h
 ·rename_i e f es k l k' h' e1;split at h
  ·rename_i hc;cases h;have:(es.map (cz (V.ren σ pre.length))).all (fun x=>x.length==P.cellsOf e)=true:=by rw[cx];exact hc.2.2.2.2▸(by congr 1;funext x;simp)
   simp only[E3,bq,ER,bm,C0,e1,bh,if_pos (⟨hc.1,hc.2.1,hc.2.2.1,hc.2.2.2.1,this⟩:_/\_/\_/\_/\_),bx,bz]
  ·cases h
 ·rename_i e f es k h' k' m e1;split at h
  ·rename_i hc;cases h;simp only[E3,bq,ER,bm,C0,e1,if_pos hc,List.map_nil]
  ·cases h
 ·rename_i e l k g n k' h' e1;split at h
  ·rename_i hc;cases h;simp only[H2,bq,ER,bm,C0,e1,if_pos hc]
  ·cases h
 ·rename_i e l k g n k' i e1;split at h
  ·rename_i g' T' es hget;split at h
   ·rename_i hc;obtain⟨rfl,h1,h2,h3,h4,h5⟩:=hc;cases h;have:(es.map (cz (V.ren σ pre.length))).all (fun x=>x.length==P.cellsOf e)=true:=by rw[cx];exact h1▸(by congr 1;funext x;simp)
    simp only[H2,XQ,bq,ER,bm,C0,e1,B0,hget,AX.ren];rw[if_pos ⟨trivial,this,by simpa using h2,h3,h4,h5⟩]
   ·cases h
  ·cases h
 ·rename_i n e l k g o e1;split at h
  ·rename_i g' cs m hget hm;split at h
   ·rename_i hc;obtain⟨rfl,h1,h2⟩:=hc;cases h;simp only[H1,XQ,bm,C0,e1,B0,hget,AX.ren,bq,AJ0 hm];rw[if_pos ⟨trivial,h1,by simpa using h2⟩]
   ·cases h
  ·cases h
 ·cases h
theorem yP{x y v:V}(h:TE x y=some v):TE (x.ren σ δ) (y.ren σ δ)=some (v.ren σ δ):=by
 unfold TE at h;split at h
 ·split at h
  ·rename_i hk;cases h;simp[TE,hk]
  ·cases h
 ·cases h
theorem yQ{x y v:V}(h:TF x y=some v):TF (x.ren σ δ) (y.ren σ δ)=some (v.ren σ δ):=by
 unfold TF at h;split at h
 ·split at h
  ·rename_i hk;cases h;simp[TF,hk]
  ·cases h
 ·cases h
theorem yR{op:BinOp}{k:IntKind}{a b:Int}{v:V}(h:E1 op k a b=some v):v.ren σ δ=v:=by
 unfold E1 at h;split at h<;>first
  |(cases h;simp;done)
  |(split at h<;>first|(cases h;done)|(cases h;simp;done))
  |(obtain⟨r,_,rfl⟩:=bj.1 h;simp)
theorem M8:∀(cs:List V),EF (cs.map (V.ren σ δ))=EF cs
 |[]=>rfl
 |c::cs=>by have ih:=M8 cs;cases c<;>simp[EF,ih]
theorem AEA{op:BinOp}{k:IntKind}{a b:Int}{v:V}(h:cM op k a b=some v):v.ren σ δ=v:=by
 cases op<;>simp only[cM]at h;case shl=>split at h<;>cases h;simp
 case shr=>split at h<;>cases h;simp
 all_goals cases h
theorem yS{op:BinOp}{T:cd}{x y v:V}(h:GS P op T x y=some v):GS P op T (x.ren σ δ) (y.ren σ δ)=some (v.ren σ δ):=by
 unfold GS at h;split at h
 ·split at h
  ·rename_i hk;simp only[ER,GS,if_pos hk,h,yR h]
  ·rename_i hk;simp only[ER,GS,if_neg hk,h,AEA h]
 ·split at h
  ·rename_i hk;have hv:v.ren σ δ=v:=by split at h<;>first|(cases h;done)|(cases h;simp)
   rw[hv];simp only[MH,GS,if_pos hk];exact h
  ·cases h
 ·rename_i cs ds;have he:U1 P T (cs.map (V.ren σ δ)) (ds.map (V.ren σ δ))=U1 P T cs ds:=by unfold U1;rw[M8,M8]
  have hv:v.ren σ δ=v:=by
   split at h
   ·obtain⟨r,_,rfl⟩:=bj.1 h;simp
   ·obtain⟨r,_,rfl⟩:=bj.1 h;simp
   ·cases h
  rw[hv];simp only[H0,GS,he];exact h
 ·rename_i x' _;have hi:I2 (x.ren σ δ)=I2 x:=by
   cases x with
   |list f es=>cases es<;>simp[I2]
   |vec l k g n=>cases n<;>simp[I2]
   |vtl l k g i n=>cases n<;>simp[I2]
   |_=>simp[I2]
  have hb:∀y:V,GS P op T y .nil=if D0 P T then(match op with
   |.eql=>(I2 y).map V.bool
   |.neq=>(I2 y).map fun b=>V.bool !b
   | _=>none) else none:=fun y=>by cases y <;> rfl
  have hv:v.ren σ δ=v:=by
   split at h
   ·split at h
    ·obtain⟨r,_,rfl⟩:=bj.1 h;simp
    ·obtain⟨r,_,rfl⟩:=bj.1 h;simp
    ·cases h
   ·cases h
  rw[hv,AJZ,hb,hi];exact h
 ·cases h
theorem VE:∀{cs:List V} {l:List Value},EF cs=some l->cs.map (V.ren σ δ)=cs
 |[],_,_=>rfl
 |c::cs,l,h=>by
  cases c with
  |int k n=>
   simp only[EF]at h
   split at h
   ·rename_i r hr;simp[VE hr]
   ·cases h
  |bool b=>
   simp only[EF]at h
   split at h
   ·rename_i r hr;simp[VE hr]
   ·cases h
  |_=>simp[EF]at h
theorem Z7{K:cd}(v:V):W7 P K (v.ren σ δ)=W7 P K v:=by
 cases v with
 |agg cs=>
  simp only[H0,W7,M8]
  split
  ·rename_i l hl;rw[VE hl]
  ·rfl
 |_=>simp[W7]
theorem VF{K:cd}{ks:List V}:∀(es:List (V×V)) (i:Nat),NO P K ks (es.map fun p=>(p.1.ren σ δ,p.2.ren σ δ)) i=NO P K ks es i
 |[],_=>rfl
 |(k,v)::es,i=>by simp only[bn,NO,Z7,VF es]
theorem pZ{T:cd}{z:V}(h:U2 P T=some z):z.ren σ δ=z:=by
 unfold U2 at h;split at h
 ·split at h
  ·rename_i cs hz;cases h;simp[RH hz]
  ·cases h
 ·exact RG h
 ·cases h
theorem gW{T:cd}{x k v:V}{ok:Bool}(h:DT P s T x k ok=some v):DT P (s.emb σ pre) T (x.ren σ pre.length) (k.ren σ pre.length) ok=some (v.ren σ pre.length):=by
 unfold DT at h;split at h
 ·rename_i K E l q g hm;split at h
  ·rename_i g' es hget;split at h
   ·rename_i hc;obtain⟨rfl,hT⟩:=hc;split at h
    ·rename_i ks hks;simp only[RF,DT,hm,B0,hget,bq,AX.ren,Z7,hks,VF,if_pos (⟨trivial,hT⟩:True/\_)];split at h
     ·rename_i hf;obtain⟨z,hz,rfl⟩:=bj.1 h;simp only[hz,bq];cases ok<;>simp[pZ hz]
     ·rename_i i hf;obtain⟨e,he,rfl⟩:=bj.1 h;simp only[bf,he,bq];cases ok<;>simp
     ·cases h
    ·cases h
   ·cases h
  ·cases h
 ·cases h
theorem VG{T:cd}{x k v:V}{l q γ:Nat}{es:List (V×V)}(h:ME P s T x k v=some (l,q,γ,es)):ME P (s.emb σ pre) T (x.ren σ pre.length) (k.ren σ pre.length) (v.ren σ pre.length)=some (l+pre.length,q,σ γ,es.map fun p=>(p.1.ren σ pre.length,p.2.ren σ pre.length)):=by
 unfold ME at h;split at h
 ·rename_i K E l q g hm;split at h
  ·rename_i g' es hget;split at h
   ·rename_i hc;obtain⟨rfl,hT⟩:=hc;split at h
    ·rename_i ks hks;simp only[RF,ME,hm,B0,hget,bq,AX.ren,Z7,hks,VF,if_pos (⟨trivial,hT⟩:True/\_)];split at h
     ·rename_i hf;cases h;simp
     ·rename_i i hf;cases h;simp[List.map_set]
     ·cases h
    ·cases h
   ·cases h
  ·cases h
 ·cases h
theorem JN{r:cg->Option V}:∀{l:List cg} {vs:List V},l.mapM r=some vs->l.mapM (fun x=>(r x).map (V.ren σ δ))=some (vs.map (V.ren σ δ))
 |[],vs,h=>by simp at h;subst h;rfl
 |x::l,vs,h=>by simp only[ck,bp,bk,cw,bc.injEq]at h;obtain⟨v,h1,us,h2,rfl⟩:=h;simp[h1,JN h2]
theorem AJ1{o:Oper}{r:cg->Option V}{v:V}(h:J0 P o s r=some v):J0 P o (s.emb σ pre) (fun x=>(r x).map (V.ren σ pre.length))=some (v.ren σ pre.length):=by
 unfold J0 at h|-;split at h<;>(try simp only[bk]at h);case h_1=>simp[h]
 case h_2=>simp[h]
 case h_3=>obtain⟨a,h1,h2⟩:=h;simp[h1,yN h2]
 case h_4=>obtain⟨a,h1,b,h2,h3⟩:=h;simp[h1,WV h2,eG h3]
 case h_5=>obtain⟨a,h1,b,h2,h3⟩:=h;simp[h1,h2,yS h3]
 case h_6=>obtain⟨a,h1,h2⟩:=h;simp[h1,AD9 h2]
 case h_7=>obtain⟨a,h1,h2⟩:=h;simp[h1,pY h2]
 case h_8=>obtain⟨a,h1,h2⟩:=h;simp[h1,XC h2]
 case h_9=>obtain⟨a,h1,h2⟩:=h;simp[h1,mC h2]
 case h_10=>obtain⟨a,h1,b,h2,h3⟩:=h;simp[h1,h2,XD h3]
 case h_11=>obtain⟨a,h1,b,h2,h3⟩:=h;simp[h1,h2,mD h3]
 case h_12=>obtain⟨a,h1,h2⟩:=h;simp[h1,cW h2]
 case h_13=>
  split at h
  ·rename_i e1 e2;simp only[bk]at h;obtain⟨a,h1,h2⟩:=h;simp[h1,yO h2]
  ·cases h
 case h_14=>
  split at h
  ·simp only[bk]at h;obtain⟨a,h1,b,h2,h3⟩:=h;simp[h1,h2,yP h3]
  ·cases h
 case h_15=>
  split at h
  ·simp only[bk]at h;obtain⟨a,h1,b,h2,h3⟩:=h;simp[h1,h2,yQ h3]
  ·cases h
 case h_16 T x lo hi mx ho=>
  obtain⟨a,h1,l,h2,u,h3,m,h4,h5⟩:=h
  have key:∀(z:Option cg) (q:Option V),(match z with|none=>some none|some y=>(r y).map some)=some q->(z=none/\q=none)\/∃y b,z=some y/\r y=some b/\q=some b:=by
   intro z q hz;cases z with
   |none=>cases hz;exact .inl ⟨rfl,rfl⟩
   |some y=>
    obtain⟨b,hb,rfl⟩:=bj.1 hz
    exact .inr ⟨y,b,rfl,hb,rfl⟩
  have h6:=mE (σ:=σ) (pre:=pre) h5
  rcases key lo l h2 with⟨rfl,rfl⟩|⟨y1,b1,rfl,q1,rfl⟩<;>rcases key hi u h3 with⟨rfl,rfl⟩|⟨y2,b2,rfl,q2,rfl⟩<;>rcases key mx m h4 with⟨rfl,rfl⟩|⟨y3,b3,rfl,q3,rfl⟩<;>simp_all
 case h_17=>obtain⟨a,h1,b,h2,h3⟩:=h;simp[h1,h2,gW h3]
 case h_18 f first captured ho=>
  obtain⟨a,h1,b,h2,h3⟩:=h
  cases h3
  simp[JN h1,JN h2]
 case h_19=>cases h
end Go.Pg
namespace Go.Pg
variable {P:Program}{σ:Nat->Nat}{δ:Nat}{pre:List AA}{s:St}{fr:Fr}{g:Bool}
theorem HJ{T:cd}{z:List V}(h:B9 P T=some z):z.map (V.ren σ δ)=z:=by
 unfold B9 at h;split at h
 ·exact RH h
 ·cases h
theorem DD{α β:Type}(f:α->β)(cs ds:List α)(off:Nat):A2 (cs.map f) off (ds.map f)=(A2 cs off ds).map f:=by simp[A2,bz,bx]
theorem PU{place:Nat->Option (Nat×Nat)}:∀{ps:List (Nat×V)} {cs ds:List V},DK place cs ps=some ds->DK place (cs.map (V.ren σ δ)) (ps.map fun p=>(p.1,p.2.ren σ δ))=some (ds.map (V.ren σ δ))
 |[],cs,ds,h=>by simp[DK]at h;subst h;rfl
 |(i,v)::r,cs,ds,h=>by
  simp only[DK]at h;split at h
  ·cases h
  ·rename_i off size e;split at h
   ·rename_i hc;have:=PU h;simp only[bn,DK,e,EX,bh];rw[if_pos hc,DD];exact this
   ·cases h
theorem M9(ps:List (Nat×V)):((ps.map fun p=>(p.1,p.2.ren σ δ)).all fun p=>BD p.2)=ps.all fun p=>BD p.2:=by rw[cx];congr 1;funext p;exact I5 p.2
theorem mF{T:cd}{ps:List (Nat×V)}{v:V}(h:C9 P T ps=some v):C9 P T (ps.map fun p=>(p.1,p.2.ren σ δ))=some (v.ren σ δ):=by
 unfold C9 at h|-;split at h
 ·rename_i z fs e1 e2;simp only[M9];split at h
  ·rename_i hc;obtain⟨cs,h1,rfl⟩:=bj.1 h;have:=PU (σ:=σ) (δ:=δ) h1;rw[HJ e1]at this;rw[if_pos hc,this];simp
  ·cases h
 ·rename_i z n e e1 e2;simp only[M9];split at h
  ·rename_i hc;obtain⟨cs,h1,rfl⟩:=bj.1 h;have:=PU (σ:=σ) (δ:=δ) h1;rw[HJ e1]at this;rw[if_pos hc,this];simp
  ·cases h
 ·cases h
theorem Z8{β:Type}(f:V->V)(size:Nat):∀(n:Nat) (cs:List V),CQ size (cs.map f) n=(CQ size cs n).map (cz f)
 |0,_=>rfl
 |n+1,cs=>by simp only[CQ,bn,bz];rw[<-bx,Z8 (β:=β) f size n]
theorem VH{T:cd}{len:Nat}{ps:List (Nat×V)}{v:V}(h:B8 P T len ps=some v):B8 P T len (ps.map fun p=>(p.1,p.2.ren σ δ))=some (v.ren σ δ):=by
 unfold B8 at h|-;split at h
 ·rename_i e e1;split at h
  ·rename_i z e2;split at h
   ·rename_i hc;obtain⟨cs,h1,rfl⟩:=bj.1 h;have:=PU (σ:=σ) (δ:=δ) h1;have hz:(List.replicate len z).flatten.map (V.ren σ δ)=(List.replicate len z).flatten:=by rw[List.map_flatten,List.map_replicate,HJ e2]
    rw[hz]at this;simp only[M9];rw[if_pos hc,this];simp[Z8 (β:=Nat)]
   ·cases h
  ·cases h
 ·cases h
theorem RI{r:cg->Option V}:∀{l:List (Nat×cg)} {ps:List (Nat×V)},DF r l=some ps->DF (fun x=>(r x).map (V.ren σ δ)) l=some (ps.map fun p=>(p.1,p.2.ren σ δ))
 |[],ps,h=>by simp[DF]at h;subst h;rfl
 |(i,x)::l,ps,h=>by
  simp only[DF]at h;split at h
  ·rename_i v us h1 h2;cases h;simp[DF,h1,RI h2]
  ·cases h
theorem HK{v:V}{es:List (List V)}(h:elemsOf s v=some es):elemsOf (s.emb σ pre) (v.ren σ pre.length)=some (es.map (cz (V.ren σ pre.length))):=by
 cases v with
 |list f ds=>simp only[elemsOf,bc.injEq]at h;subst h;simp[elemsOf]
 |vec l k γ n=>
  simp only[elemsOf]at h
  split at h
  ·rename_i γ' T ds e;split at h
   ·rename_i hc;cases h;simp[elemsOf,B0,e,AX.ren,hc.1,hc.2,bz]
   ·cases h
  ·cases h
 |vtl l k γ i n=>
  simp only[elemsOf]at h
  split at h
  ·rename_i γ' cs e;split at h
   ·rename_i hc;cases h;simp[elemsOf,B0,e,AX.ren,hc.1,hc.2,bz,bx,Function.comp_def]
   ·cases h
  ·cases h
 |nil=>simp only[elemsOf,bc.injEq]at h;subst h;simp[elemsOf]
 |raw v=>cases v with
  |slice a n c=>cases n with
   |zero=>cases h;simp[elemsOf]
   |succ n=>cases h
  |_=>cases h
 |_=>cases h
theorem J6:D5 g (fr.ren σ δ)=fun x=>(D5 g fr x).map (V.ren σ δ):=by funext x;exact DR x
theorem JO{o:Oper}{v:V}(h:F1 P g o fr s=some v):F1 P g o (fr.ren σ pre.length) (s.emb σ pre)=some (v.ren σ pre.length):=by
 unfold F1 at h|-;split at h
 ·rename_i c x y ho;split at h
  ·rename_i c' ca va cb vb e1 e2 e3;split at h
   ·rename_i hc;cases h;simp only[DR,AD8,e1,e2,e3,bq,MH];rw[if_pos hc]
   ·cases h
  ·cases h
 ·rename_i T parts ho;obtain⟨ps,h1,h2⟩:=bk.1 h;rw[J6,RI h1];exact mF h2
 ·rename_i T len parts ho;obtain⟨ps,h1,h2⟩:=bk.1 h;rw[J6,RI h1];exact VH h2
 ·rw[J6];exact AJ1 h
def A1(s:St):Nat->V->Option V
 |0,_=>none
 |f+1,v=>match v with
  |.list _ es=>some (.list false es)
  | .vec l k g m=>if l=s.up.length then(match s.loc.get k with
    |some (g',.vec _ es)=>if g'=g/\m<=es.length then some (.list false (es.take m)) else none
    | _=>none) else some v
  | .ptr l k g off=>if l=s.up.length then(match s.loc.get k with
    |some (g',.box cs)=>if g'=g then(cs.mapM (A1 s f)).map fun ds=>.ref (ds.drop off) else none
    | _=>none) else some v
  |.agg cs=>(cs.mapM (A1 s f)).map .agg
  |.tup cs=>(cs.mapM (A1 s f)).map .tup
  |.fn g xs ys=>match xs.mapM (A1 s f),ys.mapM (A1 s f)with
   |some a,some b=>some (.fn g a b)
   |_,_=>none
  |v=>some v
theorem HL{α β:Type}{f:α->Option β}{g:α->β}(h:∀x y,f x=some y->g x=y):∀{l:List α} {r:List β},l.mapM f=some r->l.map g=r
 |[],r,e=>by simp at e;subst e;rfl
 |x::l,r,e=>by simp only[ck,bp,bk,cw,bc.injEq]at e;obtain⟨y,h1,ys,h2,rfl⟩:=e;simp[h x y h1,HL h h2]
theorem O0:∀(f:Nat) {v r:V},A1 s f v=some r->DN s f v=r
 |0,v,r,h=>by cases h
 |f+1,v,r,h=>by
  have ih:=fun v r=>O0 f (v:=v) (r:=r);cases v with
  |list b es=>simpa [A1,DN]using h
  |vec l k g m=>
   simp only[A1]at h
   simp only[DN]
   split at h
   ·rename_i hl;rw[if_pos hl];split at h
    ·rename_i g' T es e;split at h
     ·rename_i hc;rw[e];simp only[if_pos hc];exact bc.inj h
     ·cases h
    ·cases h
   ·rename_i hl;rw[if_neg hl];exact bc.inj h
  |ptr l k g off=>
   simp only[A1]at h
   simp only[DN]
   split at h
   ·rename_i hl;rw[if_pos hl];split at h
    ·rename_i g' cs e;split at h
     ·rename_i hc;obtain⟨ds,h1,rfl⟩:=bj.1 h;rw[e];simp only[if_pos hc,HL ih h1]
     ·cases h
    ·cases h
   ·rename_i hl;rw[if_neg hl];exact bc.inj h
  |agg cs=>
   obtain⟨ds,h1,rfl⟩:=bj.1 h
   simp only[DN,HL ih h1]
  |tup cs=>
   obtain⟨ds,h1,rfl⟩:=bj.1 h
   simp only[DN,HL ih h1]
  |fn g xs ys=>
   simp only[A1]at h
   split at h
   ·rename_i a b h1 h2;cases h;simp only[DN,HL ih h1,HL ih h2]
   ·cases h
  |_=>simpa [A1,DN]using h
theorem GC{f f':V->Option V}(h:∀v r,f v=some r->f' (v.ren σ δ)=some (r.ren σ δ)):∀{l r:List V},l.mapM f=some r->(l.map (V.ren σ δ)).mapM f'=some (r.map (V.ren σ δ))
 |[],r,e=>by simp at e;subst e;rfl
 |x::l,r,e=>by simp only[ck,bp,bk,cw,bc.injEq]at e;obtain⟨y,h1,ys,h2,rfl⟩:=e;simp[h x y h1,GC h h2]
theorem LF(k:Nat):(s.emb σ pre).loc.get k=(s.loc.get k).map fun p=>(σ p.1,p.2.ren σ pre.length):=AA.get_ren _ _
theorem KS:∀(f:Nat) {v r:V},A1 s f v=some r->A1 (s.emb σ pre) f (v.ren σ pre.length)=some (r.ren σ pre.length)
 |0,v,r,h=>by cases h
 |f+1,v,r,h=>by
  have ih:=fun v r=>KS f (v:=v) (r:=r);cases v with
  |list b es=>simp only[A1,bc.injEq]at h;subst h;simp[A1]
  |vec l k g m=>
   simp only[A1]at h
   split at h
   ·rename_i hl;split at h
    ·rename_i g' T es e;split at h
     ·rename_i hc;cases h;simp[A1,DI,LF,hl,e,AX.ren,hc.1,hc.2,bz]
     ·cases h
    ·cases h
   ·rename_i hl;cases h;have:¬l+pre.length=s.up.length+pre.length:=by omega
    simp[A1,DI,hl]
  |ptr l k g off=>
   simp only[A1]at h
   split at h
   ·rename_i hl;split at h
    ·rename_i g' cs e;split at h
     ·rename_i hc;obtain⟨ds,h1,rfl⟩:=bj.1 h;have:=GC ih h1;simp[A1,DI,LF,hl,e,AX.ren,hc,this,bx]
     ·cases h
    ·cases h
   ·rename_i hl;cases h;simp[A1,DI,hl]
  |agg cs=>
   obtain⟨ds,h1,rfl⟩:=bj.1 h
   simp[A1,GC ih h1]
  |tup cs=>
   obtain⟨ds,h1,rfl⟩:=bj.1 h
   simp[A1,GC ih h1]
  |fn g xs ys=>
   simp only[A1]at h
   split at h
   ·rename_i a b h1 h2;cases h;simp[A1,GC ih h1,GC ih h2]
   ·cases h
  |_=>simp only[A1,bc.injEq]at h;subst h;simp[A1]
def BV(s:St)(v:V):Option V:=match v with
 |.list f es=>some (.list f es)
 |.int k n=>some (.int k n)
 |.bool b=>some (.bool b)
 |v=>A1 s 4 v
theorem J7{v r:V}(h:BV s v=some r):FZ s v=r:=by
 unfold BV at h;unfold FZ;split at h
 ·simpa using h
 ·simpa [DN]using h
 ·simpa [DN]using h
 ·rename_i h1 h2 h3;split
  ·rename_i f es;exact absurd rfl (h1 f es)
  ·exact O0 4 h
theorem WW{v:V}(h1:∀f es,v≠.list f es)(h2:∀k n,v≠.int k n)(h3:∀b,v≠.bool b):BV s v=A1 s 4 v:=by
 unfold BV;split
 ·rename_i f es;exact absurd rfl (h1 f es)
 ·rename_i k n;exact absurd rfl (h2 k n)
 ·rename_i b;exact absurd rfl (h3 b)
 ·rfl
theorem LG{v r:V}(h:BV s v=some r):BV (s.emb σ pre) (v.ren σ pre.length)=some (r.ren σ pre.length):=by
 by_cases h1:∃f es,v=.list f es
 ·obtain⟨f,es,rfl⟩:=h1;simp only[BV,bc.injEq]at h;subst h;simp[BV]
 by_cases h2:∃k n,v=.int k n
 ·obtain⟨k,n,rfl⟩:=h2;simp only[BV,bc.injEq]at h;subst h;simp[BV]
 by_cases h3:∃b,v=.bool b
 ·obtain⟨b,rfl⟩:=h3;simp only[BV,bc.injEq]at h;subst h;simp[BV]
 rw[WW (fun f es e=>h1 ⟨f,es,e⟩) (fun k n e=>h2 ⟨k,n,e⟩) (fun b e=>h3 ⟨b,e⟩)]at h;rw[WW (fun f es e=>by cases v<;>simp at e;exact h1 ⟨_,_,rfl⟩) (fun k n e=>by cases v<;>simp at e;exact h2 ⟨_,_,rfl⟩) (fun b e=>by cases v<;>simp at e;exact h3 ⟨_,rfl⟩)];exact KS 4 h
def HM{α β:Type}(f:α->Option β):List α->Option (List β)
 |[]=>some []
 |x::l=>match f x with
  |some y=>match HM f l with
   |some r=>some (y::r)
   |none=>none
  |none=>none
theorem MI{α β:Type}{f:α->Option β}{g:α->β}(h:∀x y,f x=some y->g x=y):∀{l:List α} {r:List β},HM f l=some r->l.map g=r
 |[],r,e=>by cases e;rfl
 |x::l,r,e=>by
  simp only[HM]at e;split at e
  ·rename_i y hy;split at e
   ·rename_i q hq;cases e;simp[h _ _ hy,MI h hq]
   ·cases e
  ·cases e
theorem MJ{α β:Type}{f f':α->Option β}{a:α->α}{b:β->β}(h:∀x y,f x=some y->f' (a x)=some (b y)):∀{l:List α} {r:List β},HM f l=some r->HM f' (l.map a)=some (r.map b)
 |[],r,e=>by cases e;rfl
 |x::l,r,e=>by
  simp only[HM]at e;split at e
  ·rename_i y hy;split at e
   ·rename_i q hq;cases e;simp[HM,h _ _ hy,MJ h hq]
   ·cases e
  ·cases e
def B7(s:St)(r:AX):Option AX:=match r with
 |.box cs=>match HM (BV s) cs with
  |some ds=>some (.box ds)
  |none=>none
 |.vec T es=>match HM (HM (BV s)) es with
  |some ds=>some (.vec T ds)
  |none=>none
 | .map es=>match HM (fun e:V×V=>match BV s e.1,BV s e.2 with
   |some a,some b=>some (a,b)
   | _,_=>none) es with
  |some ds=>some (.map ds)
  |none=>none
 |r=>some r
def CG(s:St)(r:AX):AX:=match B7 s r with
 |some r'=>r'
 |none=>r
theorem Z9{r r':AX}(h:B7 s r=some r'):r'=r\/r'=HV s r:=by
 unfold B7 at h;split at h
 ·split at h
  ·rename_i ds hd;cases h;exact .inr (by simp only[HV,MI (fun x y=>J7) hd])
  ·cases h
 ·split at h
  ·rename_i ds hd;cases h;exact .inr (by simp only[HV,MI (fun x y=>MI (fun x y=>J7)) hd])
  ·cases h
 ·split at h
  ·rename_i ds hd;cases h;refine .inr ?_;simp only[HV];rw[MI (g:=fun e=>(FZ s e.1,FZ s e.2)) (fun x y h=>?_) hd];split at h
   ·rename_i a b h1 h2;cases h;rw[J7 h1,J7 h2]
   ·cases h
  ·cases h
 ·cases h;exact .inl rfl
theorem LO{r r':AX}(h:B7 s r=some r'):B7 (s.emb σ pre) (r.ren σ pre.length)=some (r'.ren σ pre.length):=by
 cases r with
 |box cs=>
  simp only[B7]at h
  split at h
  ·rename_i ds hd;cases h;simp[B7,AX.ren,MJ (fun x y=>LG (σ:=σ) (pre:=pre)) hd]
  ·cases h
 |vec T es=>
  simp only[B7]at h
  split at h
  ·rename_i ds hd;cases h;simp[B7,AX.ren,MJ (fun x y=>MJ (fun x y=>LG (σ:=σ) (pre:=pre))) hd]
  ·cases h
 |map es=>
  simp only[B7]at h
  split at h
  ·rename_i ds hd;cases h;have:=MJ (f':=fun e:V×V=>match BV (s.emb σ pre) e.1,BV (s.emb σ pre) e.2 with
    |some a,some b=>some (a,b)
    | _,_=>none) (a:=fun p:V×V=>(p.1.ren σ pre.length,p.2.ren σ pre.length)) (b:=fun p:V×V=>(p.1.ren σ pre.length,p.2.ren σ pre.length)) (fun x y h=>by
     split at h
     ·rename_i a b h1 h2;cases h;simp[LG h1,LG h2]
     ·cases h) hd
   simp[B7,AX.ren,this]
  ·cases h
 |loop fr ps asg body N st=>simp only[B7,bc.injEq]at h;subst h;rfl
 |dead=>simp only[B7,bc.injEq]at h;subst h;rfl
theorem mG(r:AX):(CG s r).ren σ pre.length=r.ren σ pre.length\/(CG s r).ren σ pre.length=HV (s.emb σ pre) (r.ren σ pre.length):=by
 unfold CG;split
 ·rename_i r' h;rcases Z9 (LO (σ:=σ) (pre:=pre) h)with h'|h'
  ·exact .inl h'
  ·exact .inr h'
 ·exact .inl rfl
def AJ(s:St)(L:AA):AA:=L.map fun p=>(p.1,p.2.1,CG s p.2.2)
theorem NA(s:St):∀(L:AA) (k:Nat),(AJ s L).get k=(L.get k).map fun p=>(p.1,CG s p.2)
 |[],k=>rfl
 |(j,x)::L,k=>by
  have:=NA s L k;simp only[AJ,bn,AA.get]at this|-;split
  ·rfl
  ·exact this
theorem qD{rv:ResultVar}{v:V}(h:CR P fr s rv=some v):CR P (fr.ren σ pre.length) (s.emb σ pre) rv=some (v.ren σ pre.length):=by
 cases rv with
 |tmp t=>
  simp only[CR]at h|-
  split at h
  ·rename_i e;cases h;simp[Fr.get_ren,e]
  ·cases h
 |cell ad T=>
  simp only[CR]at h|-
  split at h
  ·rename_i p e;obtain⟨cs,h1,h2⟩:=bk.1 h;simp[Fr.get_ren,e,WV h1,eG h2]
  ·cases h
theorem O1{rs:List ResultVar}{v:V}(h:F0 P rs fr s=some v):F0 P rs (fr.ren σ pre.length) (s.emb σ pre)=some (v.ren σ pre.length):=by
 have key:∀{rs:List ResultVar} {vs:List V},rs.mapM (CR P fr s)=some vs->rs.mapM (CR P (fr.ren σ pre.length) (s.emb σ pre))=some (vs.map (V.ren σ pre.length)):=by
  intro rs;induction rs with
  |nil=>intro vs e;simp at e;subst e;rfl
  |cons x l ih=>
   intro vs e
   simp only[ck,bp,bk,cw,bc.injEq]at e
   obtain⟨y,h1,ys,h2,rfl⟩:=e
   simp[qD h1,ih h2]
 unfold F0 at h|-;split at h
 ·rename_i x e;cases h;rw[key e];rfl
 ·rename_i vs hne e;cases h;rw[key e];cases vs with
  |nil=>simp
  |cons a r=>
   cases r with
   |nil=>exact absurd rfl (hne a)
   |cons b r=>simp
 ·cases h
theorem PV:∀(i:Nat) (vs:List V),AD i (vs.map (V.ren σ δ))=(AD i vs).ren σ δ
 |_,[]=>rfl
 |i,v::vs=>by simp[AD,Fr.ren,PV (i+1) vs]
end Go.Pg
