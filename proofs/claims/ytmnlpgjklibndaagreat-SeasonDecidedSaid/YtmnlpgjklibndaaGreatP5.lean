/- Names and levels turned into others: what the operations give turns with them. No program in sight. -/
import Derived.Test.YtmnlpgjklibndaaGreatP4
noncomputable section
open Go renaming TypeId->cg,Operand->cm
open Option renaming map_eq_some_iff->bj,bind_eq_some_iff->bq,map_some->bw,some->bf,map_none->bp,bind_eq_bind->bt,pure_def->cz
open List renaming map_congr_left->bx,map_drop->bz,map_take->bc,length_map->bg,getElem?_map->bh,map_cons->br,map_map->cj,mapM_cons->ck,all_map->cq,sizeOf_lt_of_mem->cx,map->cd
open Nat renaming add_assoc->bn
namespace Go.Pg
variable {P:Program}
variable {σ σ':Nat->Nat}{δ:Nat}
theorem PJ:∀(l:List V),cF σ δ l=l.map (V.ren σ δ)
 |[]=>by simp[cF]
 |v::r=>by simp[cF,PJ r]
theorem mX:∀(l:List (List V)),mL σ δ l=l.map (cd (V.ren σ δ))
 |[]=>by simp[mL]
 |v::r=>by simp[mL,PJ,mX r]
@[simp] theorem EE(k:IntKind)(n:Int):(V.int k n).ren σ δ=.int k n:=by simp[V.ren]
@[simp] theorem LQ(b:Bool):(V.bool b).ren σ δ=.bool b:=by simp[V.ren]
@[simp] theorem AKV(v:Value):(V.raw v).ren σ δ=.raw v:=by simp[V.ren]
@[simp] theorem FH(cs:List V):(V.agg cs).ren σ δ=.agg (cs.map (V.ren σ δ)):=by simp[V.ren,PJ]
@[simp] theorem HR(cs:List V):(V.tup cs).ren σ δ=.tup (cs.map (V.ren σ δ)):=by simp[V.ren,PJ]
@[simp] theorem EB(f:Bool)(es:List (List V)):(V.list f es).ren σ δ=.list f (es.map (cd (V.ren σ δ))):=by simp[V.ren,mX]
@[simp] theorem KT(cs:List V):(V.ref cs).ren σ δ=.ref (cs.map (V.ren σ δ)):=by simp[V.ren,PJ]
@[simp] theorem HS(l k g off:Nat):(V.ptr l k g off).ren σ δ=.ptr (l+δ) k (σ g) off:=by simp[V.ren]
@[simp] theorem OK(l k g i off:Nat):(V.eptr l k g i off).ren σ δ=.eptr (l+δ) k (σ g) i off:=by simp[V.ren]
@[simp] theorem HT(l k g n:Nat):(V.vec l k g n).ren σ δ=.vec (l+δ) k (σ g) n:=by simp[V.ren]
@[simp] theorem M3(l k g:Nat):(V.mp l k g).ren σ δ=.mp (l+δ) k (σ g):=by simp[V.ren]
@[simp] theorem M4(f:FuncId)(xs ys:List V):(V.fn f xs ys).ren σ δ=.fn f (xs.map (V.ren σ δ)) (ys.map (V.ren σ δ)):=by simp[V.ren,PJ]
@[simp] theorem gZ(l k g:Nat):(V.yld l k g).ren σ δ=.yld (l+δ) k (σ g):=by simp[V.ren]
@[simp] theorem wJ:V.nil.ren σ δ=.nil:=by simp[V.ren]
@[simp] theorem BBC:V.any.ren σ δ=.any:=by simp[V.ren]
@[simp] theorem ZN(d:List V):(V.memo d).ren σ δ=.memo d:=by simp[V.ren]
@[simp] theorem XA(l k g i n:Nat):(V.vtl l k g i n).ren σ δ=.vtl (l+δ) k (σ g) i n:=by simp[V.ren]
theorem M5{σ':Nat->Nat}{δ':Nat}:∀(v:V),(v.ren σ δ).ren σ' δ'=v.ren (fun γ=>σ' (σ γ)) (δ+δ')
 |.agg cs=>by simp only[FH,cj];congr 1;exact bx fun v _=>M5 v
 |.tup cs=>by simp only[HR,cj];congr 1;exact bx fun v _=>M5 v
 |.ref cs=>by simp only[KT,cj];congr 1;exact bx fun v _=>M5 v
 |.list b es=>by
  simp only[EB,cj];congr 1;refine bx fun e he=>?_;have hlt:=cx he;simp only[Function.comp,cj];exact bx fun v hv=>by have hlt2:=cx hv;exact M5 v
 |.fn f xs ys=>by
  simp only[M4,cj];congr 1
  ·exact bx fun v _=>M5 v
  ·exact bx fun v _=>M5 v
 |.int k n=>by simp
 |.bool b=>by simp
 |.raw v=>by simp
 |.ptr l k g off=>by simp[bn]
 |.eptr l k g i off=>by simp[bn]
 |.vec l k g n=>by simp[bn]
 |.mp l k g=>by simp[bn]
 |.yld l k g=>by simp[bn]
 |.nil=>by simp
 |.vtl l k g i n=>by simp[bn]
 |.any=>by simp
 |.memo d=>by simp
decreasing_by all_goals first|(simp_wf;omega)|decreasing_tactic
def A6.ren(σ:Nat->Nat)(δ:Nat):A6->A6
 |.box cs=>.box (cs.map (V.ren σ δ))
 |.vec T es=>.vec T (es.map (cd (V.ren σ δ)))
 |.map es=>.map (es.map fun p=>(p.1.ren σ δ,p.2.ren σ δ))
 |.loop fr ps asg body N st=>.loop (fr.map fun p=>(p.1,p.2.1,p.2.2.ren σ δ)) ps asg body N st
 |.dead=>.dead
def AA.ren(σ:Nat->Nat)(δ:Nat)(L:AA):AA:=L.map fun p=>(p.1,σ p.2.1,p.2.2.ren σ δ)
def Fr.ren(σ:Nat->Nat)(δ:Nat)(fr:Fr):Fr:=fr.map fun p=>(p.1,p.2.1,p.2.2.ren σ δ)
def St.emb(σ:Nat->Nat)(pre:List AA)(s:St):St:=⟨pre++s.up.map (AA.ren σ pre.length),s.loc.ren σ pre.length⟩
theorem Fr.get_ren:∀(fr:Fr) (k:Nat),(fr.ren σ δ).get k=(fr.get k).map fun p=>(p.1,p.2.ren σ δ)
 |[],k=>rfl
 |(j,x)::fr,k=>by
  have:=Fr.get_ren fr k;simp only[Fr.ren,br,Fr.get]at this|-;split
  ·rfl
  ·exact this
theorem AA.get_ren:∀(L:AA) (k:Nat),(L.ren σ δ).get k=(L.get k).map fun p=>(σ p.1,p.2.ren σ δ)
 |[],k=>rfl
 |(j,x)::L,k=>by
  have:=AA.get_ren L k;simp only[AA.ren,br,AA.get]at this|-;split
  ·rfl
  ·exact this
variable {pre:List AA}{s:St}
theorem C5:(s.emb σ pre).up.length=s.up.length+pre.length:=by simp[St.emb,Nat.add_comm]
theorem BZ(l k:Nat):(s.emb σ pre).get (l+pre.length) k=(s.get l k).map fun p=>(σ p.1,p.2.ren σ pre.length):=by
 unfold St.get;rw[C5];by_cases h:l=s.up.length
 ·rw[if_pos h,if_pos (by rw[h])];exact AA.get_ren _ _
 ·rw[if_neg h,if_neg (by omega)];simp only[St.emb];rw[List.getElem?_append_right (by omega),Nat.add_sub_cancel,bh];cases s.up[l]? with
  |none=>rfl
  |some L=>simp[AA.get_ren]
theorem ZO{α:Type}(f:α->α)(M:List α)(l:Nat):∀(pre:List α),(pre++M).modify (l+pre.length) f=pre++M.modify l f
 |[]=>rfl
 |p::pre=>by have:=ZO f M l pre;simp only[List.cons_append,List.length_cons,<-bn,List.modify_succ_cons,this]
theorem CN{l k g:Nat}{r:A6}:(s.put l k g r).emb σ pre=(s.emb σ pre).put (l+pre.length) k (σ g) (r.ren σ pre.length):=by
 unfold St.put;rw[C5];by_cases h:l=s.up.length
 ·rw[if_pos h,if_pos (by rw[h])];simp[St.emb,AA.ren,AA.put]
 ·rw[if_neg h,if_neg (by omega)];simp only[St.emb,St.mk.injEq,and_true];rw[ZO];congr 1;refine List.ext_getElem? fun i=>?_;simp only[bh,List.getElem?_modify];by_cases hi:l=i
  ·subst hi;cases s.up[l]? with
   |none=>rfl
   |some L=>simp[AA.ren,AA.put]
  ·simp[hi]
theorem RB{u:Value}{v:V}(h:CK u=some v):v.ren σ δ=v:=by
 cases u with
 |int k n=>simp only[CK,bf.injEq]at h;subst h;simp
 |bool b=>simp only[CK,bf.injEq]at h;subst h;simp
 |agg cs=>simp[CK]at h
 |tuple cs=>simp[CK]at h
 |slice a n c=>
  unfold CK at h
  split at h<;>simp_all<;>subst h<;>simp
 |_=>simp only[CK,bf.injEq]at h;subst h;simp
theorem RC:∀{l:List Value} {cs:List V},GP l=some cs->cs.map (V.ren σ δ)=cs
 |[],cs,h=>by simp[GP]at h;subst h;rfl
 |v::r,cs,h=>by
  unfold GP at h;split at h
  ·rename_i x l h1 h2;cases h;simp[RB h1,RC h2]
  ·cases h
end Go.Pg
namespace Go.Pg
variable {P:Program}{σ:Nat->Nat}{δ:Nat}{pre:List AA}{s:St}{fr:Fr}{g:Bool}
theorem AFD(x:cm):rd (fr.ren σ δ) x=(rd fr x).map fun p=>(p.1,p.2.ren σ δ):=by
 cases x with
 |tmp t=>exact Fr.get_ren fr t
 |const u=>
  simp only[rd]
  cases h:CK u with
  |none=>rfl
  |some v=>simp[RB h]
 |func f=>simp[rd]
 |global g=>rfl
theorem C6(x:cm):DU g (fr.ren σ δ) x=(DU g fr x).map (V.ren σ δ):=by
 unfold DU;rw[AFD];cases rd fr x with
 |none=>rfl
 |some p=>
  obtain⟨c,v⟩:=p
  simp only[bw]
  split<;>rfl
theorem IG(v:V):BD (v.ren σ δ)=BD v:=by cases v<;>simp[BD]
theorem EK(v:V):BA (v.ren σ δ)=(BA v).map (V.ren σ δ):=by cases v<;>simp[BA]
theorem zY(v:V):weakC (v.ren σ δ)=(weakC v).ren σ δ:=by cases v<;>simp[weakC]
theorem T8(v:V):weakV (v.ren σ δ)=(weakV v).ren σ δ:=by cases v<;>simp[weakV,zY]
theorem VO{p:V}{cs:List V}(h:BF s p=some cs):BF (s.emb σ pre) (p.ren σ pre.length)=some (cs.map (V.ren σ pre.length)):=by
 cases p with
 |ref ds=>simp only[BF,bf.injEq]at h;subst h;simp[BF]
 |ptr l k γ off=>
  simp only[BF]at h
  split at h
  ·rename_i γ' ds e;split at h
   ·rename_i eg;cases h;simp[BF,BZ,e,A6.ren,eg,bz]
   ·cases h
  ·cases h
 |eptr l k γ i off=>
  simp only[BF]at h
  split at h
  ·rename_i γ' T es e;split at h
   ·rename_i eg;obtain⟨x,hx,rfl⟩:=bj.1 h;simp[BF,BZ,e,A6.ren,eg,hx,bz]
   ·cases h
  ·cases h
 |_=>cases h
theorem dX{T:cg}{cs:List V}{v:V}(h:BT P T cs=some v):BT P T (cs.map (V.ren σ δ))=some (v.ren σ δ):=by
 unfold BT at h|-;split at h
 ·split at h
  ·rename_i hc;cases h;simp[hc,bc]
  ·cases h
 ·split at h
  ·rename_i hc;cases h;simp[hc,bc]
  ·cases h
 ·simp only[bh,h,bw]
 ·cases h
theorem dY{U:cg}{cs:List V}{off:Nat}{v:V}(h:NN P U cs off=some v):NN P U (cs.map (V.ren σ δ)) off=some (v.ren σ δ):=by
 unfold NN at h|-;split at h
 ·split at h
  ·rename_i hc;cases h;simp[hc,bc,bz]
  ·cases h
 ·split at h
  ·rename_i hc;cases h;simp[hc,bc,bz]
  ·cases h
 ·simp only[bh,h,bw]
 ·cases h
theorem mY{T:cg}{x v:V}{f:Nat}(h:JV P T x f=some v):JV P T (x.ren σ δ) f=some (v.ren σ δ):=by
 unfold JV at h;split at h
 ·rename_i cs U off e;simp[JV,e,dY h]
 ·cases h
theorem WA{T:cg}{x v:V}{f:Nat}(h:C8 P T x f=some v):C8 P T (x.ren σ δ) f=some (v.ren σ δ):=by
 unfold C8 at h;split at h
 ·rename_i U off e;split at h
  ·cases h
  ·rename_i hz;split at h<;>first
    |(cases h;done)
    |(cases h;simp[C8,e,hz,bz])
 ·cases h
theorem E2(es:List (List V))(j:Nat):(es.map (cd (V.ren σ δ))).getD j []=(es.getD j []).map (V.ren σ δ):=by simp only[List.getD_eq_getElem?_getD,bh];cases es[j]?<;>rfl
theorem WB{T:cg}{x i v:V}(h:BV P s T x i=some v):BV P (s.emb σ pre) T (x.ren σ pre.length) (i.ren σ pre.length)=some (v.ren σ pre.length):=by
 unfold BV at h;split at h
 ·rename_i e f es k j e1;split at h
  ·rename_i hc;cases h;obtain⟨c1,c2,c3,c4⟩:=hc;simp only[EB,EE,BV,e1,bg,E2,KT];rw[if_pos ⟨c1,c2,c3,c4⟩]
  ·cases h
 ·rename_i e l k γ n k' j e1;split at h
  ·rename_i γ' U es e2;split at h
   ·rename_i hc;cases h;obtain⟨c1,c2,c3,c4,c5,c6⟩:=hc;subst c1;simp only[HT,EE,BV,e1,BZ,e2,bw,A6.ren,bg,E2,OK];rw[if_pos ⟨trivial,c2,c3,c4,c5,c6⟩]
   ·cases h
  ·cases h
 ·rename_i n e cs k j e1;split at h
  ·rename_i hc;cases h;simp only[KT,EE,BV,e1,if_pos hc,bz]
  ·cases h
 ·rename_i n e l k γ o k' j e1;split at h
  ·rename_i hc;cases h;simp only[HS,EE,BV,e1,if_pos hc]
  ·cases h
 ·rename_i n e l k γ i' o k' j e1;split at h
  ·rename_i hc;cases h;simp only[OK,EE,BV,e1,if_pos hc]
  ·cases h
 ·cases h
theorem mZ{T:cg}{x i v:V}(h:GL P T x i=some v):GL P T (x.ren σ δ) (i.ren σ δ)=some (v.ren σ δ):=by
 unfold GL at h;split at h
 ·rename_i n e cs k j e1;split at h
  ·rename_i hc;simp only[FH,EE,GL,e1,if_pos hc,dY h]
  ·cases h
 ·rename_i b k j e1;split at h
  ·rename_i hc;obtain⟨c,hb,rfl⟩:=bj.1 h;simp only[AKV,EE,GL,e1,if_pos hc,hb,bw]
  ·cases h
 ·cases h
theorem sN{S D:cg}{x v:V}(h:J9 P S D x=some v):J9 P S D (x.ren σ δ)=some (v.ren σ δ):=by
 unfold J9 at h;split at h
 ·rename_i e1 e2;cases h;simp[J9,e1,e2]
 ·cases h
theorem AFE{op:UnOp}{x v:V}(h:bY op x=some v):bY op (x.ren σ δ)=some (v.ren σ δ):=by unfold bY at h;split at h<;>first|(cases h;done)|(cases h;simp[bY])
theorem zZ{x v:V}(h:NO x=some v):NO (x.ren σ δ)=some (v.ren σ δ):=by cases x<;>simp[NO]at h<;>subst h<;>simp[NO]
theorem cH{x v:V}{i:Nat}(h:FY x i=some v):FY (x.ren σ δ) i=some (v.ren σ δ):=by cases x<;>simp[FY]at h;simp[FY,h]
theorem AAA{T:cg}{x v:V}(h:GV P T x=some v):GV P T (x.ren σ δ)=some (v.ren σ δ):=by
 unfold GV at h;split at h
 ·rename_i e f es hu;cases h;simp[GV,hu]
 ·rename_i e l k g n hu;cases h;simp[GV,hu]
 ·rename_i e hu;cases h;simp[GV,hu]
 ·rename_i n e hu;cases h;unfold GV;rw[hu];simp
 ·cases h
theorem AKW{n m:Nat}{h:Option V}(e:hiN n h=some m):hiN n (h.map (V.ren σ δ))=some m:=by
 cases h with
 |none=>exact e
 |some a=>cases a<;>first|(simp only[bw,EE];exact e)|(simp[hiN]at e)
theorem nA{T:cg}{x v:V}{lo hi mx:Option V}(h:CG P s T x lo hi mx=some v):CG P (s.emb σ pre) T (x.ren σ pre.length) (lo.map (V.ren σ pre.length)) (hi.map (V.ren σ pre.length)) (mx.map (V.ren σ pre.length))=some (v.ren σ pre.length):=by
 unfold CG at h;split at h
 ·rename_i e f es k h' e1;split at h
  ·rename_i hc;cases h;simp only[EB,bw,EE,bp,CG,e1,bg,if_pos hc,bc]
  ·cases h
 ·rename_i e f es k l e1;split at h
  ·rename_i hc;cases h;have:(es.map (cd (V.ren σ pre.length))).all (fun x=>x.length==P.cellsOf e)=true:=by rw[cq];exact hc.2.2.2▸(by congr 1;funext x;simp)
   simp only[EB,bw,EE,bp,CG,e1,bg,if_pos (⟨hc.1,hc.2.1,hc.2.2.1,this⟩:_/\_/\_/\_),bz]
  ·cases h
 ·rename_i e f es k l k' h' e1;split at h
  ·rename_i hc;cases h;have:(es.map (cd (V.ren σ pre.length))).all (fun x=>x.length==P.cellsOf e)=true:=by rw[cq];exact hc.2.2.2.2▸(by congr 1;funext x;simp)
   simp only[EB,bw,EE,bp,CG,e1,bg,if_pos (⟨hc.1,hc.2.1,hc.2.2.1,hc.2.2.2.1,this⟩:_/\_/\_/\_/\_),bz,bc]
  ·cases h
 ·rename_i e f es k h' k' m e1;split at h
  ·rename_i hc;cases h;simp only[EB,bw,EE,bp,CG,e1,if_pos hc,List.map_nil]
  ·cases h
 ·rename_i e l k g n k' h' e1;split at h
  ·rename_i hc;cases h;simp only[HT,bw,EE,bp,CG,e1,if_pos hc]
  ·cases h
 ·rename_i e l k g n k' i e1;split at h
  ·rename_i g' T' es hget;split at h
   ·rename_i hc;obtain⟨rfl,h1,h2,h3,h4,h5⟩:=hc;cases h;have:(es.map (cd (V.ren σ pre.length))).all (fun x=>x.length==P.cellsOf e)=true:=by rw[cq];exact h1▸(by congr 1;funext x;simp)
    simp only[HT,XA,bw,EE,bp,CG,e1,BZ,hget,A6.ren];rw[if_pos ⟨trivial,this,by simpa using h2,h3,h4,h5⟩]
   ·cases h
  ·cases h
 ·rename_i n e l k g o e1;split at h
  ·rename_i g' cs m hget hm;split at h
   ·rename_i hc;obtain⟨rfl,h1,h2⟩:=hc;cases h;simp only[HS,XA,bp,CG,e1,BZ,hget,A6.ren,bw,AKW hm];rw[if_pos ⟨trivial,h1,by simpa using h2⟩]
   ·cases h
  ·cases h
 ·cases h
theorem AAB{x y v:V}(h:SA x y=some v):SA (x.ren σ δ) (y.ren σ δ)=some (v.ren σ δ):=by
 unfold SA at h;split at h
 ·split at h
  ·rename_i hk;cases h;simp[SA,hk]
  ·cases h
 ·cases h
theorem AAC{x y v:V}(h:SB x y=some v):SB (x.ren σ δ) (y.ren σ δ)=some (v.ren σ δ):=by
 unfold SB at h;split at h
 ·split at h
  ·rename_i hk;cases h;simp[SB,hk]
  ·cases h
 ·cases h
theorem AAD{op:BinOp}{k:IntKind}{a b:Int}{v:V}(h:EV op k a b=some v):v.ren σ δ=v:=by
 unfold EV at h;split at h<;>first
  |(cases h;simp;done)
  |(split at h<;>first|(cases h;done)|(cases h;simp;done))
  |(obtain⟨r,_,rfl⟩:=bj.1 h;simp)
theorem M6:∀(cs:List V),DP (cs.map (V.ren σ δ))=DP cs
 |[]=>rfl
 |c::cs=>by have ih:=M6 cs;cases c<;>simp[DP,ih]
theorem AFF{op:BinOp}{k:IntKind}{a b:Int}{v:V}(h:bX op k a b=some v):v.ren σ δ=v:=by
 cases op<;>simp only[bX]at h;case shl=>split at h<;>cases h;simp
 case shr=>split at h<;>cases h;simp
 all_goals cases h
theorem AAE{op:BinOp}{T:cg}{x y v:V}(h:F3 P op T x y=some v):F3 P op T (x.ren σ δ) (y.ren σ δ)=some (v.ren σ δ):=by
 unfold F3 at h;split at h
 ·split at h
  ·rename_i hk;simp only[EE,F3,if_pos hk,h,AAD h]
  ·rename_i hk;simp only[EE,F3,if_neg hk,h,AFF h]
 ·split at h
  ·rename_i hk;have hv:v.ren σ δ=v:=by split at h<;>first|(cases h;done)|(cases h;simp)
   rw[hv];simp only[LQ,F3,if_pos hk];exact h
  ·cases h
 ·rename_i cs ds;have he:Q3 P T (cs.map (V.ren σ δ)) (ds.map (V.ren σ δ))=Q3 P T cs ds:=by unfold Q3;rw[M6,M6]
  have hv:v.ren σ δ=v:=by
   split at h
   ·obtain⟨r,_,rfl⟩:=bj.1 h;simp
   ·obtain⟨r,_,rfl⟩:=bj.1 h;simp
   ·cases h
  rw[hv];simp only[FH,F3,he];exact h
 ·rename_i x' _;have hi:HK (x.ren σ δ)=HK x:=by
   cases x with
   |list f es=>cases es<;>simp[HK]
   |vec l k g n=>cases n<;>simp[HK]
   |vtl l k g i n=>cases n<;>simp[HK]
   |_=>simp[HK]
  have hb:∀y:V,F3 P op T y .nil=if DQ P T then(match op with
   |.eql=>(HK y).map V.bool
   |.neq=>(HK y).map fun b=>V.bool !b
   | _=>none) else none:=fun y=>by cases y <;> rfl
  have hv:v.ren σ δ=v:=by
   split at h
   ·split at h
    ·obtain⟨r,_,rfl⟩:=bj.1 h;simp
    ·obtain⟨r,_,rfl⟩:=bj.1 h;simp
    ·cases h
   ·cases h
  rw[hv,wJ,hb,hi];exact h
 ·cases h
theorem T9:∀{cs:List V} {l:List Value},DP cs=some l->cs.map (V.ren σ δ)=cs
 |[],_,_=>rfl
 |c::cs,l,h=>by
  cases c with
  |int k n=>
   simp only[DP]at h
   split at h
   ·rename_i r hr;simp[T9 hr]
   ·cases h
  |bool b=>
   simp only[DP]at h
   split at h
   ·rename_i r hr;simp[T9 hr]
   ·cases h
  |_=>simp[DP]at h
theorem ZP{K:cg}(v:V):P6 P K (v.ren σ δ)=P6 P K v:=by
 cases v with
 |agg cs=>
  simp only[FH,P6,M6]
  split
  ·rename_i l hl;rw[T9 hl]
  ·rfl
 |_=>simp[P6]
theorem UA{K:cg}{ks:List V}:∀(es:List (V×V)) (i:Nat),H5 P K ks (es.map fun p=>(p.1.ren σ δ,p.2.ren σ δ)) i=H5 P K ks es i
 |[],_=>rfl
 |(k,v)::es,i=>by simp only[br,H5,ZP,UA es]
theorem sO{T:cg}{z:V}(h:Q4 P T=some z):z.ren σ δ=z:=by
 unfold Q4 at h;split at h
 ·split at h
  ·rename_i cs hz;cases h;simp[RC hz]
  ·cases h
 ·exact RB h
 ·cases h
theorem hH{T:cg}{x k v:V}{ok:Bool}(h:CO P s T x k ok=some v):CO P (s.emb σ pre) T (x.ren σ pre.length) (k.ren σ pre.length) ok=some (v.ren σ pre.length):=by
 unfold CO at h;split at h
 ·rename_i K E l q g hm;split at h
  ·rename_i g' es hget;split at h
   ·rename_i hc;obtain⟨rfl,hT⟩:=hc;split at h
    ·rename_i ks hks;simp only[M3,CO,hm,BZ,hget,bw,A6.ren,ZP,hks,UA,if_pos (⟨trivial,hT⟩:True/\_)];split at h
     ·rename_i hf;obtain⟨z,hz,rfl⟩:=bj.1 h;simp only[hz,bw];cases ok<;>simp[sO hz]
     ·rename_i i hf;obtain⟨e,he,rfl⟩:=bj.1 h;simp only[bh,he,bw];cases ok<;>simp
     ·cases h
    ·cases h
   ·cases h
  ·cases h
 ·cases h
theorem UB{T:cg}{x k v:V}{l q γ:Nat}{es:List (V×V)}(h:I5 P s T x k v=some (l,q,γ,es)):I5 P (s.emb σ pre) T (x.ren σ pre.length) (k.ren σ pre.length) (v.ren σ pre.length)=some (l+pre.length,q,σ γ,es.map fun p=>(p.1.ren σ pre.length,p.2.ren σ pre.length)):=by
 unfold I5 at h;split at h
 ·rename_i K E l q g hm;split at h
  ·rename_i g' es hget;split at h
   ·rename_i hc;obtain⟨rfl,hT⟩:=hc;split at h
    ·rename_i ks hks;simp only[M3,I5,hm,BZ,hget,bw,A6.ren,ZP,hks,UA,if_pos (⟨trivial,hT⟩:True/\_)];split at h
     ·rename_i hf;cases h;simp
     ·rename_i i hf;cases h;simp[List.map_set]
     ·cases h
    ·cases h
   ·cases h
  ·cases h
 ·cases h
theorem HU{r:cm->Option V}:∀{l:List cm} {vs:List V},l.mapM r=some vs->l.mapM (fun x=>(r x).map (V.ren σ δ))=some (vs.map (V.ren σ δ))
 |[],vs,h=>by simp at h;subst h;rfl
 |x::l,vs,h=>by simp only[ck,bt,bq,cz,bf.injEq]at h;obtain⟨v,h1,us,h2,rfl⟩:=h;simp[h1,HU h2]
theorem AKX{o:Oper}{r:cm->Option V}{v:V}(h:JG P o s r=some v):JG P o (s.emb σ pre) (fun x=>(r x).map (V.ren σ pre.length))=some (v.ren σ pre.length):=by
 unfold JG at h|-;split at h<;>(try simp only[bq]at h);case h_1=>simp[h]
 case h_2=>simp[h]
 case h_3=>obtain⟨a,h1,h2⟩:=h;simp[h1,zZ h2]
 case h_4=>obtain⟨a,h1,b,h2,h3⟩:=h;simp[h1,VO h2,dX h3]
 case h_5=>obtain⟨a,h1,b,h2,h3⟩:=h;simp[h1,h2,AAE h3]
 case h_6=>obtain⟨a,h1,h2⟩:=h;simp[h1,AFE h2]
 case h_7=>obtain⟨a,h1,h2⟩:=h;simp[h1,sN h2]
 case h_8=>obtain⟨a,h1,h2⟩:=h;simp[h1,WA h2]
 case h_9=>obtain⟨a,h1,h2⟩:=h;simp[h1,mY h2]
 case h_10=>obtain⟨a,h1,b,h2,h3⟩:=h;simp[h1,h2,WB h3]
 case h_11=>obtain⟨a,h1,b,h2,h3⟩:=h;simp[h1,h2,mZ h3]
 case h_12=>obtain⟨a,h1,h2⟩:=h;simp[h1,cH h2]
 case h_13=>
  split at h
  ·rename_i e1 e2;simp only[bq]at h;obtain⟨a,h1,h2⟩:=h;simp[h1,AAA h2]
  ·cases h
 case h_14=>
  split at h
  ·simp only[bq]at h;obtain⟨a,h1,b,h2,h3⟩:=h;simp[h1,h2,AAB h3]
  ·cases h
 case h_15=>
  split at h
  ·simp only[bq]at h;obtain⟨a,h1,b,h2,h3⟩:=h;simp[h1,h2,AAC h3]
  ·cases h
 case h_16 T x lo hi mx ho=>
  obtain⟨a,h1,l,h2,u,h3,m,h4,h5⟩:=h
  have key:∀(z:Option cm) (q:Option V),(match z with|none=>some none|some y=>(r y).map some)=some q->(z=none/\q=none)\/∃y b,z=some y/\r y=some b/\q=some b:=by
   intro z q hz;cases z with
   |none=>cases hz;exact .inl ⟨rfl,rfl⟩
   |some y=>
    obtain⟨b,hb,rfl⟩:=bj.1 hz
    exact .inr ⟨y,b,rfl,hb,rfl⟩
  have h6:=nA (σ:=σ) (pre:=pre) h5
  rcases key lo l h2 with⟨rfl,rfl⟩|⟨y1,b1,rfl,q1,rfl⟩<;>rcases key hi u h3 with⟨rfl,rfl⟩|⟨y2,b2,rfl,q2,rfl⟩<;>rcases key mx m h4 with⟨rfl,rfl⟩|⟨y3,b3,rfl,q3,rfl⟩<;>simp_all
 case h_17=>obtain⟨a,h1,b,h2,h3⟩:=h;simp[h1,h2,hH h3]
 case h_18 f first captured ho=>
  obtain⟨a,h1,b,h2,h3⟩:=h
  cases h3
  simp[HU h1,HU h2]
 case h_19=>cases h
end Go.Pg
namespace Go.Pg
variable {P:Program}{σ:Nat->Nat}{δ:Nat}{pre:List AA}{s:St}{fr:Fr}{g:Bool}
theorem GY{T:cg}{z:List V}(h:B8 P T=some z):z.map (V.ren σ δ)=z:=by
 unfold B8 at h;split at h
 ·exact RC h
 ·cases h
theorem C9{α β:Type}(f:α->β)(cs ds:List α)(off:Nat):A8 (cs.map f) off (ds.map f)=(A8 cs off ds).map f:=by simp[A8,bc,bz]
theorem PK{place:Nat->Option (Nat×Nat)}:∀{ps:List (Nat×V)} {cs ds:List V},C4 place cs ps=some ds->C4 place (cs.map (V.ren σ δ)) (ps.map fun p=>(p.1,p.2.ren σ δ))=some (ds.map (V.ren σ δ))
 |[],cs,ds,h=>by simp[C4]at h;subst h;rfl
 |(i,v)::r,cs,ds,h=>by
  simp only[C4]at h;split at h
  ·cases h
  ·rename_i off size e;split at h
   ·rename_i hc;have:=PK h;simp only[br,C4,e,EK,bg];rw[if_pos hc,C9];exact this
   ·cases h
theorem M7(ps:List (Nat×V)):((ps.map fun p=>(p.1,p.2.ren σ δ)).all fun p=>BD p.2)=ps.all fun p=>BD p.2:=by rw[cq];congr 1;funext p;exact IG p.2
theorem nB{T:cg}{ps:List (Nat×V)}{v:V}(h:CP P T ps=some v):CP P T (ps.map fun p=>(p.1,p.2.ren σ δ))=some (v.ren σ δ):=by
 unfold CP at h|-;split at h
 ·rename_i z fs e1 e2;simp only[M7];split at h
  ·rename_i hc;obtain⟨cs,h1,rfl⟩:=bj.1 h;have:=PK (σ:=σ) (δ:=δ) h1;rw[GY e1]at this;rw[if_pos hc,this];simp
  ·cases h
 ·rename_i z n e e1 e2;simp only[M7];split at h
  ·rename_i hc;obtain⟨cs,h1,rfl⟩:=bj.1 h;have:=PK (σ:=σ) (δ:=δ) h1;rw[GY e1]at this;rw[if_pos hc,this];simp
  ·cases h
 ·cases h
theorem ZQ{β:Type}(f:V->V)(size:Nat):∀(n:Nat) (cs:List V),CL size (cs.map f) n=(CL size cs n).map (cd f)
 |0,_=>rfl
 |n+1,cs=>by simp only[CL,br,bc];rw[<-bz,ZQ (β:=β) f size n]
theorem UC{T:cg}{len:Nat}{ps:List (Nat×V)}{v:V}(h:B9 P T len ps=some v):B9 P T len (ps.map fun p=>(p.1,p.2.ren σ δ))=some (v.ren σ δ):=by
 unfold B9 at h|-;split at h
 ·rename_i e e1;split at h
  ·rename_i z e2;split at h
   ·rename_i hc;obtain⟨cs,h1,rfl⟩:=bj.1 h;have:=PK (σ:=σ) (δ:=δ) h1;have hz:(List.replicate len z).flatten.map (V.ren σ δ)=(List.replicate len z).flatten:=by rw[List.map_flatten,List.map_replicate,GY e2]
    rw[hz]at this;simp only[M7];rw[if_pos hc,this];simp[ZQ (β:=Nat)]
   ·cases h
  ·cases h
 ·cases h
theorem RD{r:cm->Option V}:∀{l:List (Nat×cm)} {ps:List (Nat×V)},DA r l=some ps->DA (fun x=>(r x).map (V.ren σ δ)) l=some (ps.map fun p=>(p.1,p.2.ren σ δ))
 |[],ps,h=>by simp[DA]at h;subst h;rfl
 |(i,x)::l,ps,h=>by
  simp only[DA]at h;split at h
  ·rename_i v us h1 h2;cases h;simp[DA,h1,RD h2]
  ·cases h
theorem GZ{v:V}{es:List (List V)}(h:elemsOf s v=some es):elemsOf (s.emb σ pre) (v.ren σ pre.length)=some (es.map (cd (V.ren σ pre.length))):=by
 cases v with
 |list f ds=>simp only[elemsOf,bf.injEq]at h;subst h;simp[elemsOf]
 |vec l k γ n=>
  simp only[elemsOf]at h
  split at h
  ·rename_i γ' T ds e;split at h
   ·rename_i hc;cases h;simp[elemsOf,BZ,e,A6.ren,hc.1,hc.2,bc]
   ·cases h
  ·cases h
 |vtl l k γ i n=>
  simp only[elemsOf]at h
  split at h
  ·rename_i γ' cs e;split at h
   ·rename_i hc;cases h;simp[elemsOf,BZ,e,A6.ren,hc.1,hc.2,bc,bz,Function.comp_def]
   ·cases h
  ·cases h
 |nil=>simp only[elemsOf,bf.injEq]at h;subst h;simp[elemsOf]
 |raw v=>cases v with
  |slice a n c=>cases n with
   |zero=>cases h;simp[elemsOf]
   |succ n=>cases h
  |_=>cases h
 |_=>cases h
theorem IW:DU g (fr.ren σ δ)=fun x=>(DU g fr x).map (V.ren σ δ):=by funext x;exact C6 x
theorem sP{T:cg}{xv yv v:V}(h:N9 P T xv yv=some v):N9 P T (xv.ren σ δ) (yv.ren σ δ)=some (v.ren σ δ):=by
 unfold N9 at h;split at h
 ·rename_i e ys hel hy;split at h
  ·rename_i hc;cases h;have hr:AON (yv.ren σ δ)=some (ys.map (cd (V.ren σ δ))):=by
    cases yv with
    |list b es=>cases hy;simp only[EB];rfl
    |nil=>cases hy;simp only[wJ];rfl
    |_=>cases hy
   unfold N9;simp only[hel,EB,List.map_nil,hr];rw[if_pos];refine⟨hc.1,?_,by rw[bg];exact hc.2.2.1,by rw[bg];exact hc.2.2.2⟩;rw[cq];have:=hc.2.1;simpa [Function.comp_def]using this
  ·cases h
 ·cases h
theorem AFG{o:Oper}{args:Array cm}{Ts:Array cg}{v:V}(h:appS P g o args Ts fr=some v):appS P g o args Ts (fr.ren σ δ)=some (v.ren σ δ):=by
 unfold appS at h|-;split at h
 ·split at h
  ·rename_i hc;obtain⟨xv,h1,h⟩:=bq.1 h;obtain⟨yv,h2,h⟩:=bq.1 h;rw[if_pos hc,C6,h1,C6,h2];exact sP h
  ·cases h
 ·cases h
theorem JA{o:Oper}{v:V}(h:FP P g o fr s=some v):FP P g o (fr.ren σ pre.length) (s.emb σ pre)=some (v.ren σ pre.length):=by
 unfold FP at h|-;split at h
 ·rename_i c x y ho;split at h
  ·rename_i c' ca va cb vb e1 e2 e3;split at h
   ·rename_i hc;cases h;simp only[C6,AFD,e1,e2,e3,bw,LQ];rw[if_pos hc]
   ·cases h
  ·cases h
 ·rename_i T parts ho;obtain⟨ps,h1,h2⟩:=bq.1 h;rw[IW,RD h1];exact nB h2
 ·rename_i T len parts ho;obtain⟨ps,h1,h2⟩:=bq.1 h;rw[IW,RD h1];exact UC h2
 ·exact AFG h
 ·rw[IW];exact AKX h
def A4(s:St):Nat->V->Option V
 |0,_=>none
 |f+1,v=>match v with
  |.list _ es=>some (.list false es)
  | .vec l k g m=>if l=s.up.length then(match s.loc.get k with
    |some (g',.vec _ es)=>if g'=g/\m<=es.length then some (.list false (es.take m)) else none
    | _=>none) else some v
  | .ptr l k g off=>if l=s.up.length then(match s.loc.get k with
    |some (g',.box cs)=>if g'=g then(cs.mapM (A4 s f)).map fun ds=>.ref (ds.drop off) else none
    | _=>none) else some v
  |.agg cs=>(cs.mapM (A4 s f)).map .agg
  |.tup cs=>(cs.mapM (A4 s f)).map .tup
  |.fn g xs ys=>match xs.mapM (A4 s f),ys.mapM (A4 s f)with
   |some a,some b=>some (.fn g a b)
   |_,_=>none
  |v=>some v
theorem G5{α β:Type}{f:α->Option β}{g:α->β}(h:∀x y,f x=some y->g x=y):∀{l:List α} {r:List β},l.mapM f=some r->l.map g=r
 |[],r,e=>by simp at e;subst e;rfl
 |x::l,r,e=>by simp only[ck,bt,bq,cz,bf.injEq]at e;obtain⟨y,h1,ys,h2,rfl⟩:=e;simp[h x y h1,G5 h h2]
theorem OL:∀(f:Nat) {v r:V},A4 s f v=some r->DK s f v=r
 |0,v,r,h=>by cases h
 |f+1,v,r,h=>by
  have ih:=fun v r=>OL f (v:=v) (r:=r);cases v with
  |list b es=>simpa [A4,DK]using h
  |vec l k g m=>
   simp only[A4]at h
   simp only[DK]
   split at h
   ·rename_i hl;rw[if_pos hl];split at h
    ·rename_i g' T es e;split at h
     ·rename_i hc;rw[e];simp only[if_pos hc];exact bf.inj h
     ·cases h
    ·cases h
   ·rename_i hl;rw[if_neg hl];exact bf.inj h
  |ptr l k g off=>
   simp only[A4]at h
   simp only[DK]
   split at h
   ·rename_i hl;rw[if_pos hl];split at h
    ·rename_i g' cs e;split at h
     ·rename_i hc;obtain⟨ds,h1,rfl⟩:=bj.1 h;rw[e];simp only[if_pos hc,G5 ih h1]
     ·cases h
    ·cases h
   ·rename_i hl;rw[if_neg hl];exact bf.inj h
  |agg cs=>
   obtain⟨ds,h1,rfl⟩:=bj.1 h
   simp only[DK,G5 ih h1]
  |tup cs=>
   obtain⟨ds,h1,rfl⟩:=bj.1 h
   simp only[DK,G5 ih h1]
  |fn g xs ys=>
   simp only[A4]at h
   split at h
   ·rename_i a b h1 h2;cases h;simp only[DK,G5 ih h1,G5 ih h2]
   ·cases h
  |_=>simpa [A4,DK]using h
theorem F1{f f':V->Option V}(h:∀v r,f v=some r->f' (v.ren σ δ)=some (r.ren σ δ)):∀{l r:List V},l.mapM f=some r->(l.map (V.ren σ δ)).mapM f'=some (r.map (V.ren σ δ))
 |[],r,e=>by simp at e;subst e;rfl
 |x::l,r,e=>by simp only[ck,bt,bq,cz,bf.injEq]at e;obtain⟨y,h1,ys,h2,rfl⟩:=e;simp[h x y h1,F1 h h2]
theorem KU(k:Nat):(s.emb σ pre).loc.get k=(s.loc.get k).map fun p=>(σ p.1,p.2.ren σ pre.length):=AA.get_ren _ _
theorem KB:∀(f:Nat) {v r:V},A4 s f v=some r->A4 (s.emb σ pre) f (v.ren σ pre.length)=some (r.ren σ pre.length)
 |0,v,r,h=>by cases h
 |f+1,v,r,h=>by
  have ih:=fun v r=>KB f (v:=v) (r:=r);cases v with
  |list b es=>simp only[A4,bf.injEq]at h;subst h;simp[A4]
  |vec l k g m=>
   simp only[A4]at h
   split at h
   ·rename_i hl;split at h
    ·rename_i g' T es e;split at h
     ·rename_i hc;cases h;simp[A4,C5,KU,hl,e,A6.ren,hc.1,hc.2,bc]
     ·cases h
    ·cases h
   ·rename_i hl;cases h;have:¬l+pre.length=s.up.length+pre.length:=by omega
    simp[A4,C5,hl]
  |ptr l k g off=>
   simp only[A4]at h
   split at h
   ·rename_i hl;split at h
    ·rename_i g' cs e;split at h
     ·rename_i hc;obtain⟨ds,h1,rfl⟩:=bj.1 h;have:=F1 ih h1;simp[A4,C5,KU,hl,e,A6.ren,hc,this,bz]
     ·cases h
    ·cases h
   ·rename_i hl;cases h;simp[A4,C5,hl]
  |agg cs=>
   obtain⟨ds,h1,rfl⟩:=bj.1 h
   simp[A4,F1 ih h1]
  |tup cs=>
   obtain⟨ds,h1,rfl⟩:=bj.1 h
   simp[A4,F1 ih h1]
  |fn g xs ys=>
   simp only[A4]at h
   split at h
   ·rename_i a b h1 h2;cases h;simp[A4,F1 ih h1,F1 ih h2]
   ·cases h
  |_=>simp only[A4,bf.injEq]at h;subst h;simp[A4]
def B4(s:St)(v:V):Option V:=match v with
 |.list f es=>some (.list f es)
 |.int k n=>some (.int k n)
 |.bool b=>some (.bool b)
 |v=>A4 s 4 v
theorem JX{v r:V}(h:B4 s v=some r):FO s v=r:=by
 unfold B4 at h;unfold FO;split at h
 ·simpa using h
 ·simpa [DK]using h
 ·simpa [DK]using h
 ·rename_i h1 h2 h3;split
  ·rename_i f es;exact absurd rfl (h1 f es)
  ·exact OL 4 h
theorem VP{v:V}(h1:∀f es,v≠.list f es)(h2:∀k n,v≠.int k n)(h3:∀b,v≠.bool b):B4 s v=A4 s 4 v:=by
 unfold B4;split
 ·rename_i f es;exact absurd rfl (h1 f es)
 ·rename_i k n;exact absurd rfl (h2 k n)
 ·rename_i b;exact absurd rfl (h3 b)
 ·rfl
theorem KV{v r:V}(h:B4 s v=some r):B4 (s.emb σ pre) (v.ren σ pre.length)=some (r.ren σ pre.length):=by
 by_cases h1:∃f es,v=.list f es
 ·obtain⟨f,es,rfl⟩:=h1;simp only[B4,bf.injEq]at h;subst h;simp[B4]
 by_cases h2:∃k n,v=.int k n
 ·obtain⟨k,n,rfl⟩:=h2;simp only[B4,bf.injEq]at h;subst h;simp[B4]
 by_cases h3:∃b,v=.bool b
 ·obtain⟨b,rfl⟩:=h3;simp only[B4,bf.injEq]at h;subst h;simp[B4]
 rw[VP (fun f es e=>h1 ⟨f,es,e⟩) (fun k n e=>h2 ⟨k,n,e⟩) (fun b e=>h3 ⟨b,e⟩)]at h;rw[VP (fun f es e=>by cases v<;>simp at e;exact h1 ⟨_,_,rfl⟩) (fun k n e=>by cases v<;>simp at e;exact h2 ⟨_,_,rfl⟩) (fun b e=>by cases v<;>simp at e;exact h3 ⟨_,rfl⟩)];exact KB 4 h
def G6{α β:Type}(f:α->Option β):List α->Option (List β)
 |[]=>some []
 |x::l=>match f x with
  |some y=>match G6 f l with
   |some r=>some (y::r)
   |none=>none
  |none=>none
theorem LR{α β:Type}{f:α->Option β}{g:α->β}(h:∀x y,f x=some y->g x=y):∀{l:List α} {r:List β},G6 f l=some r->l.map g=r
 |[],r,e=>by cases e;rfl
 |x::l,r,e=>by
  simp only[G6]at e;split at e
  ·rename_i y hy;split at e
   ·rename_i q hq;cases e;simp[h _ _ hy,LR h hq]
   ·cases e
  ·cases e
theorem LU{α β:Type}{f f':α->Option β}{a:α->α}{b:β->β}(h:∀x y,f x=some y->f' (a x)=some (b y)):∀{l:List α} {r:List β},G6 f l=some r->G6 f' (l.map a)=some (r.map b)
 |[],r,e=>by cases e;rfl
 |x::l,r,e=>by
  simp only[G6]at e;split at e
  ·rename_i y hy;split at e
   ·rename_i q hq;cases e;simp[G6,h _ _ hy,LU h hq]
   ·cases e
  ·cases e
def BW(s:St)(r:A6):Option A6:=match r with
 |.box cs=>match G6 (B4 s) cs with
  |some ds=>some (.box ds)
  |none=>none
 |.vec T es=>match G6 (G6 (B4 s)) es with
  |some ds=>some (.vec T ds)
  |none=>none
 | .map es=>match G6 (fun e:V×V=>match B4 s e.1,B4 s e.2 with
   |some a,some b=>some (a,b)
   | _,_=>none) es with
  |some ds=>some (.map ds)
  |none=>none
 |r=>some r
def BU(s:St)(r:A6):A6:=match BW s r with
 |some r'=>r'
 |none=>r
theorem ZR{r r':A6}(h:BW s r=some r'):r'=r\/r'=HN s r:=by
 unfold BW at h;split at h
 ·split at h
  ·rename_i ds hd;cases h;exact .inr (by simp only[HN,LR (fun x y=>JX) hd])
  ·cases h
 ·split at h
  ·rename_i ds hd;cases h;exact .inr (by simp only[HN,LR (fun x y=>LR (fun x y=>JX)) hd])
  ·cases h
 ·split at h
  ·rename_i ds hd;cases h;refine .inr ?_;simp only[HN];rw[LR (g:=fun e=>(FO s e.1,FO s e.2)) (fun x y h=>?_) hd];split at h
   ·rename_i a b h1 h2;cases h;rw[JX h1,JX h2]
   ·cases h
  ·cases h
 ·cases h;exact .inl rfl
theorem K9{r r':A6}(h:BW s r=some r'):BW (s.emb σ pre) (r.ren σ pre.length)=some (r'.ren σ pre.length):=by
 cases r with
 |box cs=>
  simp only[BW]at h
  split at h
  ·rename_i ds hd;cases h;simp[BW,A6.ren,LU (fun x y=>KV (σ:=σ) (pre:=pre)) hd]
  ·cases h
 |vec T es=>
  simp only[BW]at h
  split at h
  ·rename_i ds hd;cases h;simp[BW,A6.ren,LU (fun x y=>LU (fun x y=>KV (σ:=σ) (pre:=pre))) hd]
  ·cases h
 |map es=>
  simp only[BW]at h
  split at h
  ·rename_i ds hd;cases h;have:=LU (f':=fun e:V×V=>match B4 (s.emb σ pre) e.1,B4 (s.emb σ pre) e.2 with
    |some a,some b=>some (a,b)
    | _,_=>none) (a:=fun p:V×V=>(p.1.ren σ pre.length,p.2.ren σ pre.length)) (b:=fun p:V×V=>(p.1.ren σ pre.length,p.2.ren σ pre.length)) (fun x y h=>by
     split at h
     ·rename_i a b h1 h2;cases h;simp[KV h1,KV h2]
     ·cases h) hd
   simp[BW,A6.ren,this]
  ·cases h
 |loop fr ps asg body N st=>simp only[BW,bf.injEq]at h;subst h;rfl
 |dead=>simp only[BW,bf.injEq]at h;subst h;rfl
theorem nC(r:A6):(BU s r).ren σ pre.length=r.ren σ pre.length\/(BU s r).ren σ pre.length=HN (s.emb σ pre) (r.ren σ pre.length):=by
 unfold BU;split
 ·rename_i r' h;rcases ZR (K9 (σ:=σ) (pre:=pre) h)with h'|h'
  ·exact .inl h'
  ·exact .inr h'
 ·exact .inl rfl
def AQ(s:St)(L:AA):AA:=L.map fun p=>(p.1,p.2.1,BU s p.2.2)
theorem KC(s:St):∀(L:AA) (k:Nat),(AQ s L).get k=(L.get k).map fun p=>(p.1,BU s p.2)
 |[],k=>rfl
 |(j,x)::L,k=>by
  have:=KC s L k;simp only[AQ,br,AA.get]at this|-;split
  ·rfl
  ·exact this
theorem sQ{rv:ResultVar}{v:V}(h:DR P fr s rv=some v):DR P (fr.ren σ pre.length) (s.emb σ pre) rv=some (v.ren σ pre.length):=by
 cases rv with
 |tmp t=>
  simp only[DR]at h|-
  split at h
  ·rename_i e;cases h;simp[Fr.get_ren,e]
  ·cases h
 |cell ad T=>
  simp only[DR]at h|-
  split at h
  ·rename_i p e;obtain⟨cs,h1,h2⟩:=bq.1 h;simp[Fr.get_ren,e,VO h1,dX h2]
  ·cases h
theorem OM{rs:List ResultVar}{v:V}(h:F5 P rs fr s=some v):F5 P rs (fr.ren σ pre.length) (s.emb σ pre)=some (v.ren σ pre.length):=by
 have key:∀{rs:List ResultVar} {vs:List V},rs.mapM (DR P fr s)=some vs->rs.mapM (DR P (fr.ren σ pre.length) (s.emb σ pre))=some (vs.map (V.ren σ pre.length)):=by
  intro rs;induction rs with
  |nil=>intro vs e;simp at e;subst e;rfl
  |cons x l ih=>
   intro vs e
   simp only[ck,bt,bq,cz,bf.injEq]at e
   obtain⟨y,h1,ys,h2,rfl⟩:=e
   simp[sQ h1,ih h2]
 unfold F5 at h|-;split at h
 ·rename_i x e;cases h;rw[key e];rfl
 ·rename_i vs hne e;cases h;rw[key e];cases vs with
  |nil=>simp
  |cons a r=>
   cases r with
   |nil=>exact absurd rfl (hne a)
   |cons b r=>simp
 ·cases h
theorem PL:∀(i:Nat) (vs:List V),AJ i (vs.map (V.ren σ δ))=(AJ i vs).ren σ δ
 |_,[]=>rfl
 |i,v::vs=>by simp[AJ,Fr.ren,PL (i+1) vs]
end Go.Pg
