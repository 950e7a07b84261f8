/- Names and levels turned into others: what the operations give turns with them. No program in sight. -/
import Derived.Test.YthhdhbalenanjaaGreatP4
noncomputable section
open Go renaming TypeId->cz,Operand->cd
open Option renaming map_eq_some_iff->bj,bind_eq_some_iff->bk,map_some->bq,some->bb,map_none->bh,bind_eq_bind->bn,pure_def->cq
open List renaming map_congr_left->bw,map_drop->bx,map_take->bz,getElem?_map->bc,length_map->bg,map_cons->bm,map_map->bp,mapM_cons->cj,sizeOf_lt_of_mem->ck,all_map->cw,map->cx
open Nat renaming add_assoc->bf
namespace Go.Pg
variable {P:Program}
variable {σ σ':Nat->Nat}{δ:Nat}
theorem PC:∀(l:List V),cH σ δ l=l.map (V.ren σ δ)
 |[]=>by simp[cH]
 |v::r=>by simp[cH,PC r]
theorem lR:∀(l:List (List V)),lF σ δ l=l.map (cx (V.ren σ δ))
 |[]=>by simp[lF]
 |v::r=>by simp[lF,PC,lR r]
@[simp] theorem EG(k:IntKind)(n:Int):(V.int k n).ren σ δ=.int k n:=by simp[V.ren]
@[simp] theorem LN(b:Bool):(V.bool b).ren σ δ=.bool b:=by simp[V.ren]
@[simp] theorem A6M(v:Value):(V.raw v).ren σ δ=.raw v:=by simp[V.ren]
@[simp] theorem HJ(cs:List V):(V.agg cs).ren σ δ=.agg (cs.map (V.ren σ δ)):=by simp[V.ren,PC]
@[simp] theorem KP(cs:List V):(V.tup cs).ren σ δ=.tup (cs.map (V.ren σ δ)):=by simp[V.ren,PC]
@[simp] theorem ES(f:Bool)(es:List (List V)):(V.list f es).ren σ δ=.list f (es.map (cx (V.ren σ δ))):=by simp[V.ren,lR]
@[simp] theorem MP(cs:List V):(V.ref cs).ren σ δ=.ref (cs.map (V.ren σ δ)):=by simp[V.ren,PC]
@[simp] theorem HK(l k g off:Nat):(V.ptr l k g off).ren σ δ=.ptr (l+δ) k (σ g) off:=by simp[V.ren]
@[simp] theorem OI(l k g i off:Nat):(V.eptr l k g i off).ren σ δ=.eptr (l+δ) k (σ g) i off:=by simp[V.ren]
@[simp] theorem HL(l k g n:Nat):(V.vec l k g n).ren σ δ=.vec (l+δ) k (σ g) n:=by simp[V.ren]
@[simp] theorem QY(l k g:Nat):(V.mp l k g).ren σ δ=.mp (l+δ) k (σ g):=by simp[V.ren]
@[simp] theorem OJ(f:FuncId)(xs ys:List V):(V.fn f xs ys).ren σ δ=.fn f (xs.map (V.ren σ δ)) (ys.map (V.ren σ δ)):=by simp[V.ren,PC]
@[simp] theorem gL(l k g:Nat):(V.yld l k g).ren σ δ=.yld (l+δ) k (σ g):=by simp[V.ren]
@[simp] theorem AJM:V.nil.ren σ δ=.nil:=by simp[V.ren]
@[simp] theorem A6N:V.any.ren σ δ=.any:=by simp[V.ren]
@[simp] theorem XL(l k g i n:Nat):(V.vtl l k g i n).ren σ δ=.vtl (l+δ) k (σ g) i n:=by simp[V.ren]
theorem MQ{σ':Nat->Nat}{δ':Nat}:∀(v:V),(v.ren σ δ).ren σ' δ'=v.ren (fun γ=>σ' (σ γ)) (δ+δ')
 |.agg cs=>by simp only[HJ,bp];congr 1;exact bw fun v _=>MQ v
 |.tup cs=>by simp only[KP,bp];congr 1;exact bw fun v _=>MQ v
 |.ref cs=>by simp only[MP,bp];congr 1;exact bw fun v _=>MQ v
 |.list b es=>by
  simp only[ES,bp];congr 1;refine bw fun e he=>?_;have hlt:=ck he;simp only[Function.comp,bp];exact bw fun v hv=>by have hlt2:=ck hv;exact MQ v
 |.fn f xs ys=>by
  simp only[OJ,bp];congr 1
  ·exact bw fun v _=>MQ v
  ·exact bw fun v _=>MQ v
 |.int k n=>by simp
 |.bool b=>by simp
 |.raw v=>by simp
 |.ptr l k g off=>by simp[bf]
 |.eptr l k g i off=>by simp[bf]
 |.vec l k g n=>by simp[bf]
 |.mp l k g=>by simp[bf]
 |.yld l k g=>by simp[bf]
 |.nil=>by simp
 |.vtl l k g i n=>by simp[bf]
 |.any=>by simp
decreasing_by all_goals first|(simp_wf;omega)|decreasing_tactic
def AV.ren(σ:Nat->Nat)(δ:Nat):AV->AV
 |.box cs=>.box (cs.map (V.ren σ δ))
 |.vec T es=>.vec T (es.map (cx (V.ren σ δ)))
 |.map es=>.map (es.map fun p=>(p.1.ren σ δ,p.2.ren σ δ))
 |.loop fr ps asg body N st=>.loop (fr.map fun p=>(p.1,p.2.1,p.2.2.ren σ δ)) ps asg body N st
 |.dead=>.dead
def AA.ren(σ:Nat->Nat)(δ:Nat)(L:AA):AA:=L.map fun p=>(p.1,σ p.2.1,p.2.2.ren σ δ)
def Fr.ren(σ:Nat->Nat)(δ:Nat)(fr:Fr):Fr:=fr.map fun p=>(p.1,p.2.1,p.2.2.ren σ δ)
def St.emb(σ:Nat->Nat)(pre:List AA)(s:St):St:=⟨pre++s.up.map (AA.ren σ pre.length),s.loc.ren σ pre.length⟩
theorem Fr.get_ren:∀(fr:Fr) (k:Nat),(fr.ren σ δ).get k=(fr.get k).map fun p=>(p.1,p.2.ren σ δ)
 |[],k=>rfl
 |(j,x)::fr,k=>by
  have:=Fr.get_ren fr k;simp only[Fr.ren,bm,Fr.get]at this|-;split
  ·rfl
  ·exact this
theorem AA.get_ren:∀(L:AA) (k:Nat),(L.ren σ δ).get k=(L.get k).map fun p=>(σ p.1,p.2.ren σ δ)
 |[],k=>rfl
 |(j,x)::L,k=>by
  have:=AA.get_ren L k;simp only[AA.ren,bm,AA.get]at this|-;split
  ·rfl
  ·exact this
variable {pre:List AA}{s:St}
theorem DB:(s.emb σ pre).up.length=s.up.length+pre.length:=by simp[St.emb,Nat.add_comm]
theorem B5(l k:Nat):(s.emb σ pre).get (l+pre.length) k=(s.get l k).map fun p=>(σ p.1,p.2.ren σ pre.length):=by
 unfold St.get;rw[DB];by_cases h:l=s.up.length
 ·rw[if_pos h,if_pos (by rw[h])];exact AA.get_ren _ _
 ·rw[if_neg h,if_neg (by omega)];simp only[St.emb];rw[List.getElem?_append_right (by omega),Nat.add_sub_cancel,bc];cases s.up[l]? with
  |none=>rfl
  |some L=>simp[AA.get_ren]
theorem Z6{α:Type}(f:α->α)(M:List α)(l:Nat):∀(pre:List α),(pre++M).modify (l+pre.length) f=pre++M.modify l f
 |[]=>rfl
 |p::pre=>by have:=Z6 f M l pre;simp only[List.cons_append,List.length_cons,<-bf,List.modify_succ_cons,this]
theorem CQ{l k g:Nat}{r:AV}:(s.put l k g r).emb σ pre=(s.emb σ pre).put (l+pre.length) k (σ g) (r.ren σ pre.length):=by
 unfold St.put;rw[DB];by_cases h:l=s.up.length
 ·rw[if_pos h,if_pos (by rw[h])];simp[St.emb,AA.ren,AA.put]
 ·rw[if_neg h,if_neg (by omega)];simp only[St.emb,St.mk.injEq,and_true];rw[Z6];congr 1;refine List.ext_getElem? fun i=>?_;simp only[bc,List.getElem?_modify];by_cases hi:l=i
  ·subst hi;cases s.up[l]? with
   |none=>rfl
   |some L=>simp[AA.ren,AA.put]
  ·simp[hi]
theorem QZ{u:Value}{v:V}(h:CN u=some v):v.ren σ δ=v:=by
 cases u with
 |int k n=>simp only[CN,bb.injEq]at h;subst h;simp
 |bool b=>simp only[CN,bb.injEq]at h;subst h;simp
 |agg cs=>simp[CN]at h
 |tuple cs=>simp[CN]at h
 |slice a n c=>
  unfold CN at h
  split at h<;>simp_all<;>subst h<;>simp
 |_=>simp only[CN,bb.injEq]at h;subst h;simp
theorem Q0:∀{l:List Value} {cs:List V},GL l=some cs->cs.map (V.ren σ δ)=cs
 |[],cs,h=>by simp[GL]at h;subst h;rfl
 |v::r,cs,h=>by
  unfold GL at h;split at h
  ·rename_i x l h1 h2;cases h;simp[QZ h1,Q0 h2]
  ·cases h
end Go.Pg
namespace Go.Pg
variable {P:Program}{σ:Nat->Nat}{δ:Nat}{pre:List AA}{s:St}{fr:Fr}{g:Bool}
theorem ADT(x:cd):rd (fr.ren σ δ) x=(rd fr x).map fun p=>(p.1,p.2.ren σ δ):=by
 cases x with
 |tmp t=>exact Fr.get_ren fr t
 |const u=>
  simp only[rd]
  cases h:CN u with
  |none=>rfl
  |some v=>simp[QZ h]
 |func f=>simp[rd]
 |global g=>rfl
theorem DI(x:cd):DQ g (fr.ren σ δ) x=(DQ g fr x).map (V.ren σ δ):=by
 unfold DQ;rw[ADT];cases rd fr x with
 |none=>rfl
 |some p=>
  obtain⟨c,v⟩:=p
  simp only[bq]
  split<;>rfl
theorem H9(v:V):A9 (v.ren σ δ)=A9 v:=by cases v<;>simp[A9]
theorem EK(v:V):A7 (v.ren σ δ)=(A7 v).map (V.ren σ δ):=by cases v<;>simp[A7]
theorem yA(v:V):weakC (v.ren σ δ)=(weakC v).ren σ δ:=by cases v<;>simp[weakC]
theorem U7(v:V):weakV (v.ren σ δ)=(weakV v).ren σ δ:=by cases v<;>simp[weakV,yA]
theorem WM{p:V}{cs:List V}(h:A4 s p=some cs):A4 (s.emb σ pre) (p.ren σ pre.length)=some (cs.map (V.ren σ pre.length)):=by
 cases p with
 |ref ds=>simp only[A4,bb.injEq]at h;subst h;simp[A4]
 |ptr l k γ off=>
  simp only[A4]at h
  split at h
  ·rename_i γ' ds e;split at h
   ·rename_i eg;cases h;simp[A4,B5,e,AV.ren,eg,bx]
   ·cases h
  ·cases h
 |eptr l k γ i off=>
  simp only[A4]at h
  split at h
  ·rename_i γ' T es e;split at h
   ·rename_i eg;obtain⟨x,hx,rfl⟩:=bj.1 h;simp[A4,B5,e,AV.ren,eg,hx,bx]
   ·cases h
  ·cases h
 |_=>cases h
theorem dW{T:cz}{cs:List V}{v:V}(h:BF P T cs=some v):BF P T (cs.map (V.ren σ δ))=some (v.ren σ δ):=by
 unfold BF at h|-;split at h
 ·split at h
  ·rename_i hc;cases h;simp[hc,bz]
  ·cases h
 ·split at h
  ·rename_i hc;cases h;simp[hc,bz]
  ·cases h
 ·simp only[bc,h,bq]
 ·cases h
theorem dX{U:cz}{cs:List V}{off:Nat}{v:V}(h:N6 P U cs off=some v):N6 P U (cs.map (V.ren σ δ)) off=some (v.ren σ δ):=by
 unfold N6 at h|-;split at h
 ·split at h
  ·rename_i hc;cases h;simp[hc,bz,bx]
  ·cases h
 ·split at h
  ·rename_i hc;cases h;simp[hc,bz,bx]
  ·cases h
 ·simp only[bc,h,bq]
 ·cases h
theorem lS{T:cz}{x v:V}{f:Nat}(h:ID P T x f=some v):ID P T (x.ren σ δ) f=some (v.ren σ δ):=by
 unfold ID at h;split at h
 ·rename_i cs U off e;simp[ID,e,dX h]
 ·cases h
theorem W3{T:cz}{x v:V}{f:Nat}(h:C5 P T x f=some v):C5 P T (x.ren σ δ) f=some (v.ren σ δ):=by
 unfold C5 at h;split at h
 ·rename_i U off e;split at h
  ·cases h
  ·rename_i hz;split at h<;>first
    |(cases h;done)
    |(cases h;simp[C5,e,hz,bx])
 ·cases h
theorem E2(es:List (List V))(j:Nat):(es.map (cx (V.ren σ δ))).getD j []=(es.getD j []).map (V.ren σ δ):=by simp only[List.getD_eq_getElem?_getD,bc];cases es[j]?<;>rfl
theorem W4{T:cz}{x i v:V}(h:BK P s T x i=some v):BK P (s.emb σ pre) T (x.ren σ pre.length) (i.ren σ pre.length)=some (v.ren σ pre.length):=by
 unfold BK at h;split at h
 ·rename_i e f es k j e1;split at h
  ·rename_i hc;cases h;obtain⟨c1,c2,c3,c4⟩:=hc;simp only[ES,EG,BK,e1,bg,E2,MP];rw[if_pos ⟨c1,c2,c3,c4⟩]
  ·cases h
 ·rename_i e l k γ n k' j e1;split at h
  ·rename_i γ' U es e2;split at h
   ·rename_i hc;cases h;obtain⟨c1,c2,c3,c4,c5,c6⟩:=hc;subst c1;simp only[HL,EG,BK,e1,B5,e2,bq,AV.ren,bg,E2,OI];rw[if_pos ⟨trivial,c2,c3,c4,c5,c6⟩]
   ·cases h
  ·cases h
 ·rename_i n e cs k j e1;split at h
  ·rename_i hc;cases h;simp only[MP,EG,BK,e1,if_pos hc,bx]
  ·cases h
 ·rename_i n e l k γ o k' j e1;split at h
  ·rename_i hc;cases h;simp only[HK,EG,BK,e1,if_pos hc]
  ·cases h
 ·rename_i n e l k γ i' o k' j e1;split at h
  ·rename_i hc;cases h;simp only[OI,EG,BK,e1,if_pos hc]
  ·cases h
 ·cases h
theorem lT{T:cz}{x i v:V}(h:MC P T x i=some v):MC P T (x.ren σ δ) (i.ren σ δ)=some (v.ren σ δ):=by
 unfold MC at h;split at h
 ·rename_i n e cs k j e1;split at h
  ·rename_i hc;simp only[HJ,EG,MC,e1,if_pos hc,dX h]
  ·cases h
 ·cases h
theorem pQ{S D:cz}{x v:V}(h:MD P S D x=some v):MD P S D (x.ren σ δ)=some (v.ren σ δ):=by
 unfold MD at h;split at h
 ·rename_i e1 e2;cases h;simp[MD,e1,e2]
 ·cases h
theorem ADU{op:UnOp}{x v:V}(h:fZ op x=some v):fZ op (x.ren σ δ)=some (v.ren σ δ):=by unfold fZ at h;split at h<;>first|(cases h;done)|(cases h;simp[fZ])
theorem yB{x v:V}(h:N7 x=some v):N7 (x.ren σ δ)=some (v.ren σ δ):=by cases x<;>simp[N7]at h<;>subst h<;>simp[N7]
theorem cJ{x v:V}{i:Nat}(h:FL x i=some v):FL (x.ren σ δ) i=some (v.ren σ δ):=by cases x<;>simp[FL]at h;simp[FL,h]
theorem yC{T:cz}{x v:V}(h:H0 P T x=some v):H0 P T (x.ren σ δ)=some (v.ren σ δ):=by
 unfold H0 at h;split at h
 ·rename_i e f es hu;cases h;simp[H0,hu]
 ·rename_i e l k g n hu;cases h;simp[H0,hu]
 ·rename_i e hu;cases h;simp[H0,hu]
 ·rename_i n e hu;cases h;unfold H0;rw[hu];simp
 ·cases h
theorem AJN{n m:Nat}{h:Option V}(e:hiN n h=some m):hiN n (h.map (V.ren σ δ))=some m:=by
 cases h with
 |none=>exact e
 |some a=>cases a<;>first|(simp only[bq,EG];exact e)|(simp[hiN]at e)
theorem lU{T:cz}{x v:V}{lo hi mx:Option V}(h:C4 P s T x lo hi mx=some v):C4 P (s.emb σ pre) T (x.ren σ pre.length) (lo.map (V.ren σ pre.length)) (hi.map (V.ren σ pre.length)) (mx.map (V.ren σ pre.length))=some (v.ren σ pre.length):=by
 unfold C4 at h;split at h
 ·rename_i e f es k h' e1;split at h
  ·rename_i hc;cases h;simp only[ES,bq,EG,bh,C4,e1,bg,if_pos hc,bz]
  ·cases h
 ·rename_i e f es k l e1;split at h
  ·rename_i hc;cases h;have:(es.map (cx (V.ren σ pre.length))).all (fun x=>x.length==P.cellsOf e)=true:=by rw[cw];exact hc.2.2.2▸(by congr 1;funext x;simp)
   simp only[ES,bq,EG,bh,C4,e1,bg,if_pos (⟨hc.1,hc.2.1,hc.2.2.1,this⟩:_/\_/\_/\_),bx]
  ·cases h
 ·rename_i e f es k l k' h' e1;split at h
  ·rename_i hc;cases h;have:(es.map (cx (V.ren σ pre.length))).all (fun x=>x.length==P.cellsOf e)=true:=by rw[cw];exact hc.2.2.2.2▸(by congr 1;funext x;simp)
   simp only[ES,bq,EG,bh,C4,e1,bg,if_pos (⟨hc.1,hc.2.1,hc.2.2.1,hc.2.2.2.1,this⟩:_/\_/\_/\_/\_),bx,bz]
  ·cases h
 ·rename_i e f es k h' k' m e1;split at h
  ·rename_i hc;cases h;simp only[ES,bq,EG,bh,C4,e1,if_pos hc,List.map_nil]
  ·cases h
 ·rename_i e l k g n k' h' e1;split at h
  ·rename_i hc;cases h;simp only[HL,bq,EG,bh,C4,e1,if_pos hc]
  ·cases h
 ·rename_i e l k g n k' i e1;split at h
  ·rename_i g' T' es hget;split at h
   ·rename_i hc;obtain⟨rfl,h1,h2,h3,h4,h5⟩:=hc;cases h;have:(es.map (cx (V.ren σ pre.length))).all (fun x=>x.length==P.cellsOf e)=true:=by rw[cw];exact h1▸(by congr 1;funext x;simp)
    simp only[HL,XL,bq,EG,bh,C4,e1,B5,hget,AV.ren];rw[if_pos ⟨trivial,this,by simpa using h2,h3,h4,h5⟩]
   ·cases h
  ·cases h
 ·rename_i n e l k g o e1;split at h
  ·rename_i g' cs m hget hm;split at h
   ·rename_i hc;obtain⟨rfl,h1,h2⟩:=hc;cases h;simp only[HK,XL,bh,C4,e1,B5,hget,AV.ren,bq,AJN hm];rw[if_pos ⟨trivial,h1,by simpa using h2⟩]
   ·cases h
  ·cases h
 ·cases h
theorem yD{x y v:V}(h:SZ x y=some v):SZ (x.ren σ δ) (y.ren σ δ)=some (v.ren σ δ):=by
 unfold SZ at h;split at h
 ·split at h
  ·rename_i hk;cases h;simp[SZ,hk]
  ·cases h
 ·cases h
theorem yE{x y v:V}(h:S0 x y=some v):S0 (x.ren σ δ) (y.ren σ δ)=some (v.ren σ δ):=by
 unfold S0 at h;split at h
 ·split at h
  ·rename_i hk;cases h;simp[S0,hk]
  ·cases h
 ·cases h
theorem yF{op:BinOp}{k:IntKind}{a b:Int}{v:V}(h:FU op k a b=some v):v.ren σ δ=v:=by
 unfold FU at h;split at h<;>first
  |(cases h;simp;done)
  |(split at h<;>first|(cases h;done)|(cases h;simp;done))
  |(obtain⟨r,_,rfl⟩:=bj.1 h;simp)
theorem MR:∀(cs:List V),DX (cs.map (V.ren σ δ))=DX cs
 |[]=>rfl
 |c::cs=>by have ih:=MR cs;cases c<;>simp[DX,ih]
theorem ADV{op:BinOp}{k:IntKind}{a b:Int}{v:V}(h:kG op k a b=some v):v.ren σ δ=v:=by
 cases op<;>simp only[kG]at h;case shl=>split at h<;>cases h;simp
 case shr=>split at h<;>cases h;simp
 all_goals cases h
theorem yG{op:BinOp}{T:cz}{x y v:V}(h:HC P op T x y=some v):HC P op T (x.ren σ δ) (y.ren σ δ)=some (v.ren σ δ):=by
 unfold HC at h;split at h
 ·split at h
  ·rename_i hk;simp only[EG,HC,if_pos hk,h,yF h]
  ·rename_i hk;simp only[EG,HC,if_neg hk,h,ADV h]
 ·split at h
  ·rename_i hk;have hv:v.ren σ δ=v:=by split at h<;>first|(cases h;done)|(cases h;simp)
   rw[hv];simp only[LN,HC,if_pos hk];exact h
  ·cases h
 ·rename_i cs ds;have he:WX P T (cs.map (V.ren σ δ)) (ds.map (V.ren σ δ))=WX P T cs ds:=by unfold WX;rw[MR,MR]
  have hv:v.ren σ δ=v:=by
   split at h
   ·obtain⟨r,_,rfl⟩:=bj.1 h;simp
   ·obtain⟨r,_,rfl⟩:=bj.1 h;simp
   ·cases h
  rw[hv];simp only[HJ,HC,he];exact h
 ·rename_i x' _;have hi:HB (x.ren σ δ)=HB x:=by
   cases x with
   |list f es=>cases es<;>simp[HB]
   |vec l k g n=>cases n<;>simp[HB]
   |vtl l k g i n=>cases n<;>simp[HB]
   |_=>simp[HB]
  have hb:∀y:V,HC P op T y .nil=if C8 P T then(match op with
   |.eql=>(HB y).map V.bool
   |.neq=>(HB y).map fun b=>V.bool !b
   | _=>none) else none:=fun y=>by cases y <;> rfl
  have hv:v.ren σ δ=v:=by
   split at h
   ·split at h
    ·obtain⟨r,_,rfl⟩:=bj.1 h;simp
    ·obtain⟨r,_,rfl⟩:=bj.1 h;simp
    ·cases h
   ·cases h
  rw[hv,AJM,hb,hi];exact h
 ·cases h
theorem U8:∀{cs:List V} {l:List Value},DX cs=some l->cs.map (V.ren σ δ)=cs
 |[],_,_=>rfl
 |c::cs,l,h=>by
  cases c with
  |int k n=>
   simp only[DX]at h
   split at h
   ·rename_i r hr;simp[U8 hr]
   ·cases h
  |bool b=>
   simp only[DX]at h
   split at h
   ·rename_i r hr;simp[U8 hr]
   ·cases h
  |_=>simp[DX]at h
theorem Z7{K:cz}(v:V):WY P K (v.ren σ δ)=WY P K v:=by
 cases v with
 |agg cs=>
  simp only[HJ,WY,MR]
  split
  ·rename_i l hl;rw[U8 hl]
  ·rfl
 |_=>simp[WY]
theorem U9{K:cz}{ks:List V}:∀(es:List (V×V)) (i:Nat),M6 P K ks (es.map fun p=>(p.1.ren σ δ,p.2.ren σ δ)) i=M6 P K ks es i
 |[],_=>rfl
 |(k,v)::es,i=>by simp only[bm,M6,Z7,U9 es]
theorem pR{T:cz}{z:V}(h:UV P T=some z):z.ren σ δ=z:=by
 unfold UV at h;split at h
 ·split at h
  ·rename_i cs hz;cases h;simp[Q0 hz]
  ·cases h
 ·exact QZ h
 ·cases h
theorem gM{T:cz}{x k v:V}{ok:Bool}(h:DK P s T x k ok=some v):DK P (s.emb σ pre) T (x.ren σ pre.length) (k.ren σ pre.length) ok=some (v.ren σ pre.length):=by
 unfold DK at h;split at h
 ·rename_i K E l q g hm;split at h
  ·rename_i g' es hget;split at h
   ·rename_i hc;obtain⟨rfl,hT⟩:=hc;split at h
    ·rename_i ks hks;simp only[QY,DK,hm,B5,hget,bq,AV.ren,Z7,hks,U9,if_pos (⟨trivial,hT⟩:True/\_)];split at h
     ·rename_i hf;obtain⟨z,hz,rfl⟩:=bj.1 h;simp only[hz,bq];cases ok<;>simp[pR hz]
     ·rename_i i hf;obtain⟨e,he,rfl⟩:=bj.1 h;simp only[bc,he,bq];cases ok<;>simp
     ·cases h
    ·cases h
   ·cases h
  ·cases h
 ·cases h
theorem VA{T:cz}{x k v:V}{l q γ:Nat}{es:List (V×V)}(h:LK P s T x k v=some (l,q,γ,es)):LK P (s.emb σ pre) T (x.ren σ pre.length) (k.ren σ pre.length) (v.ren σ pre.length)=some (l+pre.length,q,σ γ,es.map fun p=>(p.1.ren σ pre.length,p.2.ren σ pre.length)):=by
 unfold LK at h;split at h
 ·rename_i K E l q g hm;split at h
  ·rename_i g' es hget;split at h
   ·rename_i hc;obtain⟨rfl,hT⟩:=hc;split at h
    ·rename_i ks hks;simp only[QY,LK,hm,B5,hget,bq,AV.ren,Z7,hks,U9,if_pos (⟨trivial,hT⟩:True/\_)];split at h
     ·rename_i hf;cases h;simp
     ·rename_i i hf;cases h;simp[List.map_set]
     ·cases h
    ·cases h
   ·cases h
  ·cases h
 ·cases h
theorem IX{r:cd->Option V}:∀{l:List cd} {vs:List V},l.mapM r=some vs->l.mapM (fun x=>(r x).map (V.ren σ δ))=some (vs.map (V.ren σ δ))
 |[],vs,h=>by simp at h;subst h;rfl
 |x::l,vs,h=>by simp only[cj,bn,bk,cq,bb.injEq]at h;obtain⟨v,h1,us,h2,rfl⟩:=h;simp[h1,IX h2]
theorem AJO{o:Oper}{r:cd->Option V}{v:V}(h:JH P o s r=some v):JH P o (s.emb σ pre) (fun x=>(r x).map (V.ren σ pre.length))=some (v.ren σ pre.length):=by
 unfold JH at h|-;split at h<;>(try simp only[bk]at h);case h_1=>simp[h]
 case h_2=>simp[h]
 case h_3=>obtain⟨a,h1,h2⟩:=h;simp[h1,yB h2]
 case h_4=>obtain⟨a,h1,b,h2,h3⟩:=h;simp[h1,WM h2,dW h3]
 case h_5=>obtain⟨a,h1,b,h2,h3⟩:=h;simp[h1,h2,yG h3]
 case h_6=>obtain⟨a,h1,h2⟩:=h;simp[h1,ADU h2]
 case h_7=>obtain⟨a,h1,h2⟩:=h;simp[h1,pQ h2]
 case h_8=>obtain⟨a,h1,h2⟩:=h;simp[h1,W3 h2]
 case h_9=>obtain⟨a,h1,h2⟩:=h;simp[h1,lS h2]
 case h_10=>obtain⟨a,h1,b,h2,h3⟩:=h;simp[h1,h2,W4 h3]
 case h_11=>obtain⟨a,h1,b,h2,h3⟩:=h;simp[h1,h2,lT h3]
 case h_12=>obtain⟨a,h1,h2⟩:=h;simp[h1,cJ h2]
 case h_13=>
  split at h
  ·rename_i e1 e2;simp only[bk]at h;obtain⟨a,h1,h2⟩:=h;simp[h1,yC h2]
  ·cases h
 case h_14=>
  split at h
  ·simp only[bk]at h;obtain⟨a,h1,b,h2,h3⟩:=h;simp[h1,h2,yD h3]
  ·cases h
 case h_15=>
  split at h
  ·simp only[bk]at h;obtain⟨a,h1,b,h2,h3⟩:=h;simp[h1,h2,yE h3]
  ·cases h
 case h_16 T x lo hi mx ho=>
  obtain⟨a,h1,l,h2,u,h3,m,h4,h5⟩:=h
  have key:∀(z:Option cd) (q:Option V),(match z with|none=>some none|some y=>(r y).map some)=some q->(z=none/\q=none)\/∃y b,z=some y/\r y=some b/\q=some b:=by
   intro z q hz;cases z with
   |none=>cases hz;exact .inl ⟨rfl,rfl⟩
   |some y=>
    obtain⟨b,hb,rfl⟩:=bj.1 hz
    exact .inr ⟨y,b,rfl,hb,rfl⟩
  have h6:=lU (σ:=σ) (pre:=pre) h5
  rcases key lo l h2 with⟨rfl,rfl⟩|⟨y1,b1,rfl,q1,rfl⟩<;>rcases key hi u h3 with⟨rfl,rfl⟩|⟨y2,b2,rfl,q2,rfl⟩<;>rcases key mx m h4 with⟨rfl,rfl⟩|⟨y3,b3,rfl,q3,rfl⟩<;>simp_all
 case h_17=>obtain⟨a,h1,b,h2,h3⟩:=h;simp[h1,h2,gM h3]
 case h_18 f first captured ho=>
  obtain⟨a,h1,b,h2,h3⟩:=h
  cases h3
  simp[IX h1,IX h2]
 case h_19=>cases h
end Go.Pg
namespace Go.Pg
variable {P:Program}{σ:Nat->Nat}{δ:Nat}{pre:List AA}{s:St}{fr:Fr}{g:Bool}
theorem GW{T:cz}{z:List V}(h:CA P T=some z):z.map (V.ren σ δ)=z:=by
 unfold CA at h;split at h
 ·exact Q0 h
 ·cases h
theorem C7{α β:Type}(f:α->β)(cs ds:List α)(off:Nat):AZ (cs.map f) off (ds.map f)=(AZ cs off ds).map f:=by simp[AZ,bz,bx]
theorem PD{place:Nat->Option (Nat×Nat)}:∀{ps:List (Nat×V)} {cs ds:List V},C6 place cs ps=some ds->C6 place (cs.map (V.ren σ δ)) (ps.map fun p=>(p.1,p.2.ren σ δ))=some (ds.map (V.ren σ δ))
 |[],cs,ds,h=>by simp[C6]at h;subst h;rfl
 |(i,v)::r,cs,ds,h=>by
  simp only[C6]at h;split at h
  ·cases h
  ·rename_i off size e;split at h
   ·rename_i hc;have:=PD h;simp only[bm,C6,e,EK,bg];rw[if_pos hc,C7];exact this
   ·cases h
theorem MS(ps:List (Nat×V)):((ps.map fun p=>(p.1,p.2.ren σ δ)).all fun p=>A9 p.2)=ps.all fun p=>A9 p.2:=by rw[cw];congr 1;funext p;exact H9 p.2
theorem lV{T:cz}{ps:List (Nat×V)}{v:V}(h:CT P T ps=some v):CT P T (ps.map fun p=>(p.1,p.2.ren σ δ))=some (v.ren σ δ):=by
 unfold CT at h|-;split at h
 ·rename_i z fs e1 e2;simp only[MS];split at h
  ·rename_i hc;obtain⟨cs,h1,rfl⟩:=bj.1 h;have:=PD (σ:=σ) (δ:=δ) h1;rw[GW e1]at this;rw[if_pos hc,this];simp
  ·cases h
 ·rename_i z n e e1 e2;simp only[MS];split at h
  ·rename_i hc;obtain⟨cs,h1,rfl⟩:=bj.1 h;have:=PD (σ:=σ) (δ:=δ) h1;rw[GW e1]at this;rw[if_pos hc,this];simp
  ·cases h
 ·cases h
theorem Z8{β:Type}(f:V->V)(size:Nat):∀(n:Nat) (cs:List V),CO size (cs.map f) n=(CO size cs n).map (cx f)
 |0,_=>rfl
 |n+1,cs=>by simp only[CO,bm,bz];rw[<-bx,Z8 (β:=β) f size n]
theorem VB{T:cz}{len:Nat}{ps:List (Nat×V)}{v:V}(h:CD P T len ps=some v):CD P T len (ps.map fun p=>(p.1,p.2.ren σ δ))=some (v.ren σ δ):=by
 unfold CD at h|-;split at h
 ·rename_i e e1;split at h
  ·rename_i z e2;split at h
   ·rename_i hc;obtain⟨cs,h1,rfl⟩:=bj.1 h;have:=PD (σ:=σ) (δ:=δ) h1;have hz:(List.replicate len z).flatten.map (V.ren σ δ)=(List.replicate len z).flatten:=by rw[List.map_flatten,List.map_replicate,GW e2]
    rw[hz]at this;simp only[MS];rw[if_pos hc,this];simp[Z8 (β:=Nat)]
   ·cases h
  ·cases h
 ·cases h
theorem Q1{r:cd->Option V}:∀{l:List (Nat×cd)} {ps:List (Nat×V)},C9 r l=some ps->C9 (fun x=>(r x).map (V.ren σ δ)) l=some (ps.map fun p=>(p.1,p.2.ren σ δ))
 |[],ps,h=>by simp[C9]at h;subst h;rfl
 |(i,x)::l,ps,h=>by
  simp only[C9]at h;split at h
  ·rename_i v us h1 h2;cases h;simp[C9,h1,Q1 h2]
  ·cases h
theorem GY{v:V}{es:List (List V)}(h:elemsOf s v=some es):elemsOf (s.emb σ pre) (v.ren σ pre.length)=some (es.map (cx (V.ren σ pre.length))):=by
 cases v with
 |list f ds=>simp only[elemsOf,bb.injEq]at h;subst h;simp[elemsOf]
 |vec l k γ n=>
  simp only[elemsOf]at h
  split at h
  ·rename_i γ' T ds e;split at h
   ·rename_i hc;cases h;simp[elemsOf,B5,e,AV.ren,hc.1,hc.2,bz]
   ·cases h
  ·cases h
 |vtl l k γ i n=>
  simp only[elemsOf]at h
  split at h
  ·rename_i γ' cs e;split at h
   ·rename_i hc;cases h;simp[elemsOf,B5,e,AV.ren,hc.1,hc.2,bz,bx,Function.comp_def]
   ·cases h
  ·cases h
 |nil=>simp only[elemsOf,bb.injEq]at h;subst h;simp[elemsOf]
 |raw v=>cases v with
  |slice a n c=>cases n with
   |zero=>cases h;simp[elemsOf]
   |succ n=>cases h
  |_=>cases h
 |_=>cases h
theorem JJ:DQ g (fr.ren σ δ)=fun x=>(DQ g fr x).map (V.ren σ δ):=by funext x;exact DI x
theorem IY{o:Oper}{v:V}(h:FE P g o fr s=some v):FE P g o (fr.ren σ pre.length) (s.emb σ pre)=some (v.ren σ pre.length):=by
 unfold FE at h|-;split at h
 ·rename_i c x y ho;split at h
  ·rename_i c' ca va cb vb e1 e2 e3;split at h
   ·rename_i hc;cases h;simp only[DI,ADT,e1,e2,e3,bq,LN];rw[if_pos hc]
   ·cases h
  ·cases h
 ·rename_i T parts ho;obtain⟨ps,h1,h2⟩:=bk.1 h;rw[JJ,Q1 h1];exact lV h2
 ·rename_i T len parts ho;obtain⟨ps,h1,h2⟩:=bk.1 h;rw[JJ,Q1 h1];exact VB h2
 ·rw[JJ];exact AJO h
def AY(s:St):Nat->V->Option V
 |0,_=>none
 |f+1,v=>match v with
  |.list _ es=>some (.list false es)
  | .vec l k g m=>if l=s.up.length then(match s.loc.get k with
    |some (g',.vec _ es)=>if g'=g/\m<=es.length then some (.list false (es.take m)) else none
    | _=>none) else some v
  | .ptr l k g off=>if l=s.up.length then(match s.loc.get k with
    |some (g',.box cs)=>if g'=g then(cs.mapM (AY s f)).map fun ds=>.ref (ds.drop off) else none
    | _=>none) else some v
  |.agg cs=>(cs.mapM (AY s f)).map .agg
  |.tup cs=>(cs.mapM (AY s f)).map .tup
  |.fn g xs ys=>match xs.mapM (AY s f),ys.mapM (AY s f)with
   |some a,some b=>some (.fn g a b)
   |_,_=>none
  |v=>some v
theorem GZ{α β:Type}{f:α->Option β}{g:α->β}(h:∀x y,f x=some y->g x=y):∀{l:List α} {r:List β},l.mapM f=some r->l.map g=r
 |[],r,e=>by simp at e;subst e;rfl
 |x::l,r,e=>by simp only[cj,bn,bk,cq,bb.injEq]at e;obtain⟨y,h1,ys,h2,rfl⟩:=e;simp[h x y h1,GZ h h2]
theorem OK:∀(f:Nat) {v r:V},AY s f v=some r->DE s f v=r
 |0,v,r,h=>by cases h
 |f+1,v,r,h=>by
  have ih:=fun v r=>OK f (v:=v) (r:=r);cases v with
  |list b es=>simpa [AY,DE]using h
  |vec l k g m=>
   simp only[AY]at h
   simp only[DE]
   split at h
   ·rename_i hl;rw[if_pos hl];split at h
    ·rename_i g' T es e;split at h
     ·rename_i hc;rw[e];simp only[if_pos hc];exact bb.inj h
     ·cases h
    ·cases h
   ·rename_i hl;rw[if_neg hl];exact bb.inj h
  |ptr l k g off=>
   simp only[AY]at h
   simp only[DE]
   split at h
   ·rename_i hl;rw[if_pos hl];split at h
    ·rename_i g' cs e;split at h
     ·rename_i hc;obtain⟨ds,h1,rfl⟩:=bj.1 h;rw[e];simp only[if_pos hc,GZ ih h1]
     ·cases h
    ·cases h
   ·rename_i hl;rw[if_neg hl];exact bb.inj h
  |agg cs=>
   obtain⟨ds,h1,rfl⟩:=bj.1 h
   simp only[DE,GZ ih h1]
  |tup cs=>
   obtain⟨ds,h1,rfl⟩:=bj.1 h
   simp only[DE,GZ ih h1]
  |fn g xs ys=>
   simp only[AY]at h
   split at h
   ·rename_i a b h1 h2;cases h;simp only[DE,GZ ih h1,GZ ih h2]
   ·cases h
  |_=>simpa [AY,DE]using h
theorem FP{f f':V->Option V}(h:∀v r,f v=some r->f' (v.ren σ δ)=some (r.ren σ δ)):∀{l r:List V},l.mapM f=some r->(l.map (V.ren σ δ)).mapM f'=some (r.map (V.ren σ δ))
 |[],r,e=>by simp at e;subst e;rfl
 |x::l,r,e=>by simp only[cj,bn,bk,cq,bb.injEq]at e;obtain⟨y,h1,ys,h2,rfl⟩:=e;simp[h x y h1,FP h h2]
theorem KQ(k:Nat):(s.emb σ pre).loc.get k=(s.loc.get k).map fun p=>(σ p.1,p.2.ren σ pre.length):=AA.get_ren _ _
theorem J3:∀(f:Nat) {v r:V},AY s f v=some r->AY (s.emb σ pre) f (v.ren σ pre.length)=some (r.ren σ pre.length)
 |0,v,r,h=>by cases h
 |f+1,v,r,h=>by
  have ih:=fun v r=>J3 f (v:=v) (r:=r);cases v with
  |list b es=>simp only[AY,bb.injEq]at h;subst h;simp[AY]
  |vec l k g m=>
   simp only[AY]at h
   split at h
   ·rename_i hl;split at h
    ·rename_i g' T es e;split at h
     ·rename_i hc;cases h;simp[AY,DB,KQ,hl,e,AV.ren,hc.1,hc.2,bz]
     ·cases h
    ·cases h
   ·rename_i hl;cases h;have:¬l+pre.length=s.up.length+pre.length:=by omega
    simp[AY,DB,hl]
  |ptr l k g off=>
   simp only[AY]at h
   split at h
   ·rename_i hl;split at h
    ·rename_i g' cs e;split at h
     ·rename_i hc;obtain⟨ds,h1,rfl⟩:=bj.1 h;have:=FP ih h1;simp[AY,DB,KQ,hl,e,AV.ren,hc,this,bx]
     ·cases h
    ·cases h
   ·rename_i hl;cases h;simp[AY,DB,hl]
  |agg cs=>
   obtain⟨ds,h1,rfl⟩:=bj.1 h
   simp[AY,FP ih h1]
  |tup cs=>
   obtain⟨ds,h1,rfl⟩:=bj.1 h
   simp[AY,FP ih h1]
  |fn g xs ys=>
   simp only[AY]at h
   split at h
   ·rename_i a b h1 h2;cases h;simp[AY,FP ih h1,FP ih h2]
   ·cases h
  |_=>simp only[AY,bb.injEq]at h;subst h;simp[AY]
def BW(s:St)(v:V):Option V:=match v with
 |.list f es=>some (.list f es)
 |.int k n=>some (.int k n)
 |.bool b=>some (.bool b)
 |v=>AY s 4 v
theorem JK{v r:V}(h:BW s v=some r):FD s v=r:=by
 unfold BW at h;unfold FD;split at h
 ·simpa using h
 ·simpa [DE]using h
 ·simpa [DE]using h
 ·rename_i h1 h2 h3;split
  ·rename_i f es;exact absurd rfl (h1 f es)
  ·exact OK 4 h
theorem WN{v:V}(h1:∀f es,v≠.list f es)(h2:∀k n,v≠.int k n)(h3:∀b,v≠.bool b):BW s v=AY s 4 v:=by
 unfold BW;split
 ·rename_i f es;exact absurd rfl (h1 f es)
 ·rename_i k n;exact absurd rfl (h2 k n)
 ·rename_i b;exact absurd rfl (h3 b)
 ·rfl
theorem KR{v r:V}(h:BW s v=some r):BW (s.emb σ pre) (v.ren σ pre.length)=some (r.ren σ pre.length):=by
 by_cases h1:∃f es,v=.list f es
 ·obtain⟨f,es,rfl⟩:=h1;simp only[BW,bb.injEq]at h;subst h;simp[BW]
 by_cases h2:∃k n,v=.int k n
 ·obtain⟨k,n,rfl⟩:=h2;simp only[BW,bb.injEq]at h;subst h;simp[BW]
 by_cases h3:∃b,v=.bool b
 ·obtain⟨b,rfl⟩:=h3;simp only[BW,bb.injEq]at h;subst h;simp[BW]
 rw[WN (fun f es e=>h1 ⟨f,es,e⟩) (fun k n e=>h2 ⟨k,n,e⟩) (fun b e=>h3 ⟨b,e⟩)]at h;rw[WN (fun f es e=>by cases v<;>simp at e;exact h1 ⟨_,_,rfl⟩) (fun k n e=>by cases v<;>simp at e;exact h2 ⟨_,_,rfl⟩) (fun b e=>by cases v<;>simp at e;exact h3 ⟨_,rfl⟩)];exact J3 4 h
def G4{α β:Type}(f:α->Option β):List α->Option (List β)
 |[]=>some []
 |x::l=>match f x with
  |some y=>match G4 f l with
   |some r=>some (y::r)
   |none=>none
  |none=>none
theorem LO{α β:Type}{f:α->Option β}{g:α->β}(h:∀x y,f x=some y->g x=y):∀{l:List α} {r:List β},G4 f l=some r->l.map g=r
 |[],r,e=>by cases e;rfl
 |x::l,r,e=>by
  simp only[G4]at e;split at e
  ·rename_i y hy;split at e
   ·rename_i q hq;cases e;simp[h _ _ hy,LO h hq]
   ·cases e
  ·cases e
theorem LP{α β:Type}{f f':α->Option β}{a:α->α}{b:β->β}(h:∀x y,f x=some y->f' (a x)=some (b y)):∀{l:List α} {r:List β},G4 f l=some r->G4 f' (l.map a)=some (r.map b)
 |[],r,e=>by cases e;rfl
 |x::l,r,e=>by
  simp only[G4]at e;split at e
  ·rename_i y hy;split at e
   ·rename_i q hq;cases e;simp[G4,h _ _ hy,LP h hq]
   ·cases e
  ·cases e
def CB(s:St)(r:AV):Option AV:=match r with
 |.box cs=>match G4 (BW s) cs with
  |some ds=>some (.box ds)
  |none=>none
 |.vec T es=>match G4 (G4 (BW s)) es with
  |some ds=>some (.vec T ds)
  |none=>none
 | .map es=>match G4 (fun e:V×V=>match BW s e.1,BW s e.2 with
   |some a,some b=>some (a,b)
   | _,_=>none) es with
  |some ds=>some (.map ds)
  |none=>none
 |r=>some r
def CH(s:St)(r:AV):AV:=match CB s r with
 |some r'=>r'
 |none=>r
theorem Z9{r r':AV}(h:CB s r=some r'):r'=r\/r'=HE s r:=by
 unfold CB at h;split at h
 ·split at h
  ·rename_i ds hd;cases h;exact .inr (by simp only[HE,LO (fun x y=>JK) hd])
  ·cases h
 ·split at h
  ·rename_i ds hd;cases h;exact .inr (by simp only[HE,LO (fun x y=>LO (fun x y=>JK)) hd])
  ·cases h
 ·split at h
  ·rename_i ds hd;cases h;refine .inr ?_;simp only[HE];rw[LO (g:=fun e=>(FD s e.1,FD s e.2)) (fun x y h=>?_) hd];split at h
   ·rename_i a b h1 h2;cases h;rw[JK h1,JK h2]
   ·cases h
  ·cases h
 ·cases h;exact .inl rfl
theorem K2{r r':AV}(h:CB s r=some r'):CB (s.emb σ pre) (r.ren σ pre.length)=some (r'.ren σ pre.length):=by
 cases r with
 |box cs=>
  simp only[CB]at h
  split at h
  ·rename_i ds hd;cases h;simp[CB,AV.ren,LP (fun x y=>KR (σ:=σ) (pre:=pre)) hd]
  ·cases h
 |vec T es=>
  simp only[CB]at h
  split at h
  ·rename_i ds hd;cases h;simp[CB,AV.ren,LP (fun x y=>LP (fun x y=>KR (σ:=σ) (pre:=pre))) hd]
  ·cases h
 |map es=>
  simp only[CB]at h
  split at h
  ·rename_i ds hd;cases h;have:=LP (f':=fun e:V×V=>match BW (s.emb σ pre) e.1,BW (s.emb σ pre) e.2 with
    |some a,some b=>some (a,b)
    | _,_=>none) (a:=fun p:V×V=>(p.1.ren σ pre.length,p.2.ren σ pre.length)) (b:=fun p:V×V=>(p.1.ren σ pre.length,p.2.ren σ pre.length)) (fun x y h=>by
     split at h
     ·rename_i a b h1 h2;cases h;simp[KR h1,KR h2]
     ·cases h) hd
   simp[CB,AV.ren,this]
  ·cases h
 |loop fr ps asg body N st=>simp only[CB,bb.injEq]at h;subst h;rfl
 |dead=>simp only[CB,bb.injEq]at h;subst h;rfl
theorem lW(r:AV):(CH s r).ren σ pre.length=r.ren σ pre.length\/(CH s r).ren σ pre.length=HE (s.emb σ pre) (r.ren σ pre.length):=by
 unfold CH;split
 ·rename_i r' h;rcases Z9 (K2 (σ:=σ) (pre:=pre) h)with h'|h'
  ·exact .inl h'
  ·exact .inr h'
 ·exact .inl rfl
def AH(s:St)(L:AA):AA:=L.map fun p=>(p.1,p.2.1,CH s p.2.2)
theorem MT(s:St):∀(L:AA) (k:Nat),(AH s L).get k=(L.get k).map fun p=>(p.1,CH s p.2)
 |[],k=>rfl
 |(j,x)::L,k=>by
  have:=MT s L k;simp only[AH,bm,AA.get]at this|-;split
  ·rfl
  ·exact this
theorem pS{rv:ResultVar}{v:V}(h:CP P fr s rv=some v):CP P (fr.ren σ pre.length) (s.emb σ pre) rv=some (v.ren σ pre.length):=by
 cases rv with
 |tmp t=>
  simp only[CP]at h|-
  split at h
  ·rename_i e;cases h;simp[Fr.get_ren,e]
  ·cases h
 |cell ad T=>
  simp only[CP]at h|-
  split at h
  ·rename_i p e;obtain⟨cs,h1,h2⟩:=bk.1 h;simp[Fr.get_ren,e,WM h1,dW h2]
  ·cases h
theorem OL{rs:List ResultVar}{v:V}(h:FM P rs fr s=some v):FM P rs (fr.ren σ pre.length) (s.emb σ pre)=some (v.ren σ pre.length):=by
 have key:∀{rs:List ResultVar} {vs:List V},rs.mapM (CP P fr s)=some vs->rs.mapM (CP P (fr.ren σ pre.length) (s.emb σ pre))=some (vs.map (V.ren σ pre.length)):=by
  intro rs;induction rs with
  |nil=>intro vs e;simp at e;subst e;rfl
  |cons x l ih=>
   intro vs e
   simp only[cj,bn,bk,cq,bb.injEq]at e
   obtain⟨y,h1,ys,h2,rfl⟩:=e
   simp[pS h1,ih h2]
 unfold FM at h|-;split at h
 ·rename_i x e;cases h;rw[key e];rfl
 ·rename_i vs hne e;cases h;rw[key e];cases vs with
  |nil=>simp
  |cons a r=>
   cases r with
   |nil=>exact absurd rfl (hne a)
   |cons b r=>simp
 ·cases h
theorem PE:∀(i:Nat) (vs:List V),AD i (vs.map (V.ren σ δ))=(AD i vs).ren σ δ
 |_,[]=>rfl
 |i,v::vs=>by simp[AD,Fr.ren,PE (i+1) vs]
end Go.Pg
