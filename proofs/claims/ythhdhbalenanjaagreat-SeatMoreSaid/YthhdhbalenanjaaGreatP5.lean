/- Names and levels turned into others: what the operations give turns with them. No program in sight. -/
import Derived.Test.YthhdhbalenanjaaGreatP4
noncomputable section
open Go renaming TypeId->cz,Operand->cd
open Option renaming map_eq_some_iff->bj,bind_eq_some_iff->bk,map_some->bq,some->bb,map_none->bh,bind_eq_bind->bn,pure_def->cq
open List renaming map_congr_left->bw,map_drop->bx,map_take->bz,getElem?_map->bc,length_map->bg,map_cons->bm,map_map->bp,mapM_cons->cj,sizeOf_lt_of_mem->ck,all_map->cw,map->cx
open Nat renaming add_assoc->bf
namespace Go.Pg
variable {P:Program}
variable {σ σ':Nat->Nat}{δ:Nat}
theorem QR:∀(l:List V),fW σ δ l=l.map (V.ren σ δ)
 |[]=>by simp[fW]
 |v::r=>by simp[fW,QR r]
theorem pS:∀(l:List (List V)),pG σ δ l=l.map (cx (V.ren σ δ))
 |[]=>by simp[pG]
 |v::r=>by simp[pG,QR,pS r]
@[simp] theorem EZ(k:IntKind)(n:Int):(V.int k n).ren σ δ=.int k n:=by simp[V.ren]
@[simp] theorem MX(b:Bool):(V.bool b).ren σ δ=.bool b:=by simp[V.ren]
@[simp] theorem BER(v:Value):(V.raw v).ren σ δ=.raw v:=by simp[V.ren]
@[simp] theorem H6(cs:List V):(V.agg cs).ren σ δ=.agg (cs.map (V.ren σ δ)):=by simp[V.ren,QR]
@[simp] theorem LQ(cs:List V):(V.tup cs).ren σ δ=.tup (cs.map (V.ren σ δ)):=by simp[V.ren,QR]
@[simp] theorem FE(f:Bool)(es:List (List V)):(V.list f es).ren σ δ=.list f (es.map (cx (V.ren σ δ))):=by simp[V.ren,pS]
@[simp] theorem NP(cs:List V):(V.ref cs).ren σ δ=.ref (cs.map (V.ren σ δ)):=by simp[V.ren,QR]
@[simp] theorem H7(l k g off:Nat):(V.ptr l k g off).ren σ δ=.ptr (l+δ) k (σ g) off:=by simp[V.ren]
@[simp] theorem PQ(l k g i off:Nat):(V.eptr l k g i off).ren σ δ=.eptr (l+δ) k (σ g) i off:=by simp[V.ren]
@[simp] theorem H8(l k g n:Nat):(V.vec l k g n).ren σ δ=.vec (l+δ) k (σ g) n:=by simp[V.ren]
@[simp] theorem SW(l k g:Nat):(V.mp l k g).ren σ δ=.mp (l+δ) k (σ g):=by simp[V.ren]
@[simp] theorem PR(f:FuncId)(xs ys:List V):(V.fn f xs ys).ren σ δ=.fn f (xs.map (V.ren σ δ)) (ys.map (V.ren σ δ)):=by simp[V.ren,QR]
@[simp] theorem lA(l k g:Nat):(V.yld l k g).ren σ δ=.yld (l+δ) k (σ g):=by simp[V.ren]
@[simp] theorem ANV:V.nil.ren σ δ=.nil:=by simp[V.ren]
@[simp] theorem BES:V.any.ren σ δ=.any:=by simp[V.ren]
@[simp] theorem ZL(l k g i n:Nat):(V.vtl l k g i n).ren σ δ=.vtl (l+δ) k (σ g) i n:=by simp[V.ren]
theorem NQ{σ':Nat->Nat}{δ':Nat}:∀(v:V),(v.ren σ δ).ren σ' δ'=v.ren (fun γ=>σ' (σ γ)) (δ+δ')
 |.agg cs=>by simp only[H6,bp];congr 1;exact bw fun v _=>NQ v
 |.tup cs=>by simp only[LQ,bp];congr 1;exact bw fun v _=>NQ v
 |.ref cs=>by simp only[NP,bp];congr 1;exact bw fun v _=>NQ v
 |.list b es=>by
  simp only[FE,bp];congr 1;refine bw fun e he=>?_;have hlt:=ck he;simp only[Function.comp,bp];exact bw fun v hv=>by have hlt2:=ck hv;exact NQ v
 |.fn f xs ys=>by
  simp only[PR,bp];congr 1
  ·exact bw fun v _=>NQ v
  ·exact bw fun v _=>NQ v
 |.int k n=>by simp
 |.bool b=>by simp
 |.raw v=>by simp
 |.ptr l k g off=>by simp[bf]
 |.eptr l k g i off=>by simp[bf]
 |.vec l k g n=>by simp[bf]
 |.mp l k g=>by simp[bf]
 |.yld l k g=>by simp[bf]
 |.nil=>by simp
 |.vtl l k g i n=>by simp[bf]
 |.any=>by simp
decreasing_by all_goals first|(simp_wf;omega)|decreasing_tactic
def AZ.ren(σ:Nat->Nat)(δ:Nat):AZ->AZ
 |.box cs=>.box (cs.map (V.ren σ δ))
 |.vec T es=>.vec T (es.map (cx (V.ren σ δ)))
 |.map es=>.map (es.map fun p=>(p.1.ren σ δ,p.2.ren σ δ))
 |.loop fr ps asg body N st=>.loop (fr.map fun p=>(p.1,p.2.1,p.2.2.ren σ δ)) ps asg body N st
 |.dead=>.dead
def AA.ren(σ:Nat->Nat)(δ:Nat)(L:AA):AA:=L.map fun p=>(p.1,σ p.2.1,p.2.2.ren σ δ)
def Fr.ren(σ:Nat->Nat)(δ:Nat)(fr:Fr):Fr:=fr.map fun p=>(p.1,p.2.1,p.2.2.ren σ δ)
def St.emb(σ:Nat->Nat)(pre:List AA)(s:St):St:=⟨pre++s.up.map (AA.ren σ pre.length),s.loc.ren σ pre.length⟩
theorem Fr.get_ren:∀(fr:Fr) (k:Nat),(fr.ren σ δ).get k=(fr.get k).map fun p=>(p.1,p.2.ren σ δ)
 |[],k=>rfl
 |(j,x)::fr,k=>by
  have:=Fr.get_ren fr k;simp only[Fr.ren,bm,Fr.get]at this|-;split
  ·rfl
  ·exact this
theorem AA.get_ren:∀(L:AA) (k:Nat),(L.ren σ δ).get k=(L.get k).map fun p=>(σ p.1,p.2.ren σ δ)
 |[],k=>rfl
 |(j,x)::L,k=>by
  have:=AA.get_ren L k;simp only[AA.ren,bm,AA.get]at this|-;split
  ·rfl
  ·exact this
variable {pre:List AA}{s:St}
theorem DM:(s.emb σ pre).up.length=s.up.length+pre.length:=by simp[St.emb,Nat.add_comm]
theorem CG(l k:Nat):(s.emb σ pre).get (l+pre.length) k=(s.get l k).map fun p=>(σ p.1,p.2.ren σ pre.length):=by
 unfold St.get;rw[DM];by_cases h:l=s.up.length
 ·rw[if_pos h,if_pos (by rw[h])];exact AA.get_ren _ _
 ·rw[if_neg h,if_neg (by omega)];simp only[St.emb];rw[List.getElem?_append_right (by omega),Nat.add_sub_cancel,bc];cases s.up[l]? with
  |none=>rfl
  |some L=>simp[AA.get_ren]
theorem cZ{α:Type}(f:α->α)(M:List α)(l:Nat):∀(pre:List α),(pre++M).modify (l+pre.length) f=pre++M.modify l f
 |[]=>rfl
 |p::pre=>by have:=cZ f M l pre;simp only[List.cons_append,List.length_cons,<-bf,List.modify_succ_cons,this]
theorem CX{l k g:Nat}{r:AZ}:(s.put l k g r).emb σ pre=(s.emb σ pre).put (l+pre.length) k (σ g) (r.ren σ pre.length):=by
 unfold St.put;rw[DM];by_cases h:l=s.up.length
 ·rw[if_pos h,if_pos (by rw[h])];simp[St.emb,AA.ren,AA.put]
 ·rw[if_neg h,if_neg (by omega)];simp only[St.emb,St.mk.injEq,and_true];rw[cZ];congr 1;refine List.ext_getElem? fun i=>?_;simp only[bc,List.getElem?_modify];by_cases hi:l=i
  ·subst hi;cases s.up[l]? with
   |none=>rfl
   |some L=>simp[AA.ren,AA.put]
  ·simp[hi]
theorem SY{u:Value}{v:V}(h:CT u=some v):v.ren σ δ=v:=by
 cases u with
 |int k n=>simp only[CT,bb.injEq]at h;subst h;simp
 |bool b=>simp only[CT,bb.injEq]at h;subst h;simp
 |agg cs=>simp[CT]at h
 |tuple cs=>simp[CT]at h
 |slice a n c=>
  unfold CT at h
  split at h<;>simp_all<;>subst h<;>simp
 |_=>simp only[CT,bb.injEq]at h;subst h;simp
theorem SZ:∀{l:List Value} {cs:List V},HH l=some cs->cs.map (V.ren σ δ)=cs
 |[],cs,h=>by simp[HH]at h;subst h;rfl
 |v::r,cs,h=>by
  unfold HH at h;split at h
  ·rename_i x l h1 h2;cases h;simp[SY h1,SZ h2]
  ·cases h
end Go.Pg
namespace Go.Pg
variable {P:Program}{σ:Nat->Nat}{δ:Nat}{pre:List AA}{s:St}{fr:Fr}{g:Bool}
theorem AHZ(x:cd):rd (fr.ren σ δ) x=(rd fr x).map fun p=>(p.1,p.2.ren σ δ):=by
 cases x with
 |tmp t=>exact Fr.get_ren fr t
 |const u=>
  simp only[rd]
  cases h:CT u with
  |none=>rfl
  |some v=>simp[SY h]
 |func f=>simp[rd]
 |global g=>rfl
theorem DW(x:cd):D9 g (fr.ren σ δ) x=(D9 g fr x).map (V.ren σ δ):=by
 unfold D9;rw[AHZ];cases rd fr x with
 |none=>rfl
 |some p=>
  obtain⟨c,v⟩:=p
  simp only[bq]
  split<;>rfl
theorem I7(v:V):BE (v.ren σ δ)=BE v:=by cases v<;>simp[BE]
theorem E5(v:V):BA (v.ren σ δ)=(BA v).map (V.ren σ δ):=by cases v<;>simp[BA]
theorem ACN(v:V):weakC (v.ren σ δ)=(weakC v).ren σ δ:=by cases v<;>simp[weakC]
theorem W2(v:V):weakV (v.ren σ δ)=(weakV v).ren σ δ:=by cases v<;>simp[weakV,ACN]
theorem YN{p:V}{cs:List V}(h:BD s p=some cs):BD (s.emb σ pre) (p.ren σ pre.length)=some (cs.map (V.ren σ pre.length)):=by
 cases p with
 |ref ds=>simp only[BD,bb.injEq]at h;subst h;simp[BD]
 |ptr l k γ off=>
  simp only[BD]at h
  split at h
  ·rename_i γ' ds e;split at h
   ·rename_i eg;cases h;simp[BD,CG,e,AZ.ren,eg,bx]
   ·cases h
  ·cases h
 |eptr l k γ i off=>
  simp only[BD]at h
  split at h
  ·rename_i γ' T es e;split at h
   ·rename_i eg;obtain⟨x,hx,rfl⟩:=bj.1 h;simp[BD,CG,e,AZ.ren,eg,hx,bx]
   ·cases h
  ·cases h
 |_=>cases h
theorem iO{T:cz}{cs:List V}{v:V}(h:BN P T cs=some v):BN P T (cs.map (V.ren σ δ))=some (v.ren σ δ):=by
 unfold BN at h|-;split at h
 ·split at h
  ·rename_i hc;cases h;simp[hc,bz]
  ·cases h
 ·split at h
  ·rename_i hc;cases h;simp[hc,bz]
  ·cases h
 ·simp only[bc,h,bq]
 ·cases h
theorem iP{U:cz}{cs:List V}{off:Nat}{v:V}(h:MT P U cs off=some v):MT P U (cs.map (V.ren σ δ)) off=some (v.ren σ δ):=by
 unfold MT at h|-;split at h
 ·split at h
  ·rename_i hc;cases h;simp[hc,bz,bx]
  ·cases h
 ·split at h
  ·rename_i hc;cases h;simp[hc,bz,bx]
  ·cases h
 ·simp only[bc,h,bq]
 ·cases h
theorem pT{T:cz}{x v:V}{f:Nat}(h:JE P T x f=some v):JE P T (x.ren σ δ) f=some (v.ren σ δ):=by
 unfold JE at h;split at h
 ·rename_i cs U off e;simp[JE,e,iP h]
 ·cases h
theorem Y6{T:cz}{x v:V}{f:Nat}(h:DG P T x f=some v):DG P T (x.ren σ δ) f=some (v.ren σ δ):=by
 unfold DG at h;split at h
 ·rename_i U off e;split at h
  ·cases h
  ·rename_i hz;split at h<;>first
    |(cases h;done)
    |(cases h;simp[DG,e,hz,bx])
 ·cases h
theorem FO(es:List (List V))(j:Nat):(es.map (cx (V.ren σ δ))).getD j []=(es.getD j []).map (V.ren σ δ):=by simp only[List.getD_eq_getElem?_getD,bc];cases es[j]?<;>rfl
theorem Y7{T:cz}{x i v:V}(h:BW P s T x i=some v):BW P (s.emb σ pre) T (x.ren σ pre.length) (i.ren σ pre.length)=some (v.ren σ pre.length):=by
 unfold BW at h;split at h
 ·rename_i e f es k j e1;split at h
  ·rename_i hc;cases h;obtain⟨c1,c2,c3,c4⟩:=hc;simp only[FE,EZ,BW,e1,bg,FO,NP];rw[if_pos ⟨c1,c2,c3,c4⟩]
  ·cases h
 ·rename_i e l k γ n k' j e1;split at h
  ·rename_i γ' U es e2;split at h
   ·rename_i hc;cases h;obtain⟨c1,c2,c3,c4,c5,c6⟩:=hc;subst c1;simp only[H8,EZ,BW,e1,CG,e2,bq,AZ.ren,bg,FO,PQ];rw[if_pos ⟨trivial,c2,c3,c4,c5,c6⟩]
   ·cases h
  ·cases h
 ·rename_i n e cs k j e1;split at h
  ·rename_i hc;cases h;simp only[NP,EZ,BW,e1,if_pos hc,bx]
  ·cases h
 ·rename_i n e l k γ o k' j e1;split at h
  ·rename_i hc;cases h;simp only[H7,EZ,BW,e1,if_pos hc]
  ·cases h
 ·rename_i n e l k γ i' o k' j e1;split at h
  ·rename_i hc;cases h;simp only[PQ,EZ,BW,e1,if_pos hc]
  ·cases h
 ·cases h
theorem pU{T:cz}{x i v:V}(h:J6 P T x i=some v):J6 P T (x.ren σ δ) (i.ren σ δ)=some (v.ren σ δ):=by
 unfold J6 at h;split at h
 ·rename_i n e cs k j e1;split at h
  ·rename_i hc;simp only[H6,EZ,J6,e1,if_pos hc,iP h]
  ·cases h
 ·cases h
theorem uO{S D:cz}{x v:V}(h:L9 P S D x=some v):L9 P S D (x.ren σ δ)=some (v.ren σ δ):=by
 unfold L9 at h;split at h
 ·rename_i e1 e2;cases h;simp[L9,e1,e2]
 ·cases h
theorem AH0{op:UnOp}{x v:V}(h:fQ op x=some v):fQ op (x.ren σ δ)=some (v.ren σ δ):=by unfold fQ at h;split at h<;>first|(cases h;done)|(cases h;simp[fQ])
theorem ACO{x v:V}(h:OB x=some v):OB (x.ren σ δ)=some (v.ren σ δ):=by cases x<;>simp[OB]at h<;>subst h<;>simp[OB]
theorem fY{x v:V}{i:Nat}(h:GK x i=some v):GK (x.ren σ δ) i=some (v.ren σ δ):=by cases x<;>simp[GK]at h;simp[GK,h]
theorem ACP{T:cz}{x v:V}(h:IQ P T x=some v):IQ P T (x.ren σ δ)=some (v.ren σ δ):=by
 unfold IQ at h;split at h
 ·rename_i e f es hu;cases h;simp[IQ,hu]
 ·rename_i e l k g n hu;cases h;simp[IQ,hu]
 ·rename_i e hu;cases h;simp[IQ,hu]
 ·rename_i n e hu;cases h;unfold IQ;rw[hu];simp
 ·cases h
theorem ANW{n m:Nat}{h:Option V}(e:hiN n h=some m):hiN n (h.map (V.ren σ δ))=some m:=by
 cases h with
 |none=>exact e
 |some a=>cases a<;>first|(simp only[bq,EZ];exact e)|(simp[hiN]at e)
theorem pV{T:cz}{x v:V}{lo hi mx:Option V}(h:CD P s T x lo hi mx=some v):CD P (s.emb σ pre) T (x.ren σ pre.length) (lo.map (V.ren σ pre.length)) (hi.map (V.ren σ pre.length)) (mx.map (V.ren σ pre.length))=some (v.ren σ pre.length):=by
 unfold CD at h;split at h
 ·rename_i e f es k h' e1;split at h
  ·rename_i hc;cases h;simp only[FE,bq,EZ,bh,CD,e1,bg,if_pos hc,bz]
  ·cases h
 ·rename_i e f es k l e1;split at h
  ·rename_i hc;cases h;have:(es.map (cx (V.ren σ pre.length))).all (fun x=>x.length==P.cellsOf e)=true:=by rw[cw];exact hc.2.2.2▸(by congr 1;funext x;simp)
   simp only[FE,bq,EZ,bh,CD,e1,bg,if_pos (⟨hc.1,hc.2.1,hc.2.2.1,this⟩:_/\_/\_/\_),bx]
  ·cases h
 ·rename_i e f es k l k' h' e1;split at h
  ·rename_i hc;cases h;have:(es.map (cx (V.ren σ pre.length))).all (fun x=>x.length==P.cellsOf e)=true:=by rw[cw];exact hc.2.2.2.2▸(by congr 1;funext x;simp)
   simp only[FE,bq,EZ,bh,CD,e1,bg,if_pos (⟨hc.1,hc.2.1,hc.2.2.1,hc.2.2.2.1,this⟩:_/\_/\_/\_/\_),bx,bz]
  ·cases h
 ·rename_i e f es k h' k' m e1;split at h
  ·rename_i hc;cases h;simp only[FE,bq,EZ,bh,CD,e1,if_pos hc,List.map_nil]
  ·cases h
 ·rename_i e l k g n k' h' e1;split at h
  ·rename_i hc;cases h;simp only[H8,bq,EZ,bh,CD,e1,if_pos hc]
  ·cases h
 ·rename_i e l k g n k' i e1;split at h
  ·rename_i g' T' es hget;split at h
   ·rename_i hc;obtain⟨rfl,h1,h2,h3,h4,h5⟩:=hc;cases h;have:(es.map (cx (V.ren σ pre.length))).all (fun x=>x.length==P.cellsOf e)=true:=by rw[cw];exact h1▸(by congr 1;funext x;simp)
    simp only[H8,ZL,bq,EZ,bh,CD,e1,CG,hget,AZ.ren];rw[if_pos ⟨trivial,this,by simpa using h2,h3,h4,h5⟩]
   ·cases h
  ·cases h
 ·rename_i n e l k g o e1;split at h
  ·rename_i g' cs m hget hm;split at h
   ·rename_i hc;obtain⟨rfl,h1,h2⟩:=hc;cases h;simp only[H7,ZL,bh,CD,e1,CG,hget,AZ.ren,bq,ANW hm];rw[if_pos ⟨trivial,h1,by simpa using h2⟩]
   ·cases h
  ·cases h
 ·cases h
theorem ACQ{x y v:V}(h:U6 x y=some v):U6 (x.ren σ δ) (y.ren σ δ)=some (v.ren σ δ):=by
 unfold U6 at h;split at h
 ·split at h
  ·rename_i hk;cases h;simp[U6,hk]
  ·cases h
 ·cases h
theorem ACR{x y v:V}(h:U7 x y=some v):U7 (x.ren σ δ) (y.ren σ δ)=some (v.ren σ δ):=by
 unfold U7 at h;split at h
 ·split at h
  ·rename_i hk;cases h;simp[U7,hk]
  ·cases h
 ·cases h
theorem ACS{op:BinOp}{k:IntKind}{a b:Int}{v:V}(h:FB op k a b=some v):v.ren σ δ=v:=by
 unfold FB at h;split at h<;>first
  |(cases h;simp;done)
  |(split at h<;>first|(cases h;done)|(cases h;simp;done))
  |(obtain⟨r,_,rfl⟩:=bj.1 h;simp)
theorem NR:∀(cs:List V),EE (cs.map (V.ren σ δ))=EE cs
 |[]=>rfl
 |c::cs=>by have ih:=NR cs;cases c<;>simp[EE,ih]
theorem AH1{op:BinOp}{k:IntKind}{a b:Int}{v:V}(h:bL op k a b=some v):v.ren σ δ=v:=by
 cases op<;>simp only[bL]at h;case shl=>split at h<;>cases h;simp
 case shr=>split at h<;>cases h;simp
 all_goals cases h
theorem ACT{op:BinOp}{T:cz}{x y v:V}(h:GZ P op T x y=some v):GZ P op T (x.ren σ δ) (y.ren σ δ)=some (v.ren σ δ):=by
 unfold GZ at h;split at h
 ·split at h
  ·rename_i hk;simp only[EZ,GZ,if_pos hk,h,ACS h]
  ·rename_i hk;simp only[EZ,GZ,if_neg hk,h,AH1 h]
 ·split at h
  ·rename_i hk;have hv:v.ren σ δ=v:=by split at h<;>first|(cases h;done)|(cases h;simp)
   rw[hv];simp only[MX,GZ,if_pos hk];exact h
  ·cases h
 ·rename_i cs ds;have he:SM P T (cs.map (V.ren σ δ)) (ds.map (V.ren σ δ))=SM P T cs ds:=by unfold SM;rw[NR,NR]
  have hv:v.ren σ δ=v:=by
   split at h
   ·obtain⟨r,_,rfl⟩:=bj.1 h;simp
   ·obtain⟨r,_,rfl⟩:=bj.1 h;simp
   ·cases h
  rw[hv];simp only[H6,GZ,he];exact h
 ·rename_i x' _;have hi:I4 (x.ren σ δ)=I4 x:=by
   cases x with
   |list f es=>cases es<;>simp[I4]
   |vec l k g n=>cases n<;>simp[I4]
   |vtl l k g i n=>cases n<;>simp[I4]
   |_=>simp[I4]
  have hb:∀y:V,GZ P op T y .nil=if DX P T then(match op with
   |.eql=>(I4 y).map V.bool
   |.neq=>(I4 y).map fun b=>V.bool !b
   | _=>none) else none:=fun y=>by cases y <;> rfl
  have hv:v.ren σ δ=v:=by
   split at h
   ·split at h
    ·obtain⟨r,_,rfl⟩:=bj.1 h;simp
    ·obtain⟨r,_,rfl⟩:=bj.1 h;simp
    ·cases h
   ·cases h
  rw[hv,ANV,hb,hi];exact h
 ·cases h
theorem W3:∀{cs:List V} {l:List Value},EE cs=some l->cs.map (V.ren σ δ)=cs
 |[],_,_=>rfl
 |c::cs,l,h=>by
  cases c with
  |int k n=>
   simp only[EE]at h
   split at h
   ·rename_i r hr;simp[W3 hr]
   ·cases h
  |bool b=>
   simp only[EE]at h
   split at h
   ·rename_i r hr;simp[W3 hr]
   ·cases h
  |_=>simp[EE]at h
theorem dA{K:cz}(v:V):Y0 P K (v.ren σ δ)=Y0 P K v:=by
 cases v with
 |agg cs=>
  simp only[H6,Y0,NR]
  split
  ·rename_i l hl;rw[W3 hl]
  ·rfl
 |_=>simp[Y0]
theorem W4{K:cz}{ks:List V}:∀(es:List (V×V)) (i:Nat),OC P K ks (es.map fun p=>(p.1.ren σ δ,p.2.ren σ δ)) i=OC P K ks es i
 |[],_=>rfl
 |(k,v)::es,i=>by simp only[bm,OC,dA,W4 es]
theorem uP{T:cz}{z:V}(h:WR P T=some z):z.ren σ δ=z:=by
 unfold WR at h;split at h
 ·split at h
  ·rename_i cs hz;cases h;simp[SZ hz]
  ·cases h
 ·exact SY h
 ·cases h
theorem lC{T:cz}{x k v:V}{ok:Bool}(h:DY P s T x k ok=some v):DY P (s.emb σ pre) T (x.ren σ pre.length) (k.ren σ pre.length) ok=some (v.ren σ pre.length):=by
 unfold DY at h;split at h
 ·rename_i K E l q g hm;split at h
  ·rename_i g' es hget;split at h
   ·rename_i hc;obtain⟨rfl,hT⟩:=hc;split at h
    ·rename_i ks hks;simp only[SW,DY,hm,CG,hget,bq,AZ.ren,dA,hks,W4,if_pos (⟨trivial,hT⟩:True/\_)];split at h
     ·rename_i hf;obtain⟨z,hz,rfl⟩:=bj.1 h;simp only[hz,bq];cases ok<;>simp[uP hz]
     ·rename_i i hf;obtain⟨e,he,rfl⟩:=bj.1 h;simp only[bc,he,bq];cases ok<;>simp
     ·cases h
    ·cases h
   ·cases h
  ·cases h
 ·cases h
theorem W5{T:cz}{x k v:V}{l q γ:Nat}{es:List (V×V)}(h:MU P s T x k v=some (l,q,γ,es)):MU P (s.emb σ pre) T (x.ren σ pre.length) (k.ren σ pre.length) (v.ren σ pre.length)=some (l+pre.length,q,σ γ,es.map fun p=>(p.1.ren σ pre.length,p.2.ren σ pre.length)):=by
 unfold MU at h;split at h
 ·rename_i K E l q g hm;split at h
  ·rename_i g' es hget;split at h
   ·rename_i hc;obtain⟨rfl,hT⟩:=hc;split at h
    ·rename_i ks hks;simp only[SW,MU,hm,CG,hget,bq,AZ.ren,dA,hks,W4,if_pos (⟨trivial,hT⟩:True/\_)];split at h
     ·rename_i hf;cases h;simp
     ·rename_i i hf;cases h;simp[List.map_set]
     ·cases h
    ·cases h
   ·cases h
  ·cases h
 ·cases h
theorem JQ{r:cd->Option V}:∀{l:List cd} {vs:List V},l.mapM r=some vs->l.mapM (fun x=>(r x).map (V.ren σ δ))=some (vs.map (V.ren σ δ))
 |[],vs,h=>by simp at h;subst h;rfl
 |x::l,vs,h=>by simp only[cj,bn,bk,cq,bb.injEq]at h;obtain⟨v,h1,us,h2,rfl⟩:=h;simp[h1,JQ h2]
theorem ANX{o:Oper}{r:cd->Option V}{v:V}(h:JX P o s r=some v):JX P o (s.emb σ pre) (fun x=>(r x).map (V.ren σ pre.length))=some (v.ren σ pre.length):=by
 unfold JX at h|-;split at h<;>(try simp only[bk]at h);case h_1=>simp[h]
 case h_2=>simp[h]
 case h_3=>obtain⟨a,h1,h2⟩:=h;simp[h1,ACO h2]
 case h_4=>obtain⟨a,h1,b,h2,h3⟩:=h;simp[h1,YN h2,iO h3]
 case h_5=>obtain⟨a,h1,b,h2,h3⟩:=h;simp[h1,h2,ACT h3]
 case h_6=>obtain⟨a,h1,h2⟩:=h;simp[h1,AH0 h2]
 case h_7=>obtain⟨a,h1,h2⟩:=h;simp[h1,uO h2]
 case h_8=>obtain⟨a,h1,h2⟩:=h;simp[h1,Y6 h2]
 case h_9=>obtain⟨a,h1,h2⟩:=h;simp[h1,pT h2]
 case h_10=>obtain⟨a,h1,b,h2,h3⟩:=h;simp[h1,h2,Y7 h3]
 case h_11=>obtain⟨a,h1,b,h2,h3⟩:=h;simp[h1,h2,pU h3]
 case h_12=>obtain⟨a,h1,h2⟩:=h;simp[h1,fY h2]
 case h_13=>
  split at h
  ·rename_i e1 e2;simp only[bk]at h;obtain⟨a,h1,h2⟩:=h;simp[h1,ACP h2]
  ·cases h
 case h_14=>
  split at h
  ·simp only[bk]at h;obtain⟨a,h1,b,h2,h3⟩:=h;simp[h1,h2,ACQ h3]
  ·cases h
 case h_15=>
  split at h
  ·simp only[bk]at h;obtain⟨a,h1,b,h2,h3⟩:=h;simp[h1,h2,ACR h3]
  ·cases h
 case h_16 T x lo hi mx ho=>
  obtain⟨a,h1,l,h2,u,h3,m,h4,h5⟩:=h
  have key:∀(z:Option cd) (q:Option V),(match z with|none=>some none|some y=>(r y).map some)=some q->(z=none/\q=none)\/∃y b,z=some y/\r y=some b/\q=some b:=by
   intro z q hz;cases z with
   |none=>cases hz;exact .inl ⟨rfl,rfl⟩
   |some y=>
    obtain⟨b,hb,rfl⟩:=bj.1 hz
    exact .inr ⟨y,b,rfl,hb,rfl⟩
  have h6:=pV (σ:=σ) (pre:=pre) h5
  rcases key lo l h2 with⟨rfl,rfl⟩|⟨y1,b1,rfl,q1,rfl⟩<;>rcases key hi u h3 with⟨rfl,rfl⟩|⟨y2,b2,rfl,q2,rfl⟩<;>rcases key mx m h4 with⟨rfl,rfl⟩|⟨y3,b3,rfl,q3,rfl⟩<;>simp_all
 case h_17=>obtain⟨a,h1,b,h2,h3⟩:=h;simp[h1,h2,lC h3]
 case h_18 f first captured ho=>
  obtain⟨a,h1,b,h2,h3⟩:=h
  cases h3
  simp[JQ h1,JQ h2]
 case h_19=>cases h
end Go.Pg
namespace Go.Pg
variable {P:Program}{σ:Nat->Nat}{δ:Nat}{pre:List AA}{s:St}{fr:Fr}{g:Bool}
theorem HN{T:cz}{z:List V}(h:CC P T=some z):z.map (V.ren σ δ)=z:=by
 unfold CC at h;split at h
 ·exact SZ h
 ·cases h
theorem DH{α β:Type}(f:α->β)(cs ds:List α)(off:Nat):A5 (cs.map f) off (ds.map f)=(A5 cs off ds).map f:=by simp[A5,bz,bx]
theorem QS{place:Nat->Option (Nat×Nat)}:∀{ps:List (Nat×V)} {cs ds:List V},DA place cs ps=some ds->DA place (cs.map (V.ren σ δ)) (ps.map fun p=>(p.1,p.2.ren σ δ))=some (ds.map (V.ren σ δ))
 |[],cs,ds,h=>by simp[DA]at h;subst h;rfl
 |(i,v)::r,cs,ds,h=>by
  simp only[DA]at h;split at h
  ·cases h
  ·rename_i off size e;split at h
   ·rename_i hc;have:=QS h;simp only[bm,DA,e,E5,bg];rw[if_pos hc,DH];exact this
   ·cases h
theorem NS(ps:List (Nat×V)):((ps.map fun p=>(p.1,p.2.ren σ δ)).all fun p=>BE p.2)=ps.all fun p=>BE p.2:=by rw[cw];congr 1;funext p;exact I7 p.2
theorem pW{T:cz}{ps:List (Nat×V)}{v:V}(h:CU P T ps=some v):CU P T (ps.map fun p=>(p.1,p.2.ren σ δ))=some (v.ren σ δ):=by
 unfold CU at h|-;split at h
 ·rename_i z fs e1 e2;simp only[NS];split at h
  ·rename_i hc;obtain⟨cs,h1,rfl⟩:=bj.1 h;have:=QS (σ:=σ) (δ:=δ) h1;rw[HN e1]at this;rw[if_pos hc,this];simp
  ·cases h
 ·rename_i z n e e1 e2;simp only[NS];split at h
  ·rename_i hc;obtain⟨cs,h1,rfl⟩:=bj.1 h;have:=QS (σ:=σ) (δ:=δ) h1;rw[HN e1]at this;rw[if_pos hc,this];simp
  ·cases h
 ·cases h
theorem dB{β:Type}(f:V->V)(size:Nat):∀(n:Nat) (cs:List V),CV size (cs.map f) n=(CV size cs n).map (cx f)
 |0,_=>rfl
 |n+1,cs=>by simp only[CV,bm,bz];rw[<-bx,dB (β:=β) f size n]
theorem W6{T:cz}{len:Nat}{ps:List (Nat×V)}{v:V}(h:CJ P T len ps=some v):CJ P T len (ps.map fun p=>(p.1,p.2.ren σ δ))=some (v.ren σ δ):=by
 unfold CJ at h|-;split at h
 ·rename_i e e1;split at h
  ·rename_i z e2;split at h
   ·rename_i hc;obtain⟨cs,h1,rfl⟩:=bj.1 h;have:=QS (σ:=σ) (δ:=δ) h1;have hz:(List.replicate len z).flatten.map (V.ren σ δ)=(List.replicate len z).flatten:=by rw[List.map_flatten,List.map_replicate,HN e2]
    rw[hz]at this;simp only[NS];rw[if_pos hc,this];simp[dB (β:=Nat)]
   ·cases h
  ·cases h
 ·cases h
theorem S0{r:cd->Option V}:∀{l:List (Nat×cd)} {ps:List (Nat×V)},DI r l=some ps->DI (fun x=>(r x).map (V.ren σ δ)) l=some (ps.map fun p=>(p.1,p.2.ren σ δ))
 |[],ps,h=>by simp[DI]at h;subst h;rfl
 |(i,x)::l,ps,h=>by
  simp only[DI]at h;split at h
  ·rename_i v us h1 h2;cases h;simp[DI,h1,S0 h2]
  ·cases h
theorem HO{v:V}{es:List (List V)}(h:elemsOf s v=some es):elemsOf (s.emb σ pre) (v.ren σ pre.length)=some (es.map (cx (V.ren σ pre.length))):=by
 cases v with
 |list f ds=>simp only[elemsOf,bb.injEq]at h;subst h;simp[elemsOf]
 |vec l k γ n=>
  simp only[elemsOf]at h
  split at h
  ·rename_i γ' T ds e;split at h
   ·rename_i hc;cases h;simp[elemsOf,CG,e,AZ.ren,hc.1,hc.2,bz]
   ·cases h
  ·cases h
 |vtl l k γ i n=>
  simp only[elemsOf]at h
  split at h
  ·rename_i γ' cs e;split at h
   ·rename_i hc;cases h;simp[elemsOf,CG,e,AZ.ren,hc.1,hc.2,bz,bx,Function.comp_def]
   ·cases h
  ·cases h
 |nil=>simp only[elemsOf,bb.injEq]at h;subst h;simp[elemsOf]
 |_=>cases h
theorem J8:D9 g (fr.ren σ δ)=fun x=>(D9 g fr x).map (V.ren σ δ):=by funext x;exact DW x
theorem JR{o:Oper}{v:V}(h:F9 P g o fr s=some v):F9 P g o (fr.ren σ pre.length) (s.emb σ pre)=some (v.ren σ pre.length):=by
 unfold F9 at h|-;split at h
 ·rename_i c x y ho;split at h
  ·rename_i c' ca va cb vb e1 e2 e3;split at h
   ·rename_i hc;cases h;simp only[DW,AHZ,e1,e2,e3,bq,MX];rw[if_pos hc]
   ·cases h
  ·cases h
 ·rename_i T parts ho;obtain⟨ps,h1,h2⟩:=bk.1 h;rw[J8,S0 h1];exact pW h2
 ·rename_i T len parts ho;obtain⟨ps,h1,h2⟩:=bk.1 h;rw[J8,S0 h1];exact W6 h2
 ·rw[J8];exact ANX h
def A4(s:St):Nat->V->Option V
 |0,_=>none
 |f+1,v=>match v with
  |.list _ es=>some (.list false es)
  | .vec l k g m=>if l=s.up.length then(match s.loc.get k with
    |some (g',.vec _ es)=>if g'=g/\m<=es.length then some (.list false (es.take m)) else none
    | _=>none) else some v
  | .ptr l k g off=>if l=s.up.length then(match s.loc.get k with
    |some (g',.box cs)=>if g'=g then(cs.mapM (A4 s f)).map fun ds=>.ref (ds.drop off) else none
    | _=>none) else some v
  |.agg cs=>(cs.mapM (A4 s f)).map .agg
  |.tup cs=>(cs.mapM (A4 s f)).map .tup
  |.fn g xs ys=>match xs.mapM (A4 s f),ys.mapM (A4 s f)with
   |some a,some b=>some (.fn g a b)
   |_,_=>none
  |v=>some v
theorem HP{α β:Type}{f:α->Option β}{g:α->β}(h:∀x y,f x=some y->g x=y):∀{l:List α} {r:List β},l.mapM f=some r->l.map g=r
 |[],r,e=>by simp at e;subst e;rfl
 |x::l,r,e=>by simp only[cj,bn,bk,cq,bb.injEq]at e;obtain⟨y,h1,ys,h2,rfl⟩:=e;simp[h x y h1,HP h h2]
theorem PS:∀(f:Nat) {v r:V},A4 s f v=some r->DR s f v=r
 |0,v,r,h=>by cases h
 |f+1,v,r,h=>by
  have ih:=fun v r=>PS f (v:=v) (r:=r);cases v with
  |list b es=>simpa [A4,DR]using h
  |vec l k g m=>
   simp only[A4]at h
   simp only[DR]
   split at h
   ·rename_i hl;rw[if_pos hl];split at h
    ·rename_i g' T es e;split at h
     ·rename_i hc;rw[e];simp only[if_pos hc];exact bb.inj h
     ·cases h
    ·cases h
   ·rename_i hl;rw[if_neg hl];exact bb.inj h
  |ptr l k g off=>
   simp only[A4]at h
   simp only[DR]
   split at h
   ·rename_i hl;rw[if_pos hl];split at h
    ·rename_i g' cs e;split at h
     ·rename_i hc;obtain⟨ds,h1,rfl⟩:=bj.1 h;rw[e];simp only[if_pos hc,HP ih h1]
     ·cases h
    ·cases h
   ·rename_i hl;rw[if_neg hl];exact bb.inj h
  |agg cs=>
   obtain⟨ds,h1,rfl⟩:=bj.1 h
   simp only[DR,HP ih h1]
  |tup cs=>
   obtain⟨ds,h1,rfl⟩:=bj.1 h
   simp only[DR,HP ih h1]
  |fn g xs ys=>
   simp only[A4]at h
   split at h
   ·rename_i a b h1 h2;cases h;simp only[DR,HP ih h1,HP ih h2]
   ·cases h
  |_=>simpa [A4,DR]using h
theorem GN{f f':V->Option V}(h:∀v r,f v=some r->f' (v.ren σ δ)=some (r.ren σ δ)):∀{l r:List V},l.mapM f=some r->(l.map (V.ren σ δ)).mapM f'=some (r.map (V.ren σ δ))
 |[],r,e=>by simp at e;subst e;rfl
 |x::l,r,e=>by simp only[cj,bn,bk,cq,bb.injEq]at e;obtain⟨y,h1,ys,h2,rfl⟩:=e;simp[h x y h1,GN h h2]
theorem LR(k:Nat):(s.emb σ pre).loc.get k=(s.loc.get k).map fun p=>(σ p.1,p.2.ren σ pre.length):=AA.get_ren _ _
theorem KV:∀(f:Nat) {v r:V},A4 s f v=some r->A4 (s.emb σ pre) f (v.ren σ pre.length)=some (r.ren σ pre.length)
 |0,v,r,h=>by cases h
 |f+1,v,r,h=>by
  have ih:=fun v r=>KV f (v:=v) (r:=r);cases v with
  |list b es=>simp only[A4,bb.injEq]at h;subst h;simp[A4]
  |vec l k g m=>
   simp only[A4]at h
   split at h
   ·rename_i hl;split at h
    ·rename_i g' T es e;split at h
     ·rename_i hc;cases h;simp[A4,DM,LR,hl,e,AZ.ren,hc.1,hc.2,bz]
     ·cases h
    ·cases h
   ·rename_i hl;cases h;have:¬l+pre.length=s.up.length+pre.length:=by omega
    simp[A4,DM,hl]
  |ptr l k g off=>
   simp only[A4]at h
   split at h
   ·rename_i hl;split at h
    ·rename_i g' cs e;split at h
     ·rename_i hc;obtain⟨ds,h1,rfl⟩:=bj.1 h;have:=GN ih h1;simp[A4,DM,LR,hl,e,AZ.ren,hc,this,bx]
     ·cases h
    ·cases h
   ·rename_i hl;cases h;simp[A4,DM,hl]
  |agg cs=>
   obtain⟨ds,h1,rfl⟩:=bj.1 h
   simp[A4,GN ih h1]
  |tup cs=>
   obtain⟨ds,h1,rfl⟩:=bj.1 h
   simp[A4,GN ih h1]
  |fn g xs ys=>
   simp only[A4]at h
   split at h
   ·rename_i a b h1 h2;cases h;simp[A4,GN ih h1,GN ih h2]
   ·cases h
  |_=>simp only[A4,bb.injEq]at h;subst h;simp[A4]
def CB(s:St)(v:V):Option V:=match v with
 |.list f es=>some (.list f es)
 |.int k n=>some (.int k n)
 |.bool b=>some (.bool b)
 |v=>A4 s 4 v
theorem J9{v r:V}(h:CB s v=some r):F7 s v=r:=by
 unfold CB at h;unfold F7;split at h
 ·simpa using h
 ·simpa [DR]using h
 ·simpa [DR]using h
 ·rename_i h1 h2 h3;split
  ·rename_i f es;exact absurd rfl (h1 f es)
  ·exact PS 4 h
theorem YO{v:V}(h1:∀f es,v≠.list f es)(h2:∀k n,v≠.int k n)(h3:∀b,v≠.bool b):CB s v=A4 s 4 v:=by
 unfold CB;split
 ·rename_i f es;exact absurd rfl (h1 f es)
 ·rename_i k n;exact absurd rfl (h2 k n)
 ·rename_i b;exact absurd rfl (h3 b)
 ·rfl
theorem LU{v r:V}(h:CB s v=some r):CB (s.emb σ pre) (v.ren σ pre.length)=some (r.ren σ pre.length):=by
 by_cases h1:∃f es,v=.list f es
 ·obtain⟨f,es,rfl⟩:=h1;simp only[CB,bb.injEq]at h;subst h;simp[CB]
 by_cases h2:∃k n,v=.int k n
 ·obtain⟨k,n,rfl⟩:=h2;simp only[CB,bb.injEq]at h;subst h;simp[CB]
 by_cases h3:∃b,v=.bool b
 ·obtain⟨b,rfl⟩:=h3;simp only[CB,bb.injEq]at h;subst h;simp[CB]
 rw[YO (fun f es e=>h1 ⟨f,es,e⟩) (fun k n e=>h2 ⟨k,n,e⟩) (fun b e=>h3 ⟨b,e⟩)]at h;rw[YO (fun f es e=>by cases v<;>simp at e;exact h1 ⟨_,_,rfl⟩) (fun k n e=>by cases v<;>simp at e;exact h2 ⟨_,_,rfl⟩) (fun b e=>by cases v<;>simp at e;exact h3 ⟨_,rfl⟩)];exact KV 4 h
def HQ{α β:Type}(f:α->Option β):List α->Option (List β)
 |[]=>some []
 |x::l=>match f x with
  |some y=>match HQ f l with
   |some r=>some (y::r)
   |none=>none
  |none=>none
theorem MY{α β:Type}{f:α->Option β}{g:α->β}(h:∀x y,f x=some y->g x=y):∀{l:List α} {r:List β},HQ f l=some r->l.map g=r
 |[],r,e=>by cases e;rfl
 |x::l,r,e=>by
  simp only[HQ]at e;split at e
  ·rename_i y hy;split at e
   ·rename_i q hq;cases e;simp[h _ _ hy,MY h hq]
   ·cases e
  ·cases e
theorem MZ{α β:Type}{f f':α->Option β}{a:α->α}{b:β->β}(h:∀x y,f x=some y->f' (a x)=some (b y)):∀{l:List α} {r:List β},HQ f l=some r->HQ f' (l.map a)=some (r.map b)
 |[],r,e=>by cases e;rfl
 |x::l,r,e=>by
  simp only[HQ]at e;split at e
  ·rename_i y hy;split at e
   ·rename_i q hq;cases e;simp[HQ,h _ _ hy,MZ h hq]
   ·cases e
  ·cases e
def CI(s:St)(r:AZ):Option AZ:=match r with
 |.box cs=>match HQ (CB s) cs with
  |some ds=>some (.box ds)
  |none=>none
 |.vec T es=>match HQ (HQ (CB s)) es with
  |some ds=>some (.vec T ds)
  |none=>none
 | .map es=>match HQ (fun e:V×V=>match CB s e.1,CB s e.2 with
   |some a,some b=>some (a,b)
   | _,_=>none) es with
  |some ds=>some (.map ds)
  |none=>none
 |r=>some r
def CM(s:St)(r:AZ):AZ:=match CI s r with
 |some r'=>r'
 |none=>r
theorem dC{r r':AZ}(h:CI s r=some r'):r'=r\/r'=H1 s r:=by
 unfold CI at h;split at h
 ·split at h
  ·rename_i ds hd;cases h;exact .inr (by simp only[H1,MY (fun x y=>J9) hd])
  ·cases h
 ·split at h
  ·rename_i ds hd;cases h;exact .inr (by simp only[H1,MY (fun x y=>MY (fun x y=>J9)) hd])
  ·cases h
 ·split at h
  ·rename_i ds hd;cases h;refine .inr ?_;simp only[H1];rw[MY (g:=fun e=>(F7 s e.1,F7 s e.2)) (fun x y h=>?_) hd];split at h
   ·rename_i a b h1 h2;cases h;rw[J9 h1,J9 h2]
   ·cases h
  ·cases h
 ·cases h;exact .inl rfl
theorem MA{r r':AZ}(h:CI s r=some r'):CI (s.emb σ pre) (r.ren σ pre.length)=some (r'.ren σ pre.length):=by
 cases r with
 |box cs=>
  simp only[CI]at h
  split at h
  ·rename_i ds hd;cases h;simp[CI,AZ.ren,MZ (fun x y=>LU (σ:=σ) (pre:=pre)) hd]
  ·cases h
 |vec T es=>
  simp only[CI]at h
  split at h
  ·rename_i ds hd;cases h;simp[CI,AZ.ren,MZ (fun x y=>MZ (fun x y=>LU (σ:=σ) (pre:=pre))) hd]
  ·cases h
 |map es=>
  simp only[CI]at h
  split at h
  ·rename_i ds hd;cases h;have:=MZ (f':=fun e:V×V=>match CB (s.emb σ pre) e.1,CB (s.emb σ pre) e.2 with
    |some a,some b=>some (a,b)
    | _,_=>none) (a:=fun p:V×V=>(p.1.ren σ pre.length,p.2.ren σ pre.length)) (b:=fun p:V×V=>(p.1.ren σ pre.length,p.2.ren σ pre.length)) (fun x y h=>by
     split at h
     ·rename_i a b h1 h2;cases h;simp[LU h1,LU h2]
     ·cases h) hd
   simp[CI,AZ.ren,this]
  ·cases h
 |loop fr ps asg body N st=>simp only[CI,bb.injEq]at h;subst h;rfl
 |dead=>simp only[CI,bb.injEq]at h;subst h;rfl
theorem pX(r:AZ):(CM s r).ren σ pre.length=r.ren σ pre.length\/(CM s r).ren σ pre.length=H1 (s.emb σ pre) (r.ren σ pre.length):=by
 unfold CM;split
 ·rename_i r' h;rcases dC (MA (σ:=σ) (pre:=pre) h)with h'|h'
  ·exact .inl h'
  ·exact .inr h'
 ·exact .inl rfl
def AK(s:St)(L:AA):AA:=L.map fun p=>(p.1,p.2.1,CM s p.2.2)
theorem NT(s:St):∀(L:AA) (k:Nat),(AK s L).get k=(L.get k).map fun p=>(p.1,CM s p.2)
 |[],k=>rfl
 |(j,x)::L,k=>by
  have:=NT s L k;simp only[AK,bm,AA.get]at this|-;split
  ·rfl
  ·exact this
theorem uQ{rv:ResultVar}{v:V}(h:CW P fr s rv=some v):CW P (fr.ren σ pre.length) (s.emb σ pre) rv=some (v.ren σ pre.length):=by
 cases rv with
 |tmp t=>
  simp only[CW]at h|-
  split at h
  ·rename_i e;cases h;simp[Fr.get_ren,e]
  ·cases h
 |cell ad T=>
  simp only[CW]at h|-
  split at h
  ·rename_i p e;obtain⟨cs,h1,h2⟩:=bk.1 h;simp[Fr.get_ren,e,YN h1,iO h2]
  ·cases h
theorem PT{rs:List ResultVar}{v:V}(h:F8 P rs fr s=some v):F8 P rs (fr.ren σ pre.length) (s.emb σ pre)=some (v.ren σ pre.length):=by
 have key:∀{rs:List ResultVar} {vs:List V},rs.mapM (CW P fr s)=some vs->rs.mapM (CW P (fr.ren σ pre.length) (s.emb σ pre))=some (vs.map (V.ren σ pre.length)):=by
  intro rs;induction rs with
  |nil=>intro vs e;simp at e;subst e;rfl
  |cons x l ih=>
   intro vs e
   simp only[cj,bn,bk,cq,bb.injEq]at e
   obtain⟨y,h1,ys,h2,rfl⟩:=e
   simp[uQ h1,ih h2]
 unfold F8 at h|-;split at h
 ·rename_i x e;cases h;rw[key e];rfl
 ·rename_i vs hne e;cases h;rw[key e];cases vs with
  |nil=>simp
  |cons a r=>
   cases r with
   |nil=>exact absurd rfl (hne a)
   |cons b r=>simp
 ·cases h
theorem QT:∀(i:Nat) (vs:List V),AF i (vs.map (V.ren σ δ))=(AF i vs).ren σ δ
 |_,[]=>rfl
 |i,v::vs=>by simp[AF,Fr.ren,QT (i+1) vs]
end Go.Pg
