/- Names and levels turned into others: what the operations give turns with them. No program in sight. -/
import Derived.Test.YtanlhbmliegjeaaGreatP4
noncomputable section
open Go renaming TypeId->cz,Operand->cd
open Option renaming map_eq_some_iff->bj,bind_eq_some_iff->bk,map_some->bq,some->bb,map_none->bh,bind_eq_bind->bn,pure_def->cw
open List renaming map_congr_left->bw,map_drop->bx,map_take->bz,length_map->bc,getElem?_map->bf,map_cons->bm,map_map->bp,mapM_cons->cj,all_map->ck,sizeOf_lt_of_mem->cq,map->cx
open Nat renaming add_assoc->bg
namespace Go.Pg
variable {P:Program}
variable {σ σ':Nat->Nat}{δ:Nat}
theorem PC:∀(l:List V),cD σ δ l=l.map (V.ren σ δ)
 |[]=>by simp[cD]
 |v::r=>by simp[cD,PC r]
theorem mD:∀(l:List (List V)),lR σ δ l=l.map (cx (V.ren σ δ))
 |[]=>by simp[lR]
 |v::r=>by simp[lR,PC,mD r]
@[simp] theorem EJ(k:IntKind)(n:Int):(V.int k n).ren σ δ=.int k n:=by simp[V.ren]
@[simp] theorem LY(b:Bool):(V.bool b).ren σ δ=.bool b:=by simp[V.ren]
@[simp] theorem A81(v:Value):(V.raw v).ren σ δ=.raw v:=by simp[V.ren]
@[simp] theorem HL(cs:List V):(V.agg cs).ren σ δ=.agg (cs.map (V.ren σ δ)):=by simp[V.ren,PC]
@[simp] theorem KW(cs:List V):(V.tup cs).ren σ δ=.tup (cs.map (V.ren σ δ)):=by simp[V.ren,PC]
@[simp] theorem EB(f:Bool)(es:List (List V)):(V.list f es).ren σ δ=.list f (es.map (cx (V.ren σ δ))):=by simp[V.ren,mD]
@[simp] theorem MY(cs:List V):(V.ref cs).ren σ δ=.ref (cs.map (V.ren σ δ)):=by simp[V.ren,PC]
@[simp] theorem HM(l k g off:Nat):(V.ptr l k g off).ren σ δ=.ptr (l+δ) k (σ g) off:=by simp[V.ren]
@[simp] theorem OG(l k g i off:Nat):(V.eptr l k g i off).ren σ δ=.eptr (l+δ) k (σ g) i off:=by simp[V.ren]
@[simp] theorem HN(l k g n:Nat):(V.vec l k g n).ren σ δ=.vec (l+δ) k (σ g) n:=by simp[V.ren]
@[simp] theorem QS(l k g:Nat):(V.mp l k g).ren σ δ=.mp (l+δ) k (σ g):=by simp[V.ren]
@[simp] theorem OH(f:FuncId)(xs ys:List V):(V.fn f xs ys).ren σ δ=.fn f (xs.map (V.ren σ δ)) (ys.map (V.ren σ δ)):=by simp[V.ren,PC]
@[simp] theorem gF(l k g:Nat):(V.yld l k g).ren σ δ=.yld (l+δ) k (σ g):=by simp[V.ren]
@[simp] theorem uR:V.nil.ren σ δ=.nil:=by simp[V.ren]
@[simp] theorem A82:V.any.ren σ δ=.any:=by simp[V.ren]
@[simp] theorem WJ(l k g i n:Nat):(V.vtl l k g i n).ren σ δ=.vtl (l+δ) k (σ g) i n:=by simp[V.ren]
theorem MZ{σ':Nat->Nat}{δ':Nat}:∀(v:V),(v.ren σ δ).ren σ' δ'=v.ren (fun γ=>σ' (σ γ)) (δ+δ')
 |.agg cs=>by simp only[HL,bp];congr 1;exact bw fun v _=>MZ v
 |.tup cs=>by simp only[KW,bp];congr 1;exact bw fun v _=>MZ v
 |.ref cs=>by simp only[MY,bp];congr 1;exact bw fun v _=>MZ v
 |.list b es=>by
  simp only[EB,bp];congr 1;refine bw fun e he=>?_;have hlt:=cq he;simp only[Function.comp,bp];exact bw fun v hv=>by have hlt2:=cq hv;exact MZ v
 |.fn f xs ys=>by
  simp only[OH,bp];congr 1
  ·exact bw fun v _=>MZ v
  ·exact bw fun v _=>MZ v
 |.int k n=>by simp
 |.bool b=>by simp
 |.raw v=>by simp
 |.ptr l k g off=>by simp[bg]
 |.eptr l k g i off=>by simp[bg]
 |.vec l k g n=>by simp[bg]
 |.mp l k g=>by simp[bg]
 |.yld l k g=>by simp[bg]
 |.nil=>by simp
 |.vtl l k g i n=>by simp[bg]
 |.any=>by simp
decreasing_by all_goals first|(simp_wf;omega)|decreasing_tactic
def AX.ren(σ:Nat->Nat)(δ:Nat):AX->AX
 |.box cs=>.box (cs.map (V.ren σ δ))
 |.vec T es=>.vec T (es.map (cx (V.ren σ δ)))
 |.map es=>.map (es.map fun p=>(p.1.ren σ δ,p.2.ren σ δ))
 |.loop fr ps asg body N st=>.loop (fr.map fun p=>(p.1,p.2.1,p.2.2.ren σ δ)) ps asg body N st
 |.dead=>.dead
def AA.ren(σ:Nat->Nat)(δ:Nat)(L:AA):AA:=L.map fun p=>(p.1,σ p.2.1,p.2.2.ren σ δ)
def Fr.ren(σ:Nat->Nat)(δ:Nat)(fr:Fr):Fr:=fr.map fun p=>(p.1,p.2.1,p.2.2.ren σ δ)
def St.emb(σ:Nat->Nat)(pre:List AA)(s:St):St:=⟨pre++s.up.map (AA.ren σ pre.length),s.loc.ren σ pre.length⟩
theorem Fr.get_ren:∀(fr:Fr) (k:Nat),(fr.ren σ δ).get k=(fr.get k).map fun p=>(p.1,p.2.ren σ δ)
 |[],k=>rfl
 |(j,x)::fr,k=>by
  have:=Fr.get_ren fr k;simp only[Fr.ren,bm,Fr.get]at this|-;split
  ·rfl
  ·exact this
theorem AA.get_ren:∀(L:AA) (k:Nat),(L.ren σ δ).get k=(L.get k).map fun p=>(σ p.1,p.2.ren σ δ)
 |[],k=>rfl
 |(j,x)::L,k=>by
  have:=AA.get_ren L k;simp only[AA.ren,bm,AA.get]at this|-;split
  ·rfl
  ·exact this
variable {pre:List AA}{s:St}
theorem DL:(s.emb σ pre).up.length=s.up.length+pre.length:=by simp[St.emb,Nat.add_comm]
theorem B9(l k:Nat):(s.emb σ pre).get (l+pre.length) k=(s.get l k).map fun p=>(σ p.1,p.2.ren σ pre.length):=by
 unfold St.get;rw[DL];by_cases h:l=s.up.length
 ·rw[if_pos h,if_pos (by rw[h])];exact AA.get_ren _ _
 ·rw[if_neg h,if_neg (by omega)];simp only[St.emb];rw[List.getElem?_append_right (by omega),Nat.add_sub_cancel,bf];cases s.up[l]? with
  |none=>rfl
  |some L=>simp[AA.get_ren]
theorem ZX{α:Type}(f:α->α)(M:List α)(l:Nat):∀(pre:List α),(pre++M).modify (l+pre.length) f=pre++M.modify l f
 |[]=>rfl
 |p::pre=>by have:=ZX f M l pre;simp only[List.cons_append,List.length_cons,<-bg,List.modify_succ_cons,this]
theorem C0{l k g:Nat}{r:AX}:(s.put l k g r).emb σ pre=(s.emb σ pre).put (l+pre.length) k (σ g) (r.ren σ pre.length):=by
 unfold St.put;rw[DL];by_cases h:l=s.up.length
 ·rw[if_pos h,if_pos (by rw[h])];simp[St.emb,AA.ren,AA.put]
 ·rw[if_neg h,if_neg (by omega)];simp only[St.emb,St.mk.injEq,and_true];rw[ZX];congr 1;refine List.ext_getElem? fun i=>?_;simp only[bf,List.getElem?_modify];by_cases hi:l=i
  ·subst hi;cases s.up[l]? with
   |none=>rfl
   |some L=>simp[AA.ren,AA.put]
  ·simp[hi]
theorem QT{u:Value}{v:V}(h:CV u=some v):v.ren σ δ=v:=by
 cases u with
 |int k n=>simp only[CV,bb.injEq]at h;subst h;simp
 |bool b=>simp only[CV,bb.injEq]at h;subst h;simp
 |agg cs=>simp[CV]at h
 |tuple cs=>simp[CV]at h
 |slice a n c=>
  unfold CV at h
  split at h<;>simp_all<;>subst h<;>simp
 |_=>simp only[CV,bb.injEq]at h;subst h;simp
theorem QU:∀{l:List Value} {cs:List V},GL l=some cs->cs.map (V.ren σ δ)=cs
 |[],cs,h=>by simp[GL]at h;subst h;rfl
 |v::r,cs,h=>by
  unfold GL at h;split at h
  ·rename_i x l h1 h2;cases h;simp[QT h1,QU h2]
  ·cases h
end Go.Pg
namespace Go.Pg
variable {P:Program}{σ:Nat->Nat}{δ:Nat}{pre:List AA}{s:St}{fr:Fr}{g:Bool}
theorem AC8(x:cd):rd (fr.ren σ δ) x=(rd fr x).map fun p=>(p.1,p.2.ren σ δ):=by
 cases x with
 |tmp t=>exact Fr.get_ren fr t
 |const u=>
  simp only[rd]
  cases h:CV u with
  |none=>rfl
  |some v=>simp[QT h]
 |func f=>simp[rd]
 |global g=>rfl
theorem DF(x:cd):DW g (fr.ren σ δ) x=(DW g fr x).map (V.ren σ δ):=by
 unfold DW;rw[AC8];cases rd fr x with
 |none=>rfl
 |some p=>
  obtain⟨c,v⟩:=p
  simp only[bq]
  split<;>rfl
theorem IC(v:V):A9 (v.ren σ δ)=A9 v:=by cases v<;>simp[A9]
theorem EN(v:V):A8 (v.ren σ δ)=(A8 v).map (V.ren σ δ):=by cases v<;>simp[A8]
theorem yN(v:V):weakC (v.ren σ δ)=(weakC v).ren σ δ:=by cases v<;>simp[weakC]
theorem UC(v:V):weakV (v.ren σ δ)=(weakV v).ren σ δ:=by cases v<;>simp[weakV,yN]
theorem VS{p:V}{cs:List V}(h:A7 s p=some cs):A7 (s.emb σ pre) (p.ren σ pre.length)=some (cs.map (V.ren σ pre.length)):=by
 cases p with
 |ref ds=>simp only[A7,bb.injEq]at h;subst h;simp[A7]
 |ptr l k γ off=>
  simp only[A7]at h
  split at h
  ·rename_i γ' ds e;split at h
   ·rename_i eg;cases h;simp[A7,B9,e,AX.ren,eg,bx]
   ·cases h
  ·cases h
 |eptr l k γ i off=>
  simp only[A7]at h
  split at h
  ·rename_i γ' T es e;split at h
   ·rename_i eg;obtain⟨x,hx,rfl⟩:=bj.1 h;simp[A7,B9,e,AX.ren,eg,hx,bx]
   ·cases h
  ·cases h
 |_=>cases h
theorem dT{T:cz}{cs:List V}{v:V}(h:BN P T cs=some v):BN P T (cs.map (V.ren σ δ))=some (v.ren σ δ):=by
 unfold BN at h|-;split at h
 ·split at h
  ·rename_i hc;cases h;simp[hc,bz]
  ·cases h
 ·split at h
  ·rename_i hc;cases h;simp[hc,bz]
  ·cases h
 ·simp only[bf,h,bq]
 ·cases h
theorem dU{U:cz}{cs:List V}{off:Nat}{v:V}(h:KU P U cs off=some v):KU P U (cs.map (V.ren σ δ)) off=some (v.ren σ δ):=by
 unfold KU at h|-;split at h
 ·split at h
  ·rename_i hc;cases h;simp[hc,bz,bx]
  ·cases h
 ·split at h
  ·rename_i hc;cases h;simp[hc,bz,bx]
  ·cases h
 ·simp only[bf,h,bq]
 ·cases h
theorem mE{T:cz}{x v:V}{f:Nat}(h:IJ P T x f=some v):IJ P T (x.ren σ δ) f=some (v.ren σ δ):=by
 unfold IJ at h;split at h
 ·rename_i cs U off e;simp[IJ,e,dU h]
 ·cases h
theorem V7{T:cz}{x v:V}{f:Nat}(h:DH P T x f=some v):DH P T (x.ren σ δ) f=some (v.ren σ δ):=by
 unfold DH at h;split at h
 ·rename_i U off e;split at h
  ·cases h
  ·rename_i hz;split at h<;>first
    |(cases h;done)
    |(cases h;simp[DH,e,hz,bx])
 ·cases h
theorem E3(es:List (List V))(j:Nat):(es.map (cx (V.ren σ δ))).getD j []=(es.getD j []).map (V.ren σ δ):=by simp only[List.getD_eq_getElem?_getD,bf];cases es[j]?<;>rfl
theorem V8{T:cz}{x i v:V}(h:BU P s T x i=some v):BU P (s.emb σ pre) T (x.ren σ pre.length) (i.ren σ pre.length)=some (v.ren σ pre.length):=by
 unfold BU at h;split at h
 ·rename_i e f es k j e1;split at h
  ·rename_i hc;cases h;obtain⟨c1,c2,c3,c4⟩:=hc;simp only[EB,EJ,BU,e1,bc,E3,MY];rw[if_pos ⟨c1,c2,c3,c4⟩]
  ·cases h
 ·rename_i e l k γ n k' j e1;split at h
  ·rename_i γ' U es e2;split at h
   ·rename_i hc;cases h;obtain⟨c1,c2,c3,c4,c5,c6⟩:=hc;subst c1;simp only[HN,EJ,BU,e1,B9,e2,bq,AX.ren,bc,E3,OG];rw[if_pos ⟨trivial,c2,c3,c4,c5,c6⟩]
   ·cases h
  ·cases h
 ·rename_i n e cs k j e1;split at h
  ·rename_i hc;cases h;simp only[MY,EJ,BU,e1,if_pos hc,bx]
  ·cases h
 ·rename_i n e l k γ o k' j e1;split at h
  ·rename_i hc;cases h;simp only[HM,EJ,BU,e1,if_pos hc]
  ·cases h
 ·rename_i n e l k γ i' o k' j e1;split at h
  ·rename_i hc;cases h;simp only[OG,EJ,BU,e1,if_pos hc]
  ·cases h
 ·cases h
theorem mF{T:cz}{x i v:V}(h:JO P T x i=some v):JO P T (x.ren σ δ) (i.ren σ δ)=some (v.ren σ δ):=by
 unfold JO at h;split at h
 ·rename_i n e cs k j e1;split at h
  ·rename_i hc;simp only[HL,EJ,JO,e1,if_pos hc,dU h]
  ·cases h
 ·cases h
theorem pY{S D:cz}{x v:V}(h:MM P S D x=some v):MM P S D (x.ren σ δ)=some (v.ren σ δ):=by
 unfold MM at h;split at h
 ·rename_i e1 e2;cases h;simp[MM,e1,e2]
 ·cases h
theorem AC9{op:UnOp}{x v:V}(h:bX op x=some v):bX op (x.ren σ δ)=some (v.ren σ δ):=by unfold bX at h;split at h<;>first|(cases h;done)|(cases h;simp[bX])
theorem yO{x v:V}(h:ND x=some v):ND (x.ren σ δ)=some (v.ren σ δ):=by cases x<;>simp[ND]at h<;>subst h<;>simp[ND]
theorem cF{x v:V}{i:Nat}(h:FU x i=some v):FU (x.ren σ δ) i=some (v.ren σ δ):=by cases x<;>simp[FU]at h;simp[FU,h]
theorem yP{T:cz}{x v:V}(h:HZ P T x=some v):HZ P T (x.ren σ δ)=some (v.ren σ δ):=by
 unfold HZ at h;split at h
 ·rename_i e f es hu;cases h;simp[HZ,hu]
 ·rename_i e l k g n hu;cases h;simp[HZ,hu]
 ·rename_i e hu;cases h;simp[HZ,hu]
 ·rename_i n e hu;cases h;unfold HZ;rw[hu];simp
 ·cases h
theorem AIJ{n m:Nat}{h:Option V}(e:hiN n h=some m):hiN n (h.map (V.ren σ δ))=some m:=by
 cases h with
 |none=>exact e
 |some a=>cases a<;>first|(simp only[bq,EJ];exact e)|(simp[hiN]at e)
theorem mG{T:cz}{x v:V}{lo hi mx:Option V}(h:B0 P s T x lo hi mx=some v):B0 P (s.emb σ pre) T (x.ren σ pre.length) (lo.map (V.ren σ pre.length)) (hi.map (V.ren σ pre.length)) (mx.map (V.ren σ pre.length))=some (v.ren σ pre.length):=by
 unfold B0 at h;split at h
 ·rename_i e f es k h' e1;split at h
  ·rename_i hc;cases h;simp only[EB,bq,EJ,bh,B0,e1,bc,if_pos hc,bz]
  ·cases h
 ·rename_i e f es k l e1;split at h
  ·rename_i hc;cases h;have:(es.map (cx (V.ren σ pre.length))).all (fun x=>x.length==P.cellsOf e)=true:=by rw[ck];exact hc.2.2.2▸(by congr 1;funext x;simp)
   simp only[EB,bq,EJ,bh,B0,e1,bc,if_pos (⟨hc.1,hc.2.1,hc.2.2.1,this⟩:_/\_/\_/\_),bx]
  ·cases h
 ·rename_i e f es k l k' h' e1;split at h
  ·rename_i hc;cases h;have:(es.map (cx (V.ren σ pre.length))).all (fun x=>x.length==P.cellsOf e)=true:=by rw[ck];exact hc.2.2.2.2▸(by congr 1;funext x;simp)
   simp only[EB,bq,EJ,bh,B0,e1,bc,if_pos (⟨hc.1,hc.2.1,hc.2.2.1,hc.2.2.2.1,this⟩:_/\_/\_/\_/\_),bx,bz]
  ·cases h
 ·rename_i e f es k h' k' m e1;split at h
  ·rename_i hc;cases h;simp only[EB,bq,EJ,bh,B0,e1,if_pos hc,List.map_nil]
  ·cases h
 ·rename_i e l k g n k' h' e1;split at h
  ·rename_i hc;cases h;simp only[HN,bq,EJ,bh,B0,e1,if_pos hc]
  ·cases h
 ·rename_i e l k g n k' i e1;split at h
  ·rename_i g' T' es hget;split at h
   ·rename_i hc;obtain⟨rfl,h1,h2,h3,h4,h5⟩:=hc;cases h;have:(es.map (cx (V.ren σ pre.length))).all (fun x=>x.length==P.cellsOf e)=true:=by rw[ck];exact h1▸(by congr 1;funext x;simp)
    simp only[HN,WJ,bq,EJ,bh,B0,e1,B9,hget,AX.ren];rw[if_pos ⟨trivial,this,by simpa using h2,h3,h4,h5⟩]
   ·cases h
  ·cases h
 ·rename_i n e l k g o e1;split at h
  ·rename_i g' cs m hget hm;split at h
   ·rename_i hc;obtain⟨rfl,h1,h2⟩:=hc;cases h;simp only[HM,WJ,bh,B0,e1,B9,hget,AX.ren,bq,AIJ hm];rw[if_pos ⟨trivial,h1,by simpa using h2⟩]
   ·cases h
  ·cases h
 ·cases h
theorem yQ{x y v:V}(h:RZ x y=some v):RZ (x.ren σ δ) (y.ren σ δ)=some (v.ren σ δ):=by
 unfold RZ at h;split at h
 ·split at h
  ·rename_i hk;cases h;simp[RZ,hk]
  ·cases h
 ·cases h
theorem yR{x y v:V}(h:R3 x y=some v):R3 (x.ren σ δ) (y.ren σ δ)=some (v.ren σ δ):=by
 unfold R3 at h;split at h
 ·split at h
  ·rename_i hk;cases h;simp[R3,hk]
  ·cases h
 ·cases h
theorem yS{op:BinOp}{k:IntKind}{a b:Int}{v:V}(h:EV op k a b=some v):v.ren σ δ=v:=by
 unfold EV at h;split at h<;>first
  |(cases h;simp;done)
  |(split at h<;>first|(cases h;done)|(cases h;simp;done))
  |(obtain⟨r,_,rfl⟩:=bj.1 h;simp)
theorem M0:∀(cs:List V),EA (cs.map (V.ren σ δ))=EA cs
 |[]=>rfl
 |c::cs=>by have ih:=M0 cs;cases c<;>simp[EA,ih]
theorem ADA{op:BinOp}{k:IntKind}{a b:Int}{v:V}(h:bW op k a b=some v):v.ren σ δ=v:=by
 cases op<;>simp only[bW]at h;case shl=>split at h<;>cases h;simp
 case shr=>split at h<;>cases h;simp
 all_goals cases h
theorem yT{op:BinOp}{T:cz}{x y v:V}(h:HE P op T x y=some v):HE P op T (x.ren σ δ) (y.ren σ δ)=some (v.ren σ δ):=by
 unfold HE at h;split at h
 ·split at h
  ·rename_i hk;simp only[EJ,HE,if_pos hk,h,yS h]
  ·rename_i hk;simp only[EJ,HE,if_neg hk,h,ADA h]
 ·split at h
  ·rename_i hk;have hv:v.ren σ δ=v:=by split at h<;>first|(cases h;done)|(cases h;simp)
   rw[hv];simp only[LY,HE,if_pos hk];exact h
  ·cases h
 ·rename_i cs ds;have he:TY P T (cs.map (V.ren σ δ)) (ds.map (V.ren σ δ))=TY P T cs ds:=by unfold TY;rw[M0,M0]
  have hv:v.ren σ δ=v:=by
   split at h
   ·obtain⟨r,_,rfl⟩:=bj.1 h;simp
   ·obtain⟨r,_,rfl⟩:=bj.1 h;simp
   ·cases h
  rw[hv];simp only[HL,HE,he];exact h
 ·rename_i x' _;have hi:JD (x.ren σ δ)=JD x:=by
   cases x with
   |list f es=>cases es<;>simp[JD]
   |vec l k g n=>cases n<;>simp[JD]
   |vtl l k g i n=>cases n<;>simp[JD]
   |_=>simp[JD]
  have hb:∀y:V,HE P op T y .nil=if D1 P T then(match op with
   |.eql=>(JD y).map V.bool
   |.neq=>(JD y).map fun b=>V.bool !b
   | _=>none) else none:=fun y=>by cases y <;> rfl
  have hv:v.ren σ δ=v:=by
   split at h
   ·split at h
    ·obtain⟨r,_,rfl⟩:=bj.1 h;simp
    ·obtain⟨r,_,rfl⟩:=bj.1 h;simp
    ·cases h
   ·cases h
  rw[hv,uR,hb,hi];exact h
 ·cases h
theorem UD:∀{cs:List V} {l:List Value},EA cs=some l->cs.map (V.ren σ δ)=cs
 |[],_,_=>rfl
 |c::cs,l,h=>by
  cases c with
  |int k n=>
   simp only[EA]at h
   split at h
   ·rename_i r hr;simp[UD hr]
   ·cases h
  |bool b=>
   simp only[EA]at h
   split at h
   ·rename_i r hr;simp[UD hr]
   ·cases h
  |_=>simp[EA]at h
theorem ZY{K:cz}(v:V):V3 P K (v.ren σ δ)=V3 P K v:=by
 cases v with
 |agg cs=>
  simp only[HL,V3,M0]
  split
  ·rename_i l hl;rw[UD hl]
  ·rfl
 |_=>simp[V3]
theorem UE{K:cz}{ks:List V}:∀(es:List (V×V)) (i:Nat),NE P K ks (es.map fun p=>(p.1.ren σ δ,p.2.ren σ δ)) i=NE P K ks es i
 |[],_=>rfl
 |(k,v)::es,i=>by simp only[bm,NE,ZY,UE es]
theorem pZ{T:cz}{z:V}(h:TZ P T=some z):z.ren σ δ=z:=by
 unfold TZ at h;split at h
 ·split at h
  ·rename_i cs hz;cases h;simp[QU hz]
  ·cases h
 ·exact QT h
 ·cases h
theorem gG{T:cz}{x k v:V}{ok:Bool}(h:DP P s T x k ok=some v):DP P (s.emb σ pre) T (x.ren σ pre.length) (k.ren σ pre.length) ok=some (v.ren σ pre.length):=by
 unfold DP at h;split at h
 ·rename_i K E l q g hm;split at h
  ·rename_i g' es hget;split at h
   ·rename_i hc;obtain⟨rfl,hT⟩:=hc;split at h
    ·rename_i ks hks;simp only[QS,DP,hm,B9,hget,bq,AX.ren,ZY,hks,UE,if_pos (⟨trivial,hT⟩:True/\_)];split at h
     ·rename_i hf;obtain⟨z,hz,rfl⟩:=bj.1 h;simp only[hz,bq];cases ok<;>simp[pZ hz]
     ·rename_i i hf;obtain⟨e,he,rfl⟩:=bj.1 h;simp only[bf,he,bq];cases ok<;>simp
     ·cases h
    ·cases h
   ·cases h
  ·cases h
 ·cases h
theorem UF{T:cz}{x k v:V}{l q γ:Nat}{es:List (V×V)}(h:LU P s T x k v=some (l,q,γ,es)):LU P (s.emb σ pre) T (x.ren σ pre.length) (k.ren σ pre.length) (v.ren σ pre.length)=some (l+pre.length,q,σ γ,es.map fun p=>(p.1.ren σ pre.length,p.2.ren σ pre.length)):=by
 unfold LU at h;split at h
 ·rename_i K E l q g hm;split at h
  ·rename_i g' es hget;split at h
   ·rename_i hc;obtain⟨rfl,hT⟩:=hc;split at h
    ·rename_i ks hks;simp only[QS,LU,hm,B9,hget,bq,AX.ren,ZY,hks,UE,if_pos (⟨trivial,hT⟩:True/\_)];split at h
     ·rename_i hf;cases h;simp
     ·rename_i i hf;cases h;simp[List.map_set]
     ·cases h
    ·cases h
   ·cases h
  ·cases h
 ·cases h
theorem I5{r:cd->Option V}:∀{l:List cd} {vs:List V},l.mapM r=some vs->l.mapM (fun x=>(r x).map (V.ren σ δ))=some (vs.map (V.ren σ δ))
 |[],vs,h=>by simp at h;subst h;rfl
 |x::l,vs,h=>by simp only[cj,bn,bk,cw,bb.injEq]at h;obtain⟨v,h1,us,h2,rfl⟩:=h;simp[h1,I5 h2]
theorem AIK{o:Oper}{r:cd->Option V}{v:V}(h:IA P o s r=some v):IA P o (s.emb σ pre) (fun x=>(r x).map (V.ren σ pre.length))=some (v.ren σ pre.length):=by
 unfold IA at h|-;split at h<;>(try simp only[bk]at h);case h_1=>simp[h]
 case h_2=>simp[h]
 case h_3=>obtain⟨a,h1,h2⟩:=h;simp[h1,yO h2]
 case h_4=>obtain⟨a,h1,b,h2,h3⟩:=h;simp[h1,VS h2,dT h3]
 case h_5=>obtain⟨a,h1,b,h2,h3⟩:=h;simp[h1,h2,yT h3]
 case h_6=>obtain⟨a,h1,h2⟩:=h;simp[h1,AC9 h2]
 case h_7=>obtain⟨a,h1,h2⟩:=h;simp[h1,pY h2]
 case h_8=>obtain⟨a,h1,h2⟩:=h;simp[h1,V7 h2]
 case h_9=>obtain⟨a,h1,h2⟩:=h;simp[h1,mE h2]
 case h_10=>obtain⟨a,h1,b,h2,h3⟩:=h;simp[h1,h2,V8 h3]
 case h_11=>obtain⟨a,h1,b,h2,h3⟩:=h;simp[h1,h2,mF h3]
 case h_12=>obtain⟨a,h1,h2⟩:=h;simp[h1,cF h2]
 case h_13=>
  split at h
  ·rename_i e1 e2;simp only[bk]at h;obtain⟨a,h1,h2⟩:=h;simp[h1,yP h2]
  ·cases h
 case h_14=>
  split at h
  ·simp only[bk]at h;obtain⟨a,h1,b,h2,h3⟩:=h;simp[h1,h2,yQ h3]
  ·cases h
 case h_15=>
  split at h
  ·simp only[bk]at h;obtain⟨a,h1,b,h2,h3⟩:=h;simp[h1,h2,yR h3]
  ·cases h
 case h_16 T x lo hi mx ho=>
  obtain⟨a,h1,l,h2,u,h3,m,h4,h5⟩:=h
  have key:∀(z:Option cd) (q:Option V),(match z with|none=>some none|some y=>(r y).map some)=some q->(z=none/\q=none)\/∃y b,z=some y/\r y=some b/\q=some b:=by
   intro z q hz;cases z with
   |none=>cases hz;exact .inl ⟨rfl,rfl⟩
   |some y=>
    obtain⟨b,hb,rfl⟩:=bj.1 hz
    exact .inr ⟨y,b,rfl,hb,rfl⟩
  have h6:=mG (σ:=σ) (pre:=pre) h5
  rcases key lo l h2 with⟨rfl,rfl⟩|⟨y1,b1,rfl,q1,rfl⟩<;>rcases key hi u h3 with⟨rfl,rfl⟩|⟨y2,b2,rfl,q2,rfl⟩<;>rcases key mx m h4 with⟨rfl,rfl⟩|⟨y3,b3,rfl,q3,rfl⟩<;>simp_all
 case h_17=>obtain⟨a,h1,b,h2,h3⟩:=h;simp[h1,h2,gG h3]
 case h_18 f first captured ho=>
  obtain⟨a,h1,b,h2,h3⟩:=h
  cases h3
  simp[I5 h1,I5 h2]
 case h_19=>cases h
end Go.Pg
namespace Go.Pg
variable {P:Program}{σ:Nat->Nat}{δ:Nat}{pre:List AA}{s:St}{fr:Fr}{g:Bool}
theorem GS{T:cz}{z:List V}(h:CE P T=some z):z.map (V.ren σ δ)=z:=by
 unfold CE at h;split at h
 ·exact QU h
 ·cases h
theorem DI{α β:Type}(f:α->β)(cs ds:List α)(off:Nat):A4 (cs.map f) off (ds.map f)=(A4 cs off ds).map f:=by simp[A4,bz,bx]
theorem PD{place:Nat->Option (Nat×Nat)}:∀{ps:List (Nat×V)} {cs ds:List V},DM place cs ps=some ds->DM place (cs.map (V.ren σ δ)) (ps.map fun p=>(p.1,p.2.ren σ δ))=some (ds.map (V.ren σ δ))
 |[],cs,ds,h=>by simp[DM]at h;subst h;rfl
 |(i,v)::r,cs,ds,h=>by
  simp only[DM]at h;split at h
  ·cases h
  ·rename_i off size e;split at h
   ·rename_i hc;have:=PD h;simp only[bm,DM,e,EN,bc];rw[if_pos hc,DI];exact this
   ·cases h
theorem M1(ps:List (Nat×V)):((ps.map fun p=>(p.1,p.2.ren σ δ)).all fun p=>A9 p.2)=ps.all fun p=>A9 p.2:=by rw[ck];congr 1;funext p;exact IC p.2
theorem mH{T:cz}{ps:List (Nat×V)}{v:V}(h:DC P T ps=some v):DC P T (ps.map fun p=>(p.1,p.2.ren σ δ))=some (v.ren σ δ):=by
 unfold DC at h|-;split at h
 ·rename_i z fs e1 e2;simp only[M1];split at h
  ·rename_i hc;obtain⟨cs,h1,rfl⟩:=bj.1 h;have:=PD (σ:=σ) (δ:=δ) h1;rw[GS e1]at this;rw[if_pos hc,this];simp
  ·cases h
 ·rename_i z n e e1 e2;simp only[M1];split at h
  ·rename_i hc;obtain⟨cs,h1,rfl⟩:=bj.1 h;have:=PD (σ:=σ) (δ:=δ) h1;rw[GS e1]at this;rw[if_pos hc,this];simp
  ·cases h
 ·cases h
theorem ZZ{β:Type}(f:V->V)(size:Nat):∀(n:Nat) (cs:List V),CW size (cs.map f) n=(CW size cs n).map (cx f)
 |0,_=>rfl
 |n+1,cs=>by simp only[CW,bm,bz];rw[<-bx,ZZ (β:=β) f size n]
theorem UG{T:cz}{len:Nat}{ps:List (Nat×V)}{v:V}(h:CB P T len ps=some v):CB P T len (ps.map fun p=>(p.1,p.2.ren σ δ))=some (v.ren σ δ):=by
 unfold CB at h|-;split at h
 ·rename_i e e1;split at h
  ·rename_i z e2;split at h
   ·rename_i hc;obtain⟨cs,h1,rfl⟩:=bj.1 h;have:=PD (σ:=σ) (δ:=δ) h1;have hz:(List.replicate len z).flatten.map (V.ren σ δ)=(List.replicate len z).flatten:=by rw[List.map_flatten,List.map_replicate,GS e2]
    rw[hz]at this;simp only[M1];rw[if_pos hc,this];simp[ZZ (β:=Nat)]
   ·cases h
  ·cases h
 ·cases h
theorem QV{r:cd->Option V}:∀{l:List (Nat×cd)} {ps:List (Nat×V)},DJ r l=some ps->DJ (fun x=>(r x).map (V.ren σ δ)) l=some (ps.map fun p=>(p.1,p.2.ren σ δ))
 |[],ps,h=>by simp[DJ]at h;subst h;rfl
 |(i,x)::l,ps,h=>by
  simp only[DJ]at h;split at h
  ·rename_i v us h1 h2;cases h;simp[DJ,h1,QV h2]
  ·cases h
theorem GU{v:V}{es:List (List V)}(h:elemsOf s v=some es):elemsOf (s.emb σ pre) (v.ren σ pre.length)=some (es.map (cx (V.ren σ pre.length))):=by
 cases v with
 |list f ds=>simp only[elemsOf,bb.injEq]at h;subst h;simp[elemsOf]
 |vec l k γ n=>
  simp only[elemsOf]at h
  split at h
  ·rename_i γ' T ds e;split at h
   ·rename_i hc;cases h;simp[elemsOf,B9,e,AX.ren,hc.1,hc.2,bz]
   ·cases h
  ·cases h
 |vtl l k γ i n=>
  simp only[elemsOf]at h
  split at h
  ·rename_i γ' cs e;split at h
   ·rename_i hc;cases h;simp[elemsOf,B9,e,AX.ren,hc.1,hc.2,bz,bx,Function.comp_def]
   ·cases h
  ·cases h
 |nil=>simp only[elemsOf,bb.injEq]at h;subst h;simp[elemsOf]
 |raw v=>cases v with
  |slice a n c=>cases n with
   |zero=>cases h;simp[elemsOf]
   |succ n=>cases h
  |_=>cases h
 |_=>cases h
theorem JQ:DW g (fr.ren σ δ)=fun x=>(DW g fr x).map (V.ren σ δ):=by funext x;exact DF x
theorem qD{T:cz}{xv yv v:V}(h:J5 P T xv yv=some v):J5 P T (xv.ren σ δ) (yv.ren σ δ)=some (v.ren σ δ):=by
 unfold J5 at h;split at h
 ·rename_i e ys hel hy;split at h
  ·rename_i hc;cases h;have hr:AMQ (yv.ren σ δ)=some (ys.map (cx (V.ren σ δ))):=by
    cases yv with
    |list b es=>cases hy;simp only[EB];rfl
    |nil=>cases hy;simp only[uR];rfl
    |_=>cases hy
   unfold J5;simp only[hel,EB,List.map_nil,hr];rw[if_pos];refine⟨hc.1,?_,by rw[bc];exact hc.2.2.1,by rw[bc];exact hc.2.2.2⟩;rw[ck];have:=hc.2.1;simpa [Function.comp_def]using this
  ·cases h
 ·cases h
theorem ADB{o:Oper}{args:Array cd}{Ts:Array cz}{v:V}(h:appS P g o args Ts fr=some v):appS P g o args Ts (fr.ren σ δ)=some (v.ren σ δ):=by
 unfold appS at h|-;split at h
 ·split at h
  ·rename_i hc;obtain⟨xv,h1,h⟩:=bk.1 h;obtain⟨yv,h2,h⟩:=bk.1 h;rw[if_pos hc,DF,h1,DF,h2];exact qD h
  ·cases h
 ·cases h
theorem I6{o:Oper}{v:V}(h:FL P g o fr s=some v):FL P g o (fr.ren σ pre.length) (s.emb σ pre)=some (v.ren σ pre.length):=by
 unfold FL at h|-;split at h
 ·rename_i c x y ho;split at h
  ·rename_i c' ca va cb vb e1 e2 e3;split at h
   ·rename_i hc;cases h;simp only[DF,AC8,e1,e2,e3,bq,LY];rw[if_pos hc]
   ·cases h
  ·cases h
 ·rename_i T parts ho;obtain⟨ps,h1,h2⟩:=bk.1 h;rw[JQ,QV h1];exact mH h2
 ·rename_i T len parts ho;obtain⟨ps,h1,h2⟩:=bk.1 h;rw[JQ,QV h1];exact UG h2
 ·exact ADB h
 ·rw[JQ];exact AIK h
def A1(s:St):Nat->V->Option V
 |0,_=>none
 |f+1,v=>match v with
  |.list _ es=>some (.list false es)
  | .vec l k g m=>if l=s.up.length then(match s.loc.get k with
    |some (g',.vec _ es)=>if g'=g/\m<=es.length then some (.list false (es.take m)) else none
    | _=>none) else some v
  | .ptr l k g off=>if l=s.up.length then(match s.loc.get k with
    |some (g',.box cs)=>if g'=g then(cs.mapM (A1 s f)).map fun ds=>.ref (ds.drop off) else none
    | _=>none) else some v
  |.agg cs=>(cs.mapM (A1 s f)).map .agg
  |.tup cs=>(cs.mapM (A1 s f)).map .tup
  |.fn g xs ys=>match xs.mapM (A1 s f),ys.mapM (A1 s f)with
   |some a,some b=>some (.fn g a b)
   |_,_=>none
  |v=>some v
theorem GV{α β:Type}{f:α->Option β}{g:α->β}(h:∀x y,f x=some y->g x=y):∀{l:List α} {r:List β},l.mapM f=some r->l.map g=r
 |[],r,e=>by simp at e;subst e;rfl
 |x::l,r,e=>by simp only[cj,bn,bk,cw,bb.injEq]at e;obtain⟨y,h1,ys,h2,rfl⟩:=e;simp[h x y h1,GV h h2]
theorem OI:∀(f:Nat) {v r:V},A1 s f v=some r->DN s f v=r
 |0,v,r,h=>by cases h
 |f+1,v,r,h=>by
  have ih:=fun v r=>OI f (v:=v) (r:=r);cases v with
  |list b es=>simpa [A1,DN]using h
  |vec l k g m=>
   simp only[A1]at h
   simp only[DN]
   split at h
   ·rename_i hl;rw[if_pos hl];split at h
    ·rename_i g' T es e;split at h
     ·rename_i hc;rw[e];simp only[if_pos hc];exact bb.inj h
     ·cases h
    ·cases h
   ·rename_i hl;rw[if_neg hl];exact bb.inj h
  |ptr l k g off=>
   simp only[A1]at h
   simp only[DN]
   split at h
   ·rename_i hl;rw[if_pos hl];split at h
    ·rename_i g' cs e;split at h
     ·rename_i hc;obtain⟨ds,h1,rfl⟩:=bj.1 h;rw[e];simp only[if_pos hc,GV ih h1]
     ·cases h
    ·cases h
   ·rename_i hl;rw[if_neg hl];exact bb.inj h
  |agg cs=>
   obtain⟨ds,h1,rfl⟩:=bj.1 h
   simp only[DN,GV ih h1]
  |tup cs=>
   obtain⟨ds,h1,rfl⟩:=bj.1 h
   simp only[DN,GV ih h1]
  |fn g xs ys=>
   simp only[A1]at h
   split at h
   ·rename_i a b h1 h2;cases h;simp only[DN,GV ih h1,GV ih h2]
   ·cases h
  |_=>simpa [A1,DN]using h
theorem FZ{f f':V->Option V}(h:∀v r,f v=some r->f' (v.ren σ δ)=some (r.ren σ δ)):∀{l r:List V},l.mapM f=some r->(l.map (V.ren σ δ)).mapM f'=some (r.map (V.ren σ δ))
 |[],r,e=>by simp at e;subst e;rfl
 |x::l,r,e=>by simp only[cj,bn,bk,cw,bb.injEq]at e;obtain⟨y,h1,ys,h2,rfl⟩:=e;simp[h x y h1,FZ h h2]
theorem KX(k:Nat):(s.emb σ pre).loc.get k=(s.loc.get k).map fun p=>(σ p.1,p.2.ren σ pre.length):=AA.get_ren _ _
theorem J9:∀(f:Nat) {v r:V},A1 s f v=some r->A1 (s.emb σ pre) f (v.ren σ pre.length)=some (r.ren σ pre.length)
 |0,v,r,h=>by cases h
 |f+1,v,r,h=>by
  have ih:=fun v r=>J9 f (v:=v) (r:=r);cases v with
  |list b es=>simp only[A1,bb.injEq]at h;subst h;simp[A1]
  |vec l k g m=>
   simp only[A1]at h
   split at h
   ·rename_i hl;split at h
    ·rename_i g' T es e;split at h
     ·rename_i hc;cases h;simp[A1,DL,KX,hl,e,AX.ren,hc.1,hc.2,bz]
     ·cases h
    ·cases h
   ·rename_i hl;cases h;have:¬l+pre.length=s.up.length+pre.length:=by omega
    simp[A1,DL,hl]
  |ptr l k g off=>
   simp only[A1]at h
   split at h
   ·rename_i hl;split at h
    ·rename_i g' cs e;split at h
     ·rename_i hc;obtain⟨ds,h1,rfl⟩:=bj.1 h;have:=FZ ih h1;simp[A1,DL,KX,hl,e,AX.ren,hc,this,bx]
     ·cases h
    ·cases h
   ·rename_i hl;cases h;simp[A1,DL,hl]
  |agg cs=>
   obtain⟨ds,h1,rfl⟩:=bj.1 h
   simp[A1,FZ ih h1]
  |tup cs=>
   obtain⟨ds,h1,rfl⟩:=bj.1 h
   simp[A1,FZ ih h1]
  |fn g xs ys=>
   simp only[A1]at h
   split at h
   ·rename_i a b h1 h2;cases h;simp[A1,FZ ih h1,FZ ih h2]
   ·cases h
  |_=>simp only[A1,bb.injEq]at h;subst h;simp[A1]
def BV(s:St)(v:V):Option V:=match v with
 |.list f es=>some (.list f es)
 |.int k n=>some (.int k n)
 |.bool b=>some (.bool b)
 |v=>A1 s 4 v
theorem JR{v r:V}(h:BV s v=some r):FK s v=r:=by
 unfold BV at h;unfold FK;split at h
 ·simpa using h
 ·simpa [DN]using h
 ·simpa [DN]using h
 ·rename_i h1 h2 h3;split
  ·rename_i f es;exact absurd rfl (h1 f es)
  ·exact OI 4 h
theorem VT{v:V}(h1:∀f es,v≠.list f es)(h2:∀k n,v≠.int k n)(h3:∀b,v≠.bool b):BV s v=A1 s 4 v:=by
 unfold BV;split
 ·rename_i f es;exact absurd rfl (h1 f es)
 ·rename_i k n;exact absurd rfl (h2 k n)
 ·rename_i b;exact absurd rfl (h3 b)
 ·rfl
theorem KY{v r:V}(h:BV s v=some r):BV (s.emb σ pre) (v.ren σ pre.length)=some (r.ren σ pre.length):=by
 by_cases h1:∃f es,v=.list f es
 ·obtain⟨f,es,rfl⟩:=h1;simp only[BV,bb.injEq]at h;subst h;simp[BV]
 by_cases h2:∃k n,v=.int k n
 ·obtain⟨k,n,rfl⟩:=h2;simp only[BV,bb.injEq]at h;subst h;simp[BV]
 by_cases h3:∃b,v=.bool b
 ·obtain⟨b,rfl⟩:=h3;simp only[BV,bb.injEq]at h;subst h;simp[BV]
 rw[VT (fun f es e=>h1 ⟨f,es,e⟩) (fun k n e=>h2 ⟨k,n,e⟩) (fun b e=>h3 ⟨b,e⟩)]at h;rw[VT (fun f es e=>by cases v<;>simp at e;exact h1 ⟨_,_,rfl⟩) (fun k n e=>by cases v<;>simp at e;exact h2 ⟨_,_,rfl⟩) (fun b e=>by cases v<;>simp at e;exact h3 ⟨_,rfl⟩)];exact J9 4 h
def GW{α β:Type}(f:α->Option β):List α->Option (List β)
 |[]=>some []
 |x::l=>match f x with
  |some y=>match GW f l with
   |some r=>some (y::r)
   |none=>none
  |none=>none
theorem LZ{α β:Type}{f:α->Option β}{g:α->β}(h:∀x y,f x=some y->g x=y):∀{l:List α} {r:List β},GW f l=some r->l.map g=r
 |[],r,e=>by cases e;rfl
 |x::l,r,e=>by
  simp only[GW]at e;split at e
  ·rename_i y hy;split at e
   ·rename_i q hq;cases e;simp[h _ _ hy,LZ h hq]
   ·cases e
  ·cases e
theorem L5{α β:Type}{f f':α->Option β}{a:α->α}{b:β->β}(h:∀x y,f x=some y->f' (a x)=some (b y)):∀{l:List α} {r:List β},GW f l=some r->GW f' (l.map a)=some (r.map b)
 |[],r,e=>by cases e;rfl
 |x::l,r,e=>by
  simp only[GW]at e;split at e
  ·rename_i y hy;split at e
   ·rename_i q hq;cases e;simp[GW,h _ _ hy,L5 h hq]
   ·cases e
  ·cases e
def CA(s:St)(r:AX):Option AX:=match r with
 |.box cs=>match GW (BV s) cs with
  |some ds=>some (.box ds)
  |none=>none
 |.vec T es=>match GW (GW (BV s)) es with
  |some ds=>some (.vec T ds)
  |none=>none
 | .map es=>match GW (fun e:V×V=>match BV s e.1,BV s e.2 with
   |some a,some b=>some (a,b)
   | _,_=>none) es with
  |some ds=>some (.map ds)
  |none=>none
 |r=>some r
def CC(s:St)(r:AX):AX:=match CA s r with
 |some r'=>r'
 |none=>r
theorem Z0{r r':AX}(h:CA s r=some r'):r'=r\/r'=HG s r:=by
 unfold CA at h;split at h
 ·split at h
  ·rename_i ds hd;cases h;exact .inr (by simp only[HG,LZ (fun x y=>JR) hd])
  ·cases h
 ·split at h
  ·rename_i ds hd;cases h;exact .inr (by simp only[HG,LZ (fun x y=>LZ (fun x y=>JR)) hd])
  ·cases h
 ·split at h
  ·rename_i ds hd;cases h;refine .inr ?_;simp only[HG];rw[LZ (g:=fun e=>(FK s e.1,FK s e.2)) (fun x y h=>?_) hd];split at h
   ·rename_i a b h1 h2;cases h;rw[JR h1,JR h2]
   ·cases h
  ·cases h
 ·cases h;exact .inl rfl
theorem K5{r r':AX}(h:CA s r=some r'):CA (s.emb σ pre) (r.ren σ pre.length)=some (r'.ren σ pre.length):=by
 cases r with
 |box cs=>
  simp only[CA]at h
  split at h
  ·rename_i ds hd;cases h;simp[CA,AX.ren,L5 (fun x y=>KY (σ:=σ) (pre:=pre)) hd]
  ·cases h
 |vec T es=>
  simp only[CA]at h
  split at h
  ·rename_i ds hd;cases h;simp[CA,AX.ren,L5 (fun x y=>L5 (fun x y=>KY (σ:=σ) (pre:=pre))) hd]
  ·cases h
 |map es=>
  simp only[CA]at h
  split at h
  ·rename_i ds hd;cases h;have:=L5 (f':=fun e:V×V=>match BV (s.emb σ pre) e.1,BV (s.emb σ pre) e.2 with
    |some a,some b=>some (a,b)
    | _,_=>none) (a:=fun p:V×V=>(p.1.ren σ pre.length,p.2.ren σ pre.length)) (b:=fun p:V×V=>(p.1.ren σ pre.length,p.2.ren σ pre.length)) (fun x y h=>by
     split at h
     ·rename_i a b h1 h2;cases h;simp[KY h1,KY h2]
     ·cases h) hd
   simp[CA,AX.ren,this]
  ·cases h
 |loop fr ps asg body N st=>simp only[CA,bb.injEq]at h;subst h;rfl
 |dead=>simp only[CA,bb.injEq]at h;subst h;rfl
theorem mI(r:AX):(CC s r).ren σ pre.length=r.ren σ pre.length\/(CC s r).ren σ pre.length=HG (s.emb σ pre) (r.ren σ pre.length):=by
 unfold CC;split
 ·rename_i r' h;rcases Z0 (K5 (σ:=σ) (pre:=pre) h)with h'|h'
  ·exact .inl h'
  ·exact .inr h'
 ·exact .inl rfl
def AJ(s:St)(L:AA):AA:=L.map fun p=>(p.1,p.2.1,CC s p.2.2)
theorem M2(s:St):∀(L:AA) (k:Nat),(AJ s L).get k=(L.get k).map fun p=>(p.1,CC s p.2)
 |[],k=>rfl
 |(j,x)::L,k=>by
  have:=M2 s L k;simp only[AJ,bm,AA.get]at this|-;split
  ·rfl
  ·exact this
theorem qE{rv:ResultVar}{v:V}(h:CX P fr s rv=some v):CX P (fr.ren σ pre.length) (s.emb σ pre) rv=some (v.ren σ pre.length):=by
 cases rv with
 |tmp t=>
  simp only[CX]at h|-
  split at h
  ·rename_i e;cases h;simp[Fr.get_ren,e]
  ·cases h
 |cell ad T=>
  simp only[CX]at h|-
  split at h
  ·rename_i p e;obtain⟨cs,h1,h2⟩:=bk.1 h;simp[Fr.get_ren,e,VS h1,dT h2]
  ·cases h
theorem OJ{rs:List ResultVar}{v:V}(h:FV P rs fr s=some v):FV P rs (fr.ren σ pre.length) (s.emb σ pre)=some (v.ren σ pre.length):=by
 have key:∀{rs:List ResultVar} {vs:List V},rs.mapM (CX P fr s)=some vs->rs.mapM (CX P (fr.ren σ pre.length) (s.emb σ pre))=some (vs.map (V.ren σ pre.length)):=by
  intro rs;induction rs with
  |nil=>intro vs e;simp at e;subst e;rfl
  |cons x l ih=>
   intro vs e
   simp only[cj,bn,bk,cw,bb.injEq]at e
   obtain⟨y,h1,ys,h2,rfl⟩:=e
   simp[qE h1,ih h2]
 unfold FV at h|-;split at h
 ·rename_i x e;cases h;rw[key e];rfl
 ·rename_i vs hne e;cases h;rw[key e];cases vs with
  |nil=>simp
  |cons a r=>
   cases r with
   |nil=>exact absurd rfl (hne a)
   |cons b r=>simp
 ·cases h
theorem PE:∀(i:Nat) (vs:List V),AD i (vs.map (V.ren σ δ))=(AD i vs).ren σ δ
 |_,[]=>rfl
 |i,v::vs=>by simp[AD,Fr.ren,PE (i+1) vs]
end Go.Pg
