/- Names and levels turned into others: what the operations give turns with them. No program in sight. -/
import Derived.Test.YtmnlpgjklibndaaGreatP4
noncomputable section
open Go renaming TypeId->cg,Operand->cm
open Option renaming map_eq_some_iff->bj,bind_eq_some_iff->bq,map_some->bw,some->bf,map_none->bp,bind_eq_bind->bt,pure_def->cz
open List renaming map_congr_left->bx,map_drop->bz,map_take->bc,length_map->bg,getElem?_map->bh,map_cons->br,map_map->cj,mapM_cons->ck,all_map->cq,sizeOf_lt_of_mem->cx,map->cd
open Nat renaming add_assoc->bn
namespace Go.Pg
variable {P:Program}
variable {σ σ':Nat->Nat}{δ:Nat}
theorem NL:∀(l:List V),XT σ δ l=l.map (V.ren σ δ)
 |[]=>by simp[XT]
 |v::r=>by simp[XT,NL r]
theorem eT:∀(l:List (List V)),eH σ δ l=l.map (cd (V.ren σ δ))
 |[]=>by simp[eH]
 |v::r=>by simp[eH,NL,eT r]
@[simp] theorem DN(k:IntKind)(n:Int):(V.int k n).ren σ δ=.int k n:=by simp[V.ren]
@[simp] theorem J0(b:Bool):(V.bool b).ren σ δ=.bool b:=by simp[V.ren]
@[simp] theorem AC6(v:Value):(V.raw v).ren σ δ=.raw v:=by simp[V.ren]
@[simp] theorem EN(cs:List V):(V.agg cs).ren σ δ=.agg (cs.map (V.ren σ δ)):=by simp[V.ren,NL]
@[simp] theorem GC(cs:List V):(V.tup cs).ren σ δ=.tup (cs.map (V.ren σ δ)):=by simp[V.ren,NL]
@[simp] theorem DH(f:Bool)(es:List (List V)):(V.list f es).ren σ δ=.list f (es.map (cd (V.ren σ δ))):=by simp[V.ren,eT]
@[simp] theorem JG(cs:List V):(V.ref cs).ren σ δ=.ref (cs.map (V.ren σ δ)):=by simp[V.ren,NL]
@[simp] theorem GD(l k g off:Nat):(V.ptr l k g off).ren σ δ=.ptr (l+δ) k (σ g) off:=by simp[V.ren]
@[simp] theorem MH(l k g i off:Nat):(V.eptr l k g i off).ren σ δ=.eptr (l+δ) k (σ g) i off:=by simp[V.ren]
@[simp] theorem GF(l k g n:Nat):(V.vec l k g n).ren σ δ=.vec (l+δ) k (σ g) n:=by simp[V.ren]
@[simp] theorem KX(l k g:Nat):(V.mp l k g).ren σ δ=.mp (l+δ) k (σ g):=by simp[V.ren]
@[simp] theorem KY(f:FuncId)(xs ys:List V):(V.fn f xs ys).ren σ δ=.fn f (xs.map (V.ren σ δ)) (ys.map (V.ren σ δ)):=by simp[V.ren,NL]
@[simp] theorem aR(l k g:Nat):(V.yld l k g).ren σ δ=.yld (l+δ) k (σ g):=by simp[V.ren]
@[simp] theorem nQ:V.nil.ren σ δ=.nil:=by simp[V.ren]
@[simp] theorem A0Y:V.any.ren σ δ=.any:=by simp[V.ren]
@[simp] theorem VW(d:List V):(V.memo d).ren σ δ=.memo d:=by simp[V.ren]
@[simp] theorem T7(l k g i n:Nat):(V.vtl l k g i n).ren σ δ=.vtl (l+δ) k (σ g) i n:=by simp[V.ren]
theorem KZ{σ':Nat->Nat}{δ':Nat}:∀(v:V),(v.ren σ δ).ren σ' δ'=v.ren (fun γ=>σ' (σ γ)) (δ+δ')
 |.agg cs=>by simp only[EN,cj];congr 1;exact bx fun v _=>KZ v
 |.tup cs=>by simp only[GC,cj];congr 1;exact bx fun v _=>KZ v
 |.ref cs=>by simp only[JG,cj];congr 1;exact bx fun v _=>KZ v
 |.list b es=>by
  simp only[DH,cj];congr 1;refine bx fun e he=>?_;have hlt:=cx he;simp only[Function.comp,cj];exact bx fun v hv=>by have hlt2:=cx hv;exact KZ v
 |.fn f xs ys=>by
  simp only[KY,cj];congr 1
  ·exact bx fun v _=>KZ v
  ·exact bx fun v _=>KZ v
 |.int k n=>by simp
 |.bool b=>by simp
 |.raw v=>by simp
 |.ptr l k g off=>by simp[bn]
 |.eptr l k g i off=>by simp[bn]
 |.vec l k g n=>by simp[bn]
 |.mp l k g=>by simp[bn]
 |.yld l k g=>by simp[bn]
 |.nil=>by simp
 |.vtl l k g i n=>by simp[bn]
 |.any=>by simp
 |.memo d=>by simp
decreasing_by all_goals first|(simp_wf;omega)|decreasing_tactic
def AY.ren(σ:Nat->Nat)(δ:Nat):AY->AY
 |.box cs=>.box (cs.map (V.ren σ δ))
 |.vec T es=>.vec T (es.map (cd (V.ren σ δ)))
 |.map es=>.map (es.map fun p=>(p.1.ren σ δ,p.2.ren σ δ))
 |.loop fr ps asg body N st=>.loop (fr.map fun p=>(p.1,p.2.1,p.2.2.ren σ δ)) ps asg body N st
 |.dead=>.dead
def AB.ren(σ:Nat->Nat)(δ:Nat)(L:AB):AB:=L.map fun p=>(p.1,σ p.2.1,p.2.2.ren σ δ)
def Fr.ren(σ:Nat->Nat)(δ:Nat)(fr:Fr):Fr:=fr.map fun p=>(p.1,p.2.1,p.2.2.ren σ δ)
def St.emb(σ:Nat->Nat)(pre:List AB)(s:St):St:=⟨pre++s.up.map (AB.ren σ pre.length),s.loc.ren σ pre.length⟩
theorem Fr.get_ren:∀(fr:Fr) (k:Nat),(fr.ren σ δ).get k=(fr.get k).map fun p=>(p.1,p.2.ren σ δ)
 |[],k=>rfl
 |(j,x)::fr,k=>by
  have:=Fr.get_ren fr k;simp only[Fr.ren,br,Fr.get]at this|-;split
  ·rfl
  ·exact this
theorem AB.get_ren:∀(L:AB) (k:Nat),(L.ren σ δ).get k=(L.get k).map fun p=>(σ p.1,p.2.ren σ δ)
 |[],k=>rfl
 |(j,x)::L,k=>by
  have:=AB.get_ren L k;simp only[AB.ren,br,AB.get]at this|-;split
  ·rfl
  ·exact this
variable {pre:List AB}{s:St}
theorem CM:(s.emb σ pre).up.length=s.up.length+pre.length:=by simp[St.emb,Nat.add_comm]
theorem BL(l k:Nat):(s.emb σ pre).get (l+pre.length) k=(s.get l k).map fun p=>(σ p.1,p.2.ren σ pre.length):=by
 unfold St.get;rw[CM];by_cases h:l=s.up.length
 ·rw[if_pos h,if_pos (by rw[h])];exact AB.get_ren _ _
 ·rw[if_neg h,if_neg (by omega)];simp only[St.emb];rw[List.getElem?_append_right (by omega),Nat.add_sub_cancel,bh];cases s.up[l]? with
  |none=>rfl
  |some L=>simp[AB.get_ren]
theorem VX{α:Type}(f:α->α)(M:List α)(l:Nat):∀(pre:List α),(pre++M).modify (l+pre.length) f=pre++M.modify l f
 |[]=>rfl
 |p::pre=>by have:=VX f M l pre;simp only[List.cons_append,List.length_cons,<-bn,List.modify_succ_cons,this]
theorem B7{l k g:Nat}{r:AY}:(s.put l k g r).emb σ pre=(s.emb σ pre).put (l+pre.length) k (σ g) (r.ren σ pre.length):=by
 unfold St.put;rw[CM];by_cases h:l=s.up.length
 ·rw[if_pos h,if_pos (by rw[h])];simp[St.emb,AB.ren,AB.put]
 ·rw[if_neg h,if_neg (by omega)];simp only[St.emb,St.mk.injEq,and_true];rw[VX];congr 1;refine List.ext_getElem? fun i=>?_;simp only[bh,List.getElem?_modify];by_cases hi:l=i
  ·subst hi;cases s.up[l]? with
   |none=>rfl
   |some L=>simp[AB.ren,AB.put]
  ·simp[hi]
theorem O3{u:Value}{v:V}(h:B4 u=some v):v.ren σ δ=v:=by
 cases u with
 |int k n=>simp only[B4,bf.injEq]at h;subst h;simp
 |bool b=>simp only[B4,bf.injEq]at h;subst h;simp
 |agg cs=>simp[B4]at h
 |tuple cs=>simp[B4]at h
 |slice a n c=>
  unfold B4 at h
  split at h<;>simp_all<;>subst h<;>simp
 |_=>simp only[B4,bf.injEq]at h;subst h;simp
theorem O4:∀{l:List Value} {cs:List V},FL l=some cs->cs.map (V.ren σ δ)=cs
 |[],cs,h=>by simp[FL]at h;subst h;rfl
 |v::r,cs,h=>by
  unfold FL at h;split at h
  ·rename_i x l h1 h2;cases h;simp[O3 h1,O4 h2]
  ·cases h
end Go.Pg
namespace Go.Pg
variable {P:Program}{σ:Nat->Nat}{δ:Nat}{pre:List AB}{s:St}{fr:Fr}{g:Bool}
theorem xF(x:cm):rd (fr.ren σ δ) x=(rd fr x).map fun p=>(p.1,p.2.ren σ δ):=by
 cases x with
 |tmp t=>exact Fr.get_ren fr t
 |const u=>
  simp only[rd]
  cases h:B4 u with
  |none=>rfl
  |some v=>simp[O3 h]
 |func f=>simp[rd]
 |global g=>rfl
theorem CN(x:cm):DA g (fr.ren σ δ) x=(DA g fr x).map (V.ren σ δ):=by
 unfold DA;rw[xF];cases rd fr x with
 |none=>rfl
 |some p=>
  obtain⟨c,v⟩:=p
  simp only[bw]
  split<;>rfl
theorem G6(v:V):BC (v.ren σ δ)=BC v:=by cases v<;>simp[BC]
theorem DT(v:V):A7 (v.ren σ δ)=(A7 v).map (V.ren σ δ):=by cases v<;>simp[A7]
theorem rM(v:V):weakC (v.ren σ δ)=(weakC v).ren σ δ:=by cases v<;>simp[weakC]
theorem RN(v:V):weakV (v.ren σ δ)=(weakV v).ren σ δ:=by cases v<;>simp[weakV,rM]
theorem SP{p:V}{cs:List V}(h:A8 s p=some cs):A8 (s.emb σ pre) (p.ren σ pre.length)=some (cs.map (V.ren σ pre.length)):=by
 cases p with
 |ref ds=>simp only[A8,bf.injEq]at h;subst h;simp[A8]
 |ptr l k γ off=>
  simp only[A8]at h
  split at h
  ·rename_i γ' ds e;split at h
   ·rename_i eg;cases h;simp[A8,BL,e,AY.ren,eg,bz]
   ·cases h
  ·cases h
 |eptr l k γ i off=>
  simp only[A8]at h
  split at h
  ·rename_i γ' T es e;split at h
   ·rename_i eg;obtain⟨x,hx,rfl⟩:=bj.1 h;simp[A8,BL,e,AY.ren,eg,hx,bz]
   ·cases h
  ·cases h
 |_=>cases h
theorem YT{T:cg}{cs:List V}{v:V}(h:BJ P T cs=some v):BJ P T (cs.map (V.ren σ δ))=some (v.ren σ δ):=by
 unfold BJ at h|-;split at h
 ·split at h
  ·rename_i hc;cases h;simp[hc,bc]
  ·cases h
 ·split at h
  ·rename_i hc;cases h;simp[hc,bc]
  ·cases h
 ·simp only[bh,h,bw]
 ·cases h
theorem YU{U:cg}{cs:List V}{off:Nat}{v:V}(h:LI P U cs off=some v):LI P U (cs.map (V.ren σ δ)) off=some (v.ren σ δ):=by
 unfold LI at h|-;split at h
 ·split at h
  ·rename_i hc;cases h;simp[hc,bc,bz]
  ·cases h
 ·split at h
  ·rename_i hc;cases h;simp[hc,bc,bz]
  ·cases h
 ·simp only[bh,h,bw]
 ·cases h
theorem eU{T:cg}{x v:V}{f:Nat}(h:H3 P T x f=some v):H3 P T (x.ren σ δ) f=some (v.ren σ δ):=by
 unfold H3 at h;split at h
 ·rename_i cs U off e;simp[H3,e,YU h]
 ·cases h
theorem TA{T:cg}{x v:V}{f:Nat}(h:CQ P T x f=some v):CQ P T (x.ren σ δ) f=some (v.ren σ δ):=by
 unfold CQ at h;split at h
 ·rename_i U off e;split at h
  ·cases h
  ·rename_i hz;split at h<;>first
    |(cases h;done)
    |(cases h;simp[CQ,e,hz,bz])
 ·cases h
theorem D9(es:List (List V))(j:Nat):(es.map (cd (V.ren σ δ))).getD j []=(es.getD j []).map (V.ren σ δ):=by simp only[List.getD_eq_getElem?_getD,bh];cases es[j]?<;>rfl
theorem TB{T:cg}{x i v:V}(h:BG P s T x i=some v):BG P (s.emb σ pre) T (x.ren σ pre.length) (i.ren σ pre.length)=some (v.ren σ pre.length):=by
 unfold BG at h;split at h
 ·rename_i e f es k j e1;split at h
  ·rename_i hc;cases h;obtain⟨c1,c2,c3,c4⟩:=hc;simp only[DH,DN,BG,e1,bg,D9,JG];rw[if_pos ⟨c1,c2,c3,c4⟩]
  ·cases h
 ·rename_i e l k γ n k' j e1;split at h
  ·rename_i γ' U es e2;split at h
   ·rename_i hc;cases h;obtain⟨c1,c2,c3,c4,c5,c6⟩:=hc;subst c1;simp only[GF,DN,BG,e1,BL,e2,bw,AY.ren,bg,D9,MH];rw[if_pos ⟨trivial,c2,c3,c4,c5,c6⟩]
   ·cases h
  ·cases h
 ·rename_i n e cs k j e1;split at h
  ·rename_i hc;cases h;simp only[JG,DN,BG,e1,if_pos hc,bz]
  ·cases h
 ·rename_i n e l k γ o k' j e1;split at h
  ·rename_i hc;cases h;simp only[GD,DN,BG,e1,if_pos hc]
  ·cases h
 ·rename_i n e l k γ i' o k' j e1;split at h
  ·rename_i hc;cases h;simp only[MH,DN,BG,e1,if_pos hc]
  ·cases h
 ·cases h
theorem eV{T:cg}{x i v:V}(h:FH P T x i=some v):FH P T (x.ren σ δ) (i.ren σ δ)=some (v.ren σ δ):=by
 unfold FH at h;split at h
 ·rename_i n e cs k j e1;split at h
  ·rename_i hc;simp only[EN,DN,FH,e1,if_pos hc,YU h]
  ·cases h
 ·rename_i b k j e1;split at h
  ·rename_i hc;obtain⟨c,hb,rfl⟩:=bj.1 h;simp only[AC6,DN,FH,e1,if_pos hc,hb,bw]
  ·cases h
 ·cases h
theorem jS{S D:cg}{x v:V}(h:OW P S D x=some v):OW P S D (x.ren σ δ)=some (v.ren σ δ):=by
 unfold OW at h;split at h
 ·rename_i e1 e2;cases h;simp[OW,e1,e2]
 ·cases h
theorem xG{op:UnOp}{x v:V}(h:XM op x=some v):XM op (x.ren σ δ)=some (v.ren σ δ):=by unfold XM at h;split at h<;>first|(cases h;done)|(cases h;simp[XM])
theorem rN{x v:V}(h:LJ x=some v):LJ (x.ren σ δ)=some (v.ren σ δ):=by cases x<;>simp[LJ]at h<;>subst h<;>simp[LJ]
theorem XV{x v:V}{i:Nat}(h:E0 x i=some v):E0 (x.ren σ δ) i=some (v.ren σ δ):=by cases x<;>simp[E0]at h;simp[E0,h]
theorem rO{T:cg}{x v:V}(h:GQ P T x=some v):GQ P T (x.ren σ δ)=some (v.ren σ δ):=by
 unfold GQ at h;split at h
 ·rename_i e f es hu;cases h;simp[GQ,hu]
 ·rename_i e l k g n hu;cases h;simp[GQ,hu]
 ·rename_i e hu;cases h;simp[GQ,hu]
 ·rename_i n e hu;cases h;unfold GQ;rw[hu];simp
 ·cases h
theorem AC7{n m:Nat}{h:Option V}(e:hiN n h=some m):hiN n (h.map (V.ren σ δ))=some m:=by
 cases h with
 |none=>exact e
 |some a=>cases a<;>first|(simp only[bw,DN];exact e)|(simp[hiN]at e)
theorem eW{T:cg}{x v:V}{lo hi mx:Option V}(h:CI P s T x lo hi mx=some v):CI P (s.emb σ pre) T (x.ren σ pre.length) (lo.map (V.ren σ pre.length)) (hi.map (V.ren σ pre.length)) (mx.map (V.ren σ pre.length))=some (v.ren σ pre.length):=by
 unfold CI at h;split at h
 ·rename_i e f es k h' e1;split at h
  ·rename_i hc;cases h;simp only[DH,bw,DN,bp,CI,e1,bg,if_pos hc,bc]
  ·cases h
 ·rename_i e f es k l e1;split at h
  ·rename_i hc;cases h;have:(es.map (cd (V.ren σ pre.length))).all (fun x=>x.length==P.cellsOf e)=true:=by rw[cq];exact hc.2.2.2▸(by congr 1;funext x;simp)
   simp only[DH,bw,DN,bp,CI,e1,bg,if_pos (⟨hc.1,hc.2.1,hc.2.2.1,this⟩:_/\_/\_/\_),bz]
  ·cases h
 ·rename_i e f es k l k' h' e1;split at h
  ·rename_i hc;cases h;have:(es.map (cd (V.ren σ pre.length))).all (fun x=>x.length==P.cellsOf e)=true:=by rw[cq];exact hc.2.2.2.2▸(by congr 1;funext x;simp)
   simp only[DH,bw,DN,bp,CI,e1,bg,if_pos (⟨hc.1,hc.2.1,hc.2.2.1,hc.2.2.2.1,this⟩:_/\_/\_/\_/\_),bz,bc]
  ·cases h
 ·rename_i e f es k h' k' m e1;split at h
  ·rename_i hc;cases h;simp only[DH,bw,DN,bp,CI,e1,if_pos hc,List.map_nil]
  ·cases h
 ·rename_i e l k g n k' h' e1;split at h
  ·rename_i hc;cases h;simp only[GF,bw,DN,bp,CI,e1,if_pos hc]
  ·cases h
 ·rename_i e l k g n k' i e1;split at h
  ·rename_i g' T' es hget;split at h
   ·rename_i hc;obtain⟨rfl,h1,h2,h3,h4,h5⟩:=hc;cases h;have:(es.map (cd (V.ren σ pre.length))).all (fun x=>x.length==P.cellsOf e)=true:=by rw[cq];exact h1▸(by congr 1;funext x;simp)
    simp only[GF,T7,bw,DN,bp,CI,e1,BL,hget,AY.ren];rw[if_pos ⟨trivial,this,by simpa using h2,h3,h4,h5⟩]
   ·cases h
  ·cases h
 ·rename_i n e l k g o e1;split at h
  ·rename_i g' cs m hget hm;split at h
   ·rename_i hc;obtain⟨rfl,h1,h2⟩:=hc;cases h;simp only[GD,T7,bp,CI,e1,BL,hget,AY.ren,bw,AC7 hm];rw[if_pos ⟨trivial,h1,by simpa using h2⟩]
   ·cases h
  ·cases h
 ·cases h
theorem rP{x y v:V}(h:PW x y=some v):PW (x.ren σ δ) (y.ren σ δ)=some (v.ren σ δ):=by
 unfold PW at h;split at h
 ·split at h
  ·rename_i hk;cases h;simp[PW,hk]
  ·cases h
 ·cases h
theorem rQ{x y v:V}(h:PX x y=some v):PX (x.ren σ δ) (y.ren σ δ)=some (v.ren σ δ):=by
 unfold PX at h;split at h
 ·split at h
  ·rename_i hk;cases h;simp[PX,hk]
  ·cases h
 ·cases h
theorem rR{op:BinOp}{k:IntKind}{a b:Int}{v:V}(h:DX op k a b=some v):v.ren σ δ=v:=by
 unfold DX at h;split at h<;>first
  |(cases h;simp;done)
  |(split at h<;>first|(cases h;done)|(cases h;simp;done))
  |(obtain⟨r,_,rfl⟩:=bj.1 h;simp)
theorem K0:∀(cs:List V),DC (cs.map (V.ren σ δ))=DC cs
 |[]=>rfl
 |c::cs=>by have ih:=K0 cs;cases c<;>simp[DC,ih]
theorem xH{op:BinOp}{k:IntKind}{a b:Int}{v:V}(h:XL op k a b=some v):v.ren σ δ=v:=by
 cases op<;>simp only[XL]at h;case shl=>split at h<;>cases h;simp
 case shr=>split at h<;>cases h;simp
 all_goals cases h
theorem rS{op:BinOp}{T:cg}{x y v:V}(h:FQ P op T x y=some v):FQ P op T (x.ren σ δ) (y.ren σ δ)=some (v.ren σ δ):=by
 unfold FQ at h;split at h
 ·split at h
  ·rename_i hk;simp only[DN,FQ,if_pos hk,h,rR h]
  ·rename_i hk;simp only[DN,FQ,if_neg hk,h,xH h]
 ·split at h
  ·rename_i hk;have hv:v.ren σ δ=v:=by split at h<;>first|(cases h;done)|(cases h;simp)
   rw[hv];simp only[J0,FQ,if_pos hk];exact h
  ·cases h
 ·rename_i cs ds;have he:OV P T (cs.map (V.ren σ δ)) (ds.map (V.ren σ δ))=OV P T cs ds:=by unfold OV;rw[K0,K0]
  have hv:v.ren σ δ=v:=by
   split at h
   ·obtain⟨r,_,rfl⟩:=bj.1 h;simp
   ·obtain⟨r,_,rfl⟩:=bj.1 h;simp
   ·cases h
  rw[hv];simp only[EN,FQ,he];exact h
 ·rename_i x' _;have hi:GZ (x.ren σ δ)=GZ x:=by
   cases x with
   |list f es=>cases es<;>simp[GZ]
   |vec l k g n=>cases n<;>simp[GZ]
   |vtl l k g i n=>cases n<;>simp[GZ]
   |_=>simp[GZ]
  have hb:∀y:V,FQ P op T y .nil=if DP P T then(match op with
   |.eql=>(GZ y).map V.bool
   |.neq=>(GZ y).map fun b=>V.bool !b
   | _=>none) else none:=fun y=>by cases y <;> rfl
  have hv:v.ren σ δ=v:=by
   split at h
   ·split at h
    ·obtain⟨r,_,rfl⟩:=bj.1 h;simp
    ·obtain⟨r,_,rfl⟩:=bj.1 h;simp
    ·cases h
   ·cases h
  rw[hv,nQ,hb,hi];exact h
 ·cases h
theorem RO:∀{cs:List V} {l:List Value},DC cs=some l->cs.map (V.ren σ δ)=cs
 |[],_,_=>rfl
 |c::cs,l,h=>by
  cases c with
  |int k n=>
   simp only[DC]at h
   split at h
   ·rename_i r hr;simp[RO hr]
   ·cases h
  |bool b=>
   simp only[DC]at h
   split at h
   ·rename_i r hr;simp[RO hr]
   ·cases h
  |_=>simp[DC]at h
theorem VY{K:cg}(v:V):PV P K (v.ren σ δ)=PV P K v:=by
 cases v with
 |agg cs=>
  simp only[EN,PV,K0]
  split
  ·rename_i l hl;rw[RO hl]
  ·rfl
 |_=>simp[PV]
theorem RP{K:cg}{ks:List V}:∀(es:List (V×V)) (i:Nat),IC P K ks (es.map fun p=>(p.1.ren σ δ,p.2.ren σ δ)) i=IC P K ks es i
 |[],_=>rfl
 |(k,v)::es,i=>by simp only[br,IC,VY,RP es]
theorem jT{T:cg}{z:V}(h:OX P T=some z):z.ren σ δ=z:=by
 unfold OX at h;split at h
 ·split at h
  ·rename_i cs hz;cases h;simp[O4 hz]
  ·cases h
 ·exact O3 h
 ·cases h
theorem aS{T:cg}{x k v:V}{ok:Bool}(h:CG P s T x k ok=some v):CG P (s.emb σ pre) T (x.ren σ pre.length) (k.ren σ pre.length) ok=some (v.ren σ pre.length):=by
 unfold CG at h;split at h
 ·rename_i K E l q g hm;split at h
  ·rename_i g' es hget;split at h
   ·rename_i hc;obtain⟨rfl,hT⟩:=hc;split at h
    ·rename_i ks hks;simp only[KX,CG,hm,BL,hget,bw,AY.ren,VY,hks,RP,if_pos (⟨trivial,hT⟩:True/\_)];split at h
     ·rename_i hf;obtain⟨z,hz,rfl⟩:=bj.1 h;simp only[hz,bw];cases ok<;>simp[jT hz]
     ·rename_i i hf;obtain⟨e,he,rfl⟩:=bj.1 h;simp only[bh,he,bw];cases ok<;>simp
     ·cases h
    ·cases h
   ·cases h
  ·cases h
 ·cases h
theorem RQ{T:cg}{x k v:V}{l q γ:Nat}{es:List (V×V)}(h:ID P s T x k v=some (l,q,γ,es)):ID P (s.emb σ pre) T (x.ren σ pre.length) (k.ren σ pre.length) (v.ren σ pre.length)=some (l+pre.length,q,σ γ,es.map fun p=>(p.1.ren σ pre.length,p.2.ren σ pre.length)):=by
 unfold ID at h;split at h
 ·rename_i K E l q g hm;split at h
  ·rename_i g' es hget;split at h
   ·rename_i hc;obtain⟨rfl,hT⟩:=hc;split at h
    ·rename_i ks hks;simp only[KX,ID,hm,BL,hget,bw,AY.ren,VY,hks,RP,if_pos (⟨trivial,hT⟩:True/\_)];split at h
     ·rename_i hf;cases h;simp
     ·rename_i i hf;cases h;simp[List.map_set]
     ·cases h
    ·cases h
   ·cases h
  ·cases h
 ·cases h
theorem GG{r:cm->Option V}:∀{l:List cm} {vs:List V},l.mapM r=some vs->l.mapM (fun x=>(r x).map (V.ren σ δ))=some (vs.map (V.ren σ δ))
 |[],vs,h=>by simp at h;subst h;rfl
 |x::l,vs,h=>by simp only[ck,bt,bq,cz,bf.injEq]at h;obtain⟨v,h1,us,h2,rfl⟩:=h;simp[h1,GG h2]
theorem AC8{o:Oper}{r:cm->Option V}{v:V}(h:H1 P o s r=some v):H1 P o (s.emb σ pre) (fun x=>(r x).map (V.ren σ pre.length))=some (v.ren σ pre.length):=by
 unfold H1 at h|-;split at h<;>(try simp only[bq]at h);case h_1=>simp[h]
 case h_2=>simp[h]
 case h_3=>obtain⟨a,h1,h2⟩:=h;simp[h1,rN h2]
 case h_4=>obtain⟨a,h1,b,h2,h3⟩:=h;simp[h1,SP h2,YT h3]
 case h_5=>obtain⟨a,h1,b,h2,h3⟩:=h;simp[h1,h2,rS h3]
 case h_6=>obtain⟨a,h1,h2⟩:=h;simp[h1,xG h2]
 case h_7=>obtain⟨a,h1,h2⟩:=h;simp[h1,jS h2]
 case h_8=>obtain⟨a,h1,h2⟩:=h;simp[h1,TA h2]
 case h_9=>obtain⟨a,h1,h2⟩:=h;simp[h1,eU h2]
 case h_10=>obtain⟨a,h1,b,h2,h3⟩:=h;simp[h1,h2,TB h3]
 case h_11=>obtain⟨a,h1,b,h2,h3⟩:=h;simp[h1,h2,eV h3]
 case h_12=>obtain⟨a,h1,h2⟩:=h;simp[h1,XV h2]
 case h_13=>
  split at h
  ·rename_i e1 e2;simp only[bq]at h;obtain⟨a,h1,h2⟩:=h;simp[h1,rO h2]
  ·cases h
 case h_14=>
  split at h
  ·simp only[bq]at h;obtain⟨a,h1,b,h2,h3⟩:=h;simp[h1,h2,rP h3]
  ·cases h
 case h_15=>
  split at h
  ·simp only[bq]at h;obtain⟨a,h1,b,h2,h3⟩:=h;simp[h1,h2,rQ h3]
  ·cases h
 case h_16 T x lo hi mx ho=>
  obtain⟨a,h1,l,h2,u,h3,m,h4,h5⟩:=h
  have key:∀(z:Option cm) (q:Option V),(match z with|none=>some none|some y=>(r y).map some)=some q->(z=none/\q=none)\/∃y b,z=some y/\r y=some b/\q=some b:=by
   intro z q hz;cases z with
   |none=>cases hz;exact .inl ⟨rfl,rfl⟩
   |some y=>
    obtain⟨b,hb,rfl⟩:=bj.1 hz
    exact .inr ⟨y,b,rfl,hb,rfl⟩
  have h6:=eW (σ:=σ) (pre:=pre) h5
  rcases key lo l h2 with⟨rfl,rfl⟩|⟨y1,b1,rfl,q1,rfl⟩<;>rcases key hi u h3 with⟨rfl,rfl⟩|⟨y2,b2,rfl,q2,rfl⟩<;>rcases key mx m h4 with⟨rfl,rfl⟩|⟨y3,b3,rfl,q3,rfl⟩<;>simp_all
 case h_17=>obtain⟨a,h1,b,h2,h3⟩:=h;simp[h1,h2,aS h3]
 case h_18 f first captured ho=>
  obtain⟨a,h1,b,h2,h3⟩:=h
  cases h3
  simp[GG h1,GG h2]
 case h_19=>cases h
end Go.Pg
namespace Go.Pg
variable {P:Program}{σ:Nat->Nat}{δ:Nat}{pre:List AB}{s:St}{fr:Fr}{g:Bool}
theorem FT{T:cg}{z:List V}(h:B8 P T=some z):z.map (V.ren σ δ)=z:=by
 unfold B8 at h;split at h
 ·exact O4 h
 ·cases h
theorem CR{α β:Type}(f:α->β)(cs ds:List α)(off:Nat):AZ (cs.map f) off (ds.map f)=(AZ cs off ds).map f:=by simp[AZ,bc,bz]
theorem NM{place:Nat->Option (Nat×Nat)}:∀{ps:List (Nat×V)} {cs ds:List V},CW place cs ps=some ds->CW place (cs.map (V.ren σ δ)) (ps.map fun p=>(p.1,p.2.ren σ δ))=some (ds.map (V.ren σ δ))
 |[],cs,ds,h=>by simp[CW]at h;subst h;rfl
 |(i,v)::r,cs,ds,h=>by
  simp only[CW]at h;split at h
  ·cases h
  ·rename_i off size e;split at h
   ·rename_i hc;have:=NM h;simp only[br,CW,e,DT,bg];rw[if_pos hc,CR];exact this
   ·cases h
theorem K1(ps:List (Nat×V)):((ps.map fun p=>(p.1,p.2.ren σ δ)).all fun p=>BC p.2)=ps.all fun p=>BC p.2:=by rw[cq];congr 1;funext p;exact G6 p.2
theorem eX{T:cg}{ps:List (Nat×V)}{v:V}(h:CJ P T ps=some v):CJ P T (ps.map fun p=>(p.1,p.2.ren σ δ))=some (v.ren σ δ):=by
 unfold CJ at h|-;split at h
 ·rename_i z fs e1 e2;simp only[K1];split at h
  ·rename_i hc;obtain⟨cs,h1,rfl⟩:=bj.1 h;have:=NM (σ:=σ) (δ:=δ) h1;rw[FT e1]at this;rw[if_pos hc,this];simp
  ·cases h
 ·rename_i z n e e1 e2;simp only[K1];split at h
  ·rename_i hc;obtain⟨cs,h1,rfl⟩:=bj.1 h;have:=NM (σ:=σ) (δ:=δ) h1;rw[FT e1]at this;rw[if_pos hc,this];simp
  ·cases h
 ·cases h
theorem VZ{β:Type}(f:V->V)(size:Nat):∀(n:Nat) (cs:List V),B5 size (cs.map f) n=(B5 size cs n).map (cd f)
 |0,_=>rfl
 |n+1,cs=>by simp only[B5,br,bc];rw[<-bz,VZ (β:=β) f size n]
theorem RR{T:cg}{len:Nat}{ps:List (Nat×V)}{v:V}(h:BR P T len ps=some v):BR P T len (ps.map fun p=>(p.1,p.2.ren σ δ))=some (v.ren σ δ):=by
 unfold BR at h|-;split at h
 ·rename_i e e1;split at h
  ·rename_i z e2;split at h
   ·rename_i hc;obtain⟨cs,h1,rfl⟩:=bj.1 h;have:=NM (σ:=σ) (δ:=δ) h1;have hz:(List.replicate len z).flatten.map (V.ren σ δ)=(List.replicate len z).flatten:=by rw[List.map_flatten,List.map_replicate,FT e2]
    rw[hz]at this;simp only[K1];rw[if_pos hc,this];simp[VZ (β:=Nat)]
   ·cases h
  ·cases h
 ·cases h
theorem O5{r:cm->Option V}:∀{l:List (Nat×cm)} {ps:List (Nat×V)},CT r l=some ps->CT (fun x=>(r x).map (V.ren σ δ)) l=some (ps.map fun p=>(p.1,p.2.ren σ δ))
 |[],ps,h=>by simp[CT]at h;subst h;rfl
 |(i,x)::l,ps,h=>by
  simp only[CT]at h;split at h
  ·rename_i v us h1 h2;cases h;simp[CT,h1,O5 h2]
  ·cases h
theorem FU{v:V}{es:List (List V)}(h:elemsOf s v=some es):elemsOf (s.emb σ pre) (v.ren σ pre.length)=some (es.map (cd (V.ren σ pre.length))):=by
 cases v with
 |list f ds=>simp only[elemsOf,bf.injEq]at h;subst h;simp[elemsOf]
 |vec l k γ n=>
  simp only[elemsOf]at h
  split at h
  ·rename_i γ' T ds e;split at h
   ·rename_i hc;cases h;simp[elemsOf,BL,e,AY.ren,hc.1,hc.2,bc]
   ·cases h
  ·cases h
 |vtl l k γ i n=>
  simp only[elemsOf]at h
  split at h
  ·rename_i γ' cs e;split at h
   ·rename_i hc;cases h;simp[elemsOf,BL,e,AY.ren,hc.1,hc.2,bc,bz,Function.comp_def]
   ·cases h
  ·cases h
 |nil=>simp only[elemsOf,bf.injEq]at h;subst h;simp[elemsOf]
 |raw v=>cases v with
  |slice a n c=>cases n with
   |zero=>cases h;simp[elemsOf]
   |succ n=>cases h
  |_=>cases h
 |_=>cases h
theorem HE:DA g (fr.ren σ δ)=fun x=>(DA g fr x).map (V.ren σ δ):=by funext x;exact CN x
theorem jU{T:cg}{xv yv v:V}(h:L7 P T xv yv=some v):L7 P T (xv.ren σ δ) (yv.ren σ δ)=some (v.ren σ δ):=by
 unfold L7 at h;split at h
 ·rename_i e ys hel hy;split at h
  ·rename_i hc;cases h;have hr:AGA (yv.ren σ δ)=some (ys.map (cd (V.ren σ δ))):=by
    cases yv with
    |list b es=>cases hy;simp only[DH];rfl
    |nil=>cases hy;simp only[nQ];rfl
    |_=>cases hy
   unfold L7;simp only[hel,DH,List.map_nil,hr];rw[if_pos];refine⟨hc.1,?_,by rw[bg];exact hc.2.2.1,by rw[bg];exact hc.2.2.2⟩;rw[cq];have:=hc.2.1;simpa [Function.comp_def]using this
  ·cases h
 ·cases h
theorem xI{o:Oper}{args:Array cm}{Ts:Array cg}{v:V}(h:appS P g o args Ts fr=some v):appS P g o args Ts (fr.ren σ δ)=some (v.ren σ δ):=by
 unfold appS at h|-;split at h
 ·split at h
  ·rename_i hc;obtain⟨xv,h1,h⟩:=bq.1 h;obtain⟨yv,h2,h⟩:=bq.1 h;rw[if_pos hc,CN,h1,CN,h2];exact jU h
  ·cases h
 ·cases h
theorem HN{o:Oper}{v:V}(h:ES P g o fr s=some v):ES P g o (fr.ren σ pre.length) (s.emb σ pre)=some (v.ren σ pre.length):=by
 unfold ES at h|-;split at h
 ·rename_i c x y ho;split at h
  ·rename_i c' ca va cb vb e1 e2 e3;split at h
   ·rename_i hc;cases h;simp only[CN,xF,e1,e2,e3,bw,J0];rw[if_pos hc]
   ·cases h
  ·cases h
 ·rename_i T parts ho;obtain⟨ps,h1,h2⟩:=bq.1 h;rw[HE,O5 h1];exact eX h2
 ·rename_i T len parts ho;obtain⟨ps,h1,h2⟩:=bq.1 h;rw[HE,O5 h1];exact RR h2
 ·exact xI h
 ·rw[HE];exact AC8 h
def AV(s:St):Nat->V->Option V
 |0,_=>none
 |f+1,v=>match v with
  |.list _ es=>some (.list false es)
  | .vec l k g m=>if l=s.up.length then(match s.loc.get k with
    |some (g',.vec _ es)=>if g'=g/\m<=es.length then some (.list false (es.take m)) else none
    | _=>none) else some v
  | .ptr l k g off=>if l=s.up.length then(match s.loc.get k with
    |some (g',.box cs)=>if g'=g then(cs.mapM (AV s f)).map fun ds=>.ref (ds.drop off) else none
    | _=>none) else some v
  |.agg cs=>(cs.mapM (AV s f)).map .agg
  |.tup cs=>(cs.mapM (AV s f)).map .tup
  |.fn g xs ys=>match xs.mapM (AV s f),ys.mapM (AV s f)with
   |some a,some b=>some (.fn g a b)
   |_,_=>none
  |v=>some v
theorem FV{α β:Type}{f:α->Option β}{g:α->β}(h:∀x y,f x=some y->g x=y):∀{l:List α} {r:List β},l.mapM f=some r->l.map g=r
 |[],r,e=>by simp at e;subst e;rfl
 |x::l,r,e=>by simp only[ck,bt,bq,cz,bf.injEq]at e;obtain⟨y,h1,ys,h2,rfl⟩:=e;simp[h x y h1,FV h h2]
theorem MI:∀(f:Nat) {v r:V},AV s f v=some r->CZ s f v=r
 |0,v,r,h=>by cases h
 |f+1,v,r,h=>by
  have ih:=fun v r=>MI f (v:=v) (r:=r);cases v with
  |list b es=>simpa [AV,CZ]using h
  |vec l k g m=>
   simp only[AV]at h
   simp only[CZ]
   split at h
   ·rename_i hl;rw[if_pos hl];split at h
    ·rename_i g' T es e;split at h
     ·rename_i hc;rw[e];simp only[if_pos hc];exact bf.inj h
     ·cases h
    ·cases h
   ·rename_i hl;rw[if_neg hl];exact bf.inj h
  |ptr l k g off=>
   simp only[AV]at h
   simp only[CZ]
   split at h
   ·rename_i hl;rw[if_pos hl];split at h
    ·rename_i g' cs e;split at h
     ·rename_i hc;obtain⟨ds,h1,rfl⟩:=bj.1 h;rw[e];simp only[if_pos hc,FV ih h1]
     ·cases h
    ·cases h
   ·rename_i hl;rw[if_neg hl];exact bf.inj h
  |agg cs=>
   obtain⟨ds,h1,rfl⟩:=bj.1 h
   simp only[CZ,FV ih h1]
  |tup cs=>
   obtain⟨ds,h1,rfl⟩:=bj.1 h
   simp only[CZ,FV ih h1]
  |fn g xs ys=>
   simp only[AV]at h
   split at h
   ·rename_i a b h1 h2;cases h;simp only[CZ,FV ih h1,FV ih h2]
   ·cases h
  |_=>simpa [AV,CZ]using h
theorem E3{f f':V->Option V}(h:∀v r,f v=some r->f' (v.ren σ δ)=some (r.ren σ δ)):∀{l r:List V},l.mapM f=some r->(l.map (V.ren σ δ)).mapM f'=some (r.map (V.ren σ δ))
 |[],r,e=>by simp at e;subst e;rfl
 |x::l,r,e=>by simp only[ck,bt,bq,cz,bf.injEq]at e;obtain⟨y,h1,ys,h2,rfl⟩:=e;simp[h x y h1,E3 h h2]
theorem JH(k:Nat):(s.emb σ pre).loc.get k=(s.loc.get k).map fun p=>(σ p.1,p.2.ren σ pre.length):=AB.get_ren _ _
theorem II:∀(f:Nat) {v r:V},AV s f v=some r->AV (s.emb σ pre) f (v.ren σ pre.length)=some (r.ren σ pre.length)
 |0,v,r,h=>by cases h
 |f+1,v,r,h=>by
  have ih:=fun v r=>II f (v:=v) (r:=r);cases v with
  |list b es=>simp only[AV,bf.injEq]at h;subst h;simp[AV]
  |vec l k g m=>
   simp only[AV]at h
   split at h
   ·rename_i hl;split at h
    ·rename_i g' T es e;split at h
     ·rename_i hc;cases h;simp[AV,CM,JH,hl,e,AY.ren,hc.1,hc.2,bc]
     ·cases h
    ·cases h
   ·rename_i hl;cases h;have:¬l+pre.length=s.up.length+pre.length:=by omega
    simp[AV,CM,hl]
  |ptr l k g off=>
   simp only[AV]at h
   split at h
   ·rename_i hl;split at h
    ·rename_i g' cs e;split at h
     ·rename_i hc;obtain⟨ds,h1,rfl⟩:=bj.1 h;have:=E3 ih h1;simp[AV,CM,JH,hl,e,AY.ren,hc,this,bz]
     ·cases h
    ·cases h
   ·rename_i hl;cases h;simp[AV,CM,hl]
  |agg cs=>
   obtain⟨ds,h1,rfl⟩:=bj.1 h
   simp[AV,E3 ih h1]
  |tup cs=>
   obtain⟨ds,h1,rfl⟩:=bj.1 h
   simp[AV,E3 ih h1]
  |fn g xs ys=>
   simp only[AV]at h
   split at h
   ·rename_i a b h1 h2;cases h;simp[AV,E3 ih h1,E3 ih h2]
   ·cases h
  |_=>simp only[AV,bf.injEq]at h;subst h;simp[AV]
def BM(s:St)(v:V):Option V:=match v with
 |.list f es=>some (.list f es)
 |.int k n=>some (.int k n)
 |.bool b=>some (.bool b)
 |v=>AV s 4 v
theorem H6{v r:V}(h:BM s v=some r):ER s v=r:=by
 unfold BM at h;unfold ER;split at h
 ·simpa using h
 ·simpa [CZ]using h
 ·simpa [CZ]using h
 ·rename_i h1 h2 h3;split
  ·rename_i f es;exact absurd rfl (h1 f es)
  ·exact MI 4 h
theorem SQ{v:V}(h1:∀f es,v≠.list f es)(h2:∀k n,v≠.int k n)(h3:∀b,v≠.bool b):BM s v=AV s 4 v:=by
 unfold BM;split
 ·rename_i f es;exact absurd rfl (h1 f es)
 ·rename_i k n;exact absurd rfl (h2 k n)
 ·rename_i b;exact absurd rfl (h3 b)
 ·rfl
theorem JI{v r:V}(h:BM s v=some r):BM (s.emb σ pre) (v.ren σ pre.length)=some (r.ren σ pre.length):=by
 by_cases h1:∃f es,v=.list f es
 ·obtain⟨f,es,rfl⟩:=h1;simp only[BM,bf.injEq]at h;subst h;simp[BM]
 by_cases h2:∃k n,v=.int k n
 ·obtain⟨k,n,rfl⟩:=h2;simp only[BM,bf.injEq]at h;subst h;simp[BM]
 by_cases h3:∃b,v=.bool b
 ·obtain⟨b,rfl⟩:=h3;simp only[BM,bf.injEq]at h;subst h;simp[BM]
 rw[SQ (fun f es e=>h1 ⟨f,es,e⟩) (fun k n e=>h2 ⟨k,n,e⟩) (fun b e=>h3 ⟨b,e⟩)]at h;rw[SQ (fun f es e=>by cases v<;>simp at e;exact h1 ⟨_,_,rfl⟩) (fun k n e=>by cases v<;>simp at e;exact h2 ⟨_,_,rfl⟩) (fun b e=>by cases v<;>simp at e;exact h3 ⟨_,rfl⟩)];exact II 4 h
def FW{α β:Type}(f:α->Option β):List α->Option (List β)
 |[]=>some []
 |x::l=>match f x with
  |some y=>match FW f l with
   |some r=>some (y::r)
   |none=>none
  |none=>none
theorem J1{α β:Type}{f:α->Option β}{g:α->β}(h:∀x y,f x=some y->g x=y):∀{l:List α} {r:List β},FW f l=some r->l.map g=r
 |[],r,e=>by cases e;rfl
 |x::l,r,e=>by
  simp only[FW]at e;split at e
  ·rename_i y hy;split at e
   ·rename_i q hq;cases e;simp[h _ _ hy,J1 h hq]
   ·cases e
  ·cases e
theorem J2{α β:Type}{f f':α->Option β}{a:α->α}{b:β->β}(h:∀x y,f x=some y->f' (a x)=some (b y)):∀{l:List α} {r:List β},FW f l=some r->FW f' (l.map a)=some (r.map b)
 |[],r,e=>by cases e;rfl
 |x::l,r,e=>by
  simp only[FW]at e;split at e
  ·rename_i y hy;split at e
   ·rename_i q hq;cases e;simp[FW,h _ _ hy,J2 h hq]
   ·cases e
  ·cases e
def BN(s:St)(r:AY):Option AY:=match r with
 |.box cs=>match FW (BM s) cs with
  |some ds=>some (.box ds)
  |none=>none
 |.vec T es=>match FW (FW (BM s)) es with
  |some ds=>some (.vec T ds)
  |none=>none
 | .map es=>match FW (fun e:V×V=>match BM s e.1,BM s e.2 with
   |some a,some b=>some (a,b)
   | _,_=>none) es with
  |some ds=>some (.map ds)
  |none=>none
 |r=>some r
def BT(s:St)(r:AY):AY:=match BN s r with
 |some r'=>r'
 |none=>r
theorem V0{r r':AY}(h:BN s r=some r'):r'=r\/r'=F7 s r:=by
 unfold BN at h;split at h
 ·split at h
  ·rename_i ds hd;cases h;exact .inr (by simp only[F7,J1 (fun x y=>H6) hd])
  ·cases h
 ·split at h
  ·rename_i ds hd;cases h;exact .inr (by simp only[F7,J1 (fun x y=>J1 (fun x y=>H6)) hd])
  ·cases h
 ·split at h
  ·rename_i ds hd;cases h;refine .inr ?_;simp only[F7];rw[J1 (g:=fun e=>(ER s e.1,ER s e.2)) (fun x y h=>?_) hd];split at h
   ·rename_i a b h1 h2;cases h;rw[H6 h1,H6 h2]
   ·cases h
  ·cases h
 ·cases h;exact .inl rfl
theorem JR{r r':AY}(h:BN s r=some r'):BN (s.emb σ pre) (r.ren σ pre.length)=some (r'.ren σ pre.length):=by
 cases r with
 |box cs=>
  simp only[BN]at h
  split at h
  ·rename_i ds hd;cases h;simp[BN,AY.ren,J2 (fun x y=>JI (σ:=σ) (pre:=pre)) hd]
  ·cases h
 |vec T es=>
  simp only[BN]at h
  split at h
  ·rename_i ds hd;cases h;simp[BN,AY.ren,J2 (fun x y=>J2 (fun x y=>JI (σ:=σ) (pre:=pre))) hd]
  ·cases h
 |map es=>
  simp only[BN]at h
  split at h
  ·rename_i ds hd;cases h;have:=J2 (f':=fun e:V×V=>match BM (s.emb σ pre) e.1,BM (s.emb σ pre) e.2 with
    |some a,some b=>some (a,b)
    | _,_=>none) (a:=fun p:V×V=>(p.1.ren σ pre.length,p.2.ren σ pre.length)) (b:=fun p:V×V=>(p.1.ren σ pre.length,p.2.ren σ pre.length)) (fun x y h=>by
     split at h
     ·rename_i a b h1 h2;cases h;simp[JI h1,JI h2]
     ·cases h) hd
   simp[BN,AY.ren,this]
  ·cases h
 |loop fr ps asg body N st=>simp only[BN,bf.injEq]at h;subst h;rfl
 |dead=>simp only[BN,bf.injEq]at h;subst h;rfl
theorem eY(r:AY):(BT s r).ren σ pre.length=r.ren σ pre.length\/(BT s r).ren σ pre.length=F7 (s.emb σ pre) (r.ren σ pre.length):=by
 unfold BT;split
 ·rename_i r' h;rcases V0 (JR (σ:=σ) (pre:=pre) h)with h'|h'
  ·exact .inl h'
  ·exact .inr h'
 ·exact .inl rfl
def A6(s:St)(L:AB):AB:=L.map fun p=>(p.1,p.2.1,BT s p.2.2)
theorem K2(s:St):∀(L:AB) (k:Nat),(A6 s L).get k=(L.get k).map fun p=>(p.1,BT s p.2)
 |[],k=>rfl
 |(j,x)::L,k=>by
  have:=K2 s L k;simp only[A6,br,AB.get]at this|-;split
  ·rfl
  ·exact this
theorem jV{rv:ResultVar}{v:V}(h:C7 P fr s rv=some v):C7 P (fr.ren σ pre.length) (s.emb σ pre) rv=some (v.ren σ pre.length):=by
 cases rv with
 |tmp t=>
  simp only[C7]at h|-
  split at h
  ·rename_i e;cases h;simp[Fr.get_ren,e]
  ·cases h
 |cell ad T=>
  simp only[C7]at h|-
  split at h
  ·rename_i p e;obtain⟨cs,h1,h2⟩:=bq.1 h;simp[Fr.get_ren,e,SP h1,YT h2]
  ·cases h
theorem MJ{rs:List ResultVar}{v:V}(h:E8 P rs fr s=some v):E8 P rs (fr.ren σ pre.length) (s.emb σ pre)=some (v.ren σ pre.length):=by
 have key:∀{rs:List ResultVar} {vs:List V},rs.mapM (C7 P fr s)=some vs->rs.mapM (C7 P (fr.ren σ pre.length) (s.emb σ pre))=some (vs.map (V.ren σ pre.length)):=by
  intro rs;induction rs with
  |nil=>intro vs e;simp at e;subst e;rfl
  |cons x l ih=>
   intro vs e
   simp only[ck,bt,bq,cz,bf.injEq]at e
   obtain⟨y,h1,ys,h2,rfl⟩:=e
   simp[jV h1,ih h2]
 unfold E8 at h|-;split at h
 ·rename_i x e;cases h;rw[key e];rfl
 ·rename_i vs hne e;cases h;rw[key e];cases vs with
  |nil=>simp
  |cons a r=>
   cases r with
   |nil=>exact absurd rfl (hne a)
   |cons b r=>simp
 ·cases h
theorem NN:∀(i:Nat) (vs:List V),AJ i (vs.map (V.ren σ δ))=(AJ i vs).ren σ δ
 |_,[]=>rfl
 |i,v::vs=>by simp[AJ,Fr.ren,NN (i+1) vs]
end Go.Pg
