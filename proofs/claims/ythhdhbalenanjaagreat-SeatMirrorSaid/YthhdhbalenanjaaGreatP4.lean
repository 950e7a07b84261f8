/- A region that draws its order: operations that only compute, calls that only compute and new places may come in any order. No program in sight. -/
import Derived.Test.YthhdhbalenanjaaGreatP3
import Derived.OrdersIn
open Go renaming Oper->dg,Program->dh,World->dl,Operand->dm,TypeId->dn
open Option renaming bind_eq_some_iff->bj,some->bb,bind_some->bf,map_eq_some_iff->ct,map_some->dc
open Nat renaming shiftLeft->bk,eq_of_beq_eq_true->bz,land->bh,beq->bm,lor->cx,blt_eq->cz,lt_or_ge->cg,eq_of_testBit_eq->cp,zero_add->db
open Bool renaming and_eq_true->bq,or_eq_true->bp,not_eq_true'->cq,or_eq_false_iff->dk
open List renaming getElem?_eq_getElem->bw,getElem?_drop->bc,getElem?_eq_some_iff->bg,all_eq_true->bn,mem_cons->ck,mem_of_getElem?->cw,getElem?_set->cd,getElem?_toArray->cm,length->dj,mem_erase_of_ne->dq,mem_append->dv,mem_cons_of_mem->dw,nodup_cons->dx,ext_getElem?->dz
open Array renaming mem_toList_iff->bx,getElem?_eq_none->cj
namespace Go.Pg
variable {P:dh}{n N:Nat}{ρ:Option Nat}{G0 G:Gh}{fr fr':Fr}{s s':St}{a:Act}{w:dl}
def St.sub(s s':St):Prop:=∀l k x,s.get l k=some x->s'.get l k=some x
theorem mP(h:s.sub s'){p:V}{cs:List V}(hp:A6 s p=some cs):A6 s' p=some cs:=by
 cases p with
 |ptr l k g off=>
  simp only[A6]at hp|-
  split at hp
  ·rename_i g' ds e;rw[h _ _ _ e];exact hp
  ·cases hp
 |eptr l k g i off=>
  simp only[A6]at hp|-
  split at hp
  ·rename_i g' T es e;rw[h _ _ _ e];exact hp
  ·cases hp
 |_=>exact hp
theorem XL(h:s.sub s'){T:dn}{x i v:V}(hp:BO P s T x i=some v):BO P s' T x i=some v:=by
 unfold BO at hp|-;split at hp
 ·exact hp
 ·split at hp
  ·rename_i g' U es e;rw[h _ _ _ e];exact hp
  ·cases hp
 ·exact hp
 ·exact hp
 ·exact hp
 ·cases hp
theorem mQ(h:s.sub s'){T:dn}{x v:V}{lo hi mx:Option V}(hp:C7 P s T x lo hi mx=some v):C7 P s' T x lo hi mx=some v:=by
 unfold C7 at hp|-;split at hp;case h_6=>
  split at hp
  ·rename_i g' U es e;rw[h _ _ _ e];exact hp
  ·cases hp
 case h_7=>
  split at hp
  ·rename_i g' cs m e e';rw[h _ _ _ e,e'];exact hp
  ·cases hp
 all_goals exact hp
theorem iG(h:s.sub s'){T:dn}{x i v:V}{ok:Bool}(hp:DO P s T x i ok=some v):DO P s' T x i ok=some v:=by
 unfold DO at hp|-;split at hp
 ·split at hp
  ·rename_i g' es e;rw[h _ _ _ e];exact hp
  ·cases hp
 ·cases hp
theorem ALA(h:s.sub s'){o:dg}{r:dm->Option V}{v:V}(hv:JX P o s r=some v):JX P o s' r=some v:=by
 unfold JX at hv|-;split at hv;case h_4 T x ho=>
  obtain⟨p,h1,h2⟩:=bj.1 hv
  obtain⟨cs,h3,h4⟩:=bj.1 h2
  simp only[h1,bf,mP h h3,h4]
 case h_10 T x i ho=>
  obtain⟨p,h1,h2⟩:=bj.1 hv
  obtain⟨q,h3,h4⟩:=bj.1 h2
  simp only[h1,h3,bf,XL h h4]
 case h_16 T x lo hi mx ho=>
  obtain⟨p,h1,h2⟩:=bj.1 hv
  obtain⟨q,h3,h4⟩:=bj.1 h2
  obtain⟨q',h5,h6⟩:=bj.1 h4
  obtain⟨q2,h7,h8⟩:=bj.1 h6
  simp only[h1,h3,h5,h7,bf,mQ h h8]
 case h_17 T x i ok ho=>
  obtain⟨p,h1,h2⟩:=bj.1 hv
  obtain⟨q,h3,h4⟩:=bj.1 h2
  simp only[h1,h3,bf,iG h h4]
 all_goals exact hv
theorem MX{r r':dm->Option V}:∀{l:List dm},(∀x∈l,r x=r' x)->l.mapM r=l.mapM r'
 |[],_=>rfl
 |x::l,h=>by simp only[List.mapM_cons];rw[h x (by simp),MX (l:=l) fun y hy=>h y (by simp[hy])]
theorem MY{r r':dm->Option V}:∀{l:List (Nat×dm)},(∀x∈l.map (·.2),r x=r' x)->DC r l=DC r' l
 |[],_=>rfl
 |(i,x)::l,h=>by simp only[DC];rw[h x (by simp),MY (l:=l) fun y hy=>h y (by simp at hy|-;exact .inr hy)]
theorem zX{o:dg}{r r':dm->Option V}(h:∀x∈o.op.operands,r x=r' x):JX P o s r=JX P o s r':=by
 unfold JX;split<;>rename_i ho<;>(try rw[ho]at h)<;>(try simp only[Op.operands,Call.operands]at h);case h_13=>
  split
  ·rename_i x T e1 e2;have:r x=r' x:=h x (by rw[<-bx];simp[e1]);rw[this]
  ·rfl
 case h_14=>
  split
  ·rename_i x y e1;have hx:r x=r' x:=h x (by rw[<-bx];simp[e1]);have hy:r y=r' y:=h y (by rw[<-bx];simp[e1]);rw[hx,hy]
  ·rfl
 case h_15=>
  split
  ·rename_i x y e1;have hx:r x=r' x:=h x (by rw[<-bx];simp[e1]);have hy:r y=r' y:=h y (by rw[<-bx];simp[e1]);rw[hx,hy]
  ·rfl
 case h_16 T x lo hi mx=>
  have hx:r x=r' x:=h x (by simp)
  have hl:∀y,lo=some y->r y=r' y:=fun y e=>h y (by simp[e])
  have hh:∀y,hi=some y->r y=r' y:=fun y e=>h y (by simp[e])
  have hm:∀y,mx=some y->r y=r' y:=fun y e=>h y (by simp[e])
  rw[hx]
  cases lo<;>cases hi<;>cases mx<;>simp_all
 case h_18 f first captured=>
  rw[MX (r:=r) (r':=r') (l:=first.toList) fun x hx=>h x (by simp at hx|-;exact .inl hx),MX (r:=r) (r':=r') (l:=captured.toList) fun x hx=>h x (by simp at hx|-;exact .inr hx)]
 all_goals first|rfl|(simp at h;simp[h])
def FT(P:dh)(g:Bool)(o:dg)(fr:Fr)(s:St):Option V:=match o.op with
 |.pick c a b=>match DW g fr c,rd fr a,rd fr b with
  |some (.bool c),some (ca,.bool a),some (cb,.bool b)=>if (g=true->c=true->ca=true)/\(g=true->c=false->cb=true) then some (.bool (if c then a else b)) else none
  |_,_,_=>none
 |.build T parts=>(DC (DW g fr) parts.toList).bind (CW P T)
 |.buildSlice T len parts=>(DC (DW g fr) parts.toList).bind (CD P T len)
 |_=>JX P o s (DW g fr)
def I8(g:Bool)(o:dg)(fr:Fr):Option (FuncId×List V):=match o.op with
 |.call { callee:=.value f,args,.. }=>match DW g fr f,args.toList.mapM (DW g fr)with
  |some (.fn fid first cap),some vs=>some (fid,(first++vs++cap).map weakV)
  |_,_=>none
 |_=>none
section
variable (σ:Nat->Nat)(δ:Nat)
mutual
def V.ren:V->V
 |.int k n=>.int k n
 |.bool b=>.bool b
 |.raw v=>.raw v
 |.agg cs=>.agg (dG cs)
 |.tup cs=>.tup (dG cs)
 |.list f es=>.list f (mR es)
 |.ref cs=>.ref (dG cs)
 |.ptr l k g off=>.ptr (l+δ) k (σ g) off
 |.eptr l k g i off=>.eptr (l+δ) k (σ g) i off
 |.vec l k g len=>.vec (l+δ) k (σ g) len
 |.mp l k g=>.mp (l+δ) k (σ g)
 |.fn f xs ys=>.fn f (dG xs) (dG ys)
 |.yld l k g=>.yld (l+δ) k (σ g)
 |.nil=>.nil
 |.vtl l k g i n=>.vtl (l+δ) k (σ g) i n
 |.any=>.any
def dG:List V->List V
 |[]=>[]
 |v::r=>V.ren v::dG r
def mR:List (List V)->List (List V)
 |[]=>[]
 |v::r=>dG v::mR r
end
end
def HO(r:AX)(l k γ:Nat):V:=match r with
 |.vec _ es=>.vec l k γ es.length
 |.map _=>.mp l k γ
 |_=>.ptr l k γ 0
structure Mk where
 res:AX
 t:Option V
def Mk.val(r:Mk)(l k γ:Nat):V:=match r.t with
 |none=>HO r.res l k γ
 |some t=>t.ren (fun _=>γ) l
structure HP(P:dh) where
 own:dg->Bool
 ow:FuncId->List V->Tmp->Option Mk
 ok:∀f args d r,ow f args d=some r->∀(s:St),FQ P f args s fun v s'=>∃γ,v=r.val s.up.length d γ/\s'=s.put s.up.length d γ r.res
def HP.nothing(P:dh):HP P:=⟨fun _=>false,fun _ _ _=>none,fun _ _ _ _ h=>by cases h⟩
def QL(P:dh)(Ω:HP P)(o:dg)(fr:Fr):Option Mk:=match o.op with
 |.alloc T=>(CA P T).map fun cs=>⟨.box cs,none⟩
 |.box _ x=>match DW true fr x with
  |some v=>if A9 v=true then some ⟨.box (A8 v),none⟩ else none
  |none=>none
 |.makeMap _ none=>some ⟨.map [],none⟩
 |.makeSlice T x y=>match DW true fr x,DW true fr y,BT P T with
  |some (.int _ n),some (.int _ m),some (none,e)=>match CA P e with
   |some z=>if 0<=n/\m=n/\z.length=P.cellsOf e/\n.toNat*P.bytesOf e<=140737488355328/\n.toNat<=maxLen then some ⟨.vec e (List.replicate n.toNat z),none⟩ else none
   |none=>none
  |_,_,_=>none
 | .call { callee:=.value _,.. }=>if Ω.own o=true then(match I8 true o fr,o.dst with
  |some (f,args),some d=>Ω.ow f args d
  | _,_=>none) else none
 |_=>none
def AOS(P:dh)(g:Bool)(f:FuncId)(args:List V)(r:V):Prop:=g=true->∀s,FQ P f args s fun r' s'=>r'=r/\s'=s
def A3O(P:dh)(Ω:HP P)(g:Bool)(o:dg)(fr:Fr)(s:St)(k:Fr->St->Prop):Prop :=
 (∃v,FT P g o fr s=some v/\k (putD fr o.dst g v) s) \/
 (∃f args r,I8 g o fr=some (f,args)/\AOS P g f args r/\k (putD fr o.dst g r) s) \/
 (∃r d,g=true/\o.dst=some d/\QL P Ω o fr=some r/\∀γ,k (fr.put d true (r.val s.up.length d γ)) (s.put s.up.length d γ r.res))
theorem FQ.mono{f:FuncId}{args:List V}{K K':V->St->Prop}(h:FQ P f args s K)(hk:∀r s',K r s'->K' r s'):FQ P f args s K' :=
 ⟨h.1,fun G vals w R hI hA hR=>h.2 G vals w R hI hA fun G' r v w' s' h1 h2 h3 h4 h5=>hR G' r v w' s' h1 h2 h3 h4 (hk _ _ h5)⟩
theorem DP{Ω:HP P}{g:Bool}{o:dg}{k:Fr->St->Prop}(h:A3O P Ω g o fr s k):EJ P g o fr s k:=by
 rcases h with⟨v,hv,hk⟩|⟨f,args,r,hc,hr,hk⟩|⟨r,d,rfl,hd,hr,hk⟩
 ·unfold FT at hv;unfold EJ;split at hv
  ·rename_i c x y ho;simp only[ho];split at hv
   ·rename_i c' ca va cb vb e1 e2 e3;split at hv
    ·rename_i hcond;cases hv;simp only[e1,e2,e3];exact⟨hcond.1,hcond.2,hk⟩
    ·cases hv
   ·cases hv
  ·rename_i T parts ho;obtain⟨ps,h1,h2⟩:=bj.1 hv;simp only[ho,h1,h2];exact hk
  ·rename_i T len parts ho;obtain⟨ps,h1,h2⟩:=bj.1 hv;simp only[ho,h1,h2];exact hk
  ·have hv0:=hv;unfold JX at hv;split at hv<;>rename_i ho<;>first
    |(simp only[ho,hv0];exact hk)
    |cases hv
 ·unfold I8 at hc;unfold EJ;split at hc
  ·rename_i f' args' argTypes' ho;simp only[ho];split at hc
   ·rename_i fid first cap vs e1 e2;cases hc;simp only[e1,e2];exact .inr ⟨r,fun hg=>hr hg s,hk⟩
   ·cases hc
  ·cases hc
 ·unfold QL at hr;unfold EJ;split at hr
  ·rename_i T ho;obtain⟨cs,h1,rfl⟩:=ct.1 hr;simp only[ho,hd,h1];exact⟨trivial,hk⟩
  ·rename_i T x ho;split at hr
   ·rename_i v e1;split at hr
    ·rename_i hf;cases hr;simp only[ho,hd,e1];exact⟨trivial,hf,hk⟩
    ·cases hr
   ·cases hr
  ·rename_i T ho;cases hr;simp only[ho,hd];exact⟨trivial,hk⟩
  ·rename_i T x y ho;split at hr
   ·rename_i k1 n k2 m e e1 e2 e3;split at hr
    ·rename_i z e4;split at hr
     ·rename_i hc;cases hr;simp only[ho,hd,e1,e2,e3,e4];simp only[Mk.val,HO,List.length_replicate]at hk;exact⟨trivial,hc.1,hc.2.1,hc.2.2.1,hc.2.2.2.1,hc.2.2.2.2,hk⟩
     ·cases hr
    ·cases hr
   ·cases hr
  ·rename_i f0 args0 argTypes0 ho;split at hr
   ·split at hr
    ·rename_i f args d' hc hd';obtain rfl:d'=d:=bb.inj (hd'.symm.trans hd);unfold I8 at hc;simp only[ho]at hc|-;split at hc
     ·rename_i fid first cap vs e1 e2;cases hc;simp only[e1,e2];refine .inl ⟨rfl,(Ω.ok _ _ _ _ hr s).mono fun v s' hrs=>?_⟩;obtain⟨γ,rfl,rfl⟩:=hrs;rw[hd];exact hk γ
     ·cases hc
    ·cases hr
   ·cases hr
  ·cases hr
end Go.Pg
namespace Go.Pg
variable {P:dh}{Ω:HP P}{n N:Nat}{ρ:Option Nat}{G0 G:Gh}{fr fr':Fr}{s s':St}{a:Act}{w:dl}
theorem C3{x:dm}{g:Bool}(h:rd fr x=rd fr' x):DW g fr x=DW g fr' x:=by unfold DW;rw[h]
theorem GR{o:dg}{g:Bool}(h:∀x∈o.op.operands,rd fr x=rd fr' x):FT P g o fr s=FT P g o fr' s:=by
 unfold FT;split
 ·rename_i c x y ho;rw[ho]at h;have h1:=h c (by simp[Op.operands]);have h2:=h x (by simp[Op.operands]);have h3:=h y (by simp[Op.operands]);rw[C3 h1,h2,h3]
 ·rename_i T parts ho;rw[ho]at h;rw[MY (r:=DW g fr) (r':=DW g fr') fun x hx=>C3 (h x (by simpa [Op.operands]using hx))]
 ·rename_i T len parts ho;rw[ho]at h;rw[MY (r:=DW g fr) (r':=DW g fr') fun x hx=>C3 (h x (by simpa [Op.operands]using hx))]
 ·exact zX fun x hx=>C3 (h x hx)
theorem mS{o:dg}{g:Bool}{v:V}(h:s.sub s')(hv:FT P g o fr s=some v):FT P g o fr s'=some v:=by
 unfold FT at hv|-;split at hv
 ·exact hv
 ·exact hv
 ·exact hv
 ·exact ALA h hv
theorem G5{o:dg}{g:Bool}(h:∀x∈o.op.operands,rd fr x=rd fr' x):I8 g o fr=I8 g o fr':=by
 unfold I8;split
 ·rename_i f args argTypes ho;rw[ho]at h;simp only[Op.operands,Call.operands]at h;rw[C3 (h f (by simp)),MX (r:=DW g fr) (r':=DW g fr') fun x hx=>C3 (h x (by simp at hx|-;exact .inr hx))]
 ·rfl
theorem Z9{o:dg}(h:∀x∈o.op.operands,rd fr x=rd fr' x):QL P Ω o fr=QL P Ω o fr':=by
 unfold QL;split
 ·rfl
 ·rename_i T x ho;rw[ho]at h;rw[C3 (h x (by simp[Op.operands]))]
 ·rfl
 ·rename_i T x y ho;rw[ho]at h;rw[C3 (h x (by simp[Op.operands])),C3 (h y (by simp[Op.operands]))]
 ·rename_i f args argTypes ho;rw[G5 h]
 ·rfl
def kA(own:dg->Bool)(o:dg):Bool:=match o.op with
 |.alloc _|.box _ _|.makeSlice ..|.makeMap ..=>true
 |.call { callee:=.value _,.. }=>own o
 |_=>false
def kP(o:dg):Bool:=match o.op with
 |.call { callee:=.builtin .append,.. }=>true
 |_=>false
def kW(o:dg):Bool:=match o.op with
 |.store ..=>true
 |_=>false
theorem RH{o:dg}{r:Mk}(h:QL P Ω o fr=some r):kA Ω.own o=true:=by
 unfold QL at h;unfold kA;split at h;case h_5 e=>
  simp only[e]
  split at h
  ·assumption
  ·cases h
 all_goals first
  |(rename_i e;simp[e];done)
  |cases h
abbrev AK:=List (Nat×Nat)
def W6(W:AK)(s0 s:St):Prop:=∀l k x,s0.get l k=some x->(l,k)∉W/\s.get l k=some x
def BDR(W:AK)(s s':St):Prop:=∀l k x,(l,k)∉W->s.get l k=some x->s'.get l k=some x
def JF:Nat:=2000000
def Shp(W:AK)(s s':St):Prop:=∀l k γ T es,(l,k+JF)∉W->s.get l k=some (γ,.vec T es)->∃es',s'.get l k=some (γ,.vec T es')/\es'.map dj=es.map dj
def JG:Nat:=4000000
def GS(k c:Nat):Nat:=6000000+1000*k+c
def ASF(W:AK)(l k:Nat)(r r':AX):Prop:=r'=r\/(∃cs cs':List V,r=.box cs/\r'=.box cs'/\∀c:Nat,(l,GS k c)∉W->cs'[c]? = cs[c]?) \/
 ∃(T:dn) (es es':List (List V)),r=.vec T es/\r'=.vec T es'/\es'.length=es.length/\∀(i:Nat) (e:List V),es[i]? = some e->∃e':List V,es'[i]? = some e'/\∀c:Nat,(l,GS k c)∉W->e'[c]? = e[c]?
def Cel(W:AK)(s s':St):Prop:=∀l k γ r,(l,k+JF)∉W->(l,k+JG)∉W->s.get l k=some (γ,r)->∃r',s'.get l k=some (γ,r')/\ASF W l k r r'
def zY(W:AK)(s s':St):Prop:=BDR W s s'/\(Shp W s s'/\Cel W s s')
theorem W6.out{W:AK}{s0:St}(h:W6 W s0 s)(ho:zY W s s'):W6 W s0 s':=fun l k x e=>⟨(h l k x e).1,ho.1 l k x (h l k x e).1 (h l k x e).2⟩
theorem W6.sub{W:AK}{s0:St}(h:W6 W s0 s):s0.sub s:=fun l k x e=>(h l k x e).2
theorem zY.refl(W:AK)(s:St):zY W s s:=⟨fun _ _ _ _ e=>e,fun _ _ _ _ es _ e=>⟨es,e,rfl⟩,fun _ _ _ r _ _ e=>⟨r,e,.inl rfl⟩⟩
def T8(P:dh)(W:AK)(g:Bool)(o:dg)(fr:Fr)(s:St)(v:V):Prop:=∃T x i e l k γ n ki j T' es,o.op=.indexAddr T x i/\DW g fr x=some (.vec l k γ n)/\DW g fr i=some (.int ki j)/\BT P T=some (none,e)/\(l,k+JF)∉W /\
 s.get l k=some (γ,.vec T' es)/\(0<=j/\j<n/\n<=es.length/\(es.getD j.toNat []).length=P.cellsOf e/\0<P.cellsOf e)/\v=.eptr l k γ j.toNat 0
theorem T8.val{W:AK}{g:Bool}{o:dg}{v:V}(h:T8 P W g o fr s v):FT P g o fr s=some v:=by obtain⟨T,x,i,e,l,k,γ,n,ki,j,T',es,h1,h2,h3,h4,_,h5,h6,rfl⟩:=h;unfold FT;simp only[h1,JX,h2,h3,bf,BO,h4,h5];rw[if_pos ⟨trivial,h6⟩]
theorem T8.out{W:AK}{g:Bool}{o:dg}{v:V}(h:T8 P W g o fr s v)(hs:Shp W s s'):T8 P W g o fr s' v:=by
 obtain⟨T,x,i,e,l,k,γ,n,ki,j,T',es,h1,h2,h3,h4,hw,h5,h6,rfl⟩:=h;obtain⟨es',h7,h8⟩:=hs _ _ _ _ _ hw h5;refine⟨T,x,i,e,l,k,γ,n,ki,j,T',es',h1,h2,h3,h4,hw,h7,?_,rfl⟩;have hl:es'.length=es.length:=by have:=congrArg dj h8;simpa using this
 have hd:(es'.getD j.toNat []).length=(es.getD j.toNat []).length:=by have:=congrArg (fun l=>l[j.toNat]?) h8;simp only[List.getElem?_map]at this;simp only[List.getD_eq_getElem?_getD];cases h1:es'[j.toNat]?<;>cases h2:es[j.toNat]?<;>simp_all
 rw[hl,hd];exact h6
theorem T8.frame{W:AK}{g:Bool}{o:dg}{v:V}(h:T8 P W g o fr s v)(hf:∀x∈o.op.operands,DW g fr x=DW g fr' x):T8 P W g o fr' s v:=by obtain⟨T,x,i,e,l,k,γ,n,ki,j,T',es,h1,h2,h3,h4⟩:=h;rw[h1]at hf;exact⟨T,x,i,e,l,k,γ,n,ki,j,T',es,h1,(hf x (by simp[Op.operands])).symm.trans h2,(hf i (by simp[Op.operands])).symm.trans h3,h4⟩
def AFI:V->Option (Nat×Nat×Nat)
 |.ptr l k _ off=>some (l,k,off)
 |.eptr l k _ _ off=>some (l,k,off)
 |_=>none
def LdV(P:dh)(W:AK)(g:Bool)(o:dg)(fr:Fr)(s:St)(v:V):Prop:=∃T x p cs l k off,o.op=.load T x/\DW g fr x=some p/\AFI p=some (l,k,off)/\A6 s p=some cs/\BK P T cs=some v/\0<P.cellsOf T /\
 (l,k+JF)∉W/\(l,k+JG)∉W/\∀c,c<P.cellsOf T->(l,GS k (off+c))∉W
theorem mT{T:dn}{cs ds:List V}{v:V}(h0:0<P.cellsOf T)(h:∀c,c<P.cellsOf T->ds[c]? = cs[c]?)(hv:BK P T cs=some v):BK P T ds=some v:=by
 have agg:∀{a b:List V},(∀c,c<P.cellsOf T->b[c]? = a[c]?)->(if P.cellsOf T<=a.length then some (V.agg (a.take (P.cellsOf T))) else none)=some v->(if P.cellsOf T<=b.length then some (V.agg (b.take (P.cellsOf T))) else none)=some v:=by
  intro a b hab hv;split at hv
  ·rename_i hl;have e1:=hab (P.cellsOf T-1) (by omega);have hl1:P.cellsOf T-1<a.length:=by omega
   rw[bw hl1]at e1;have hl2:=(bg.1 e1).1;rw[if_pos (by omega)];rw[<-hv];congr 2;apply dz;intro c;simp only[List.getElem?_take];split
   ·rename_i hc;exact hab c hc
   ·rfl
  ·cases hv
 unfold BK at hv|-;split at hv
 ·exact agg h hv
 ·exact agg h hv
 ·rw[h 0 h0];exact hv
 ·cases hv
theorem LdV.val{W:AK}{g:Bool}{o:dg}{v:V}(h:LdV P W g o fr s v):FT P g o fr s=some v:=by obtain⟨T,x,p,cs,l,k,off,h1,h2,_,h4,h5,_⟩:=h;unfold FT;simp only[h1,JX,h2,h4,h5,bf]
theorem LdV.out{W:AK}{g:Bool}{o:dg}{v:V}(h:LdV P W g o fr s v)(hs:Cel W s s'):LdV P W g o fr s' v:=by
 obtain⟨T,x,p,cs,l,k,off,h1,h2,h3,h4,h5,h6,h7,h8,h9⟩:=h;have key:∃cs',A6 s' p=some cs'/\∀c,c<P.cellsOf T->cs'[c]? = cs[c]?:=by
  cases p with
  |ptr l' k' γ off'=>
   simp only[AFI,bb.injEq,Prod.mk.injEq]at h3
   obtain⟨rfl,rfl,rfl⟩:=h3
   simp only[A6]at h4
   split at h4
   ·rename_i g' ds e;split at h4
    ·rename_i hg;cases h4;obtain⟨r',e',hr⟩:=hs _ _ _ _ h7 h8 e;rcases hr with rfl|⟨cs0,cs',e1,rfl,hc⟩|⟨_,_,_,e1,_⟩
     ·exact⟨_,by simp only[A6,e',hg,if_true],fun _ _=>rfl⟩
     ·cases e1;refine⟨cs'.drop off',by simp only[A6,e',hg,if_true],fun c hc'=>?_⟩;rw[bc,bc];exact hc _ (h9 c hc')
     ·cases e1
    ·cases h4
   ·cases h4
  |eptr l' k' γ i off'=>
   simp only[AFI,bb.injEq,Prod.mk.injEq]at h3
   obtain⟨rfl,rfl,rfl⟩:=h3
   simp only[A6]at h4
   split at h4
   ·rename_i g' U es e;split at h4
    ·rename_i hg;obtain⟨e0,he0,rfl⟩:=ct.1 h4;obtain⟨r',e',hr⟩:=hs _ _ _ _ h7 h8 e;rcases hr with rfl|⟨_,_,e1,_⟩|⟨U',es0,es',e1,rfl,hl,hc⟩
     ·exact⟨_,by simp only[A6,e',hg,if_true,he0,dc],fun _ _=>rfl⟩
     ·cases e1
     ·cases e1;obtain⟨e2,he2,hcc⟩:=hc i e0 he0;refine⟨e2.drop off',by simp only[A6,e',hg,if_true,he2,dc],fun c hc'=>?_⟩;rw[bc,bc];exact hcc _ (h9 c hc')
    ·cases h4
   ·cases h4
  |_=>cases h3
 obtain⟨cs',e1,e2⟩:=key;exact⟨T,x,p,cs',l,k,off,h1,h2,h3,e1,mT h6 e2 h5,h6,h7,h8,h9⟩
theorem LdV.frame{W:AK}{g:Bool}{o:dg}{v:V}(h:LdV P W g o fr s v)(hf:∀x∈o.op.operands,DW g fr x=DW g fr' x):LdV P W g o fr' s v:=by obtain⟨T,x,p,cs,l,k,off,h1,h2,h3⟩:=h;rw[h1]at hf;exact⟨T,x,p,cs,l,k,off,h1,(hf x (by simp[Op.operands])).symm.trans h2,h3⟩
def dH(P:dh)(W:AK)(g:Bool)(o:dg)(fr:Fr)(s:St)(v:V):Prop:=T8 P W g o fr s v\/LdV P W g o fr s v
theorem dH.val{W:AK}{g:Bool}{o:dg}{v:V}(h:dH P W g o fr s v):FT P g o fr s=some v:=h.elim (fun h=>h.val) fun h=>h.val
theorem dH.out{W:AK}{g:Bool}{o:dg}{v:V}(h:dH P W g o fr s v)(hs:Shp W s s'/\Cel W s s'):dH P W g o fr s' v:=h.imp (fun h=>h.out hs.1) fun h=>h.out hs.2
theorem dH.frame{W:AK}{g:Bool}{o:dg}{v:V}(h:dH P W g o fr s v)(hf:∀x∈o.op.operands,DW g fr x=DW g fr' x):dH P W g o fr' s v:=h.imp (fun h=>h.frame hf) fun h=>h.frame hf
def JH(P:dh)(Ω:HP P)(W:AK)(o:dg)(gd:Option (Tmp×Bool))(fr:Fr)(s:St)(g:Bool)(v:V):Prop :=
 QK fr gd=some g/\((∃s0,W6 W s0 s/\FT P g o fr s0=some v)\/(∃f args,I8 g o fr=some (f,args)/\Ω.own o=false/\AOS P g f args v)\/dH P W g o fr s v\/(g=false/\kA Ω.own o=false/\kW o=false/\kP o=false))
def KC(P:dh)(Ω:HP P)(o:dg)(gd:Option (Tmp×Bool))(fr:Fr)(r:Mk)(d:Nat):Prop:=QK fr gd=some true/\o.dst=some d/\QL P Ω o fr=some r
def DD(P:dh)(o:dg)(fr:Fr)(s:St):Option (Nat×Nat×Nat×AX):=match o.op with
 |.store T x y=>match DW true fr x,DW true fr y with
  |some (.ptr l q γ off),some v=>match s.get l q with
   |some (γ',.box cs)=>if γ'=γ/\A9 v=true/\0<P.cellsOf T/\(A8 v).length=P.cellsOf T/\off+P.cellsOf T<=cs.length/\o.dst=none then some (l,q,γ,.box (A2 cs off (A8 v))) else none
   |_=>none
  |some (.eptr l q γ i off),some v=>match s.get l q with
   |some (γ',.vec U es)=>if γ'=γ/\A9 v=true/\0<P.cellsOf T/\(A8 v).length=P.cellsOf T/\i<es.length/\off+P.cellsOf T<=(es.getD i []).length/\o.dst=none then
     some (l,q,γ,.vec U (es.set i (A2 (es.getD i []) off (A8 v)))) else none
   |_=>none
  |_,_=>none
 |_=>none
def JI(P:dh)(o:dg)(fr:Fr):Option (Nat×Nat):=match o.op with
 |.store T x _=>match DW true fr x with
  |some (.ptr _ _ _ off)=>some (off,P.cellsOf T)
  |some (.eptr _ _ _ _ off)=>some (off,P.cellsOf T)
  |_=>none
 |_=>none
theorem T9{o:dg}(h:∀x∈o.op.operands,rd fr x=rd fr' x):JI P o fr=JI P o fr':=by
 unfold JI;split
 ·rename_i T x y ho;rw[ho]at h;rw[C3 (h x (by simp[Op.operands]))]
 ·rfl
def WOK(P:dh)(W:AK)(o:dg)(fr:Fr)(l q:Nat):Prop:=(l,q)∈W/\((l,q+JG)∈W\/∀off n,JI P o fr=some (off,n)->∀c,off<=c->c<off+n->(l,GS q c)∈W)
theorem WOK.frame{W:AK}{o:dg}{l q:Nat}(h:WOK P W o fr l q)(hf:JI P o fr=JI P o fr'):WOK P W o fr' l q:=⟨h.1,h.2.imp id fun h=>by rw[<-hf];exact h⟩
def F4(P:dh)(W:AK)(o:dg)(gd:Option (Tmp×Bool))(fr:Fr)(s:St)(l q γ:Nat)(r:AX):Prop:=QK fr gd=some true/\WOK P W o fr l q/\DD P o fr s=some (l,q,γ,r)
theorem DU{o:dg}{l q γ:Nat}{r:AX}(h:DD P o fr s=some (l,q,γ,r)):(∃r0,s.get l q=some (γ,r0))/\o.dst=none/\kW o=true/\∀(k:Fr->St->Prop),k fr (s.put l q γ r)->EJ P true o fr s k:=by
 unfold DD at h;unfold EJ kW;split at h
 ·rename_i T x y ho;simp only[ho];split at h
  ·rename_i l' q' γ' off v e1 e2;simp only[e1,e2];split at h
   ·rename_i γ2 cs e3;split at h
    ·rename_i hc;cases h;obtain⟨c1,c2,c3,c4,c5,c6⟩:=hc;subst c1;simp only[e3];exact⟨⟨_,rfl⟩,c6,trivial,fun k hk=>⟨trivial,trivial,c2,c3,c4,c5,c6,hk⟩⟩
    ·cases h
   ·cases h
  ·rename_i l' q' γ' i off v e1 e2;simp only[e1,e2];split at h
   ·rename_i γ2 U es e3;split at h
    ·rename_i hc;cases h;obtain⟨c1,c2,c3,c4,c5,c6,c7⟩:=hc;subst c1;simp only[e3];exact⟨⟨_,rfl⟩,c7,trivial,fun k hk=>⟨trivial,trivial,c2,c3,c4,c5,c6,c7,hk⟩⟩
    ·cases h
   ·cases h
  ·cases h
 ·cases h
theorem PW{o:dg}{l q γ:Nat}{r:AX}(h:DD P o fr s=some (l,q,γ,r))(hs:s'.get l q=s.get l q):DD P o fr s'=some (l,q,γ,r):=by
 unfold DD at h|-;split at h
 ·rename_i T x y ho;split at h
  ·rename_i l' q' γ' off v e1 e2;have hl:l'=l/\q'=q:=by
    split at h
    ·split at h
     ·cases h;exact⟨rfl,rfl⟩
     ·cases h
    ·cases h
   obtain⟨rfl,rfl⟩:=hl;rw[hs];exact h
  ·rename_i l' q' γ' i off v e1 e2;have hl:l'=l/\q'=q:=by
    split at h
    ·split at h
     ·cases h;exact⟨rfl,rfl⟩
     ·cases h
    ·cases h
   obtain⟨rfl,rfl⟩:=hl;rw[hs];exact h
  ·cases h
 ·cases h
def rW(o:dg)(fr:Fr):Option (Nat×Nat×Nat):=match o.op with
 |.store _ x _=>match DW true fr x with
  |some (.ptr l q γ _)=>some (l,q,γ)
  |some (.eptr l q γ _ _)=>some (l,q,γ)
  |_=>none
 |_=>none
theorem aA{o:dg}{l q γ:Nat}{r:AX}(h:DD P o fr s=some (l,q,γ,r)):rW o fr=some (l,q,γ):=by
 unfold DD at h;unfold rW;split at h
 ·rename_i T x y ho;try simp only[ho]
  split at h
  ·rename_i l1 q1 γ1 off v e1 e2;try simp only[e1]
   split at h
   ·split at h
    ·cases h;rfl
    ·cases h
   ·cases h
  ·rename_i l1 q1 γ1 i off v e1 e2;try simp only[e1]
   split at h
   ·split at h
    ·cases h;rfl
    ·cases h
   ·cases h
  ·cases h
 ·cases h
theorem aB{o:dg}{l q γ l' q' γ':Nat}{r r':AX}(h:DD P o fr s=some (l,q,γ,r))(h':DD P o fr s'=some (l',q',γ',r')):l=l'/\q=q'/\γ=γ':=by have:=(aA h).symm.trans (aA h');simpa using this
theorem UA{o:dg}(h:∀x∈o.op.operands,rd fr x=rd fr' x):DD P o fr s=DD P o fr' s:=by
 unfold DD;split
 ·rename_i T x y ho;rw[ho]at h;rw[C3 (h x (by simp[Op.operands])),C3 (h y (by simp[Op.operands]))]
 ·rfl
theorem AFJ{W:AK}{o:dg}{gd:Option (Tmp×Bool)}{g:Bool}{v:V}(h:JH P Ω W o gd fr s g v):kA Ω.own o=false/\kW o=false/\kP o=false:=by
 obtain⟨_,h⟩:=h;rcases h with⟨s0,_,h⟩|⟨f,args,h,hn,_⟩|(⟨T,x,i,e,l,k,γ,n,ki,j,T',es,h1,_⟩|⟨T,x,p,cs,l,k,off,h1,_⟩)|⟨_,h⟩;rotate_left 2
 ·simp[kA,kW,kP,h1]
 ·simp[kA,kW,kP,h1]
 ·exact h
 ·unfold FT at h;unfold kA kW kP;split at h<;>rename_i ho
  ·simp[ho]
  ·simp[ho]
  ·simp[ho]
  ·unfold JX at h;split at h<;>rename_i ho<;>first
    |(simp[ho];done)
    |cases h
 ·unfold I8 at h;split at h
  ·rename_i ho;simp[kA,kW,kP,ho,hn]
  ·cases h
theorem iH{W:AK}{o:dg}{gd:Option (Tmp×Bool)}{g:Bool}{v:V}(h:JH P Ω W o gd fr s g v):kA Ω.own o=false:=(AFJ h).1
theorem aC{o:dg}(h:kA Ω.own o=true):kW o=false/\kP o=false:=by
 unfold kA at h;unfold kW kP;split at h<;>rename_i e<;>first
  |(simp[e];done)
  |cases h
theorem ASG{o:dg}{r:Mk}(h:QL P Ω o fr=some r):kW o=false:=(aC (RH h)).1
theorem mU(h:s.sub s'){x:V}{es:List (List V)}(he:elemsOf s x=some es):elemsOf s' x=some es:=by
 cases x with
 |vec l k g n=>
  simp only[elemsOf]at he|-
  cases hg:s.get l k with
  |none=>rw[hg]at he;cases he
  |some y=>
   rw[hg]at he
   rw[h _ _ _ hg]
   exact he
 |vtl l k g i n=>
  simp only[elemsOf]at he|-
  cases hg:s.get l k with
  |none=>rw[hg]at he;cases he
  |some y=>
   rw[hg]at he
   rw[h _ _ _ hg]
   exact he
 |list b es=>exact he
 |nil=>exact he
 |_=>cases he
def BV(P:dh)(e:dn)(n:Nat)(ys:List (List V)):Bool:=Nat.blt 0 (P.cellsOf e)&&cO P e&&ys.all (fun y=>y.length==P.cellsOf e)&&Nat.ble (n+ys.length) maxLen&&Nat.ble ((n+ys.length)*P.bytesOf e) 140737488355328
def XM(P:dh)(o:dg)(fr:Fr)(s0 s:St):Option (Nat×Nat×AX):=match o.op with
 |.call { callee:=.builtin .append,args,argTypes }=>match args.toList,argTypes.toList,o.dst with
  | [x,y],[T,U],some d=>if T=U then(match BT P T,DW true fr x,(DW true fr y).bind (elemsOf s0)with
   |some (none,e),some xv,some ys=>match I6 xv ys with
    |some es=>if es.all (fun y=>y.length==P.cellsOf e)=true/\BV P e es.length ys=true then some (s.up.length,d,.vec e (es++ys)) else none
    |none=>match xv with
    |.vec l q γ n=>match TY n ys (s.get l q)with
     |some (γ',.vec U es)=>if γ'=γ/\U=e/\n=es.length/\es.all (fun y=>y.length==P.cellsOf e)=true/\BV P e es.length ys=true then some (l,q,.vec e (es++ys)) else none
     |_=>none
    |_=>none
   | _,_,_=>none) else none
  |_,_,_=>none
 |_=>none
def KD(P:dh)(W:AK)(o:dg)(gd:Option (Tmp×Bool))(fr:Fr)(s:St)(l q d:Nat)(r:AX):Prop:=QK fr gd=some true/\((l,q)∈W/\(l,q+JF)∈W)/\o.dst=some d/\∃s0,W6 W s0 s/\XM P o fr s0 s=some (l,q,r)
theorem aD{o:dg}{s0:St}(h:∀x∈o.op.operands,rd fr x=rd fr' x):XM P o fr s0 s=XM P o fr' s0 s:=by
 unfold XM;split
 ·rename_i args argTypes ho;rw[ho]at h;split
  ·rename_i x y T U d e1 e2 e3;have hx:DW true fr x=DW true fr' x:=C3 (h x (by simp only[Op.operands,Call.operands];rw[<-bx];simp[e1]));have hy:DW true fr y=DW true fr' y:=C3 (h y (by simp only[Op.operands,Call.operands];rw[<-bx];simp[e1]));rw[hx,hy]
  ·rfl
 ·rfl
theorem VT{o:dg}{l q d:Nat}{r:AX}{s0:St}(hsub:s0.sub s)(h:XM P o fr s0 s=some (l,q,r))(hd:o.dst=some d):kP o=true/\((l=s.up.length/\q=d)\/∃x,s.get l q=some x) /\
  (∀s',s'.up.length=s.up.length->s'.get l q=s.get l q->XM P o fr s0 s'=some (l,q,r))/\∀(k:Fr->St->Prop),(∀γ,k (fr.put d true (HO r l q γ)) (s.put l q γ r))->EJ P true o fr s k:=by
 unfold XM at h
 split at h
 ·rename_i args argTypes ho;split at h
  ·rename_i x y T U d' e1 e2 e3;have:d'=d:=bb.inj (e3.symm.trans hd);subst this;split at h
   ·rename_i hT;subst hT;split at h
    ·rename_i e xv ys hel hx hy;obtain⟨yv,hyv,hys⟩:=bj.1 hy;have hys':(DW true fr y).bind (elemsOf s)=some ys:=by rw[hyv];exact mU hsub hys
     split at h
     ·rename_i es hn;split at h
      ·rename_i hc;cases h;refine⟨by simp[kP,ho],.inl ⟨rfl,rfl⟩,fun s' hu _=>?_,fun k hk=>?_⟩
       ·unfold XM;simp only[ho,e1,e2,e3,hel,hx,hy,if_true,hn,hu];rw[if_pos hc]
       ·obtain⟨hce,hc⟩:=hc;simp only[BV,bq,cz,Nat.ble_eq]at hc;unfold EJ;simp only[ho,e1,e2,e3,hel,hx,hys',hn];exact⟨trivial,trivial,hc.1.1.1.1,hc.1.1.1.2,hce,hc.1.1.2,hc.1.2,hc.2,hk⟩
      ·cases h
     ·rename_i hn;split at h
      ·rename_i l' q' γ n;split at h
       ·rename_i γ' U' es hget;split at h
        ·rename_i hc;cases h;obtain⟨c1,c2,c3,c4,c5⟩:=hc;refine⟨by simp[kP,ho],.inr ⟨_,(PT hget).choose_spec.1⟩,fun s' _ hs'=>?_,fun k hk=>?_⟩
         ·unfold XM;simp only[ho,e1,e2,e3,hel,hx,hy,if_true,hn,hs',hget];rw[if_pos ⟨c1,c2,c3,c4,c5⟩]
         ·simp only[BV,bq,cz,Nat.ble_eq]at c5;unfold EJ;simp only[ho,e1,e2,e3,hel,hx,hys',hn,hget];refine⟨trivial,?_⟩;refine⟨trivial,c1,c2,c3,c5.1.1.1.1,c5.1.1.1.2,c4,c5.1.1.2,c5.1.2,c5.2,?_⟩;intro γ2;have:=hk γ2;simpa [HO]using this
        ·cases h
       ·cases h
      ·cases h
    ·cases h
   ·cases h
  ·cases h
 ·cases h
def GA(P:dh)(Ω:HP P)(W:AK)(o:dg)(gd:Option (Tmp×Bool))(fr:Fr)(s:St)(k:Fr->St->Prop):Prop :=
 (∃g v,JH P Ω W o gd fr s g v/\k (putD fr o.dst g v) s)\/(∃r d,KC P Ω o gd fr r d/\∀γ,k (fr.put d true (r.val s.up.length d γ)) (s.put s.up.length d γ r.res)) \/
 (∃l q γ r,F4 P W o gd fr s l q γ r/\k fr (s.put l q γ r))\/(∃l q r d,KD P W o gd fr s l q d r/\∀γ,k (fr.put d true (HO r l q γ)) (s.put l q γ r))
structure GD(fr:Fr)(s:St)(fr':Fr)(s':St):Prop where
 f:∀k,fr.get k=fr'.get k
 p:∀l k,s.get l k=s'.get l k
 n:s.up.length=s'.up.length
theorem GD.refl(fr:Fr)(s:St):GD fr s fr s:=⟨fun _=>rfl,fun _ _=>rfl,rfl⟩
theorem GD.rd(h:GD fr s fr' s')(x:dm):Pg.rd fr x=Pg.rd fr' x:=by
 cases x with
 |tmp t=>exact h.f t
 |_=>rfl
theorem GD.gd(h:GD fr s fr' s')(gd:Option (Tmp×Bool)):QK fr gd=QK fr' gd:=by
 cases gd with
 |none=>rfl
 |some p=>simp only[QK,h.f]
theorem GF(fr:Fr)(d:Option Tmp)(c:Bool)(v:V)(k:Nat):(putD fr d c v).get k=if d=some k then some (c,v) else fr.get k:=by
 cases d with
 |none=>simp[putD]
 |some d=>simp only[putD,Fr.get_put,bb.injEq,eq_comm]
theorem GD.putD(h:GD fr s fr' s')(d:Option Tmp)(c:Bool)(v:V):GD (Pg.putD fr d c v) s (Pg.putD fr' d c v) s' :=
 ⟨fun k=>by simp only[GF,h.f],h.p,h.n⟩
theorem GD.new(h:GD fr s fr' s')(d γ:Nat)(r:Mk):GD (fr.put d true (r.val s.up.length d γ)) (s.put s.up.length d γ r.res) (fr'.put d true (r.val s'.up.length d γ)) (s'.put s'.up.length d γ r.res) :=
 ⟨fun k=>by simp only[Fr.get_put,h.f,h.n],fun l k=>by rw[St.get_putLoc,St.get_putLoc,h.n,h.p],by rw[St.put_len,St.put_len];exact h.n⟩
theorem GD.out(h:GD fr s fr' s')(W:AK):zY W s s':=⟨fun l k x _ e=>by rw[<-h.p];exact e,fun l k γ T es _ e=>⟨es,by rw[<-h.p];exact e,rfl⟩,fun l k γ r _ _ e=>⟨r,by rw[<-h.p];exact e,.inl rfl⟩⟩
theorem GD.store(h:GD fr s fr' s'){l q γ:Nat}{r:AX}{x:Nat×AX}(hx:s.get l q=some x):GD fr (s.put l q γ r) fr' (s'.put l q γ r) :=
 ⟨h.f,fun l' k'=>by rw[St.get_put s hx,St.get_put s' (by rw[<-h.p];exact hx),h.p],by rw[St.put_len,St.put_len];exact h.n⟩
theorem MZ{s:St}{l q:Nat}(h:l=s.up.length\/∃x,s.get l q=some x)(γ:Nat)(r:AX)(l' k':Nat):(s.put l q γ r).get l' k'=if l'=l/\k'=q then some (γ,r) else s.get l' k':=by
 rcases h with rfl|⟨x,hx⟩
 ·exact St.get_putLoc s l' k'
 ·exact St.get_put s hx l' k'
theorem KD.spec{W:AK}{o:dg}{gd:Option (Tmp×Bool)}{l q d:Nat}{r:AX}(h:KD P W o gd fr s l q d r):kP o=true/\((l=s.up.length/\q=d)\/∃x,s.get l q=some x)/\∀(k:Fr->St->Prop),(∀γ,k (fr.put d true (HO r l q γ)) (s.put l q γ r))->EJ P true o fr s k:=by obtain⟨_,_,h3,s0,hb,h4⟩:=h;have q:=VT hb.sub h4 h3;exact⟨q.1,q.2.1,q.2.2.2⟩
theorem KD.move{W:AK}{o:dg}{gd:Option (Tmp×Bool)}{l q d:Nat}{r:AX}(h:KD P W o gd fr s l q d r)(hn:s'.up.length=s.up.length)(hq:s'.get l q=s.get l q)(ho:zY W s s'):KD P W o gd fr s' l q d r:=by obtain⟨h1,h2,h3,s0,hb,h4⟩:=h;exact⟨h1,h2,h3,s0,hb.out ho,(VT hb.sub h4 h3).2.2.1 s' hn hq⟩
theorem KD.pl{W:AK}{o:dg}{gd:Option (Tmp×Bool)}{l q d:Nat}{r:AX}(h:KD P W o gd fr s l q d r):l=s.up.length\/∃x,s.get l q=some x:=h.spec.2.1.imp (fun h=>h.1) id
theorem GD.app(h:GD fr s fr' s'){l q:Nat}(hl:l=s.up.length\/∃x,s.get l q=some x)(d γ:Nat)(r:AX)(v:V):GD (fr.put d true v) (s.put l q γ r) (fr'.put d true v) (s'.put l q γ r) :=
 ⟨fun k=>by simp only[Fr.get_put,h.f],fun l' k=>by rw[MZ hl,MZ (s:=s') (by rw[<-h.n,<-h.p];exact hl),h.p],by rw[St.put_len,St.put_len];exact h.n⟩
theorem mV{W:AK}{o:dg}{gd:Option (Tmp×Bool)}{k k':Fr->St->Prop}(h:GA P Ω W o gd fr s k)(hs:GD fr s fr' s')(hk:∀f1 s1 f2 s2,GD f1 s1 f2 s2->k f1 s1->k' f2 s2):GA P Ω W o gd fr' s' k':=by
 rcases h with⟨g,v,⟨h1,h2⟩,h3⟩|⟨r,d,⟨h1,h2,h3⟩,h4⟩|⟨l,q,γ,r,⟨h1,h2,h3⟩,h4⟩|⟨l,q,r,d,hap,h5⟩
 ·refine .inl ⟨g,v,⟨(hs.gd gd).symm.trans h1,?_⟩,hk _ _ _ _ (hs.putD _ _ _) h3⟩;rcases h2 with⟨s0,h2,h2'⟩|⟨f,args,h2,h2'⟩|h2|h2
  ·exact .inl ⟨s0,h2.out (hs.out W),(GR fun x _=>(hs.rd x).symm).trans h2'⟩
  ·exact .inr (.inl ⟨f,args,(G5 fun x _=>(hs.rd x).symm).trans h2,h2'⟩)
  ·exact .inr (.inr (.inl ((h2.out (hs.out W).2).frame fun x _=>C3 (hs.rd x))))
  ·exact .inr (.inr (.inr h2))
 ·exact .inr (.inl ⟨r,d,⟨(hs.gd gd).symm.trans h1,h2,(Z9 fun x _=>(hs.rd x).symm).trans h3⟩,fun γ=>hk _ _ _ _ (hs.new d γ r) (h4 γ)⟩)
 ·obtain⟨⟨r0,hg⟩,_⟩:=DU h3;exact .inr (.inr (.inl ⟨l,q,γ,r,⟨(hs.gd gd).symm.trans h1,h2.frame (T9 fun x _=>hs.rd x),PW ((UA fun x _=>(hs.rd x).symm).trans h3) (hs.p l q).symm⟩,hk _ _ _ _ (hs.store hg) h4⟩))
 ·have hpl:=hap.pl;obtain⟨h1,h2,h3,s0,hb,h4⟩:=hap;exact .inr (.inr (.inr ⟨l,q,r,d,⟨(hs.gd gd).symm.trans h1,h2,h3,s0,hb.out (hs.out W),(VT hb.sub ((aD fun x _=>(hs.rd x).symm).trans h4) h3).2.2.1 s' hs.n.symm (hs.p l q).symm⟩,fun γ=>hk _ _ _ _ (hs.app hpl d γ r _) (h5 γ)⟩))
def G6(o:dg)(gd:Option (Tmp×Bool))(d:Option Tmp):Prop:=∀t,d=some t->(∀x∈o.op.operands,x≠.tmp t)/\(∀p,gd=some p->p.1≠t)
theorem G6.rd{o:dg}{gd:Option (Tmp×Bool)}{d:Option Tmp}(h:G6 o gd d)(c:Bool)(v:V):∀x∈o.op.operands,Pg.rd (putD fr d c v) x=Pg.rd fr x:=by
 intro x hx;cases d with
 |none=>rfl
 |some t=>
  have:=(h t rfl).1 x hx
  cases x with
  |tmp j=>
   show(fr.put t c v).get j=fr.get j
   rw[Fr.get_put,if_neg (fun e=>this (by rw[e]))]
  |_=>rfl
theorem G6.gd{o:dg}{gd:Option (Tmp×Bool)}{d:Option Tmp}(h:G6 o gd d)(c:Bool)(v:V):QK (putD fr d c v) gd=QK fr gd:=by
 cases d with
 |none=>rfl
 |some t=>
  cases gd with
  |none=>rfl
  |some p=>
   have:=(h t rfl).2 p rfl
   obtain⟨j,w⟩:=p
   show(match(fr.put t c v).get j with|some (c,.bool b)=>some (c&&(b==w))|_=>none)=_
   rw[Fr.get_put,if_neg this]
   rfl
theorem JH.keep{W:AK}{o:dg}{gd:Option (Tmp×Bool)}{d:Option Tmp}{g c:Bool}{u v:V}(h:JH P Ω W o gd fr s g v)(hb:G6 o gd d)(hs:zY W s s'):JH P Ω W o gd (putD fr d c u) s' g v:=by
 refine⟨(hb.gd c u).trans h.1,?_⟩;rcases h.2 with⟨s0,h2,h2'⟩|⟨f,args,h2,h2'⟩|h2|h2
 ·exact .inl ⟨s0,h2.out hs,(GR (hb.rd c u)).trans h2'⟩
 ·exact .inr (.inl ⟨f,args,(G5 (hb.rd c u)).trans h2,h2'⟩)
 ·exact .inr (.inr (.inl ((h2.out hs.2).frame fun x hx=>(C3 (hb.rd c u x hx)).symm)))
 ·exact .inr (.inr (.inr h2))
theorem JH.out{W:AK}{o:dg}{gd:Option (Tmp×Bool)}{g:Bool}{v:V}(h:JH P Ω W o gd fr s g v)(hs:zY W s s'):JH P Ω W o gd fr s' g v :=
 ⟨h.1,h.2.imp (fun ⟨s0,h2,h2'⟩=>⟨s0,h2.out hs,h2'⟩) fun h=>h.imp id fun h=>h.imp (fun h=>h.out hs.2) id⟩
theorem JH.back{W:AK}{o:dg}{gd:Option (Tmp×Bool)}{d:Option Tmp}{g c:Bool}{u v:V}(h:JH P Ω W o gd (putD fr d c u) s g v)(hb:G6 o gd d):JH P Ω W o gd fr s g v:=by
 refine⟨(hb.gd c u).symm.trans h.1,?_⟩;rcases h.2 with⟨s0,h2,h2'⟩|⟨f,args,h2,h2'⟩|h2|h2
 ·exact .inl ⟨s0,h2,(GR (hb.rd c u)).symm.trans h2'⟩
 ·exact .inr (.inl ⟨f,args,(G5 (hb.rd c u)).symm.trans h2,h2'⟩)
 ·exact .inr (.inr (.inl (h2.frame fun x hx=>C3 (hb.rd c u x hx))))
 ·exact .inr (.inr (.inr h2))
theorem KD.keep{W:AK}{o:dg}{gd:Option (Tmp×Bool)}{d _e:Option Tmp}{c:Bool}{u:V}{l q d':Nat}{r:AX}(hb:G6 o gd d):KD P W o gd (putD fr d c u) s l q d' r↔KD P W o gd fr s l q d' r:=by unfold KD;simp only[hb.gd c u,aD (hb.rd c u)]
theorem F4.keep{W:AK}{o:dg}{gd:Option (Tmp×Bool)}{d:Option Tmp}{c:Bool}{u:V}{l q γ:Nat}{r:AX}(hb:G6 o gd d):F4 P W o gd (putD fr d c u) s l q γ r↔F4 P W o gd fr s l q γ r:=by have e:JI P o (putD fr d c u)=JI P o fr:=T9 (hb.rd c u);unfold F4;rw[hb.gd c u,UA (hb.rd c u)];exact⟨fun h=>⟨h.1,h.2.1.frame e,h.2.2⟩,fun h=>⟨h.1,h.2.1.frame e.symm,h.2.2⟩⟩
theorem F4.at{W:AK}{o:dg}{gd:Option (Tmp×Bool)}{l q γ:Nat}{r:AX}(h:F4 P W o gd fr s l q γ r)(hs:s'.get l q=s.get l q):F4 P W o gd fr s' l q γ r:=⟨h.1,h.2.1,PW h.2.2 hs⟩
theorem KC.keep{o:dg}{gd:Option (Tmp×Bool)}{d:Option Tmp}{c:Bool}{u:V}{r:Mk}{e:Nat}(hb:G6 o gd d):KC P Ω o gd (putD fr d c u) r e↔KC P Ω o gd fr r e:=by unfold KC;rw[hb.gd c u,Z9 (hb.rd c u)]
theorem iI{d γ:Nat}{r:AX}(h:s.get s.up.length d=none):s.sub (s.put s.up.length d γ r):=by
 intro l k x e;rw[St.get_putLoc];split
 ·rename_i hc;obtain⟨rfl,rfl⟩:=hc;rw[h]at e;cases e
 ·exact e
theorem iJ{W:AK}{d γ:Nat}{r:AX}(h:s.get s.up.length d=none):zY W s (s.put s.up.length d γ r):=⟨fun l k x _ e=>iI h l k x e,fun l k _γ' _T es _ e=>⟨es,iI h l k _ e,rfl⟩,fun l k _γ' r _ _ e=>⟨r,iI h l k _ e,.inl rfl⟩⟩
theorem ALC{W:AK}{l q γ:Nat}{r:AX}(hl:l=s.up.length\/∃x,s.get l q=some x)(hW:(l,q)∈W)(hW2:(l,q+JF)∈W):zY W s (s.put l q γ r):=⟨fun l' k' y hn e=>by
 rw[MZ hl,if_neg (fun h=>hn (by rw[h.1,h.2];exact hW))];exact e,fun l' k' γ' T es hn e=>⟨es,by rw[MZ hl,if_neg (fun h=>hn (by rw[h.1,h.2];exact hW2))];exact e,rfl⟩,
 fun l' k' γ' r' hn _ e=>⟨r',by rw[MZ hl,if_neg (fun h=>hn (by rw[h.1,h.2]; exact hW2))]; exact e,.inl rfl⟩⟩
theorem BDU{o:dg}(h:kP o=true):kW o=false:=by
 unfold kP at h;unfold kW;split at h<;>rename_i e
 ·simp[e]
 ·cases h
theorem mX{α:Type}{cs ds:List α}{off n:Nat}(h1:ds.length=n)(h2:off+n<=cs.length):(A2 cs off ds).length=cs.length:=by subst h1;simp[A2];omega
theorem UB{o:dg}{l q γ:Nat}{r:AX}(h:DD P o fr s=some (l,q,γ,r)):∃r0,s.get l q=some (γ,r0)/\((∃cs cs',r0=.box cs/\r=.box cs')\/∃T es es',r0=.vec T es/\r=.vec T es'/\es'.map dj=es.map dj):=by
 unfold DD at h;split at h
 ·split at h
  ·split at h
   ·rename_i γ2 cs e3;split at h
    ·rename_i hc;cases h;obtain⟨c1,_⟩:=hc;subst c1;exact⟨_,e3,.inl ⟨_,_,rfl,rfl⟩⟩
    ·cases h
   ·cases h
  ·rename_i i off v e1 e2;split at h
   ·rename_i γ2 U es e3;split at h
    ·rename_i hc;cases h;obtain⟨c1,c2,c3,c4,c5,c6,c7⟩:=hc;subst c1;refine⟨_,e3,.inr ⟨_,_,_,rfl,rfl,?_⟩⟩;have hg:es.getD i []=es[i]:=by simp[List.getD,c5]
     rw[List.map_set,mX c4 c6,hg];apply dz;intro j;rw[cd];split
     ·rename_i e;subst e;simp[c5]
     ·rfl
    ·cases h
   ·cases h
  ·cases h
 ·cases h
theorem aE{cs ds:List V}{off n c:Nat}(h1:ds.length=n)(h2:off+n<=cs.length)(hc:¬(off<=c/\c<off+n)):(A2 cs off ds)[c]? = cs[c]?:=by
 subst h1;unfold A2;by_cases h:c<off
 ·rw[List.append_assoc,List.getElem?_append_left (by simp;omega),List.getElem?_take_of_lt h]
 ·have hl:(cs.take off++ds).length=off+ds.length:=by simp;omega
  rw[List.getElem?_append_right (by omega),hl,bc];congr 1;omega
theorem aF{W:AK}{o:dg}{l q γ:Nat}{r:AX}(h:DD P o fr s=some (l,q,γ,r))(hC:∀off n,JI P o fr=some (off,n)->∀c,off<=c->c<off+n->(l,GS q c)∈W):∃r0,s.get l q=some (γ,r0)/\ASF W l q r0 r/\ASF W l q r r0:=by
 unfold DD at h;unfold JI at hC;split at h
 ·rename_i T x y ho;simp only[ho]at hC;split at h
  ·rename_i l' q' γ' off v e1 e2;simp only[e1]at hC;split at h
   ·rename_i γ2 cs e3;split at h
    ·rename_i hc;cases h;obtain⟨c1,c2,c3,c4,c5,c6⟩:=hc;subst c1;have hC:=hC _ _ rfl;have key:∀c,(l,GS q c)∉W->(A2 cs off (A8 v))[c]? = cs[c]?:=fun c hn=>aE c4 c5 fun hh=>hn (hC c hh.1 hh.2);exact⟨_,e3,.inr (.inl ⟨_,_,rfl,rfl,key⟩),.inr (.inl ⟨_,_,rfl,rfl,fun c hn=>(key c hn).symm⟩)⟩
    ·cases h
   ·cases h
  ·rename_i l' q' γ' i off v e1 e2;simp only[e1]at hC;split at h
   ·rename_i γ2 U es e3;split at h
    ·rename_i hc;cases h;obtain⟨c1,c2,c3,c4,c5,c6,c7⟩:=hc;subst c1;have hC:=hC _ _ rfl;have hg:es.getD i []=es[i]:=by simp[List.getD,c5]
     have key:∀c,(l,GS q c)∉W->(A2 (es.getD i []) off (A8 v))[c]? = (es.getD i [])[c]?:=fun c hn=>aE c4 c6 fun hh=>hn (hC c hh.1 hh.2);refine⟨_,e3,.inr (.inr ⟨_,_,_,rfl,rfl,by simp,fun j e he=>?_⟩),.inr (.inr ⟨_,_,_,rfl,rfl,by simp,fun j e he=>?_⟩)⟩
     ·rw[cd];by_cases hij:i=j
      ·subst hij;have:e=es.getD i []:=by rw[hg];rw[bw c5]at he;exact(bb.inj he).symm
       subst this;exact⟨_,by simp[c5],key⟩
      ·exact⟨e,by rw[if_neg hij];exact he,fun _ _=>rfl⟩
     ·rw[cd]at he;by_cases hij:i=j
      ·subst hij;simp only[c5,if_true,bb.injEq]at he;subst he;exact⟨_,by rw[hg];exact bw c5,fun c hn=>(key c hn).symm⟩
      ·rw[if_neg hij]at he;exact⟨e,he,fun _ _=>rfl⟩
    ·cases h
   ·cases h
  ·cases h
 ·cases h
theorem zZ{W:AK}{o:dg}{l q γ:Nat}{r:AX}(h:DD P o fr s=some (l,q,γ,r))(hW0:WOK P W o fr l q):zY W s (s.put l q γ r):=by
 have hW:=hW0.1;obtain⟨r0,hx,hsh⟩:=UB h;refine⟨fun l' k' y hn e=>by rw[St.get_put s hx,if_neg (fun h=>hn (by rw[h.1,h.2];exact hW))];exact e,fun l' k' γ' T es _ e=>?_,fun l' k' γ' r' _ hn e=>?_⟩
 ·rw[St.get_put s hx];by_cases hc:l'=l/\k'=q
  ·obtain⟨rfl,rfl⟩:=hc;rw[hx]at e;cases e;rcases hsh with⟨cs,cs',h1,_⟩|⟨T0,es0,es',h1,h2,h3⟩
   ·cases h1
   ·cases h1;subst h2;exact⟨es',by simp,h3⟩
  ·rw[if_neg hc];exact⟨es,e,rfl⟩
 ·rw[St.get_put s hx];by_cases hc:l'=l/\k'=q
  ·obtain⟨rfl,rfl⟩:=hc;rcases hW0.2 with hm|hC
   ·exact(hn hm).elim
   ·obtain⟨r1,e1,h1,_⟩:=aF h hC;rw[e1]at e;cases e;exact⟨r,by simp,h1⟩
  ·rw[if_neg hc];exact⟨r',e,.inl rfl⟩
theorem rX{W:AK}{o:dg}{l q γ:Nat}{r:AX}(h:DD P o fr s=some (l,q,γ,r))(hW0:WOK P W o fr l q):zY W (s.put l q γ r) s:=by
 have hW:=hW0.1;obtain⟨r0,hx,hsh⟩:=UB h;refine⟨fun l' k' y hn e=>by rw[St.get_put s hx,if_neg (fun h=>hn (by rw[h.1,h.2];exact hW))]at e;exact e,fun l' k' γ' T es _ e=>?_,fun l' k' γ' r' _ hn e=>?_⟩
 ·rw[St.get_put s hx]at e;by_cases hc:l'=l/\k'=q
  ·obtain⟨rfl,rfl⟩:=hc;simp only[and_self,if_true,bb.injEq,Prod.mk.injEq]at e;obtain⟨rfl,rfl⟩:=e;rcases hsh with⟨cs,cs',_,h1⟩|⟨T0,es0,es',h1,h2,h3⟩
   ·cases h1
   ·cases h2;subst h1;exact⟨es0,hx,h3.symm⟩
  ·rw[if_neg hc]at e;exact⟨es,e,rfl⟩
 ·rw[St.get_put s hx]at e;by_cases hc:l'=l/\k'=q
  ·obtain⟨rfl,rfl⟩:=hc;simp only[and_self,if_true,bb.injEq,Prod.mk.injEq]at e;obtain⟨rfl,rfl⟩:=e;rcases hW0.2 with hm|hC
   ·exact(hn hm).elim
   ·obtain⟨r1,e1,_,h1⟩:=aF h hC;exact⟨r1,e1,h1⟩
  ·rw[if_neg hc]at e;exact⟨r',e,.inl rfl⟩
theorem rY{W:AK}{oi oj:dg}{gi gj:Option (Tmp×Bool)}{k k':Fr->St->Prop}(hij:G6 oj gj oi.dst)(hji:G6 oi gi oj.dst)(hne:∀d,oi.dst=some d->oj.dst≠some d)(hA:kA Ω.own oi=true->kA Ω.own oj=true\/kW oj=true)(hW:kW oi=true->kW oj=false/\kP oj=false)(hP:kP oi=true->kA Ω.own oj=true)
  (hfj:∀d,kA Ω.own oj=true->oj.dst=some d->s.get s.up.length d=none) (hfi:∀d,kA Ω.own oi=true->oi.dst=some d->s.get s.up.length d=none)
  (h:GA P Ω W oi gi fr s fun f1 s1=>GA P Ω W oj gj f1 s1 k) (hk:∀f1 s1 f2 s2,GD f1 s1 f2 s2->k f1 s1->k' f2 s2) :
  GA P Ω W oj gj fr s fun f2 s2=>GA P Ω W oi gi f2 s2 k':=by
 have hcomm:∀(c c':Bool) (v v':V),∀t,(putD (putD fr oi.dst c v) oj.dst c' v').get t=(putD (putD fr oj.dst c' v') oi.dst c v).get t:=by
  intro c c' v v' t;simp only[GF];by_cases e1:oj.dst=some t
  ·have:oi.dst≠some t:=fun e2=>hne t e2 e1;simp[e1,this]
  ·simp[e1]
 rcases h with⟨g,v,hp,h⟩|⟨r,d,hn,h⟩|⟨l,q,γ,r,hst,h⟩|⟨l,q,r,d,hap,h⟩
 ·rcases h with⟨g',u,hp',h⟩|⟨r,d,hn,h⟩|⟨l,q,γ,r,hst,h⟩|⟨l,q,r,d,hap,h⟩
  ·exact .inl ⟨g',u,hp'.back hij,.inl ⟨g,v,hp.keep hji (zY.refl W s),hk _ _ _ _ ⟨hcomm _ _ _ _,fun _ _=>rfl,rfl⟩ h⟩⟩
  ·have hd:=hn.2.1;refine .inr (.inl ⟨r,d,(KC.keep hij).1 hn,fun γ=>.inl ⟨g,v,?_,hk _ _ _ _ ⟨fun t=>?_,fun _ _=>rfl,rfl⟩ (h γ)⟩⟩)
   ·have:=hp.keep (c:=true) (u:=r.val s.up.length d γ) hji (iJ (W:=W) (r:=r.res) (γ:=γ) (hfj d (RH hn.2.2) hd));rw[hd]at this;exact this
   ·have:=hcomm g true v (r.val s.up.length d γ) t;rw[hd]at this;exact this
  ·have hst':=(F4.keep hij).1 hst;obtain⟨⟨r0,hg⟩,hdn,_⟩:=DU hst'.2.2;exact .inr (.inr (.inl ⟨l,q,γ,r,hst',.inl ⟨g,v,hp.out (zZ hst'.2.2 hst'.2.1),hk _ _ _ _ (GD.refl _ _) h⟩⟩))
  ·have hap':=(KD.keep (_e:=none) hij).1 hap;have hd:=hap.2.2.1;refine .inr (.inr (.inr ⟨l,q,r,d,hap',fun γ=>.inl ⟨g,v,?_,hk _ _ _ _ ⟨fun t=>?_,fun _ _=>rfl,rfl⟩ (h γ)⟩⟩))
   ·have:=hp.keep (c:=true) (u:=HO r l q γ) hji (ALC (W:=W) (r:=r) (γ:=γ) hap'.pl hap'.2.1.1 hap'.2.1.2);rw[hd]at this;exact this
   ·have:=hcomm g true v (HO r l q γ) t;rw[hd]at this;exact this
 ·have hd:=hn.2.1;have hput:∀c v,fr.put d c v=putD fr oi.dst c v:=fun c v=>by rw[hd];rfl
  have hfd:=hfi d (RH hn.2.2) hd;rcases hA (RH hn.2.2)with hj|hj
  ·have key:∀γ,∃r' d',KC P Ω oj gj fr r' d'/\∀γ',k ((fr.put d true (r.val s.up.length d γ)).put d' true (r'.val s.up.length d' γ')) ((s.put s.up.length d γ r.res).put s.up.length d' γ' r'.res):=by
    intro γ;rcases h γ with⟨g',u,hp',_⟩|⟨r',d',hn',h'⟩|⟨l,q,γ2,r2,hst,_⟩|⟨l,q,r2,d2,hap,_⟩
    ·have:=iH hp';rw[hj]at this;cases this
    ·rw[hput]at hn';refine⟨r',d',(KC.keep hij).1 hn',fun γ'=>?_⟩;have:=h' γ';rw[St.put_len]at this;exact this
    ·have:=(DU hst.2.2).2.2.1;rw[(aC hj).1]at this;cases this
    ·have:=hap.spec.1;rw[(aC hj).2]at this;cases this
   obtain⟨r',d',hn',_⟩:=key 0;refine .inr (.inl ⟨r',d',hn',fun γ'=>.inr (.inl ⟨r,d,?_,fun γ=>?_⟩)⟩)
   ·have:=(KC.keep (P:=P) (fr:=fr) (c:=true) (u:=r'.val s.up.length d' γ') (r:=r) (e:=d) hji).2 hn;rw[hn'.2.1]at this;exact this
   ·obtain⟨r2,d2,hn2,h2⟩:=key γ;have e1:d2=d':=bb.inj (hn2.2.1.symm.trans hn'.2.1);have e2:r2=r':=bb.inj (hn2.2.2.symm.trans hn'.2.2);subst e1;subst e2;have hdd:d≠d2:=fun e=>hne d hd (by rw[e];exact hn'.2.1);refine hk _ _ _ _ ⟨fun t=>?_,fun l t=>?_,?_⟩ (h2 γ')
    ·rw[St.put_len];simp only[Fr.get_put];by_cases e1:t=d2
     ·subst e1;simp[Ne.symm hdd]
     ·simp[e1]
    ·have q1:∀(s0:St) (m e γ:Nat) (r:AX),m=s0.up.length->∀l k,(s0.put m e γ r).get l k=if l=m/\k=e then some (γ,r) else s0.get l k:=fun s0 m e γ r hm l k=>by subst hm;exact St.get_putLoc s0 l k
     rw[q1 _ _ _ _ _ (St.put_len _ _ _ _ _).symm,q1 _ _ _ _ _ rfl,q1 _ _ _ _ _ rfl,q1 _ _ _ _ _ rfl,St.put_len];by_cases e1:t=d2
     ·subst e1;simp[Ne.symm hdd]
     ·simp[e1]
    ·simp only[St.put_len]
  ·have key:∀γ,∃l q γ2 r2,QK fr gj=some true/\WOK P W oj fr l q/\DD P oj fr (s.put s.up.length d γ r.res)=some (l,q,γ2,r2)/\k (fr.put d true (r.val s.up.length d γ)) ((s.put s.up.length d γ r.res).put l q γ2 r2):=by
    intro γ;rcases h γ with⟨g',u,hp',_⟩|⟨r',d',hn',h'⟩|⟨l,q,γ2,r2,hst,h'⟩|⟨l,q,r2,d2,hap,_⟩
    ·have:=(AFJ hp').2.1;rw[hj]at this;cases this
    ·have:=ASG hn'.2.2;rw[hj]at this;cases this
    ·rw[hput]at hst;have hst':=(F4.keep hij).1 hst;exact⟨l,q,γ2,r2,hst'.1,hst'.2.1,hst'.2.2,h'⟩
    ·have:=BDU hap.spec.1;rw[hj]at this;cases this
   obtain⟨l,q,γp,r2,hg,hlq,hst0,_⟩:=key 0;have hneq:¬(l=s.up.length/\q=d):=by intro e;obtain⟨l',q',γ',r',_,_,h1,_⟩:=key (γp+1);obtain⟨rfl,rfl,rfl⟩:=aB hst0 h1;obtain⟨⟨r0,h2⟩,_⟩:=DU h1;rw[St.get_putLoc,if_pos e]at h2;simp at h2
   have hs:∀γ,s.get l q=(s.put s.up.length d γ r.res).get l q:=fun γ=>by rw[St.get_putLoc,if_neg hneq]
   have hst:DD P oj fr s=some (l,q,γp,r2):=PW hst0 (hs 0);obtain⟨⟨r0,hget⟩,hdn,_⟩:=DU hst;refine .inr (.inr (.inl ⟨l,q,γp,r2,⟨hg,hlq,hst⟩,.inr (.inl ⟨r,d,hn,fun γ=>?_⟩)⟩));obtain⟨l',q',γ',r',_,_,h1,h2⟩:=key γ;obtain⟨rfl,rfl,rfl⟩:=aB hst0 h1;have h3:=PW h1 (hs γ);rw[hst]at h3;simp only[bb.injEq,Prod.mk.injEq,true_and]at h3;subst h3;refine hk _ _ _ _ ⟨fun t=>by rw[St.put_len],fun l1 k1=>?_,by simp only[St.put_len]⟩ h2;have q1:∀(s0:St) (m e γ:Nat) (r:AX),m=s0.up.length->∀l k,(s0.put m e γ r).get l k=if l=m/\k=e then some (γ,r) else s0.get l k:=fun s0 m e γ r hm l k=>by subst hm;exact St.get_putLoc s0 l k
   rw[q1 (s.put l q γp r2) _ _ _ _ rfl,St.put_len,St.get_put s hget,St.get_put (x:=(γp,r0)) _ (by rw[q1 _ _ _ _ _ rfl,if_neg hneq];exact hget),q1 _ _ _ _ _ rfl];by_cases e1:l1=s.up.length/\k1=d
   ·obtain⟨rfl,rfl⟩:=e1;have:¬(s.up.length=l/\k1=q):=fun e=>hneq ⟨e.1.symm,e.2.symm⟩;simp[this]
   ·simp[e1]
 ·obtain⟨⟨r0,hg⟩,hdn,hkw,_⟩:=DU hst.2.2;have hjw:=(hW hkw).1;rcases h with⟨g',u,hp',h⟩|⟨r',d',hn',h⟩|⟨l',q',γ',r',hst',h⟩|⟨l',q',r',d',hap,h⟩
  ·exact .inl ⟨g',u,hp'.out (rX hst.2.2 hst.2.1),.inr (.inr (.inl ⟨l,q,γ,r,(F4.keep hji).2 hst,hk _ _ _ _ (GD.refl _ _) h⟩))⟩
  ·have hd':=hn'.2.1;have hfd:=hfj d' (RH hn'.2.2) hd';have hneq:¬(l=s.up.length/\q=d'):=fun e=>by rw[e.1,e.2,hfd]at hg;cases hg
   refine .inr (.inl ⟨r',d',hn',fun γ'=>.inr (.inr (.inl ⟨l,q,γ,r,?_,hk _ _ _ _ ⟨fun t=>by rw[St.put_len],fun l1 k1=>?_,by simp only[St.put_len]⟩ (h γ')⟩))⟩)
   ·have h3:=(F4.keep (P:=P) (W:=W) (fr:=fr) (c:=true) (u:=r'.val s.up.length d' γ') (l:=l) (q:=q) (γ:=γ) (r:=r) (s:=s) hji).2 hst;rw[hd']at h3;exact h3.at (by rw[St.get_putLoc,if_neg hneq])
   ·have q1:∀(s0:St) (m e γ:Nat) (r:AX),m=s0.up.length->∀l k,(s0.put m e γ r).get l k=if l=m/\k=e then some (γ,r) else s0.get l k:=fun s0 m e γ r hm l k=>by subst hm;exact St.get_putLoc s0 l k
    rw[q1 _ _ _ _ _ rfl,St.put_len,St.get_put s hg,St.get_put (x:=(γ,r0)) _ (by rw[q1 _ _ _ _ _ rfl,if_neg hneq];exact hg),q1 _ _ _ _ _ rfl];by_cases e1:l1=s.up.length/\k1=d'
    ·obtain⟨rfl,rfl⟩:=e1;have:¬(s.up.length=l/\k1=q):=fun e=>hneq ⟨e.1.symm,e.2.symm⟩;simp[this]
    ·simp[e1]
  ·have:=(DU hst'.2.2).2.2.1;rw[hjw]at this;cases this
  ·have:=hap.spec.1;rw[(hW hkw).2]at this;cases this
 ·have hd:=hap.2.2.1;have hsp:=hap.spec;have hj:=hP hsp.1;have hput:∀c v,fr.put d c v=putD fr oi.dst c v:=fun c v=>by rw[hd];rfl
  have key:∀γ,∃r' d',KC P Ω oj gj fr r' d'/\∀γ',k ((fr.put d true (HO r l q γ)).put d' true (r'.val s.up.length d' γ')) ((s.put l q γ r).put s.up.length d' γ' r'.res):=by
   intro γ;rcases h γ with⟨g',u,hp',_⟩|⟨r',d',hn',h'⟩|⟨l2,q2,γ2,r2,hst,_⟩|⟨l2,q2,r2,d2,hap2,_⟩
   ·have:=iH hp';rw[hj]at this;cases this
   ·rw[hput]at hn';refine⟨r',d',(KC.keep hij).1 hn',fun γ'=>?_⟩;have:=h' γ';rw[St.put_len]at this;exact this
   ·have:=(DU hst.2.2).2.2.1;rw[(aC hj).1]at this;cases this
   ·have:=hap2.spec.1;rw[(aC hj).2]at this;cases this
  obtain⟨r',d',hn',_⟩:=key 0;have hfd:=hfj d' hj hn'.2.1;have hdd:d≠d':=fun e=>hne d hd (by rw[e];exact hn'.2.1);have hneq:¬(l=s.up.length/\q=d'):=by
   rintro ⟨e1,e2⟩;rcases hsp.2.1 with⟨_,h2⟩|⟨x,hx⟩
   ·exact hdd (h2.symm.trans e2)
   ·rw[e1,e2,hfd]at hx;cases hx
  refine .inr (.inl ⟨r',d',hn',fun γ'=>.inr (.inr (.inr ⟨l,q,r,d,?_,fun γ=>?_⟩))⟩)
  ·have h3:=(KD.keep (P:=P) (W:=W) (fr:=fr) (c:=true) (u:=r'.val s.up.length d' γ') (l:=l) (q:=q) (d':=d) (r:=r) (s:=s) (_e:=none) hji).2 hap;rw[hn'.2.1]at h3;exact h3.move (St.put_len _ _ _ _ _) (by rw[St.get_putLoc,if_neg hneq]) (iJ hfd)
  ·obtain⟨r2,d2,hn2,h2⟩:=key γ;have e1:d2=d':=bb.inj (hn2.2.1.symm.trans hn'.2.1);have e2:r2=r':=bb.inj (hn2.2.2.symm.trans hn'.2.2);subst e1;subst e2;refine hk _ _ _ _ ⟨fun t=>?_,fun l1 k1=>?_,?_⟩ (h2 γ')
   ·simp only[Fr.get_put];by_cases e1:t=d2
    ·subst e1;simp[Ne.symm hdd]
    ·simp[e1]
   ·have q1:∀(s0:St) (m e γ:Nat) (r:AX),m=s0.up.length->∀l k,(s0.put m e γ r).get l k=if l=m/\k=e then some (γ,r) else s0.get l k:=fun s0 m e γ r hm l k=>by subst hm;exact St.get_putLoc s0 l k
    have hpl:=hap.pl;rw[q1 _ _ _ _ _ (St.put_len _ _ _ _ _).symm,MZ hpl,MZ (s:=s.put s.up.length d2 γ' r2.res) (by
     rw[St.put_len];rcases hpl with h|⟨x,h⟩
     ·exact .inl h
     ·exact .inr ⟨x,by rw[St.get_putLoc,if_neg hneq]; exact h⟩),St.get_putLoc]
    by_cases e1:l1=s.up.length/\k1=d2
    ·obtain⟨rfl,rfl⟩:=e1;have:¬(s.up.length=l/\k1=q):=fun e=>hneq ⟨e.1.symm,e.2.symm⟩;simp[this]
    ·simp[e1]
   ·simp only[St.put_len]
theorem mY{Wi Wj:AK}{oi oj:dg}{gi gj:Option (Tmp×Bool)}{k k':Fr->St->Prop}(hZ:Wi=Wj\/(kW oi=false/\kP oi=false/\kW oj=false/\kP oj=false))(hij:G6 oj gj oi.dst)(hji:G6 oi gi oj.dst)(hne:∀d,oi.dst=some d->oj.dst≠some d)(hA:kA Ω.own oi=true->kA Ω.own oj=true\/kW oj=true)(hW:kW oi=true->kW oj=false/\kP oj=false)(hP:kP oi=true->kA Ω.own oj=true)
  (hfj:∀d,kA Ω.own oj=true->oj.dst=some d->s.get s.up.length d=none) (hfi:∀d,kA Ω.own oi=true->oi.dst=some d->s.get s.up.length d=none)
  (h:GA P Ω Wi oi gi fr s fun f1 s1=>GA P Ω Wj oj gj f1 s1 k) (hk:∀f1 s1 f2 s2,GD f1 s1 f2 s2->k f1 s1->k' f2 s2) :
  GA P Ω Wj oj gj fr s fun f2 s2=>GA P Ω Wi oi gi f2 s2 k':=by
 rcases hZ with rfl|⟨z1,z2,z3,z4⟩
 ·exact rY hij hji hne hA hW hP hfj hfi h hk
 have noS:∀{o:dg} {gd:Option (Tmp×Bool)} {W:AK} {fr:Fr} {s:St} {l q γ:Nat} {r:AX},kW o=false->F4 P W o gd fr s l q γ r->False:=fun hz hst=>by have:=(DU hst.2.2).2.2.1;rw[hz]at this;cases this
 have noA:∀{o:dg} {gd:Option (Tmp×Bool)} {W:AK} {fr:Fr} {s:St} {l q d:Nat} {r:AX},kP o=false->KD P W o gd fr s l q d r->False:=fun hz hap=>by have:=hap.spec.1;rw[hz]at this;cases this
 have hcomm:∀(c c':Bool) (v v':V),∀t,(putD (putD fr oi.dst c v) oj.dst c' v').get t=(putD (putD fr oj.dst c' v') oi.dst c v).get t:=by
  intro c c' v v' t;simp only[GF];by_cases e1:oj.dst=some t
  ·have:oi.dst≠some t:=fun e2=>hne t e2 e1;simp[e1,this]
  ·simp[e1]
 rcases h with⟨g,v,hp,h⟩|⟨r,d,hn,h⟩|⟨l,q,γ,r,hst,h⟩|⟨l,q,r,d,hap,h⟩
 ·rcases h with⟨g',u,hp',h⟩|⟨r,d,hn,h⟩|⟨l,q,γ,r,hst,h⟩|⟨l,q,r,d,hap,h⟩
  ·exact .inl ⟨g',u,hp'.back hij,.inl ⟨g,v,hp.keep hji (zY.refl Wi s),hk _ _ _ _ ⟨hcomm _ _ _ _,fun _ _=>rfl,rfl⟩ h⟩⟩
  ·have hd:=hn.2.1;refine .inr (.inl ⟨r,d,(KC.keep hij).1 hn,fun γ=>.inl ⟨g,v,?_,hk _ _ _ _ ⟨fun t=>?_,fun _ _=>rfl,rfl⟩ (h γ)⟩⟩)
   ·have:=hp.keep (c:=true) (u:=r.val s.up.length d γ) hji (iJ (W:=Wi) (r:=r.res) (γ:=γ) (hfj d (RH hn.2.2) hd));rw[hd]at this;exact this
   ·have:=hcomm g true v (r.val s.up.length d γ) t;rw[hd]at this;exact this
  ·exact(noS z3 hst).elim
  ·exact(noA z4 hap).elim
 ·have hd:=hn.2.1;have hput:∀c v,fr.put d c v=putD fr oi.dst c v:=fun c v=>by rw[hd];rfl
  have hj:kA Ω.own oj=true:=(hA (RH hn.2.2)).resolve_right fun h=>by rw[z3]at h;cases h
  have key:∀γ,∃r' d',KC P Ω oj gj fr r' d'/\∀γ',k ((fr.put d true (r.val s.up.length d γ)).put d' true (r'.val s.up.length d' γ')) ((s.put s.up.length d γ r.res).put s.up.length d' γ' r'.res):=by
   intro γ;rcases h γ with⟨g',u,hp',_⟩|⟨r',d',hn',h'⟩|⟨l,q,γ2,r2,hst,_⟩|⟨l,q,r2,d2,hap,_⟩
   ·have:=iH hp';rw[hj]at this;cases this
   ·rw[hput]at hn';refine⟨r',d',(KC.keep hij).1 hn',fun γ'=>?_⟩;have:=h' γ';rw[St.put_len]at this;exact this
   ·exact(noS z3 hst).elim
   ·exact(noA z4 hap).elim
  obtain⟨r',d',hn',_⟩:=key 0;refine .inr (.inl ⟨r',d',hn',fun γ'=>.inr (.inl ⟨r,d,?_,fun γ=>?_⟩)⟩)
  ·have:=(KC.keep (P:=P) (fr:=fr) (c:=true) (u:=r'.val s.up.length d' γ') (r:=r) (e:=d) hji).2 hn;rw[hn'.2.1]at this;exact this
  ·obtain⟨r2,d2,hn2,h2⟩:=key γ;have e1:d2=d':=bb.inj (hn2.2.1.symm.trans hn'.2.1);have e2:r2=r':=bb.inj (hn2.2.2.symm.trans hn'.2.2);subst e1;subst e2;have hdd:d≠d2:=fun e=>hne d hd (by rw[e];exact hn'.2.1);refine hk _ _ _ _ ⟨fun t=>?_,fun l t=>?_,?_⟩ (h2 γ')
   ·rw[St.put_len];simp only[Fr.get_put];by_cases e1:t=d2
    ·subst e1;simp[Ne.symm hdd]
    ·simp[e1]
   ·have q1:∀(s0:St) (m e γ:Nat) (r:AX),m=s0.up.length->∀l k,(s0.put m e γ r).get l k=if l=m/\k=e then some (γ,r) else s0.get l k:=fun s0 m e γ r hm l k=>by subst hm;exact St.get_putLoc s0 l k
    rw[q1 _ _ _ _ _ (St.put_len _ _ _ _ _).symm,q1 _ _ _ _ _ rfl,q1 _ _ _ _ _ rfl,q1 _ _ _ _ _ rfl,St.put_len];by_cases e1:t=d2
    ·subst e1;simp[Ne.symm hdd]
    ·simp[e1]
   ·simp only[St.put_len]
 ·exact(noS z1 hst).elim
 ·exact(noA z2 hap).elim
end Go.Pg
namespace Go.Pg
variable {P:dh}{Ω:HP P}{n N:Nat}{ρ:Option Nat}{G0 G:Gh}{fr fr':Fr}{s s':St}{a:Act}{w:dl}
def cP(gs:List (Option (Tmp×Bool)))(i:Nat):Option (Tmp×Bool):=match gs[i]? with
 |some g=>g
 |none=>none
theorem M0{all:List dg}:∀{l:List dg} {gs:List (Option (Tmp×Bool))},JS all gs l=true->∀{i:Nat} {o:dg},l[i]? = some o->HL all o (cP gs i)=true
 |[],_,_,i,o,h=>by simp at h
 |o'::l,gs,hg,i,o,h=>by
  cases gs with
  |nil=>
   simp only[JS,bq]at hg
   cases i with
   |zero=>simp at h;subst h;exact hg.1
   |succ i=>
    have:=M0 hg.2 (i:=i) (o:=o) (by simpa using h)
    simpa [cP]using this
  |cons g gs=>
   simp only[JS,bq]at hg
   cases i with
   |zero=>simp at h;subst h;exact hg.1
   |succ i=>
    have:=M0 hg.2 (i:=i) (o:=o) (by simpa using h)
    simpa [cP]using this
def atD(d:Nat):List dg->Nat->Nat
 |[],n=>n
 |o::l,n=>match o.dst with
  |some e=>cond (bm e d) n (atD d l (n+1))
  |none=>atD d l (n+1)
def zB(l:List dg)(o:dg):Bool:=match o.op with
 |.load ..=>match o.dst with
  |some d=>cond (l.any kW) (l.all fun s=>cond (kW s||kP s) (s.after.toList.any fun e=>bm e.on (atD d l 0)&&Region.binds .any e) true) false
  |none=>false
 |_=>false
theorem AOU{l:List dg}{o:dg}(h:zB l o=true):∃T x,o.op=.load T x:=by
 unfold zB at h;split at h
 ·rename_i T x e;exact⟨T,x,e⟩
 ·cases h
def wz(l:List dg)(W:AK)(o:dg):AK:=cond (zB l o) [] W
def zP(l:List dg)(oi oj:dg):Bool:=cond (kW oi||kP oi||kW oj||kP oj) (zB l oi==zB l oj) true
theorem ALD{l:List dg}{oi oj:dg}(h:zP l oi oj=true)(W:AK):wz l W oi=wz l W oj\/(kW oi=false/\kP oi=false/\kW oj=false/\kP oj=false):=by
 unfold zP at h;cases hc:(kW oi||kP oi||kW oj||kP oj)with
 |true=>
  rw[hc]at h
  left
  unfold wz
  rw[eq_of_beq h]
 |false=>
  simp only[dk]at hc
  exact .inr ⟨hc.1.1.1,hc.1.1.2,hc.1.2,hc.2⟩
def NP(P:dh)(Ω:HP P)(W:AK)(l:List dg)(gs:List (Option (Tmp×Bool)))(i:Nat)(fr:Fr)(s:St)(k:Fr->St->Prop):Prop:=match l[i]? with
 |some o=>GA P Ω (wz l W o) o (cP gs i) fr s k
 |none=>False
abbrev rdy(l:List dg)(listed:Array Bool):List Nat:=Region.ready .any l.toArray listed
def iK(P:dh)(Ω:HP P)(W:AK)(l:List dg)(gs:List (Option (Tmp×Bool)))(T:Array Bool->Fr->St->Prop):Nat->List Nat->Array Bool->Fr->St->Prop
 |0,_,listed,fr,s=>T listed fr s
 |m+1,R,listed,fr,s=>rdy l listed≠[]/\∀j∈rdy l listed,j∈R/\NP P Ω W l gs j fr s (iK P Ω W l gs T m (R.erase j) (listed.setIfInBounds j true))
variable {W:AK}{l:List dg}{gs:List (Option (Tmp×Bool))}{T:Array Bool->Fr->St->Prop}
theorem aG(hT:∀listed fr s fr' s',GD fr s fr' s'->T listed fr s->T listed fr' s'):∀(m:Nat) (R:List Nat) (listed:Array Bool) (fr:Fr) (s:St) (fr':Fr) (s':St),GD fr s fr' s'->iK P Ω W l gs T m R listed fr s->iK P Ω W l gs T m R listed fr' s'
 |0,_,_,_,_,_,_,hs,h=>hT _ _ _ _ _ hs h
 |m+1,R,listed,fr,s,fr',s',hs,h=>by
  refine⟨h.1,fun j hj=>⟨(h.2 j hj).1,?_⟩⟩;have:=(h.2 j hj).2;unfold NP at this|-;split
  ·rename_i o ho;simp only[ho]at this;exact mV this hs fun f1 s1 f2 s2 h12 h'=>aG hT m _ _ _ _ _ _ h12 h'
  ·rename_i ho;simp only[ho]at this
def Led(o:dg)(s s1:St):Prop:=s1=s\/(∃γ r d,o.dst=some d/\s1=s.put s.up.length d γ r)\/∃l q γ r x,s.get l q=some x/\s1=s.put l q γ r
theorem M1{o:dg}{gd:Option (Tmp×Bool)}{k k':Fr->St->Prop}(h:GA P Ω W o gd fr s k)(hk:∀f1 s1,Led o s s1->k f1 s1->k' f1 s1):GA P Ω W o gd fr s k':=by
 rcases h with⟨g,v,h1,h2⟩|⟨r,d,h1,h2⟩|⟨l,q,γ,r,h1,h2⟩|⟨l,q,r,d,h1,h2⟩
 ·exact .inl ⟨g,v,h1,hk _ _ (.inl rfl) h2⟩
 ·exact .inr (.inl ⟨r,d,h1,fun γ=>hk _ _ (.inr (.inl ⟨γ,r.res,d,h1.2.1,rfl⟩)) (h2 γ)⟩)
 ·obtain⟨⟨r0,hg⟩,_⟩:=DU h1.2.2;exact .inr (.inr (.inl ⟨l,q,γ,r,h1,hk _ _ (.inr (.inr ⟨l,q,γ,r,_,hg,rfl⟩)) h2⟩))
 ·refine .inr (.inr (.inr ⟨l,q,r,d,h1,fun γ=>hk _ _ ?_ (h2 γ)⟩));rcases h1.spec.2.1 with⟨rfl,rfl⟩|⟨x,hx⟩
  ·exact .inr (.inl ⟨γ,r,_,h1.2.2.1,rfl⟩)
  ·exact .inr (.inr ⟨l,q,γ,r,x,hx,rfl⟩)
def OY(own:dg->Bool)(l:List dg)(R:List Nat)(s:St):Prop:=∀j∈R,∀o d,l[j]? = some o->kA own o=true->o.dst=some d->s.get s.up.length d=none
def AAB(l:List dg):Prop:=∀(j k:Nat) (o o':dg) (d:Nat),l[j]? = some o->l[k]? = some o'->j≠k->o.dst=some d->o'.dst≠some d
theorem OY.led{own:dg->Bool}{R:List Nat}{j:Nat}{o:dg}{s1:St}(h:OY own l R s)(hD:AAB l)(hj:l[j]? = some o)(hR:∀k∈R,k≠j)(hl:Led o s s1):OY own l R s1:=by
 rcases hl with rfl|⟨γ,r,d,hd,rfl⟩|⟨l1,q1,γ,r,x,hx,rfl⟩
 ·exact h
 ·intro k hk o' d' ho' hA hd';rw[St.put_len,St.get_putLoc];have:d'≠d:=fun e=>hD j k o o' d hj ho' (Ne.symm (hR k hk)) hd (by rw[<-e];exact hd');rw[if_neg (fun e=>this e.2)];exact h k hk o' d' ho' hA hd'
 ·intro k hk o' d' ho' hA hd';have h0:=h k hk o' d' ho' hA hd';rw[St.put_len,St.get_put s hx,if_neg (fun e=>by rw[e.1,e.2,hx]at h0;cases h0)];exact h0
structure ALE(own:dg->Bool)(l:List dg)(gs:List (Option (Tmp×Bool)))(i:Nat)(oi:dg)(B:List Nat)(R:List Nat)(listed:Array Bool):Prop where
 ready:i∈rdy l listed
 mem:i∈R
 wait:∀b∈B,∃o,l[b]? = some o/\∃e∈o.after,Region.binds .any e=true/\(e.on=i\/e.on∈B)
 un:∀b∈B,listed.getD b true=false
 free:∀j oj,l[j]? = some oj->j≠i->j∉B->listed.getD j true=false->j∈R/\G6 oj (cP gs j) oi.dst/\G6 oi (cP gs i) oj.dst/\(∀d,oi.dst=some d->oj.dst≠some d)/\(kA own oi=true->kA own oj=true\/kW oj=true)/\(kW oi=true->kW oj=false/\kP oj=false)/\(kP oi=true->kA own oj=true)/\zP l oi oj=true
theorem X6{listed:Array Bool}{j:Nat}(h:listed.getD j true=false):listed.getD j false=false:=by
 rcases cg j listed.size with h'|h'
 ·simp[h']at h|-;exact h
 ·simp[cj h']at h
theorem ALE.blocked{own:dg->Bool}{i:Nat}{oi:dg}{B R:List Nat}{listed:Array Bool}(h:ALE own l gs i oi B R listed){j:Nat}(hj:j∈rdy l listed):j∉B:=by
 intro hb;obtain⟨_,o,ho,hall⟩:=mem_ready.1 hj;obtain⟨o',ho',e,he,hbi,hon⟩:=h.wait j hb;have:o=o':=by simpa [ho']using ho.symm
 subst this;have h1:=hall e he hbi;rcases hon with hon|hon
 ·rw[hon,X6 (mem_ready.1 h.ready).1]at h1;cases h1
 ·rw[X6 (h.un _ hon)]at h1;cases h1
theorem rZ(hT:∀listed fr s fr' s',GD fr s fr' s'->T listed fr s->T listed fr' s')(hD:AAB l){i:Nat}{oi:dg}{B:List Nat}(hi:l[i]? = some oi):∀(m:Nat) (R:List Nat) (listed:Array Bool) (fr:Fr) (s:St),
  ALE Ω.own l gs i oi B R listed->R.length=m+1->R.Nodup->OY Ω.own l R s->NP P Ω W l gs i fr s (iK P Ω W l gs T m (R.erase i) (listed.setIfInBounds i true))->iK P Ω W l gs T (m+1) R listed fr s:=by
 intro m
 induction m with
 |zero=>
  intro R listed fr s hF hlen _ _ h
  refine⟨fun e=>?_,fun j hj=>?_⟩
  ·have:=hF.ready;rw[e]at this;cases this
  ·by_cases hji:j=i
   ·subst hji;exact⟨hF.mem,h⟩
   ·obtain⟨hun,oj,hoj,_⟩:=mem_ready.1 hj;have hR:=(hF.free j oj (by simpa using hoj) hji (hF.blocked hj) hun).1;exfalso;obtain⟨x,rfl⟩:=List.length_eq_one_iff.1 hlen;have e1:=hF.mem;simp at e1 hR;exact hji (hR.trans e1.symm)
 |succ m ih=>
  intro R listed fr s hF hlen hnd hfresh h
  refine⟨fun e=>?_,fun j hj=>?_⟩
  ·have:=hF.ready;rw[e]at this;cases this
  ·by_cases hji:j=i
   ·subst hji;exact⟨hF.mem,h⟩
   ·obtain⟨hun,oj,hoj,_⟩:=mem_ready.1 hj;have hoj':l[j]? = some oj:=by simpa using hoj
    have hjB:=hF.blocked hj;obtain⟨hjR,b1,b2,hne,hA,hWW,hPP,hZZ⟩:=hF.free j oj hoj' hji hjB hun;refine⟨hjR,?_⟩;unfold NP at h|-;simp only[hi]at h;simp only[hoj'];have h1:GA P Ω (wz l W oi) oi (cP gs i) fr s fun f1 s1=>GA P Ω (wz l W oj) oj (cP gs j) f1 s1 (iK P Ω W l gs T m ((R.erase i).erase j) ((listed.setIfInBounds i true).setIfInBounds j true)):=by refine M1 h fun f1 s1 _ h'=>?_;have:=(h'.2 j (ready_mono hj hji)).2;unfold NP at this;simp only[hoj']at this;exact this
    have h2:=mY (ALD hZZ W) b1 b2 hne hA hWW hPP (fun d hk hd=>hfresh j hjR oj d hoj' hk hd) (fun d hk hd=>hfresh i hF.mem oi d hi hk hd) h1 fun f1 s1 f2 s2 h12 h'=>aG hT _ _ _ _ _ _ _ h12 h';refine M1 h2 fun f1 s1 hled h'=>?_;have hlt:j<listed.size:=by
     rcases cg j listed.size with h'|h'
     ·exact h'
     ·simp[cj h']at hun
    refine ih (R.erase j) (listed.setIfInBounds j true) f1 s1 ⟨ready_mono hF.ready (Ne.symm hji),(dq (Ne.symm hji)).2 hF.mem,hF.wait,fun b hb=>?_,fun k ok hk hki hkB hku=>?_⟩ ?_ (hnd.erase j) ?_ ?_
    ·rw[getD_set_ne true (fun e=>hjB (by rw[e];exact hb))];exact hF.un b hb
    ·have hkj:k≠j:=by intro e;subst e;simp[hlt]at hku
     rw[getD_set_ne true (Ne.symm hkj)]at hku;obtain⟨q1,q2⟩:=hF.free k ok hk hki hkB hku;exact⟨(dq hkj).2 q1,q2⟩
    ·rw[List.length_erase_of_mem hjR,hlen];rfl
    ·refine OY.led (j:=j) (fun k hk=>hfresh k (List.mem_of_mem_erase hk)) hD hoj' (fun k hk e=>?_) hled;subst e;exact(List.Nodup.mem_erase_iff hnd).1 hk |>.1 rfl
    ·unfold NP;simp only[hi];rw[List.erase_comm,Array.setIfInBounds_comm _ _ hji];exact h'
def QV(P:dh)(Ω:HP P)(W:AK)(l:List dg)(gs:List (Option (Tmp×Bool))):List Nat->Fr->St->(Fr->St->Prop)->Prop
 |[],fr,s,K=>K fr s
 |i::r,fr,s,K=>NP P Ω W l gs i fr s fun fr s=>QV P Ω W l gs r fr s K
theorem UC{_x y:dg}{gd:Option (Tmp×Bool)}{d:Option Tmp}(h:∀t,d=some t->t∉y.looksAt l.toArray)(hg:HL l y gd=true):G6 y gd d:=by
 intro t ht;have:=h t ht;unfold Oper.looksAt at this;simp only[dv,not_or]at this;refine⟨fun z hz e=>this.1 ?_,fun p hp e=>this.2 ?_⟩
 ·subst e;exact List.mem_filterMap.2 ⟨.tmp t,by simpa using hz,rfl⟩
 ·obtain⟨q,w⟩:=p;subst hp;unfold HL at hg;split at hg
  ·rename_i hh;cases hh
  ·rename_i j w1 d1 w2 ho e1;cases e1;simp only[ho];simp only[bq]at hg;have h2:=hg.2;split at h2
   ·rename_i o hoj;split at h2
    ·rename_i d' hd';have:d'=q:=bz h2;subst this;have e':d'=t:=e;subst e';simp only[cm,hoj,bf,hd',Option.toList_some,List.mem_singleton]
    ·cases h2
   ·cases h2
  ·cases hg
def HQ{α:Type}(n:Nat)(k:Nat->α):α:=match n with
 |0=>k 0
 |m+1=>k (m+1)
theorem FB{α:Type}(n:Nat)(k:Nat->α):HQ n k=k n:=by cases n<;>rfl
def NQ:List Nat->Nat
 |[]=>0
 |k::r=>cx (NQ r) (bk 1 k)
theorem CM(k j:Nat):(bk 1 k).testBit j=decide (k=j):=by have h:bk 1 k=1 <<< k:=rfl;rw[h,Nat.one_shiftLeft,Nat.testBit_two_pow]
theorem testBit_or(a b j:Nat):(cx a b).testBit j=(a.testBit j||b.testBit j):=Nat.testBit_or a b j
theorem testBit_and(a b j:Nat):(bh a b).testBit j=(a.testBit j&&b.testBit j):=Nat.testBit_and a b j
theorem DL:∀{ks:List Nat} {j:Nat},(NQ ks).testBit j=true↔j∈ks
 |[],j=>by simp[NQ]
 |k::r,j=>by
  rw[NQ,testBit_or,CM,bp,DL,decide_eq_true_eq,ck];constructor
  ·rintro (h|h)
   ·exact .inr h
   ·exact .inl h.symm
  ·rintro (h|h)
   ·exact .inr h.symm
   ·exact .inl h
theorem F5{a b:Nat}(h:bm (bh a b) 0=true){j:Nat}(ha:a.testBit j=true)(hb:b.testBit j=true):False:=by have h1:=bz h;have h2:=testBit_and a b j;rw[h1,ha,hb]at h2;simp at h2
theorem UD{a b:Nat}(h:bm (bh a b) 0=false):∃j,a.testBit j=true/\b.testBit j=true:=by
 refine Classical.byContradiction fun hn=>?_;have:bh a b=0:=cp fun j=>by
  rw[testBit_and,Nat.zero_testBit];cases ha:a.testBit j with
  |false=>rfl
  |true=>cases hb:b.testBit j with
   |false=>rfl
   |true=>exact absurd ⟨j,ha,hb⟩ hn
 rw[this]at h;cases h
theorem AFK{a b:Nat}(h:bm (bh a b) a=true){j:Nat}(ha:a.testBit j=true):b.testBit j=true:=by have h1:=bz h;have h2:=testBit_and a b j;rw[h1,ha]at h2;simpa using h2.symm
def VU(m k:Nat):Bool:=!(bm (bh m (bk 1 k)) 0)
theorem UE(m k:Nat):VU m k=m.testBit k:=by
 unfold VU;cases hm:m.testBit k with
 |true=>
  cases hb:bm (bh m (bk 1 k)) 0 with
  |false=>rfl
  |true=>exact(F5 hb hm (by rw[CM];simp)).elim
 |false=>
  cases hb:bm (bh m (bk 1 k)) 0 with
  |true=>rfl
  |false=>
   obtain⟨j,h1,h2⟩:=UD hb
   rw[CM,decide_eq_true_eq]at h2
   rw[h2,h1]at hm
   cases hm
def AAC(o:dg):List Nat:=(o.after.toList.filter fun e=>Region.binds .any e).map (·.on)
theorem aH{o:dg}{k:Nat}:k∈AAC o↔∃e∈o.after,Region.binds .any e=true/\e.on=k:=by
 simp only[AAC,List.mem_map,List.mem_filter,bx];constructor
 ·rintro ⟨e,⟨h1,h2⟩,h3⟩;exact⟨e,h1,h2,h3⟩
 ·rintro ⟨e,h1,h2,h3⟩;exact⟨e,⟨h1,h2⟩,h3⟩
def afM(l:List dg)(j:Nat):Nat:=match l[j]? with
 |some o=>NQ (AAC o)
 |none=>0
def lkM(l:List dg)(j:Nat):Nat:=match l[j]? with
 |some o=>NQ (o.looksAt l.toArray)
 |none=>0
def dsM(l:List dg)(j:Nat):Nat:=match l[j]? with
 |some o=>match o.dst with
  |some d=>bk 1 d
  |none=>0
 |none=>0
def afL:List dg->Nat->List (Nat×Nat)
 |[],_=>[]
 |o::r,j=>(j,NQ (AAC o))::afL r (j+1)
theorem iL:∀{r:List dg} {j0 j m:Nat},(j,m)∈afL r j0->∃k o,j=j0+k/\r[k]? = some o/\m=NQ (AAC o)
 |[],_,_,_,h=>by cases h
 |o::r,j0,j,m,h=>by
  rcases ck.1 h with h|h
  ·cases h;exact⟨0,o,rfl,rfl,rfl⟩
  ·obtain⟨k,o',h1,h2,h3⟩:=iL h;exact⟨k+1,o',by omega,by simpa using h2,h3⟩
def KW(i:Nat):List (Nat×Nat)->Nat->Nat
 |[],B=>B
 |p::js,B=>cond (bm (bh p.2 (cx B (bk 1 i))) 0) (KW i js B) (HQ (cx B (bk 1 p.1)) (KW i js))
def mZ(l:List dg)(i B b:Nat):Prop:=∃o,l[b]? = some o/\∃e∈o.after,Region.binds .any e=true/\(e.on=i\/B.testBit e.on=true)
theorem M2{l:List dg}{i:Nat}:∀{js:List (Nat×Nat)} {B:Nat},(∀p∈js,∃o,l[p.1]? = some o/\p.2=NQ (AAC o))->(∀b,B.testBit b=true->mZ l i B b)->∀b,(KW i js B).testBit b=true->mZ l i (KW i js B) b
 |[],B,_,h=>h
 |p::js,B,hj,h=>by
  unfold KW;cases hc:bm (bh p.2 (cx B (bk 1 i))) 0 with
  |true=>exact M2 (fun q hq=>hj q (dw _ hq)) h
  |false=>
   show ∀b,(HQ (cx B (bk 1 p.1)) (KW i js)).testBit b=true->mZ l i (HQ (cx B (bk 1 p.1)) (KW i js)) b
   rw[FB]
   have mono:∀b,mZ l i B b->mZ l i (cx B (bk 1 p.1)) b:=fun b ⟨o,h1,e,h2,h3,h4⟩=>⟨o,h1,e,h2,h3,h4.imp id fun h=>by rw[testBit_or,h];rfl⟩
   refine M2 (fun q hq=>hj q (dw _ hq)) fun b hb=>?_
   rw[testBit_or,bp,CM,decide_eq_true_eq]at hb
   rcases hb with hb|rfl
   ·exact mono b (h b hb)
   ·obtain⟨o,ho,hm⟩:=hj p (by simp);obtain⟨k,h1,h2⟩:=UD hc;rw[hm,DL,aH]at h1;obtain⟨e,he,hbi,rfl⟩:=h1;rw[testBit_or,bp,CM,decide_eq_true_eq]at h2;exact mono _ ⟨o,ho,e,he,hbi,h2.elim .inr fun h=>.inl h.symm⟩
def AFL(own:dg->Bool)(l:List dg)(i j:Nat):Bool:=match l[i]? with
 |some oi=>match l[j]? with
  |some oj=>(!(kA own oi)||(kA own oj||kW oj))&&!(kW oi&&(kW oj||kP oj))&&(!(kP oi)||kA own oj)&&zP l oi oj
  |none=>false
 |none=>false
def wA(own:dg->Bool)(l:List dg)(i j:Nat):Bool :=
 bm (bh (dsM l i) (cx (lkM l j) (dsM l j))) 0&&bm (bh (dsM l j) (lkM l i)) 0&&AFL own l i j
def OZ(l:List dg)(i done:Nat):Bool:=bm (bh (afM l i) done) (afM l i)
def phM(own:dg->Bool)(l:List dg)(tl:List Nat):List Nat->Nat->Bool
 |[],_=>true
 |i::r,done=>HQ (KW i (afL l 0) 0) fun B=>
  Nat.blt i l.length&&!(VU done i)&&OZ l i done&&bm (bh B done) 0&&tl.all (VU B)&&r.all (fun j=>VU B j||wA own l i j)&&HQ (cx done (bk 1 i)) (phM own l tl r)
def eZ(l:List dg)(rest:List Nat):List Nat->Nat->Bool
 |[],_=>true
 |i::r,done=>Nat.blt i l.length&&!(VU done i)&&OZ l i done&&r.all (fun j=>!(OZ l j done))&&rest.all (fun j=>!(OZ l j done))&&HQ (cx done (bk 1 i)) (eZ l rest r)
structure KP(l:List dg)(rest:List Nat)(done:Nat)(listed:Array Bool):Prop where
 size:listed.size=l.length
 bit:∀k,done.testBit k=listed.getD k false
 cov:∀k,k<l.length->done.testBit k=false->k∈rest
theorem KP.un{rest:List Nat}{done:Nat}{listed:Array Bool}(h:KP l rest done listed){k:Nat}:listed.getD k true=false↔k<l.length/\done.testBit k=false:=by
 rw[h.bit];rcases cg k listed.size with h'|h'
 ·have:=h.size;simp[h'];intro;omega
 ·have:=h.size;simp[cj h'];omega
theorem KP.next{rest:List Nat}{i done:Nat}{listed:Array Bool}(h:KP l (i::rest) done listed)(hi:i<l.length):KP l rest (cx done (bk 1 i)) (listed.setIfInBounds i true):=by
 refine⟨by simpa using h.size,fun k=>?_,fun k hk hd=>?_⟩
 ·rw[testBit_or,CM,h.bit];by_cases e:i=k
  ·subst e;have:i<listed.size:=by rw[h.size];exact hi
   simp[this]
  ·rw[getD_set_ne false e];simp[e]
 ·rw[testBit_or,CM,dk,decide_eq_false_iff_not]at hd;rcases ck.1 (h.cov k hk hd.1)with rfl|h'
  ·exact absurd rfl hd.2
  ·exact h'
theorem KP.ready{rest:List Nat}{i done:Nat}{listed:Array Bool}(h:KP l rest done listed)(hi:i<l.length)(hn:VU done i=false)(hr:OZ l i done=true):i∈rdy l listed:=by rw[UE]at hn;have ho:l[i]? = some l[i]:=bw hi;refine mem_ready.2 ⟨h.un.2 ⟨hi,hn⟩,l[i],by simp,fun e he hb=>?_⟩;rw[<-h.bit];refine AFK hr ?_;unfold afM;rw[ho];exact DL.2 (aH.2 ⟨e,he,hb,rfl⟩)
theorem KP.unready{rest:List Nat}{j done:Nat}{listed:Array Bool}(h:KP l rest done listed)(hr:OZ l j done=false):j∉rdy l listed:=by
 intro hj;obtain⟨h1,o,ho,h2⟩:=mem_ready.1 hj;have ho':l[j]? = some o:=by simpa using ho
 have:bh (afM l j) done=afM l j:=cp fun k=>by
  rw[testBit_and];cases ha:(afM l j).testBit k with
  |false=>rfl
  |true=>
   unfold afM at ha
   rw[ho']at ha
   obtain⟨e,he,hb,rfl⟩:=aH.1 (DL.1 ha)
   rw[h.bit,h2 e he hb]
   rfl
 unfold OZ at hr;rw[this]at hr;have:=Nat.beq_refl (afM l j);rw[this]at hr;cases hr
theorem sA{own:dg->Bool}{i j:Nat}{oi oj:dg}(hi:l[i]? = some oi)(hj:l[j]? = some oj)(h:wA own l i j=true) :
  (∀d,oi.dst=some d->d∉oj.looksAt l.toArray)/\(∀d,oi.dst=some d->oj.dst≠some d)/\(∀d,oj.dst=some d->d∉oi.looksAt l.toArray) /\
  (kA own oi=true->kA own oj=true\/kW oj=true)/\(kW oi&&(kW oj||kP oj))=false/\(kP oi=true->kA own oj=true)/\zP l oi oj=true:=by
 unfold wA AFL dsM lkM at h
 simp only[hi,hj,bq,bp,cq]at h
 obtain⟨⟨h1,h2⟩,⟨⟨h3,h4⟩,h5⟩,h6⟩:=h
 refine⟨fun d hd hm=>?_,fun d hd he=>?_,fun d hd hm=>?_,fun hk=>?_,h4,fun hk=>?_,h6⟩
 ·rw[hd]at h1;refine F5 h1 (j:=d) (by rw[CM];simp) ?_;rw[testBit_or,DL.2 hm];rfl
 ·rw[hd,he]at h1;refine F5 h1 (j:=d) (by rw[CM];simp) ?_;rw[testBit_or,CM];simp
 ·rw[hd]at h2;exact F5 h2 (j:=d) (by rw[CM];simp) (DL.2 hm)
 ·rcases h3 with h3|h3
  ·rw[hk]at h3;cases h3
  ·exact h3
 ·rcases h5 with h5|h5
  ·rw[hk]at h5;cases h5
  ·exact h5
def PhP(own:dg->Bool)(l:List dg)(gs:List (Option (Tmp×Bool))):List Nat->Array Bool->Prop
 |[],_=>True
 |i::r,listed=>(∃oi B,l[i]? = some oi/\ALE own l gs i oi B (i::r) listed)/\PhP own l gs r (listed.setIfInBounds i true)
def AFM(l:List dg):List Nat->Array Bool->Prop
 |[],_=>True
 |i::r,listed=>(i∈rdy l listed/\∀j∈rdy l listed,j=i)/\AFM l r (listed.setIfInBounds i true)
theorem nA{own:dg->Bool}{tl:List Nat}(hg:JS l gs l=true):∀{R:List Nat} {done:Nat} {listed:Array Bool},KP l (R++tl) done listed->phM own l tl R done=true->PhP own l gs R listed
 |[],_,_,_,_=>trivial
 |i::r,done,listed,hL,h=>by
  unfold phM at h;rw[FB,FB]at h;simp only[bq,cq,bn,bp]at h;obtain⟨⟨⟨⟨⟨⟨h1,h2⟩,h3⟩,h4⟩,h5⟩,h6⟩,h7⟩:=h;have hi:i<l.length:=by simpa [cz]using h1
  have hw:=M2 (l:=l) (i:=i) (js:=afL l 0) (B:=0) (fun p hp=>by
   obtain⟨k,o,e1,e2,e3⟩:=iL (j:=p.1) (m:=p.2) hp;exact⟨o,by rw[e1,db]; exact e2,e3⟩) (fun b hb=>by simp at hb)
  generalize KW i (afL l 0) 0=B at *;have hb:∀b,b∈(List.range l.length).filter (fun b=>B.testBit b)↔B.testBit b=true:=fun b=>by rw[List.mem_filter,List.mem_range];refine⟨fun h=>h.2,fun h=>⟨?_,h⟩⟩;obtain⟨o,ho,_⟩:=hw b h;exact(bg.1 ho).1
  refine⟨⟨l[i],(List.range l.length).filter (fun b=>B.testBit b),bw hi,⟨hL.ready hi h2 h3,by simp,fun b hbm=>?_,fun b hbm=>?_,fun j oj hj hji hjB hun=>?_⟩⟩,nA hg (hL.next hi) h7⟩
  ·obtain⟨o,ho,e,he,hbi,hon⟩:=hw b ((hb b).1 hbm);exact⟨o,ho,e,he,hbi,hon.imp id fun h=>(hb _).2 h⟩
  ·have hbt:=(hb b).1 hbm;refine hL.un.2 ⟨?_,?_⟩
   ·obtain⟨o,ho,_⟩:=hw b hbt;exact(bg.1 ho).1
   ·cases hd:done.testBit b with
    |false=>rfl
    |true=>exact(F5 h4 hbt hd).elim
  ·obtain⟨hlt,hdn⟩:=hL.un.1 hun;have hnb:B.testBit j=false:=by
    cases hd:B.testBit j with
    |false=>rfl
    |true=>exact absurd ((hb j).2 hd) hjB
   rcases dv.1 (hL.cov j hlt hdn)with hm|hm
   ·rcases ck.1 hm with rfl|hr
    ·exact absurd rfl hji
    ·have hp:wA own l i j=true:=by
      rcases h6 j hr with h6|h6
      ·rw[UE,hnb]at h6;cases h6
      ·exact h6
     obtain⟨a1,a2,a3,a4,a5,a6,a7⟩:=sA (bw hi) hj hp;exact⟨hm,UC (_x:=l[i]) a1 (M0 hg hj),UC (_x:=oj) a3 (M0 hg (bw hi)),a2,a4,fun hk=>by rw[hk]at a5;simpa using a5,a6,a7⟩
   ·have:=h5 j hm;rw[UE,hnb]at this;cases this
theorem aI{rest:List Nat}:∀{tl:List Nat} {done:Nat} {listed:Array Bool},KP l (tl++rest) done listed->eZ l rest tl done=true->AFM l tl listed
 |[],_,_,_,_=>trivial
 |i::r,done,listed,hL,h=>by
  unfold eZ at h;rw[FB]at h;simp only[bq,cq,bn]at h;obtain⟨⟨⟨⟨⟨h1,h2⟩,h3⟩,h4⟩,h5⟩,h6⟩:=h;have hi:i<l.length:=by simpa [cz]using h1
  refine⟨⟨hL.ready hi h2 h3,fun j hj=>?_⟩,aI (hL.next hi) h6⟩;obtain⟨q1,o,ho,_⟩:=mem_ready.1 hj;obtain⟨hlt,hdn⟩:=hL.un.1 q1;rcases dv.1 (hL.cov j hlt hdn)with hm|hm
  ·rcases ck.1 hm with rfl|hr
   ·rfl
   ·exact absurd hj (hL.unready (h4 j hr))
  ·exact absurd hj (hL.unready (h5 j hm))
theorem nB{rest:List Nat}:∀{tl:List Nat} {done:Nat},eZ l rest tl done=true->∀i∈tl,i<l.length
 |[],_,_,i,hi=>by cases hi
 |j::r,done,h,i,hi=>by
  unfold eZ at h;rw[FB]at h;simp only[bq]at h;obtain⟨⟨⟨⟨⟨h1,_⟩,_⟩,_⟩,_⟩,h6⟩:=h;rcases ck.1 hi with rfl|hi
  ·simpa [cz]using h1
  ·exact nB h6 i hi
theorem KP.fold{tl:List Nat}:∀{R:List Nat} {done:Nat} {listed:Array Bool},(∀i∈R,i<l.length)->KP l (R++tl) done listed->KP l tl (R.foldl (fun m i=>cx m (bk 1 i)) done) (R.foldl (fun L i=>L.setIfInBounds i true) listed)
 |[],_,_,_,h=>h
 |i::r,_,_,hi,h=>KP.fold (R:=r) (fun j hj=>hi j (by simp[hj])) (h.next (hi i (by simp)))
theorem KP.start{rest:List Nat}(h:bm (NQ rest) (2 ^ l.length-1)=true):KP l rest 0 (Array.replicate l.length false):=by
 refine⟨by simp,fun k=>?_,fun k hk _=>?_⟩
 ·rw[Nat.zero_testBit];rcases cg k l.length with h'|h'
  ·simp[Array.getD,h']
  ·simp[Array.getD,Nat.not_lt.2 h']
 ·refine DL.1 ?_;rw[bz h,Nat.testBit_two_pow_sub_one];simp[hk]
theorem UF(hT:∀listed fr s fr' s',GD fr s fr' s'->T listed fr s->T listed fr' s')(hD:AAB l)(hg:JS l gs l=true):∀(R:List Nat) (listed:Array Bool) (fr:Fr) (s:St),R.Nodup->OY Ω.own l R s->PhP Ω.own l gs R listed ->
  QV P Ω W l gs R fr s (T (R.foldl (fun L i=>L.setIfInBounds i true) listed))->iK P Ω W l gs T R.length R listed fr s
 |[],_,_,_,_,_,_,h=>h
 |i::r,listed,fr,s,hnd,hfr,hp,h=>by
  obtain⟨⟨oi',B,hi',hF⟩,hp⟩:=hp;simp only[QV,NP]at h;split at h
  ·rename_i oi hi;obtain rfl:oi'=oi:=bb.inj (hi'.symm.trans hi);refine rZ hT hD hi r.length (i::r) listed fr s hF rfl hnd hfr ?_;unfold NP;simp only[hi,List.erase_cons_head];refine M1 h fun f1 s1 hled h'=>UF hT hD hg r _ _ _ (dx.1 hnd).2 ?_ hp h';exact OY.led (j:=i) (fun k hk=>hfr k (by simp[hk])) hD hi (fun k hk e=>(dx.1 hnd).1 (by rw[<-e];exact hk)) hled
  ·cases h
def AAD(P:dh)(l:List dg)(gs:List (Option (Tmp×Bool))):List Nat->Fr->St->(Fr->St->Prop)->Prop
 |[],fr,s,K=>K fr s
 |i::r,fr,s,K=>match l[i]? with
  |some o=>match QK fr (cP gs i)with
   |some g=>TZ P g o fr s fun fr s=>AAD P l gs r fr s K
   |none=>False
  |none=>False
theorem HR{i:Nat}{o:dg}{g:Bool}{k:Fr->St->Prop}{Q:Exit->Act->dl->Prop}{K:Act->dl->Prop}(hR:JE n N G0 G fr s a w)(hN:L6 N l=true)(hg:JS l gs l=true)(hi:l[i]? = some o)(hgd:QK fr (cP gs i)=some g)
  (h:TZ P g o fr s k) (hK:∀G' a' w' fr' s',JE n N G0 G' fr' s' a' w'->k fr' s'->K a' w'):wpOpIn (wf ρ) 0 P l.toArray Q i K a w:=by
 have hw:=ZO (ops:=l.toArray) hR.fr (by simpa using M0 hg hi) hgd
 obtain⟨h1,h2⟩:=W3 (ρ:=ρ) hR (Z7 hN (cw hi)) h
 unfold wpOpIn
 simp only[cm,hi,hw]
 cases g with
 |true=>exact h1 rfl _ _ hK
 |false=>
  obtain⟨fr',s',hR',hk⟩:=h2 rfl
  exact⟨fun _ _=>trivial,hK _ _ _ _ _ hR' hk⟩
theorem aJ{K:Exit->Fr->St->Prop}(hN:L6 N l=true)(hg:JS l gs l=true){t:Nat}{C:Fr->St->Prop}{L:Array Bool}(hC:∀fr s G a w,C fr s->JE n N G0 G fr s a w->wpAnyIn (wf ρ) 0 P .any l.toArray (K9 n N G0 K) t L a w) :
  ∀(tl:List Nat) (listed:Array Bool) (G:Gh) (fr:Fr) (s:St) (a:Act) (w:dl),tl.foldl (fun L i=>L.setIfInBounds i true) listed=L->AFM l tl listed->JE n N G0 G fr s a w->AAD P l gs tl fr s C ->
  wpAnyIn (wf ρ) 0 P .any l.toArray (K9 n N G0 K) (tl.length+t) listed a w
 |[],listed,G,fr,s,a,w,hL,_,hR,h=>by rw[show([]:List Nat).length+t=t from db t];subst hL;exact hC _ _ _ _ _ h hR
 |i::r,listed,G,fr,s,a,w,hL,ht,hR,h=>by
  obtain⟨⟨e1,e2⟩,ht⟩:=ht;rw[show(i::r).length+t=(r.length+t)+1 by simp only[List.length_cons];omega];refine⟨fun h0=>(by rw[show rdy l listed=[] from h0]at e1;cases e1),fun j hj=>?_⟩;have:j=i:=e2 j hj;subst this;simp only[AAD]at h;split at h
  ·rename_i o ho;split at h
   ·rename_i g hgd;exact HR hR hN hg ho hgd h fun G' a' w' fr' s' hR' hk=>aJ hN hg hC r _ G' fr' s' a' w' hL ht hR' hk
   ·cases h
  ·cases h
theorem aK{K:Exit->Fr->St->Prop}(hN:L6 N l=true)(hg:JS l gs l=true){t:Nat}(hT:∀listed fr s G a w,T listed fr s->JE n N G0 G fr s a w->wpAnyIn (wf ρ) 0 P .any l.toArray (K9 n N G0 K) t listed a w) :
  ∀(m:Nat) (R:List Nat) (listed:Array Bool) (G:Gh) (fr:Fr) (s:St) (a:Act) (w:dl),JE n N G0 G fr s a w->iK P Ω W l gs T m R listed fr s->wpAnyIn (wf ρ) 0 P .any l.toArray (K9 n N G0 K) (m+t) listed a w
 |0,_,listed,G,fr,s,a,w,hR,h=>by rw[db];exact hT _ _ _ _ _ _ h hR
 |m+1,R,listed,G,fr,s,a,w,hR,h=>by
  rw[Nat.add_right_comm];refine⟨fun h0=>absurd h0 h.1,fun j hj=>?_⟩;have h':=(h.2 j hj).2;unfold NP at h';split at h'
  ·rename_i o ho;have main:∀(g:Bool),QK fr (cP gs j)=some g->TZ P g o fr s (iK P Ω W l gs T m (R.erase j) (listed.setIfInBounds j true))->wpOpIn (wf ρ) 0 P l.toArray (K9 n N G0 K) j (wpAnyIn (wf ρ) 0 P .any l.toArray (K9 n N G0 K) (m+t) (listed.setIfInBounds j true)) a w:=fun g hgd hst=>
    HR hR hN hg ho hgd hst fun G' a' w' fr' s' hR' hk=>aK hN hg hT m _ _ G' fr' s' a' w' hR' hk
   rcases h' with⟨g,v,⟨h1,h2⟩,h3⟩|⟨r,d,⟨h1,h2,h3⟩,h4⟩|⟨l1,q,γ,r,⟨h1,h2,h3⟩,h4⟩|⟨l1,q,r,d,ha,h4⟩
   ·refine main g h1 ?_;rcases h2 with⟨s0,h2,h2'⟩|⟨f,args,h2,_,h2'⟩|h2|⟨rfl,_⟩
    ·exact .inl (DP (Ω:=Ω) (.inl ⟨v,mS h2.sub h2',h3⟩))
    ·exact .inl (DP (Ω:=Ω) (.inr (.inl ⟨f,args,v,h2,h2',h3⟩)))
    ·exact .inl (DP (Ω:=Ω) (.inl ⟨v,h2.val,h3⟩))
    ·exact .inr (.inl ⟨rfl,v,h3⟩)
   ·exact main true h1 (.inl (DP (Ω:=Ω) (.inr (.inr ⟨r,d,rfl,h2,h3,h4⟩))))
   ·exact main true h1 (.inl ((DU h3).2.2.2 _ h4))
   ·exact main true ha.1 (.inl (ha.spec.2.2 _ h4))
  ·cases h'
theorem JE.same(h:JE n N G0 G fr s a w)(hs:GD fr s fr' s'):JE n N G0 G fr' s' a w :=
 ⟨h.le,h.inv.congr fun l k=>(hs.p l k).symm,fun k c v e=>h.fr k c v ((hs.f k).trans e),h.size,hs.n.symm.trans h.lvl,h.marks⟩
def aL:List Nat->Bool
 |[]=>true
 |x::r=>!(r.contains x)&&aL r
theorem O0:∀{r:List Nat},aL r=true->r.Nodup
 |[],_=>.nil
 |x::r,h=>by simp only[aL,bq,cq]at h;exact dx.2 ⟨fun hm=>by rw[List.contains_iff_mem.2 hm]at h;exact absurd h.1 (by simp),O0 h.2⟩
def aM:List dg->Bool
 |[]=>true
 | o :: r=>(match o.dst with
  |some d=>r.all fun p=>match p.dst with
   |some d'=>!(bm d' d)
   |none=>true
  | none=>true)&&aM r
theorem RI:∀{l:List dg},aM l=true->AAB l
 |[],_,j,k,o,o',d,h,_,_,_=>by simp at h
 |p::r,hB,j,k,o,o',d,h1,h2,hne,hd=>by
  simp only[aM,bq]at hB;have look:∀{x y:dg} {e:Nat},(match x.dst with
   |some d=>r.all fun p=>match p.dst with
    |some d'=>!(bm d' d)
    |none=>true
   | none=>true)=true->y∈r->x.dst=some e->y.dst≠some e:=by
   intro _ y e hx hy hxe hye
   simp only[hxe]at hx
   have:=bn.1 hx y hy
   simp[hye]at this
  cases j with
  |zero=>
   cases k with
   |zero=>exact absurd rfl hne
   |succ k=>
    simp at h1 h2
    subst h1
    exact look hB.1 (cw h2) hd
  |succ j=>
   cases k with
   |zero=>
    simp at h1 h2
    subst h2
    intro hd'
    exact look hB.1 (cw h1) hd' hd
   |succ k=>exact RI hB.2 j k o o' d (by simpa using h1) (by simpa using h2) (fun e=>hne (by rw[e])) hd
def aN(own:dg->Bool)(l:List dg)(R:List Nat)(L:AA):Bool:=R.all fun j=>match l[j]? with
 |some o=>!(kA own o)||match o.dst with
  |some d=>(L.get d).isNone
  |none=>true
 |none=>true
theorem nD{own:dg->Bool}{R:List Nat}(h:aN own l R s.loc=true):OY own l R s:=by intro j hj o d ho hk hd;have:=bn.1 h j hj;simp only[ho,hk,Bool.not_true,Bool.false_or,hd,Option.isNone_iff_eq_none]at this;simpa [St.get]using this
abbrev XN:=List (List Nat×List Nat)
def NR(S:XN):List Nat:=S.flatMap fun p=>p.1++p.2
def AFN(done:Nat)(R:List Nat):Nat:=R.foldl (fun m i=>cx m (bk 1 i)) done
def ALF(own:dg->Bool)(l:List dg):XN->Nat->Bool
 |[],_=>true
 |(R,tl)::S,done=>R.all (Nat.blt · l.length)&&aL R&&phM own l (tl++NR S) R done&&HQ (AFN done R) fun d1=>eZ l (NR S) tl d1&&HQ (AFN d1 tl) (ALF own l S)
def O1(own:dg->Bool)(N:Nat)(gs:List (Option (Tmp×Bool)))(S:XN)(l:List dg):Bool :=
 L6 N l&&JS l gs l&&aM l&&ALF own l S 0&&bm (NR S).length l.length&&bm (NQ (NR S)) (2 ^ l.length-1)
def nE(P:dh)(Ω:HP P)(l:List dg)(gs:List (Option (Tmp×Bool))):XN->Fr->St->(Fr->St->Prop)->Prop
 |[],fr,s,K=>K fr s
 |(R,tl)::S,fr,s,K=>∃W,aN Ω.own l R s.loc=true/\QV P Ω W l gs R fr s fun fr s=>AAD P l gs tl fr s fun fr s=>nE P Ω l gs S fr s K
theorem aO{Ω:HP P}{W:AK}:∀(R:List Nat) (fr:Fr) (s:St) (k k':Fr->St->Prop),(∀f1 s1,k f1 s1->k' f1 s1)->QV P Ω W l gs R fr s k->QV P Ω W l gs R fr s k'
 |[],_,_,_,_,hk,h=>hk _ _ h
 |i::r,fr,s,k,k',hk,h=>by
  simp only[QV,NP]at h|-;split at h
  ·exact M1 h fun f1 s1 _ h'=>aO r _ _ _ _ hk h'
  ·cases h
theorem W7{K:Exit->Fr->St->Prop}{Ω:HP P}(hN:L6 N l=true)(hg:JS l gs l=true)(hD:AAB l):∀(S:XN) (done:Nat) (listed:Array Bool),KP l (NR S) done listed->ALF Ω.own l S done=true ->
  ∀(G:Gh) (fr:Fr) (s:St) (a:Act) (w:dl),JE n N G0 G fr s a w->nE P Ω l gs S fr s (K .normal)->wpAnyIn (wf ρ) 0 P .any l.toArray (K9 n N G0 K) (NR S).length listed a w
 |[],done,listed,hL,_,G,fr,s,a,w,hR,h=>by refine⟨List.eq_nil_iff_forall_not_mem.2 fun j hj=>?_,G,fr,s,hR,h⟩;obtain⟨h1,o,ho,_⟩:=mem_ready.1 hj;obtain⟨hlt,hdn⟩:=hL.un.1 h1;exact absurd (hL.cov j hlt hdn) (by simp[NR])
 |(R,tl)::S,done,listed,hL,hM,G,fr,s,a,w,hR,h=>by
  unfold ALF at hM;rw[FB,FB]at hM;simp only[bq]at hM;obtain⟨⟨⟨h1,h2⟩,h3⟩,h4,h5⟩:=hM;have hfl:NR ((R,tl)::S)=R++(tl++NR S):=by simp[NR]
  rw[hfl]at hL;have hL1:=hL.fold (fun i hi=>by simpa [cz]using bn.1 h1 i hi);have hT:=aI hL1 h4;have hL2:=hL1.fold (nB h4);have hP:=nA hg hL h3;obtain⟨W,hF,hw⟩:=h;let T:Array Bool->Fr->St->Prop:=fun listed fr s=>∀G a w,JE n N G0 G fr s a w->wpAnyIn (wf ρ) 0 P .any l.toArray (K9 n N G0 K) (tl.length+(NR S).length) listed a w;have hw':QV P Ω W l gs R fr s (T (R.foldl (fun L i=>L.setIfInBounds i true) listed)) :=
   aO R fr s _ _ (fun f1 s1 h' G a w hR=>aJ hN hg (C:=fun fr s=>nE P Ω l gs S fr s (K .normal)) (fun fr s G a w hc hR=>W7 hN hg hD S _ _ hL2 h5 G fr s a w hR hc) tl _ G f1 s1 a w rfl hT hR h') hw
  have hA:=UF (T:=T) (fun listed f1 s1 f2 s2 hs hT G a w hR=>hT G a w (hR.same ⟨fun k=>(hs.f k).symm,fun l k=>(hs.p l k).symm,hs.n.symm⟩)) hD hg R _ fr s (O0 h2) (nD hF) hP hw';have hB:=aK (ρ:=ρ) (K:=K) hN hg (T:=T) (t:=tl.length+(NR S).length) (fun listed f1 s1 G a w hT hR=>hT G a w hR) R.length R _ G fr s a _ hR hA;rw[hfl];simpa using hB
theorem AAE{id:Nat}{K:Exit->Fr->St->Prop}(Ω:HP P)(hm:P.follows .mixedOrders=true)(gs:List (Option (Tmp×Bool)))(S:XN)(hB:O1 Ω.own N gs S l=true)
  (h:nE P Ω l gs S fr s (K .normal)):BE P n N ρ (.region id l.toArray true) K fr s:=by
 simp only[O1,bq]at hB
 obtain⟨⟨⟨⟨⟨h1,h2⟩,h3⟩,h4⟩,h5⟩,h6⟩:=hB
 intro G0 G a w hR
 refine wpIn_region_any hm ?_
 have hR':JE n N G0 G fr s a { w with drawn:=w.drawn+1 }:=⟨hR.le,hR.inv.drawn _,hR.fr,hR.size,hR.lvl,hR.marks⟩
 have:=W7 (ρ:=ρ) (K:=K) (Ω:=Ω) h1 h2 (RI h3) S 0 _ (KP.start (l:=l) h6) h4 G fr s a _ hR' h
 rw[bz h5]at this
 simpa using this
end Go.Pg
