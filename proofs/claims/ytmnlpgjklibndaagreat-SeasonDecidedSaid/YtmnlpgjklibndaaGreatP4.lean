/- A region that draws its order: operations that only compute, calls that only compute and new places may come in any order. No program in sight. -/
import Derived.Test.YtmnlpgjklibndaaGreatP3
import Derived.OrdersIn
open Go renaming Oper->dl,Program->dm,World->dn,Operand->dp,TypeId->dr
open Option renaming bind_eq_some_iff->bj,some->bf,bind_some->bh,map_eq_some_iff->dk,map_some->dg
open Nat renaming shiftLeft->bq,eq_of_beq_eq_true->bc,land->bp,beq->br,lor->cd,blt_eq->cg,lt_or_ge->cp,eq_of_testBit_eq->dj,zero_add->df
open Bool renaming and_eq_true->bw,or_eq_true->cj,not_eq_true'->cx,or_eq_false_iff->dv
open List renaming getElem?_eq_getElem->bx,getElem?_drop->bg,getElem?_eq_some_iff->bn,all_eq_true->bt,mem_cons->cq,mem_of_getElem?->cz,getElem?_set->cm,getElem?_toArray->cr,length->dq,mem_erase_of_ne->dw,mem_append->dx,mem_cons_of_mem->dz,nodup_cons->db,ext_getElem?->dc
open Array renaming mem_toList_iff->bz,getElem?_eq_none->ck
namespace Go.Pg
variable {P:dm}{n N:Nat}{ρ:Option Nat}{G0 G:Gh}{fr fr':Fr}{s s':St}{a:Act}{w:dn}
def St.sub(s s':St):Prop:=∀l k x,s.get l k=some x->s'.get l k=some x
theorem mJ(h:s.sub s'){p:V}{cs:List V}(hp:BF s p=some cs):BF s' p=some cs:=by
 cases p with
 |ptr l k g off=>
  simp only[BF]at hp|-
  split at hp
  ·rename_i g' ds e;rw[h _ _ _ e];exact hp
  ·cases hp
 |eptr l k g i off=>
  simp only[BF]at hp|-
  split at hp
  ·rename_i g' T es e;rw[h _ _ _ e];exact hp
  ·cases hp
 |_=>exact hp
theorem V7(h:s.sub s'){T:dr}{x i v:V}(hp:BV P s T x i=some v):BV P s' T x i=some v:=by
 unfold BV at hp|-;split at hp
 ·exact hp
 ·split at hp
  ·rename_i g' U es e;rw[h _ _ _ e];exact hp
  ·cases hp
 ·exact hp
 ·exact hp
 ·exact hp
 ·cases hp
theorem mK(h:s.sub s'){T:dr}{x v:V}{lo hi mx:Option V}(hp:CG P s T x lo hi mx=some v):CG P s' T x lo hi mx=some v:=by
 unfold CG at hp|-;split at hp;case h_6=>
  split at hp
  ·rename_i g' U es e;rw[h _ _ _ e];exact hp
  ·cases hp
 case h_7=>
  split at hp
  ·rename_i g' cs m e e';rw[h _ _ _ e,e'];exact hp
  ·cases hp
 all_goals exact hp
theorem gU(h:s.sub s'){T:dr}{x i v:V}{ok:Bool}(hp:CO P s T x i ok=some v):CO P s' T x i ok=some v:=by
 unfold CO at hp|-;split at hp
 ·split at hp
  ·rename_i g' es e;rw[h _ _ _ e];exact hp
  ·cases hp
 ·cases hp
theorem AKP(h:s.sub s'){o:dl}{r:dp->Option V}{v:V}(hv:JG P o s r=some v):JG P o s' r=some v:=by
 unfold JG at hv|-;split at hv;case h_4 T x ho=>
  obtain⟨p,h1,h2⟩:=bj.1 hv
  obtain⟨cs,h3,h4⟩:=bj.1 h2
  simp only[h1,bh,mJ h h3,h4]
 case h_10 T x i ho=>
  obtain⟨p,h1,h2⟩:=bj.1 hv
  obtain⟨q,h3,h4⟩:=bj.1 h2
  simp only[h1,h3,bh,V7 h h4]
 case h_16 T x lo hi mx ho=>
  obtain⟨p,h1,h2⟩:=bj.1 hv
  obtain⟨q,h3,h4⟩:=bj.1 h2
  obtain⟨q',h5,h6⟩:=bj.1 h4
  obtain⟨q2,h7,h8⟩:=bj.1 h6
  simp only[h1,h3,h5,h7,bh,mK h h8]
 case h_17 T x i ok ho=>
  obtain⟨p,h1,h2⟩:=bj.1 hv
  obtain⟨q,h3,h4⟩:=bj.1 h2
  simp only[h1,h3,bh,gU h h4]
 all_goals exact hv
theorem MX{r r':dp->Option V}:∀{l:List dp},(∀x∈l,r x=r' x)->l.mapM r=l.mapM r'
 |[],_=>rfl
 |x::l,h=>by simp only[List.mapM_cons];rw[h x (by simp),MX (l:=l) fun y hy=>h y (by simp[hy])]
theorem MY{r r':dp->Option V}:∀{l:List (Nat×dp)},(∀x∈l.map (·.2),r x=r' x)->DA r l=DA r' l
 |[],_=>rfl
 |(i,x)::l,h=>by simp only[DA];rw[h x (by simp),MY (l:=l) fun y hy=>h y (by simp at hy|-;exact .inr hy)]
theorem zQ{o:dl}{r r':dp->Option V}(h:∀x∈o.op.operands,r x=r' x):JG P o s r=JG P o s r':=by
 unfold JG;split<;>rename_i ho<;>(try rw[ho]at h)<;>(try simp only[Op.operands,Call.operands]at h);case h_13=>
  split
  ·rename_i x T e1 e2;have:r x=r' x:=h x (by rw[<-bz];simp[e1]);rw[this]
  ·rfl
 case h_14=>
  split
  ·rename_i x y e1;have hx:r x=r' x:=h x (by rw[<-bz];simp[e1]);have hy:r y=r' y:=h y (by rw[<-bz];simp[e1]);rw[hx,hy]
  ·rfl
 case h_15=>
  split
  ·rename_i x y e1;have hx:r x=r' x:=h x (by rw[<-bz];simp[e1]);have hy:r y=r' y:=h y (by rw[<-bz];simp[e1]);rw[hx,hy]
  ·rfl
 case h_16 T x lo hi mx=>
  have hx:r x=r' x:=h x (by simp)
  have hl:∀y,lo=some y->r y=r' y:=fun y e=>h y (by simp[e])
  have hh:∀y,hi=some y->r y=r' y:=fun y e=>h y (by simp[e])
  have hm:∀y,mx=some y->r y=r' y:=fun y e=>h y (by simp[e])
  rw[hx]
  cases lo<;>cases hi<;>cases mx<;>simp_all
 case h_18 f first captured=>
  rw[MX (r:=r) (r':=r') (l:=first.toList) fun x hx=>h x (by simp at hx|-;exact .inl hx),MX (r:=r) (r':=r') (l:=captured.toList) fun x hx=>h x (by simp at hx|-;exact .inr hx)]
 all_goals first|rfl|(simp at h;simp[h])
def FP(P:dm)(g:Bool)(o:dl)(fr:Fr)(s:St):Option V:=match o.op with
 |.pick c a b=>match DU g fr c,rd fr a,rd fr b with
  |some (.bool c),some (ca,.bool a),some (cb,.bool b)=>if (g=true->c=true->ca=true)/\(g=true->c=false->cb=true) then some (.bool (if c then a else b)) else none
  |_,_,_=>none
 |.build T parts=>(DA (DU g fr) parts.toList).bind (CP P T)
 |.buildSlice T len parts=>(DA (DU g fr) parts.toList).bind (B9 P T len)
 |.call { callee:=.builtin .append,args,argTypes }=>appS P g o args argTypes fr
 |_=>JG P o s (DU g fr)
def H6(g:Bool)(o:dl)(fr:Fr):Option (FuncId×List V):=match o.op with
 |.call { callee:=.value f,args,.. }=>match DU g fr f,args.toList.mapM (DU g fr)with
  |some (.fn fid first cap),some vs=>some (fid,(first++vs++cap).map weakV)
  |_,_=>none
 |_=>none
section
variable (σ:Nat->Nat)(δ:Nat)
mutual
def V.ren:V->V
 |.int k n=>.int k n
 |.bool b=>.bool b
 |.raw v=>.raw v
 |.agg cs=>.agg (cF cs)
 |.tup cs=>.tup (cF cs)
 |.list f es=>.list f (mL es)
 |.ref cs=>.ref (cF cs)
 |.ptr l k g off=>.ptr (l+δ) k (σ g) off
 |.eptr l k g i off=>.eptr (l+δ) k (σ g) i off
 |.vec l k g len=>.vec (l+δ) k (σ g) len
 |.mp l k g=>.mp (l+δ) k (σ g)
 |.fn f xs ys=>.fn f (cF xs) (cF ys)
 |.yld l k g=>.yld (l+δ) k (σ g)
 |.nil=>.nil
 |.vtl l k g i n=>.vtl (l+δ) k (σ g) i n
 |.any=>.any
 |.memo d=>.memo d
def cF:List V->List V
 |[]=>[]
 |v::r=>V.ren v::cF r
def mL:List (List V)->List (List V)
 |[]=>[]
 |v::r=>cF v::mL r
end
end
def G9(r:A6)(l k γ:Nat):V:=match r with
 |.vec _ es=>.vec l k γ es.length
 |.map _=>.mp l k γ
 |_=>.ptr l k γ 0
structure Mk where
 res:A6
 t:Option V
def Mk.val(r:Mk)(l k γ:Nat):V:=match r.t with
 |none=>G9 r.res l k γ
 |some t=>t.ren (fun _=>γ) l
structure HO(P:dm) where
 own:dl->Bool
 ow:FuncId->List V->Tmp->Option Mk
 ok:∀f args d r,ow f args d=some r->∀(s:St),EA P f args s fun v s'=>∃γ,v=r.val s.up.length d γ/\s'=s.put s.up.length d γ r.res
def HO.nothing(P:dm):HO P:=⟨fun _=>false,fun _ _ _=>none,fun _ _ _ _ h=>by cases h⟩
def P7(P:dm)(Ω:HO P)(o:dl)(fr:Fr):Option Mk:=match o.op with
 |.alloc T=>(B8 P T).map fun cs=>⟨.box cs,none⟩
 |.box _ x=>match DU true fr x with
  |some v=>if BD v=true then some ⟨.box (BA v),none⟩ else none
  |none=>none
 |.makeMap _ none=>some ⟨.map [],none⟩
 |.makeSlice T x y=>match DU true fr x,DU true fr y,BR P T with
  |some (.int _ n),some (.int _ m),some (none,e)=>match B8 P e with
   |some z=>if 0<=n/\m=n/\z.length=P.cellsOf e/\n.toNat*P.bytesOf e<=140737488355328/\n.toNat<=maxLen then some ⟨.vec e (List.replicate n.toNat z),none⟩ else none
   |none=>none
  |_,_,_=>none
 | .call { callee:=.value _,.. }=>if Ω.own o=true then(match H6 true o fr,o.dst with
  |some (f,args),some d=>Ω.ow f args d
  | _,_=>none) else none
 |_=>none
def AOO(P:dm)(s0:St)(g:Bool)(f:FuncId)(args:List V)(r:V):Prop:=g=true->∀s,s0.sub s->EA P f args s fun r' s'=>r'=r/\s'=s
def A5L(P:dm)(Ω:HO P)(g:Bool)(o:dl)(fr:Fr)(s:St)(k:Fr->St->Prop):Prop :=
 (∃v,FP P g o fr s=some v/\k (putD fr o.dst g v) s) \/
 (∃f args r,H6 g o fr=some (f,args)/\AOO P s g f args r/\k (putD fr o.dst g r) s) \/
 (∃r d,g=true/\o.dst=some d/\P7 P Ω o fr=some r/\∀γ,k (fr.put d true (r.val s.up.length d γ)) (s.put s.up.length d γ r.res))
theorem EA.mono{f:FuncId}{args:List V}{K K':V->St->Prop}(h:EA P f args s K)(hk:∀r s',K r s'->K' r s'):EA P f args s K' :=
 ⟨h.1,fun G vals w R hI hA hR=>h.2 G vals w R hI hA fun G' r v w' s' h1 h2 h3 h4 h5=>hR G' r v w' s' h1 h2 h3 h4 (hk _ _ h5)⟩
theorem DS{Ω:HO P}{g:Bool}{o:dl}{k:Fr->St->Prop}(h:A5L P Ω g o fr s k):EF P g o fr s k:=by
 rcases h with⟨v,hv,hk⟩|⟨f,args,r,hc,hr,hk⟩|⟨r,d,rfl,hd,hr,hk⟩
 ·unfold FP at hv;unfold EF;split at hv
  ·rename_i c x y ho;simp only[ho];split at hv
   ·rename_i c' ca va cb vb e1 e2 e3;split at hv
    ·rename_i hcond;cases hv;simp only[e1,e2,e3];exact⟨hcond.1,hcond.2,hk⟩
    ·cases hv
   ·cases hv
  ·rename_i T parts ho;obtain⟨ps,h1,h2⟩:=bj.1 hv;simp only[ho,h1,h2];exact hk
  ·rename_i T len parts ho;obtain⟨ps,h1,h2⟩:=bj.1 hv;simp only[ho,h1,h2];exact hk
  ·rename_i args Ts ho;simp only[ho];exact .inl ⟨v,hv,hk⟩
  ·have hv0:=hv;unfold JG at hv;split at hv<;>rename_i ho<;>first
    |(simp only[ho,hv0];exact hk)
    |cases hv
 ·unfold H6 at hc;unfold EF;split at hc
  ·rename_i f' args' argTypes' ho;simp only[ho];split at hc
   ·rename_i fid first cap vs e1 e2;cases hc;simp only[e1,e2];exact .inr ⟨r,fun hg=>hr hg s fun _ _ _ e=>e,hk⟩
   ·cases hc
  ·cases hc
 ·unfold P7 at hr;unfold EF;split at hr
  ·rename_i T ho;obtain⟨cs,h1,rfl⟩:=dk.1 hr;simp only[ho,hd,h1];exact⟨trivial,hk⟩
  ·rename_i T x ho;split at hr
   ·rename_i v e1;split at hr
    ·rename_i hf;cases hr;simp only[ho,hd,e1];exact⟨trivial,hf,hk⟩
    ·cases hr
   ·cases hr
  ·rename_i T ho;cases hr;simp only[ho,hd];exact⟨trivial,hk⟩
  ·rename_i T x y ho;split at hr
   ·rename_i k1 n k2 m e e1 e2 e3;split at hr
    ·rename_i z e4;split at hr
     ·rename_i hc;cases hr;simp only[ho,hd,e1,e2,e3,e4];simp only[Mk.val,G9,List.length_replicate]at hk;exact⟨trivial,hc.1,hc.2.1,hc.2.2.1,hc.2.2.2.1,hc.2.2.2.2,hk⟩
     ·cases hr
    ·cases hr
   ·cases hr
  ·rename_i f0 args0 argTypes0 ho;split at hr
   ·split at hr
    ·rename_i f args d' hc hd';obtain rfl:d'=d:=bf.inj (hd'.symm.trans hd);unfold H6 at hc;simp only[ho]at hc|-;split at hc
     ·rename_i fid first cap vs e1 e2;cases hc;simp only[e1,e2];refine .inl ⟨rfl,(Ω.ok _ _ _ _ hr s).mono fun v s' hrs=>?_⟩;obtain⟨γ,rfl,rfl⟩:=hrs;rw[hd];exact hk γ
     ·cases hc
    ·cases hr
   ·cases hr
  ·cases hr
end Go.Pg
namespace Go.Pg
variable {P:dm}{Ω:HO P}{n N:Nat}{ρ:Option Nat}{G0 G:Gh}{fr fr':Fr}{s s':St}{a:Act}{w:dn}
theorem CM{x:dp}{g:Bool}(h:rd fr x=rd fr' x):DU g fr x=DU g fr' x:=by unfold DU;rw[h]
theorem GQ{o:dl}{g:Bool}(h:∀x∈o.op.operands,rd fr x=rd fr' x):FP P g o fr s=FP P g o fr' s:=by
 unfold FP;split
 ·rename_i c x y ho;rw[ho]at h;have h1:=h c (by simp[Op.operands]);have h2:=h x (by simp[Op.operands]);have h3:=h y (by simp[Op.operands]);rw[CM h1,h2,h3]
 ·rename_i T parts ho;rw[ho]at h;rw[MY (r:=DU g fr) (r':=DU g fr') fun x hx=>CM (h x (by simpa [Op.operands]using hx))]
 ·rename_i T len parts ho;rw[ho]at h;rw[MY (r:=DU g fr) (r':=DU g fr') fun x hx=>CM (h x (by simpa [Op.operands]using hx))]
 ·rename_i args Ts ho;rw[ho]at h;simp only[Op.operands,Call.operands]at h;unfold appS;split
  ·rename_i x y T U hx hT;have e1:args = #[x,y]:=by simpa using congrArg List.toArray hx
   subst e1;rw[CM (h x (by simp)),CM (h y (by simp))]
  ·rfl
 ·exact zQ fun x hx=>CM (h x hx)
theorem mM{o:dl}{g:Bool}{v:V}(h:s.sub s')(hv:FP P g o fr s=some v):FP P g o fr s'=some v:=by
 unfold FP at hv|-;split at hv
 ·exact hv
 ·exact hv
 ·exact hv
 ·exact hv
 ·exact AKP h hv
theorem GW{o:dl}{g:Bool}(h:∀x∈o.op.operands,rd fr x=rd fr' x):H6 g o fr=H6 g o fr':=by
 unfold H6;split
 ·rename_i f args argTypes ho;rw[ho]at h;simp only[Op.operands,Call.operands]at h;rw[CM (h f (by simp)),MX (r:=DU g fr) (r':=DU g fr') fun x hx=>CM (h x (by simp at hx|-;exact .inr hx))]
 ·rfl
theorem Y8{o:dl}(h:∀x∈o.op.operands,rd fr x=rd fr' x):P7 P Ω o fr=P7 P Ω o fr':=by
 unfold P7;split
 ·rfl
 ·rename_i T x ho;rw[ho]at h;rw[CM (h x (by simp[Op.operands]))]
 ·rfl
 ·rename_i T x y ho;rw[ho]at h;rw[CM (h x (by simp[Op.operands])),CM (h y (by simp[Op.operands]))]
 ·rename_i f args argTypes ho;rw[GW h]
 ·rfl
def kA(own:dl->Bool)(o:dl):Bool:=match o.op with
 |.alloc _|.box _ _|.makeSlice ..|.makeMap ..=>true
 |.call { callee:=.value _,.. }=>own o
 |_=>false
def kP(o:dl):Bool:=match o.op with
 |.call { callee:=.builtin .append,.. }=>!sealD o.dst
 |_=>false
def kW(o:dl):Bool:=match o.op with
 |.store ..=>true
 |_=>false
theorem Q8{o:dl}{r:Mk}(h:P7 P Ω o fr=some r):kA Ω.own o=true:=by
 unfold P7 at h;unfold kA;split at h;case h_5 e=>
  simp only[e]
  split at h
  ·assumption
  ·cases h
 all_goals first
  |(rename_i e;simp[e];done)
  |cases h
abbrev AN:=List (Nat×Nat)
def SJ(W:AN)(s0 s:St):Prop:=∀l k x,s0.get l k=some x->(l,k)∉W/\s.get l k=some x
def BGE(W:AN)(s s':St):Prop:=∀l k x,(l,k)∉W->s.get l k=some x->s'.get l k=some x
def P8:Nat:=2000000
def Shp(W:AN)(s s':St):Prop:=∀l k γ T es,(l,k+P8)∉W->s.get l k=some (γ,.vec T es)->∃es',s'.get l k=some (γ,.vec T es')/\es'.map dq=es.map dq
def SK:Nat:=4000000
def NX(k c:Nat):Nat:=6000000+1000*k+c
def ASZ(W:AN)(l k:Nat)(r r':A6):Prop:=r'=r\/(∃cs cs':List V,r=.box cs/\r'=.box cs'/\∀c:Nat,(l,NX k c)∉W->cs'[c]? = cs[c]?) \/
 ∃(T:dr) (es es':List (List V)),r=.vec T es/\r'=.vec T es'/\es'.length=es.length/\∀(i:Nat) (e:List V),es[i]? = some e->∃e':List V,es'[i]? = some e'/\∀c:Nat,(l,NX k c)∉W->e'[c]? = e[c]?
def Cel(W:AN)(s s':St):Prop:=∀l k γ r,(l,k+P8)∉W->(l,k+SK)∉W->s.get l k=some (γ,r)->∃r',s'.get l k=some (γ,r')/\ASZ W l k r r'
def zR(W:AN)(s s':St):Prop:=BGE W s s'/\(Shp W s s'/\Cel W s s')
theorem SJ.out{W:AN}{s0:St}(h:SJ W s0 s)(ho:zR W s s'):SJ W s0 s':=fun l k x e=>⟨(h l k x e).1,ho.1 l k x (h l k x e).1 (h l k x e).2⟩
theorem SJ.sub{W:AN}{s0:St}(h:SJ W s0 s):s0.sub s:=fun l k x e=>(h l k x e).2
theorem zR.refl(W:AN)(s:St):zR W s s:=⟨fun _ _ _ _ e=>e,fun _ _ _ _ es _ e=>⟨es,e,rfl⟩,fun _ _ _ r _ _ e=>⟨r,e,.inl rfl⟩⟩
def SL(P:dm)(W:AN)(g:Bool)(o:dl)(fr:Fr)(s:St)(v:V):Prop:=∃T x i e l k γ n ki j T' es,o.op=.indexAddr T x i/\DU g fr x=some (.vec l k γ n)/\DU g fr i=some (.int ki j)/\BR P T=some (none,e)/\(l,k+P8)∉W /\
 s.get l k=some (γ,.vec T' es)/\(0<=j/\j<n/\n<=es.length/\(es.getD j.toNat []).length=P.cellsOf e/\0<P.cellsOf e)/\v=.eptr l k γ j.toNat 0
theorem SL.val{W:AN}{g:Bool}{o:dl}{v:V}(h:SL P W g o fr s v):FP P g o fr s=some v:=by obtain⟨T,x,i,e,l,k,γ,n,ki,j,T',es,h1,h2,h3,h4,_,h5,h6,rfl⟩:=h;unfold FP;simp only[h1,JG,h2,h3,bh,BV,h4,h5];rw[if_pos ⟨trivial,h6⟩]
theorem SL.out{W:AN}{g:Bool}{o:dl}{v:V}(h:SL P W g o fr s v)(hs:Shp W s s'):SL P W g o fr s' v:=by
 obtain⟨T,x,i,e,l,k,γ,n,ki,j,T',es,h1,h2,h3,h4,hw,h5,h6,rfl⟩:=h;obtain⟨es',h7,h8⟩:=hs _ _ _ _ _ hw h5;refine⟨T,x,i,e,l,k,γ,n,ki,j,T',es',h1,h2,h3,h4,hw,h7,?_,rfl⟩;have hl:es'.length=es.length:=by have:=congrArg dq h8;simpa using this
 have hd:(es'.getD j.toNat []).length=(es.getD j.toNat []).length:=by have:=congrArg (fun l=>l[j.toNat]?) h8;simp only[List.getElem?_map]at this;simp only[List.getD_eq_getElem?_getD];cases h1:es'[j.toNat]?<;>cases h2:es[j.toNat]?<;>simp_all
 rw[hl,hd];exact h6
theorem SL.frame{W:AN}{g:Bool}{o:dl}{v:V}(h:SL P W g o fr s v)(hf:∀x∈o.op.operands,DU g fr x=DU g fr' x):SL P W g o fr' s v:=by obtain⟨T,x,i,e,l,k,γ,n,ki,j,T',es,h1,h2,h3,h4⟩:=h;rw[h1]at hf;exact⟨T,x,i,e,l,k,γ,n,ki,j,T',es,h1,(hf x (by simp[Op.operands])).symm.trans h2,(hf i (by simp[Op.operands])).symm.trans h3,h4⟩
def AE7:V->Option (Nat×Nat×Nat)
 |.ptr l k _ off=>some (l,k,off)
 |.eptr l k _ _ off=>some (l,k,off)
 |_=>none
def LdV(P:dm)(W:AN)(g:Bool)(o:dl)(fr:Fr)(s:St)(v:V):Prop:=∃T x p cs l k off,o.op=.load T x/\DU g fr x=some p/\AE7 p=some (l,k,off)/\BF s p=some cs/\BT P T cs=some v/\0<P.cellsOf T /\
 (l,k+P8)∉W/\(l,k+SK)∉W/\∀c,c<P.cellsOf T->(l,NX k (off+c))∉W
theorem mN{T:dr}{cs ds:List V}{v:V}(h0:0<P.cellsOf T)(h:∀c,c<P.cellsOf T->ds[c]? = cs[c]?)(hv:BT P T cs=some v):BT P T ds=some v:=by
 have agg:∀{a b:List V},(∀c,c<P.cellsOf T->b[c]? = a[c]?)->(if P.cellsOf T<=a.length then some (V.agg (a.take (P.cellsOf T))) else none)=some v->(if P.cellsOf T<=b.length then some (V.agg (b.take (P.cellsOf T))) else none)=some v:=by
  intro a b hab hv;split at hv
  ·rename_i hl;have e1:=hab (P.cellsOf T-1) (by omega);have hl1:P.cellsOf T-1<a.length:=by omega
   rw[bx hl1]at e1;have hl2:=(bn.1 e1).1;rw[if_pos (by omega)];rw[<-hv];congr 2;apply dc;intro c;simp only[List.getElem?_take];split
   ·rename_i hc;exact hab c hc
   ·rfl
  ·cases hv
 unfold BT at hv|-;split at hv
 ·exact agg h hv
 ·exact agg h hv
 ·rw[h 0 h0];exact hv
 ·cases hv
theorem LdV.val{W:AN}{g:Bool}{o:dl}{v:V}(h:LdV P W g o fr s v):FP P g o fr s=some v:=by obtain⟨T,x,p,cs,l,k,off,h1,h2,_,h4,h5,_⟩:=h;unfold FP;simp only[h1,JG,h2,h4,h5,bh]
theorem LdV.out{W:AN}{g:Bool}{o:dl}{v:V}(h:LdV P W g o fr s v)(hs:Cel W s s'):LdV P W g o fr s' v:=by
 obtain⟨T,x,p,cs,l,k,off,h1,h2,h3,h4,h5,h6,h7,h8,h9⟩:=h;have key:∃cs',BF s' p=some cs'/\∀c,c<P.cellsOf T->cs'[c]? = cs[c]?:=by
  cases p with
  |ptr l' k' γ off'=>
   simp only[AE7,bf.injEq,Prod.mk.injEq]at h3
   obtain⟨rfl,rfl,rfl⟩:=h3
   simp only[BF]at h4
   split at h4
   ·rename_i g' ds e;split at h4
    ·rename_i hg;cases h4;obtain⟨r',e',hr⟩:=hs _ _ _ _ h7 h8 e;rcases hr with rfl|⟨cs0,cs',e1,rfl,hc⟩|⟨_,_,_,e1,_⟩
     ·exact⟨_,by simp only[BF,e',hg,if_true],fun _ _=>rfl⟩
     ·cases e1;refine⟨cs'.drop off',by simp only[BF,e',hg,if_true],fun c hc'=>?_⟩;rw[bg,bg];exact hc _ (h9 c hc')
     ·cases e1
    ·cases h4
   ·cases h4
  |eptr l' k' γ i off'=>
   simp only[AE7,bf.injEq,Prod.mk.injEq]at h3
   obtain⟨rfl,rfl,rfl⟩:=h3
   simp only[BF]at h4
   split at h4
   ·rename_i g' U es e;split at h4
    ·rename_i hg;obtain⟨e0,he0,rfl⟩:=dk.1 h4;obtain⟨r',e',hr⟩:=hs _ _ _ _ h7 h8 e;rcases hr with rfl|⟨_,_,e1,_⟩|⟨U',es0,es',e1,rfl,hl,hc⟩
     ·exact⟨_,by simp only[BF,e',hg,if_true,he0,dg],fun _ _=>rfl⟩
     ·cases e1
     ·cases e1;obtain⟨e2,he2,hcc⟩:=hc i e0 he0;refine⟨e2.drop off',by simp only[BF,e',hg,if_true,he2,dg],fun c hc'=>?_⟩;rw[bg,bg];exact hcc _ (h9 c hc')
    ·cases h4
   ·cases h4
  |_=>cases h3
 obtain⟨cs',e1,e2⟩:=key;exact⟨T,x,p,cs',l,k,off,h1,h2,h3,e1,mN h6 e2 h5,h6,h7,h8,h9⟩
theorem LdV.frame{W:AN}{g:Bool}{o:dl}{v:V}(h:LdV P W g o fr s v)(hf:∀x∈o.op.operands,DU g fr x=DU g fr' x):LdV P W g o fr' s v:=by obtain⟨T,x,p,cs,l,k,off,h1,h2,h3⟩:=h;rw[h1]at hf;exact⟨T,x,p,cs,l,k,off,h1,(hf x (by simp[Op.operands])).symm.trans h2,h3⟩
def cG(P:dm)(W:AN)(g:Bool)(o:dl)(fr:Fr)(s:St)(v:V):Prop:=SL P W g o fr s v\/LdV P W g o fr s v
theorem cG.val{W:AN}{g:Bool}{o:dl}{v:V}(h:cG P W g o fr s v):FP P g o fr s=some v:=h.elim (fun h=>h.val) fun h=>h.val
theorem cG.out{W:AN}{g:Bool}{o:dl}{v:V}(h:cG P W g o fr s v)(hs:Shp W s s'/\Cel W s s'):cG P W g o fr s' v:=h.imp (fun h=>h.out hs.1) fun h=>h.out hs.2
theorem cG.frame{W:AN}{g:Bool}{o:dl}{v:V}(h:cG P W g o fr s v)(hf:∀x∈o.op.operands,DU g fr x=DU g fr' x):cG P W g o fr' s v:=h.imp (fun h=>h.frame hf) fun h=>h.frame hf
def JK(P:dm)(Ω:HO P)(W:AN)(o:dl)(gd:Option (Tmp×Bool))(fr:Fr)(s:St)(g:Bool)(v:V):Prop :=
 NW fr gd=some g/\((∃s0,SJ W s0 s/\FP P g o fr s0=some v)\/(∃f args,H6 g o fr=some (f,args)/\Ω.own o=false/\∃s0,SJ W s0 s/\AOO P s0 g f args v)\/cG P W g o fr s v\/(g=false/\v=.bool false/\kW o=false/\kP o=false))
def I8(P:dm)(Ω:HO P)(o:dl)(gd:Option (Tmp×Bool))(fr:Fr)(r:Mk)(d:Nat):Prop:=NW fr gd=some true/\o.dst=some d/\P7 P Ω o fr=some r
def DB(P:dm)(o:dl)(fr:Fr)(s:St):Option (Nat×Nat×Nat×A6):=match o.op with
 |.store T x y=>match DU true fr x,DU true fr y with
  |some (.ptr l q γ off),some v=>match s.get l q with
   |some (γ',.box cs)=>if γ'=γ/\BD v=true/\0<P.cellsOf T/\(BA v).length=P.cellsOf T/\off+P.cellsOf T<=cs.length/\o.dst=none then some (l,q,γ,.box (A8 cs off (BA v))) else none
   |_=>none
  |some (.eptr l q γ i off),some v=>match s.get l q with
   |some (γ',.vec U es)=>if γ'=γ/\BD v=true/\0<P.cellsOf T/\(BA v).length=P.cellsOf T/\i<es.length/\off+P.cellsOf T<=(es.getD i []).length/\o.dst=none then
     some (l,q,γ,.vec U (es.set i (A8 (es.getD i []) off (BA v)))) else none
   |_=>none
  |_,_=>none
 |_=>none
def JL(P:dm)(o:dl)(fr:Fr):Option (Nat×Nat):=match o.op with
 |.store T x _=>match DU true fr x with
  |some (.ptr _ _ _ off)=>some (off,P.cellsOf T)
  |some (.eptr _ _ _ _ off)=>some (off,P.cellsOf T)
  |_=>none
 |_=>none
theorem SM{o:dl}(h:∀x∈o.op.operands,rd fr x=rd fr' x):JL P o fr=JL P o fr':=by
 unfold JL;split
 ·rename_i T x y ho;rw[ho]at h;rw[CM (h x (by simp[Op.operands]))]
 ·rfl
def WOK(P:dm)(W:AN)(o:dl)(fr:Fr)(l q:Nat):Prop:=(l,q)∈W/\((l,q+SK)∈W\/∀off n,JL P o fr=some (off,n)->∀c,off<=c->c<off+n->(l,NX q c)∈W)
theorem WOK.frame{W:AN}{o:dl}{l q:Nat}(h:WOK P W o fr l q)(hf:JL P o fr=JL P o fr'):WOK P W o fr' l q:=⟨h.1,h.2.imp id fun h=>by rw[<-hf];exact h⟩
def FZ(P:dm)(W:AN)(o:dl)(gd:Option (Tmp×Bool))(fr:Fr)(s:St)(l q γ:Nat)(r:A6):Prop:=NW fr gd=some true/\WOK P W o fr l q/\DB P o fr s=some (l,q,γ,r)
theorem DL{o:dl}{l q γ:Nat}{r:A6}(h:DB P o fr s=some (l,q,γ,r)):(∃r0,s.get l q=some (γ,r0))/\o.dst=none/\kW o=true/\∀(k:Fr->St->Prop),k fr (s.put l q γ r)->EF P true o fr s k:=by
 unfold DB at h;unfold EF kW;split at h
 ·rename_i T x y ho;simp only[ho];split at h
  ·rename_i l' q' γ' off v e1 e2;simp only[e1,e2];split at h
   ·rename_i γ2 cs e3;split at h
    ·rename_i hc;cases h;obtain⟨c1,c2,c3,c4,c5,c6⟩:=hc;subst c1;simp only[e3];exact⟨⟨_,rfl⟩,c6,trivial,fun k hk=>⟨trivial,trivial,c2,c3,c4,c5,c6,hk⟩⟩
    ·cases h
   ·cases h
  ·rename_i l' q' γ' i off v e1 e2;simp only[e1,e2];split at h
   ·rename_i γ2 U es e3;split at h
    ·rename_i hc;cases h;obtain⟨c1,c2,c3,c4,c5,c6,c7⟩:=hc;subst c1;simp only[e3];exact⟨⟨_,rfl⟩,c7,trivial,fun k hk=>⟨trivial,trivial,c2,c3,c4,c5,c6,c7,hk⟩⟩
    ·cases h
   ·cases h
  ·cases h
 ·cases h
theorem PI{o:dl}{l q γ:Nat}{r:A6}(h:DB P o fr s=some (l,q,γ,r))(hs:s'.get l q=s.get l q):DB P o fr s'=some (l,q,γ,r):=by
 unfold DB at h|-;split at h
 ·rename_i T x y ho;split at h
  ·rename_i l' q' γ' off v e1 e2;have hl:l'=l/\q'=q:=by
    split at h
    ·split at h
     ·cases h;exact⟨rfl,rfl⟩
     ·cases h
    ·cases h
   obtain⟨rfl,rfl⟩:=hl;rw[hs];exact h
  ·rename_i l' q' γ' i off v e1 e2;have hl:l'=l/\q'=q:=by
    split at h
    ·split at h
     ·cases h;exact⟨rfl,rfl⟩
     ·cases h
    ·cases h
   obtain⟨rfl,rfl⟩:=hl;rw[hs];exact h
  ·cases h
 ·cases h
def sH(o:dl)(fr:Fr):Option (Nat×Nat×Nat):=match o.op with
 |.store _ x _=>match DU true fr x with
  |some (.ptr l q γ _)=>some (l,q,γ)
  |some (.eptr l q γ _ _)=>some (l,q,γ)
  |_=>none
 |_=>none
theorem Y9{o:dl}{l q γ:Nat}{r:A6}(h:DB P o fr s=some (l,q,γ,r)):sH o fr=some (l,q,γ):=by
 unfold DB at h;unfold sH;split at h
 ·rename_i T x y ho;try simp only[ho]
  split at h
  ·rename_i l1 q1 γ1 off v e1 e2;try simp only[e1]
   split at h
   ·split at h
    ·cases h;rfl
    ·cases h
   ·cases h
  ·rename_i l1 q1 γ1 i off v e1 e2;try simp only[e1]
   split at h
   ·split at h
    ·cases h;rfl
    ·cases h
   ·cases h
  ·cases h
 ·cases h
theorem ZA{o:dl}{l q γ l' q' γ':Nat}{r r':A6}(h:DB P o fr s=some (l,q,γ,r))(h':DB P o fr s'=some (l',q',γ',r')):l=l'/\q=q'/\γ=γ':=by have:=(Y9 h).symm.trans (Y9 h');simpa using this
theorem SN{o:dl}(h:∀x∈o.op.operands,rd fr x=rd fr' x):DB P o fr s=DB P o fr' s:=by
 unfold DB;split
 ·rename_i T x y ho;rw[ho]at h;rw[CM (h x (by simp[Op.operands])),CM (h y (by simp[Op.operands]))]
 ·rfl
theorem AE8{W:AN}{o:dl}{gd:Option (Tmp×Bool)}{g:Bool}{v:V}(h:JK P Ω W o gd fr s g v):(kA Ω.own o=false\/(g=false/\v=.bool false))/\kW o=false/\kP o=false:=by
 obtain⟨_,h⟩:=h;rcases h with⟨s0,_,h⟩|⟨f,args,h,hn,_⟩|(⟨T,x,i,e,l,k,γ,n,ki,j,T',es,h1,_⟩|⟨T,x,p,cs,l,k,off,h1,_⟩)|⟨hg,h⟩;rotate_left 2
 ·simp[kA,kW,kP,h1]
 ·simp[kA,kW,kP,h1]
 ·exact⟨.inr ⟨hg,h.1⟩,h.2⟩
 ·unfold FP at h;unfold kA kW kP;split at h<;>rename_i ho
  ·simp[ho]
  ·simp[ho]
  ·simp[ho]
  ·unfold appS at h;split at h
   ·split at h
    ·rename_i hc;simp[ho,hc.2.1]
    ·cases h
   ·cases h
  ·unfold JG at h;split at h<;>rename_i ho<;>first
    |(simp[ho];done)
    |cases h
 ·unfold H6 at h;split at h
  ·rename_i ho;simp[kA,kW,kP,ho,hn]
  ·cases h
theorem W8{W:AN}{o:dl}{gd:Option (Tmp×Bool)}{g:Bool}{v:V}(h:JK P Ω W o gd fr s g v):kA Ω.own o=false\/(g=false/\v=.bool false):=(AE8 h).1
theorem K8{o:dl}(h:kA Ω.own o=true):kW o=false/\kP o=false:=by
 unfold kA at h;unfold kW kP;split at h<;>rename_i e<;>first
  |(simp[e];done)
  |cases h
theorem AS0{o:dl}{r:Mk}(h:P7 P Ω o fr=some r):kW o=false:=(K8 (Q8 h)).1
def sI:V->Option (List (List V))
 |.list _ es=>some es
 |.nil=>some []
 |_=>none
theorem mO(h:s.sub s'){x:V}{es:List (List V)}(he:elemsOf s x=some es):elemsOf s' x=some es:=by
 cases x with
 |vec l k g n=>
  simp only[elemsOf]at he|-
  cases hg:s.get l k with
  |none=>rw[hg]at he;cases he
  |some y=>
   rw[hg]at he
   rw[h _ _ _ hg]
   exact he
 |vtl l k g i n=>
  simp only[elemsOf]at he|-
  cases hg:s.get l k with
  |none=>rw[hg]at he;cases he
  |some y=>
   rw[hg]at he
   rw[h _ _ _ hg]
   exact he
 |list b es=>exact he
 |nil=>exact he
 |raw v=>exact(VG _ _ v).trans he
 |_=>cases he
def CD(P:dm)(e:dr)(n:Nat)(ys:List (List V)):Bool:=Nat.blt 0 (P.cellsOf e)&&cB P e&&ys.all (fun y=>y.length==P.cellsOf e)&&Nat.ble (n+ys.length) maxLen&&Nat.ble ((n+ys.length)*P.bytesOf e) 140737488355328
def V8(P:dm)(o:dl)(fr:Fr)(s0 s:St):Option (Nat×Nat×A6):=match o.op with
 |.call { callee:=.builtin .append,args,argTypes }=>match args.toList,argTypes.toList,o.dst with
  | [x,y],[T,U],some d=>if T=U/\sealD (some d)=false then(match BR P T,DU true fr x,(DU true fr y).bind (elemsOf s0)with
   |some (none,e),some xv,some ys=>match JH xv ys with
    |some es=>if es.all (fun y=>y.length==P.cellsOf e)=true/\CD P e es.length ys=true then some (s.up.length,d,.vec e (es++ys)) else none
    |none=>match xv with
    |.vec l q γ n=>match Q5 n ys (s.get l q)with
     |some (γ',.vec U es)=>if γ'=γ/\U=e/\n=es.length/\es.all (fun y=>y.length==P.cellsOf e)=true/\CD P e es.length ys=true then some (l,q,.vec e (es++ys)) else none
     |_=>none
    |_=>none
   | _,_,_=>none) else none
  |_,_,_=>none
 |_=>none
def JT(P:dm)(W:AN)(o:dl)(gd:Option (Tmp×Bool))(fr:Fr)(s:St)(l q d:Nat)(r:A6):Prop:=NW fr gd=some true/\((l,q)∈W/\(l,q+P8)∈W)/\o.dst=some d/\∃s0,SJ W s0 s/\V8 P o fr s0 s=some (l,q,r)
theorem ZB{o:dl}{s0:St}(h:∀x∈o.op.operands,rd fr x=rd fr' x):V8 P o fr s0 s=V8 P o fr' s0 s:=by
 unfold V8;split
 ·rename_i args argTypes ho;rw[ho]at h;split
  ·rename_i x y T U d e1 e2 e3;have hx:DU true fr x=DU true fr' x:=CM (h x (by simp only[Op.operands,Call.operands];rw[<-bz];simp[e1]));have hy:DU true fr y=DU true fr' y:=CM (h y (by simp only[Op.operands,Call.operands];rw[<-bz];simp[e1]));rw[hx,hy]
  ·rfl
 ·rfl
theorem T6{o:dl}{l q d:Nat}{r:A6}{s0:St}(hsub:s0.sub s)(h:V8 P o fr s0 s=some (l,q,r))(hd:o.dst=some d):kP o=true/\((l=s.up.length/\q=d)\/∃x,s.get l q=some x) /\
  (∀s',s'.up.length=s.up.length->s'.get l q=s.get l q->V8 P o fr s0 s'=some (l,q,r))/\∀(k:Fr->St->Prop),(∀γ,k (fr.put d true (G9 r l q γ)) (s.put l q γ r))->EF P true o fr s k:=by
 unfold V8 at h
 split at h
 ·rename_i args argTypes ho;split at h
  ·rename_i x y T U d' e1 e2 e3;have:d'=d:=bf.inj (e3.symm.trans hd);subst this;split at h
   ·rename_i hT;obtain⟨rfl,hsd⟩:=hT;split at h
    ·rename_i e xv ys hel hx hy;obtain⟨yv,hyv,hys⟩:=bj.1 hy;have hys':(DU true fr y).bind (elemsOf s)=some ys:=by rw[hyv];exact mO hsub hys
     split at h
     ·rename_i es hn;split at h
      ·rename_i hc;cases h;refine⟨by simp[kP,ho,hd,hsd],.inl ⟨rfl,rfl⟩,fun s' hu _=>?_,fun k hk=>?_⟩
       ·unfold V8;simp only[ho,e1,e2,e3,hel,hx,hy,hsd,and_self,if_true,hn,hu];rw[if_pos hc]
       ·obtain⟨hce,hc⟩:=hc;simp only[CD,bw,cg,Nat.ble_eq]at hc;unfold EF;simp only[ho,e1,e2,e3,hel,hx,hys',hn];exact .inr ⟨trivial,trivial,hc.1.1.1.1,hc.1.1.1.2,hce,hc.1.1.2,hc.1.2,hc.2,hk⟩
      ·cases h
     ·rename_i hn;split at h
      ·rename_i l' q' γ n;split at h
       ·rename_i γ' U' es hget;split at h
        ·rename_i hc;cases h;obtain⟨c1,c2,c3,c4,c5⟩:=hc;refine⟨by simp[kP,ho,hd,hsd],.inr ⟨_,(PF hget).choose_spec.1⟩,fun s' _ hs'=>?_,fun k hk=>?_⟩
         ·unfold V8;simp only[ho,e1,e2,e3,hel,hx,hy,hsd,and_self,if_true,hn,hs',hget];rw[if_pos ⟨c1,c2,c3,c4,c5⟩]
         ·simp only[CD,bw,cg,Nat.ble_eq]at c5;unfold EF;simp only[ho,e1,e2,e3,hel,hx,hys',hn,hget];refine .inr ⟨trivial,?_⟩;refine⟨trivial,c1,c2,c3,c5.1.1.1.1,c5.1.1.1.2,c4,c5.1.1.2,c5.1.2,c5.2,?_⟩;intro γ2;have:=hk γ2;simpa [G9]using this
        ·cases h
       ·cases h
      ·cases h
    ·cases h
   ·cases h
  ·cases h
 ·cases h
def I9(P:dm)(Ω:HO P)(W:AN)(o:dl)(gd:Option (Tmp×Bool))(fr:Fr)(s:St)(k:Fr->St->Prop):Prop :=
 (∃g v,JK P Ω W o gd fr s g v/\k (putD fr o.dst g v) s)\/(∃r d,I8 P Ω o gd fr r d/\∀γ,k (fr.put d true (r.val s.up.length d γ)) (s.put s.up.length d γ r.res)) \/
 (∃l q γ r,FZ P W o gd fr s l q γ r/\k fr (s.put l q γ r))\/(∃l q r d,JT P W o gd fr s l q d r/\∀γ,k (fr.put d true (G9 r l q γ)) (s.put l q γ r))
structure FC(fr:Fr)(s:St)(fr':Fr)(s':St):Prop where
 f:∀k,fr.get k=fr'.get k
 p:∀l k,s.get l k=s'.get l k
 n:s.up.length=s'.up.length
theorem FC.refl(fr:Fr)(s:St):FC fr s fr s:=⟨fun _=>rfl,fun _ _=>rfl,rfl⟩
theorem FC.rd(h:FC fr s fr' s')(x:dp):Pg.rd fr x=Pg.rd fr' x:=by
 cases x with
 |tmp t=>exact h.f t
 |_=>rfl
theorem FC.gd(h:FC fr s fr' s')(gd:Option (Tmp×Bool)):NW fr gd=NW fr' gd:=by
 cases gd with
 |none=>rfl
 |some p=>simp only[NW,h.f]
theorem GD(fr:Fr)(d:Option Tmp)(c:Bool)(v:V)(k:Nat):(putD fr d c v).get k=if d=some k then some (c,v) else fr.get k:=by
 cases d with
 |none=>simp[putD]
 |some d=>simp only[putD,Fr.get_put,bf.injEq,eq_comm]
theorem FC.putD(h:FC fr s fr' s')(d:Option Tmp)(c:Bool)(v:V):FC (Pg.putD fr d c v) s (Pg.putD fr' d c v) s' :=
 ⟨fun k=>by simp only[GD,h.f],h.p,h.n⟩
theorem FC.new(h:FC fr s fr' s')(d γ:Nat)(r:Mk):FC (fr.put d true (r.val s.up.length d γ)) (s.put s.up.length d γ r.res) (fr'.put d true (r.val s'.up.length d γ)) (s'.put s'.up.length d γ r.res) :=
 ⟨fun k=>by simp only[Fr.get_put,h.f,h.n],fun l k=>by rw[St.get_putLoc,St.get_putLoc,h.n,h.p],by rw[St.put_len,St.put_len];exact h.n⟩
theorem FC.out(h:FC fr s fr' s')(W:AN):zR W s s':=⟨fun l k x _ e=>by rw[<-h.p];exact e,fun l k γ T es _ e=>⟨es,by rw[<-h.p];exact e,rfl⟩,fun l k γ r _ _ e=>⟨r,by rw[<-h.p];exact e,.inl rfl⟩⟩
theorem FC.store(h:FC fr s fr' s'){l q γ:Nat}{r:A6}{x:Nat×A6}(hx:s.get l q=some x):FC fr (s.put l q γ r) fr' (s'.put l q γ r) :=
 ⟨h.f,fun l' k'=>by rw[St.get_put s hx,St.get_put s' (by rw[<-h.p];exact hx),h.p],by rw[St.put_len,St.put_len];exact h.n⟩
theorem MZ{s:St}{l q:Nat}(h:l=s.up.length\/∃x,s.get l q=some x)(γ:Nat)(r:A6)(l' k':Nat):(s.put l q γ r).get l' k'=if l'=l/\k'=q then some (γ,r) else s.get l' k':=by
 rcases h with rfl|⟨x,hx⟩
 ·exact St.get_putLoc s l' k'
 ·exact St.get_put s hx l' k'
theorem JT.spec{W:AN}{o:dl}{gd:Option (Tmp×Bool)}{l q d:Nat}{r:A6}(h:JT P W o gd fr s l q d r):kP o=true/\((l=s.up.length/\q=d)\/∃x,s.get l q=some x)/\∀(k:Fr->St->Prop),(∀γ,k (fr.put d true (G9 r l q γ)) (s.put l q γ r))->EF P true o fr s k:=by obtain⟨_,_,h3,s0,hb,h4⟩:=h;have q:=T6 hb.sub h4 h3;exact⟨q.1,q.2.1,q.2.2.2⟩
theorem JT.move{W:AN}{o:dl}{gd:Option (Tmp×Bool)}{l q d:Nat}{r:A6}(h:JT P W o gd fr s l q d r)(hn:s'.up.length=s.up.length)(hq:s'.get l q=s.get l q)(ho:zR W s s'):JT P W o gd fr s' l q d r:=by obtain⟨h1,h2,h3,s0,hb,h4⟩:=h;exact⟨h1,h2,h3,s0,hb.out ho,(T6 hb.sub h4 h3).2.2.1 s' hn hq⟩
theorem JT.pl{W:AN}{o:dl}{gd:Option (Tmp×Bool)}{l q d:Nat}{r:A6}(h:JT P W o gd fr s l q d r):l=s.up.length\/∃x,s.get l q=some x:=h.spec.2.1.imp (fun h=>h.1) id
theorem FC.app(h:FC fr s fr' s'){l q:Nat}(hl:l=s.up.length\/∃x,s.get l q=some x)(d γ:Nat)(r:A6)(v:V):FC (fr.put d true v) (s.put l q γ r) (fr'.put d true v) (s'.put l q γ r) :=
 ⟨fun k=>by simp only[Fr.get_put,h.f],fun l' k=>by rw[MZ hl,MZ (s:=s') (by rw[<-h.n,<-h.p];exact hl),h.p],by rw[St.put_len,St.put_len];exact h.n⟩
theorem mP{W:AN}{o:dl}{gd:Option (Tmp×Bool)}{k k':Fr->St->Prop}(h:I9 P Ω W o gd fr s k)(hs:FC fr s fr' s')(hk:∀f1 s1 f2 s2,FC f1 s1 f2 s2->k f1 s1->k' f2 s2):I9 P Ω W o gd fr' s' k':=by
 rcases h with⟨g,v,⟨h1,h2⟩,h3⟩|⟨r,d,⟨h1,h2,h3⟩,h4⟩|⟨l,q,γ,r,⟨h1,h2,h3⟩,h4⟩|⟨l,q,r,d,hap,h5⟩
 ·refine .inl ⟨g,v,⟨(hs.gd gd).symm.trans h1,?_⟩,hk _ _ _ _ (hs.putD _ _ _) h3⟩;rcases h2 with⟨s0,h2,h2'⟩|⟨f,args,h2,ho,s0,hb0,h2'⟩|h2|h2
  ·exact .inl ⟨s0,h2.out (hs.out W),(GQ fun x _=>(hs.rd x).symm).trans h2'⟩
  ·exact .inr (.inl ⟨f,args,(GW fun x _=>(hs.rd x).symm).trans h2,ho,s0,hb0.out (hs.out W),h2'⟩)
  ·exact .inr (.inr (.inl ((h2.out (hs.out W).2).frame fun x _=>CM (hs.rd x))))
  ·exact .inr (.inr (.inr h2))
 ·exact .inr (.inl ⟨r,d,⟨(hs.gd gd).symm.trans h1,h2,(Y8 fun x _=>(hs.rd x).symm).trans h3⟩,fun γ=>hk _ _ _ _ (hs.new d γ r) (h4 γ)⟩)
 ·obtain⟨⟨r0,hg⟩,_⟩:=DL h3;exact .inr (.inr (.inl ⟨l,q,γ,r,⟨(hs.gd gd).symm.trans h1,h2.frame (SM fun x _=>hs.rd x),PI ((SN fun x _=>(hs.rd x).symm).trans h3) (hs.p l q).symm⟩,hk _ _ _ _ (hs.store hg) h4⟩))
 ·have hpl:=hap.pl;obtain⟨h1,h2,h3,s0,hb,h4⟩:=hap;exact .inr (.inr (.inr ⟨l,q,r,d,⟨(hs.gd gd).symm.trans h1,h2,h3,s0,hb.out (hs.out W),(T6 hb.sub ((ZB fun x _=>(hs.rd x).symm).trans h4) h3).2.2.1 s' hs.n.symm (hs.p l q).symm⟩,fun γ=>hk _ _ _ _ (hs.app hpl d γ r _) (h5 γ)⟩))
def GF(o:dl)(gd:Option (Tmp×Bool))(d:Option Tmp):Prop:=∀t,d=some t->(∀x∈o.op.operands,x≠.tmp t)/\(∀p,gd=some p->p.1≠t)
theorem GF.rd{o:dl}{gd:Option (Tmp×Bool)}{d:Option Tmp}(h:GF o gd d)(c:Bool)(v:V):∀x∈o.op.operands,Pg.rd (putD fr d c v) x=Pg.rd fr x:=by
 intro x hx;cases d with
 |none=>rfl
 |some t=>
  have:=(h t rfl).1 x hx
  cases x with
  |tmp j=>
   show(fr.put t c v).get j=fr.get j
   rw[Fr.get_put,if_neg (fun e=>this (by rw[e]))]
  |_=>rfl
theorem GF.gd{o:dl}{gd:Option (Tmp×Bool)}{d:Option Tmp}(h:GF o gd d)(c:Bool)(v:V):NW (putD fr d c v) gd=NW fr gd:=by
 cases d with
 |none=>rfl
 |some t=>
  cases gd with
  |none=>rfl
  |some p=>
   have:=(h t rfl).2 p rfl
   obtain⟨j,w⟩:=p
   show(match(fr.put t c v).get j with|some (c,.bool b)=>some (c&&(b==w))|_=>none)=_
   rw[Fr.get_put,if_neg this]
   rfl
theorem JK.keep{W:AN}{o:dl}{gd:Option (Tmp×Bool)}{d:Option Tmp}{g c:Bool}{u v:V}(h:JK P Ω W o gd fr s g v)(hb:GF o gd d)(hs:zR W s s'):JK P Ω W o gd (putD fr d c u) s' g v:=by
 refine⟨(hb.gd c u).trans h.1,?_⟩;rcases h.2 with⟨s0,h2,h2'⟩|⟨f,args,h2,ho,s0,hb0,h2'⟩|h2|h2
 ·exact .inl ⟨s0,h2.out hs,(GQ (hb.rd c u)).trans h2'⟩
 ·exact .inr (.inl ⟨f,args,(GW (hb.rd c u)).trans h2,ho,s0,hb0.out hs,h2'⟩)
 ·exact .inr (.inr (.inl ((h2.out hs.2).frame fun x hx=>(CM (hb.rd c u x hx)).symm)))
 ·exact .inr (.inr (.inr h2))
theorem JK.out{W:AN}{o:dl}{gd:Option (Tmp×Bool)}{g:Bool}{v:V}(h:JK P Ω W o gd fr s g v)(hs:zR W s s'):JK P Ω W o gd fr s' g v :=
 ⟨h.1,h.2.imp (fun ⟨s0,h2,h2'⟩=>⟨s0,h2.out hs,h2'⟩) fun h=>h.imp (fun ⟨f,a,h1,h2,s0,hb,h3⟩=>⟨f,a,h1,h2,s0,hb.out hs,h3⟩) fun h=>h.imp (fun h=>h.out hs.2) id⟩
theorem JK.back{W:AN}{o:dl}{gd:Option (Tmp×Bool)}{d:Option Tmp}{g c:Bool}{u v:V}(h:JK P Ω W o gd (putD fr d c u) s g v)(hb:GF o gd d):JK P Ω W o gd fr s g v:=by
 refine⟨(hb.gd c u).symm.trans h.1,?_⟩;rcases h.2 with⟨s0,h2,h2'⟩|⟨f,args,h2,h2'⟩|h2|h2
 ·exact .inl ⟨s0,h2,(GQ (hb.rd c u)).symm.trans h2'⟩
 ·exact .inr (.inl ⟨f,args,(GW (hb.rd c u)).symm.trans h2,h2'⟩)
 ·exact .inr (.inr (.inl (h2.frame fun x hx=>CM (hb.rd c u x hx))))
 ·exact .inr (.inr (.inr h2))
theorem JT.keep{W:AN}{o:dl}{gd:Option (Tmp×Bool)}{d _e:Option Tmp}{c:Bool}{u:V}{l q d':Nat}{r:A6}(hb:GF o gd d):JT P W o gd (putD fr d c u) s l q d' r↔JT P W o gd fr s l q d' r:=by unfold JT;simp only[hb.gd c u,ZB (hb.rd c u)]
theorem FZ.keep{W:AN}{o:dl}{gd:Option (Tmp×Bool)}{d:Option Tmp}{c:Bool}{u:V}{l q γ:Nat}{r:A6}(hb:GF o gd d):FZ P W o gd (putD fr d c u) s l q γ r↔FZ P W o gd fr s l q γ r:=by have e:JL P o (putD fr d c u)=JL P o fr:=SM (hb.rd c u);unfold FZ;rw[hb.gd c u,SN (hb.rd c u)];exact⟨fun h=>⟨h.1,h.2.1.frame e,h.2.2⟩,fun h=>⟨h.1,h.2.1.frame e.symm,h.2.2⟩⟩
theorem FZ.at{W:AN}{o:dl}{gd:Option (Tmp×Bool)}{l q γ:Nat}{r:A6}(h:FZ P W o gd fr s l q γ r)(hs:s'.get l q=s.get l q):FZ P W o gd fr s' l q γ r:=⟨h.1,h.2.1,PI h.2.2 hs⟩
theorem I8.keep{o:dl}{gd:Option (Tmp×Bool)}{d:Option Tmp}{c:Bool}{u:V}{r:Mk}{e:Nat}(hb:GF o gd d):I8 P Ω o gd (putD fr d c u) r e↔I8 P Ω o gd fr r e:=by unfold I8;rw[hb.gd c u,Y8 (hb.rd c u)]
theorem gV{d γ:Nat}{r:A6}(h:s.get s.up.length d=none):s.sub (s.put s.up.length d γ r):=by
 intro l k x e;rw[St.get_putLoc];split
 ·rename_i hc;obtain⟨rfl,rfl⟩:=hc;rw[h]at e;cases e
 ·exact e
theorem gW{W:AN}{d γ:Nat}{r:A6}(h:s.get s.up.length d=none):zR W s (s.put s.up.length d γ r):=⟨fun l k x _ e=>gV h l k x e,fun l k _γ' _T es _ e=>⟨es,gV h l k _ e,rfl⟩,fun l k _γ' r _ _ e=>⟨r,gV h l k _ e,.inl rfl⟩⟩
theorem AKR{W:AN}{l q γ:Nat}{r:A6}(hl:l=s.up.length\/∃x,s.get l q=some x)(hW:(l,q)∈W)(hW2:(l,q+P8)∈W):zR W s (s.put l q γ r):=⟨fun l' k' y hn e=>by
 rw[MZ hl,if_neg (fun h=>hn (by rw[h.1,h.2];exact hW))];exact e,fun l' k' γ' T es hn e=>⟨es,by rw[MZ hl,if_neg (fun h=>hn (by rw[h.1,h.2];exact hW2))];exact e,rfl⟩,
 fun l' k' γ' r' hn _ e=>⟨r',by rw[MZ hl,if_neg (fun h=>hn (by rw[h.1,h.2]; exact hW2))]; exact e,.inl rfl⟩⟩
theorem BGH{o:dl}(h:kP o=true):kW o=false:=by
 unfold kP at h;unfold kW;split at h<;>rename_i e
 ·simp[e]
 ·cases h
theorem mQ{α:Type}{cs ds:List α}{off n:Nat}(h1:ds.length=n)(h2:off+n<=cs.length):(A8 cs off ds).length=cs.length:=by subst h1;simp[A8];omega
theorem SO{o:dl}{l q γ:Nat}{r:A6}(h:DB P o fr s=some (l,q,γ,r)):∃r0,s.get l q=some (γ,r0)/\((∃cs cs',r0=.box cs/\r=.box cs')\/∃T es es',r0=.vec T es/\r=.vec T es'/\es'.map dq=es.map dq):=by
 unfold DB at h;split at h
 ·split at h
  ·split at h
   ·rename_i γ2 cs e3;split at h
    ·rename_i hc;cases h;obtain⟨c1,_⟩:=hc;subst c1;exact⟨_,e3,.inl ⟨_,_,rfl,rfl⟩⟩
    ·cases h
   ·cases h
  ·rename_i i off v e1 e2;split at h
   ·rename_i γ2 U es e3;split at h
    ·rename_i hc;cases h;obtain⟨c1,c2,c3,c4,c5,c6,c7⟩:=hc;subst c1;refine⟨_,e3,.inr ⟨_,_,_,rfl,rfl,?_⟩⟩;have hg:es.getD i []=es[i]:=by simp[List.getD,c5]
     rw[List.map_set,mQ c4 c6,hg];apply dc;intro j;rw[cm];split
     ·rename_i e;subst e;simp[c5]
     ·rfl
    ·cases h
   ·cases h
  ·cases h
 ·cases h
theorem ZC{cs ds:List V}{off n c:Nat}(h1:ds.length=n)(h2:off+n<=cs.length)(hc:¬(off<=c/\c<off+n)):(A8 cs off ds)[c]? = cs[c]?:=by
 subst h1;unfold A8;by_cases h:c<off
 ·rw[List.append_assoc,List.getElem?_append_left (by simp;omega),List.getElem?_take_of_lt h]
 ·have hl:(cs.take off++ds).length=off+ds.length:=by simp;omega
  rw[List.getElem?_append_right (by omega),hl,bg];congr 1;omega
theorem ZD{W:AN}{o:dl}{l q γ:Nat}{r:A6}(h:DB P o fr s=some (l,q,γ,r))(hC:∀off n,JL P o fr=some (off,n)->∀c,off<=c->c<off+n->(l,NX q c)∈W):∃r0,s.get l q=some (γ,r0)/\ASZ W l q r0 r/\ASZ W l q r r0:=by
 unfold DB at h;unfold JL at hC;split at h
 ·rename_i T x y ho;simp only[ho]at hC;split at h
  ·rename_i l' q' γ' off v e1 e2;simp only[e1]at hC;split at h
   ·rename_i γ2 cs e3;split at h
    ·rename_i hc;cases h;obtain⟨c1,c2,c3,c4,c5,c6⟩:=hc;subst c1;have hC:=hC _ _ rfl;have key:∀c,(l,NX q c)∉W->(A8 cs off (BA v))[c]? = cs[c]?:=fun c hn=>ZC c4 c5 fun hh=>hn (hC c hh.1 hh.2);exact⟨_,e3,.inr (.inl ⟨_,_,rfl,rfl,key⟩),.inr (.inl ⟨_,_,rfl,rfl,fun c hn=>(key c hn).symm⟩)⟩
    ·cases h
   ·cases h
  ·rename_i l' q' γ' i off v e1 e2;simp only[e1]at hC;split at h
   ·rename_i γ2 U es e3;split at h
    ·rename_i hc;cases h;obtain⟨c1,c2,c3,c4,c5,c6,c7⟩:=hc;subst c1;have hC:=hC _ _ rfl;have hg:es.getD i []=es[i]:=by simp[List.getD,c5]
     have key:∀c,(l,NX q c)∉W->(A8 (es.getD i []) off (BA v))[c]? = (es.getD i [])[c]?:=fun c hn=>ZC c4 c6 fun hh=>hn (hC c hh.1 hh.2);refine⟨_,e3,.inr (.inr ⟨_,_,_,rfl,rfl,by simp,fun j e he=>?_⟩),.inr (.inr ⟨_,_,_,rfl,rfl,by simp,fun j e he=>?_⟩)⟩
     ·rw[cm];by_cases hij:i=j
      ·subst hij;have:e=es.getD i []:=by rw[hg];rw[bx c5]at he;exact(bf.inj he).symm
       subst this;exact⟨_,by simp[c5],key⟩
      ·exact⟨e,by rw[if_neg hij];exact he,fun _ _=>rfl⟩
     ·rw[cm]at he;by_cases hij:i=j
      ·subst hij;simp only[c5,if_true,bf.injEq]at he;subst he;exact⟨_,by rw[hg];exact bx c5,fun c hn=>(key c hn).symm⟩
      ·rw[if_neg hij]at he;exact⟨e,he,fun _ _=>rfl⟩
    ·cases h
   ·cases h
  ·cases h
 ·cases h
theorem zS{W:AN}{o:dl}{l q γ:Nat}{r:A6}(h:DB P o fr s=some (l,q,γ,r))(hW0:WOK P W o fr l q):zR W s (s.put l q γ r):=by
 have hW:=hW0.1;obtain⟨r0,hx,hsh⟩:=SO h;refine⟨fun l' k' y hn e=>by rw[St.get_put s hx,if_neg (fun h=>hn (by rw[h.1,h.2];exact hW))];exact e,fun l' k' γ' T es _ e=>?_,fun l' k' γ' r' _ hn e=>?_⟩
 ·rw[St.get_put s hx];by_cases hc:l'=l/\k'=q
  ·obtain⟨rfl,rfl⟩:=hc;rw[hx]at e;cases e;rcases hsh with⟨cs,cs',h1,_⟩|⟨T0,es0,es',h1,h2,h3⟩
   ·cases h1
   ·cases h1;subst h2;exact⟨es',by simp,h3⟩
  ·rw[if_neg hc];exact⟨es,e,rfl⟩
 ·rw[St.get_put s hx];by_cases hc:l'=l/\k'=q
  ·obtain⟨rfl,rfl⟩:=hc;rcases hW0.2 with hm|hC
   ·exact(hn hm).elim
   ·obtain⟨r1,e1,h1,_⟩:=ZD h hC;rw[e1]at e;cases e;exact⟨r,by simp,h1⟩
  ·rw[if_neg hc];exact⟨r',e,.inl rfl⟩
theorem sJ{W:AN}{o:dl}{l q γ:Nat}{r:A6}(h:DB P o fr s=some (l,q,γ,r))(hW0:WOK P W o fr l q):zR W (s.put l q γ r) s:=by
 have hW:=hW0.1;obtain⟨r0,hx,hsh⟩:=SO h;refine⟨fun l' k' y hn e=>by rw[St.get_put s hx,if_neg (fun h=>hn (by rw[h.1,h.2];exact hW))]at e;exact e,fun l' k' γ' T es _ e=>?_,fun l' k' γ' r' _ hn e=>?_⟩
 ·rw[St.get_put s hx]at e;by_cases hc:l'=l/\k'=q
  ·obtain⟨rfl,rfl⟩:=hc;simp only[and_self,if_true,bf.injEq,Prod.mk.injEq]at e;obtain⟨rfl,rfl⟩:=e;rcases hsh with⟨cs,cs',_,h1⟩|⟨T0,es0,es',h1,h2,h3⟩
   ·cases h1
   ·cases h2;subst h1;exact⟨es0,hx,h3.symm⟩
  ·rw[if_neg hc]at e;exact⟨es,e,rfl⟩
 ·rw[St.get_put s hx]at e;by_cases hc:l'=l/\k'=q
  ·obtain⟨rfl,rfl⟩:=hc;simp only[and_self,if_true,bf.injEq,Prod.mk.injEq]at e;obtain⟨rfl,rfl⟩:=e;rcases hW0.2 with hm|hC
   ·exact(hn hm).elim
   ·obtain⟨r1,e1,_,h1⟩:=ZD h hC;exact⟨r1,e1,h1⟩
  ·rw[if_neg hc]at e;exact⟨r',e,.inl rfl⟩
theorem Q9{W:AN}{oj:dl}{gj:Option (Tmp×Bool)}{d:Option Tmp}{c:Bool}{v:V}{k:Fr->St->Prop}(hij:GF oj gj d)(hg:NW fr gj=some false)(hj:kA Ω.own oj=true)(h:I9 P Ω W oj gj (putD fr d c v) s k):k (putD (putD fr d c v) oj.dst false (.bool false)) s:=by
 have hg':=(hij.gd (fr:=fr) c v).trans hg;rcases h with⟨g',u,hp',h⟩|⟨r',d',hn',_⟩|⟨l,q,γ2,r2,hst,_⟩|⟨l,q,r2,d2,hap,_⟩
 ·have e:g'=false:=bf.inj (hp'.1.symm.trans hg');rcases W8 hp' with e2|⟨_,e2⟩
  ·rw[hj]at e2;cases e2
  ·rw[e,e2]at h;exact h
 ·have:=hn'.1.symm.trans hg';cases this
 ·have:=(DL hst.2.2).2.2.1;rw[(K8 hj).1]at this;cases this
 ·have:=hap.spec.1;rw[(K8 hj).2]at this;cases this
theorem sK{W:AN}{oi oj:dl}{gi gj:Option (Tmp×Bool)}{k k':Fr->St->Prop}(hij:GF oj gj oi.dst)(hji:GF oi gi oj.dst)(hne:∀d,oi.dst=some d->oj.dst≠some d)(hA:kA Ω.own oi=true->kA Ω.own oj=true\/kW oj=true)(hW:kW oi=true->kW oj=false/\kP oj=false)(hP:kP oi=true->kA Ω.own oj=true)
  (hfj:∀d,kA Ω.own oj=true->oj.dst=some d->s.get s.up.length d=none) (hfi:∀d,kA Ω.own oi=true->oi.dst=some d->s.get s.up.length d=none)
  (h:I9 P Ω W oi gi fr s fun f1 s1=>I9 P Ω W oj gj f1 s1 k) (hk:∀f1 s1 f2 s2,FC f1 s1 f2 s2->k f1 s1->k' f2 s2) :
  I9 P Ω W oj gj fr s fun f2 s2=>I9 P Ω W oi gi f2 s2 k':=by
 have hcomm:∀(c c':Bool) (v v':V),∀t,(putD (putD fr oi.dst c v) oj.dst c' v').get t=(putD (putD fr oj.dst c' v') oi.dst c v).get t:=by
  intro c c' v v' t;simp only[GD];by_cases e1:oj.dst=some t
  ·have:oi.dst≠some t:=fun e2=>hne t e2 e1;simp[e1,this]
  ·simp[e1]
 rcases h with⟨g,v,hp,h⟩|⟨r,d,hn,h⟩|⟨l,q,γ,r,hst,h⟩|⟨l,q,r,d,hap,h⟩
 ·rcases h with⟨g',u,hp',h⟩|⟨r,d,hn,h⟩|⟨l,q,γ,r,hst,h⟩|⟨l,q,r,d,hap,h⟩
  ·exact .inl ⟨g',u,hp'.back hij,.inl ⟨g,v,hp.keep hji (zR.refl W s),hk _ _ _ _ ⟨hcomm _ _ _ _,fun _ _=>rfl,rfl⟩ h⟩⟩
  ·have hd:=hn.2.1;refine .inr (.inl ⟨r,d,(I8.keep hij).1 hn,fun γ=>.inl ⟨g,v,?_,hk _ _ _ _ ⟨fun t=>?_,fun _ _=>rfl,rfl⟩ (h γ)⟩⟩)
   ·have:=hp.keep (c:=true) (u:=r.val s.up.length d γ) hji (gW (W:=W) (r:=r.res) (γ:=γ) (hfj d (Q8 hn.2.2) hd));rw[hd]at this;exact this
   ·have:=hcomm g true v (r.val s.up.length d γ) t;rw[hd]at this;exact this
  ·have hst':=(FZ.keep hij).1 hst;obtain⟨⟨r0,hg⟩,hdn,_⟩:=DL hst'.2.2;exact .inr (.inr (.inl ⟨l,q,γ,r,hst',.inl ⟨g,v,hp.out (zS hst'.2.2 hst'.2.1),hk _ _ _ _ (FC.refl _ _) h⟩⟩))
  ·have hap':=(JT.keep (_e:=none) hij).1 hap;have hd:=hap.2.2.1;refine .inr (.inr (.inr ⟨l,q,r,d,hap',fun γ=>.inl ⟨g,v,?_,hk _ _ _ _ ⟨fun t=>?_,fun _ _=>rfl,rfl⟩ (h γ)⟩⟩))
   ·have:=hp.keep (c:=true) (u:=G9 r l q γ) hji (AKR (W:=W) (r:=r) (γ:=γ) hap'.pl hap'.2.1.1 hap'.2.1.2);rw[hd]at this;exact this
   ·have:=hcomm g true v (G9 r l q γ) t;rw[hd]at this;exact this
 ·have hd:=hn.2.1;have hput:∀c v,fr.put d c v=putD fr oi.dst c v:=fun c v=>by rw[hd];rfl
  have hfd:=hfi d (Q8 hn.2.2) hd;rcases hA (Q8 hn.2.2)with hj|hj
  ·by_cases hgs:NW fr gj=some false
   ·refine .inl ⟨false,.bool false,⟨hgs,.inr (.inr (.inr ⟨rfl,rfl,K8 hj⟩))⟩,.inr (.inl ⟨r,d,(I8.keep hji).2 hn,fun γ=>?_⟩)⟩;have h1:=h γ;rw[hput]at h1;refine hk _ _ _ _ ⟨fun t=>?_,fun _ _=>rfl,rfl⟩ (Q9 hij hgs hj h1);have:=hcomm true false (r.val s.up.length d γ) (.bool false) t;rw[this,hd];rfl
   have key:∀γ,∃r' d',I8 P Ω oj gj fr r' d'/\∀γ',k ((fr.put d true (r.val s.up.length d γ)).put d' true (r'.val s.up.length d' γ')) ((s.put s.up.length d γ r.res).put s.up.length d' γ' r'.res):=by
    intro γ;rcases h γ with⟨g',u,hp',_⟩|⟨r',d',hn',h'⟩|⟨l,q,γ2,r2,hst,_⟩|⟨l,q,r2,d2,hap,_⟩
    ·rcases W8 hp' with e|⟨e,_⟩
     ·rw[hj]at e;cases e
     ·have e2:=hp'.1;rw[hput,hij.gd,e]at e2;exact absurd e2 hgs
    ·rw[hput]at hn';refine⟨r',d',(I8.keep hij).1 hn',fun γ'=>?_⟩;have:=h' γ';rw[St.put_len]at this;exact this
    ·have:=(DL hst.2.2).2.2.1;rw[(K8 hj).1]at this;cases this
    ·have:=hap.spec.1;rw[(K8 hj).2]at this;cases this
   obtain⟨r',d',hn',_⟩:=key 0;refine .inr (.inl ⟨r',d',hn',fun γ'=>.inr (.inl ⟨r,d,?_,fun γ=>?_⟩)⟩)
   ·have:=(I8.keep (P:=P) (fr:=fr) (c:=true) (u:=r'.val s.up.length d' γ') (r:=r) (e:=d) hji).2 hn;rw[hn'.2.1]at this;exact this
   ·obtain⟨r2,d2,hn2,h2⟩:=key γ;have e1:d2=d':=bf.inj (hn2.2.1.symm.trans hn'.2.1);have e2:r2=r':=bf.inj (hn2.2.2.symm.trans hn'.2.2);subst e1;subst e2;have hdd:d≠d2:=fun e=>hne d hd (by rw[e];exact hn'.2.1);refine hk _ _ _ _ ⟨fun t=>?_,fun l t=>?_,?_⟩ (h2 γ')
    ·rw[St.put_len];simp only[Fr.get_put];by_cases e1:t=d2
     ·subst e1;simp[Ne.symm hdd]
     ·simp[e1]
    ·have q1:∀(s0:St) (m e γ:Nat) (r:A6),m=s0.up.length->∀l k,(s0.put m e γ r).get l k=if l=m/\k=e then some (γ,r) else s0.get l k:=fun s0 m e γ r hm l k=>by subst hm;exact St.get_putLoc s0 l k
     rw[q1 _ _ _ _ _ (St.put_len _ _ _ _ _).symm,q1 _ _ _ _ _ rfl,q1 _ _ _ _ _ rfl,q1 _ _ _ _ _ rfl,St.put_len];by_cases e1:t=d2
     ·subst e1;simp[Ne.symm hdd]
     ·simp[e1]
    ·simp only[St.put_len]
  ·have key:∀γ,∃l q γ2 r2,NW fr gj=some true/\WOK P W oj fr l q/\DB P oj fr (s.put s.up.length d γ r.res)=some (l,q,γ2,r2)/\k (fr.put d true (r.val s.up.length d γ)) ((s.put s.up.length d γ r.res).put l q γ2 r2):=by
    intro γ;rcases h γ with⟨g',u,hp',_⟩|⟨r',d',hn',h'⟩|⟨l,q,γ2,r2,hst,h'⟩|⟨l,q,r2,d2,hap,_⟩
    ·have:=(AE8 hp').2.1;rw[hj]at this;cases this
    ·have:=AS0 hn'.2.2;rw[hj]at this;cases this
    ·rw[hput]at hst;have hst':=(FZ.keep hij).1 hst;exact⟨l,q,γ2,r2,hst'.1,hst'.2.1,hst'.2.2,h'⟩
    ·have:=BGH hap.spec.1;rw[hj]at this;cases this
   obtain⟨l,q,γp,r2,hg,hlq,hst0,_⟩:=key 0;have hneq:¬(l=s.up.length/\q=d):=by intro e;obtain⟨l',q',γ',r',_,_,h1,_⟩:=key (γp+1);obtain⟨rfl,rfl,rfl⟩:=ZA hst0 h1;obtain⟨⟨r0,h2⟩,_⟩:=DL h1;rw[St.get_putLoc,if_pos e]at h2;simp at h2
   have hs:∀γ,s.get l q=(s.put s.up.length d γ r.res).get l q:=fun γ=>by rw[St.get_putLoc,if_neg hneq]
   have hst:DB P oj fr s=some (l,q,γp,r2):=PI hst0 (hs 0);obtain⟨⟨r0,hget⟩,hdn,_⟩:=DL hst;refine .inr (.inr (.inl ⟨l,q,γp,r2,⟨hg,hlq,hst⟩,.inr (.inl ⟨r,d,hn,fun γ=>?_⟩)⟩));obtain⟨l',q',γ',r',_,_,h1,h2⟩:=key γ;obtain⟨rfl,rfl,rfl⟩:=ZA hst0 h1;have h3:=PI h1 (hs γ);rw[hst]at h3;simp only[bf.injEq,Prod.mk.injEq,true_and]at h3;subst h3;refine hk _ _ _ _ ⟨fun t=>by rw[St.put_len],fun l1 k1=>?_,by simp only[St.put_len]⟩ h2;have q1:∀(s0:St) (m e γ:Nat) (r:A6),m=s0.up.length->∀l k,(s0.put m e γ r).get l k=if l=m/\k=e then some (γ,r) else s0.get l k:=fun s0 m e γ r hm l k=>by subst hm;exact St.get_putLoc s0 l k
   rw[q1 (s.put l q γp r2) _ _ _ _ rfl,St.put_len,St.get_put s hget,St.get_put (x:=(γp,r0)) _ (by rw[q1 _ _ _ _ _ rfl,if_neg hneq];exact hget),q1 _ _ _ _ _ rfl];by_cases e1:l1=s.up.length/\k1=d
   ·obtain⟨rfl,rfl⟩:=e1;have:¬(s.up.length=l/\k1=q):=fun e=>hneq ⟨e.1.symm,e.2.symm⟩;simp[this]
   ·simp[e1]
 ·obtain⟨⟨r0,hg⟩,hdn,hkw,_⟩:=DL hst.2.2;have hjw:=(hW hkw).1;rcases h with⟨g',u,hp',h⟩|⟨r',d',hn',h⟩|⟨l',q',γ',r',hst',h⟩|⟨l',q',r',d',hap,h⟩
  ·exact .inl ⟨g',u,hp'.out (sJ hst.2.2 hst.2.1),.inr (.inr (.inl ⟨l,q,γ,r,(FZ.keep hji).2 hst,hk _ _ _ _ (FC.refl _ _) h⟩))⟩
  ·have hd':=hn'.2.1;have hfd:=hfj d' (Q8 hn'.2.2) hd';have hneq:¬(l=s.up.length/\q=d'):=fun e=>by rw[e.1,e.2,hfd]at hg;cases hg
   refine .inr (.inl ⟨r',d',hn',fun γ'=>.inr (.inr (.inl ⟨l,q,γ,r,?_,hk _ _ _ _ ⟨fun t=>by rw[St.put_len],fun l1 k1=>?_,by simp only[St.put_len]⟩ (h γ')⟩))⟩)
   ·have h3:=(FZ.keep (P:=P) (W:=W) (fr:=fr) (c:=true) (u:=r'.val s.up.length d' γ') (l:=l) (q:=q) (γ:=γ) (r:=r) (s:=s) hji).2 hst;rw[hd']at h3;exact h3.at (by rw[St.get_putLoc,if_neg hneq])
   ·have q1:∀(s0:St) (m e γ:Nat) (r:A6),m=s0.up.length->∀l k,(s0.put m e γ r).get l k=if l=m/\k=e then some (γ,r) else s0.get l k:=fun s0 m e γ r hm l k=>by subst hm;exact St.get_putLoc s0 l k
    rw[q1 _ _ _ _ _ rfl,St.put_len,St.get_put s hg,St.get_put (x:=(γ,r0)) _ (by rw[q1 _ _ _ _ _ rfl,if_neg hneq];exact hg),q1 _ _ _ _ _ rfl];by_cases e1:l1=s.up.length/\k1=d'
    ·obtain⟨rfl,rfl⟩:=e1;have:¬(s.up.length=l/\k1=q):=fun e=>hneq ⟨e.1.symm,e.2.symm⟩;simp[this]
    ·simp[e1]
  ·have:=(DL hst'.2.2).2.2.1;rw[hjw]at this;cases this
  ·have:=hap.spec.1;rw[(hW hkw).2]at this;cases this
 ·have hd:=hap.2.2.1;have hsp:=hap.spec;have hj:=hP hsp.1;have hput:∀c v,fr.put d c v=putD fr oi.dst c v:=fun c v=>by rw[hd];rfl
  by_cases hgs:NW fr gj=some false
  ·refine .inl ⟨false,.bool false,⟨hgs,.inr (.inr (.inr ⟨rfl,rfl,K8 hj⟩))⟩,.inr (.inr (.inr ⟨l,q,r,d,(JT.keep (_e:=none) hji).2 hap,fun γ=>?_⟩))⟩;have h1:=h γ;rw[hput]at h1;refine hk _ _ _ _ ⟨fun t=>?_,fun _ _=>rfl,rfl⟩ (Q9 hij hgs hj h1);have:=hcomm true false (G9 r l q γ) (.bool false) t;rw[this,hd];rfl
  have key:∀γ,∃r' d',I8 P Ω oj gj fr r' d'/\∀γ',k ((fr.put d true (G9 r l q γ)).put d' true (r'.val s.up.length d' γ')) ((s.put l q γ r).put s.up.length d' γ' r'.res):=by
   intro γ;rcases h γ with⟨g',u,hp',_⟩|⟨r',d',hn',h'⟩|⟨l2,q2,γ2,r2,hst,_⟩|⟨l2,q2,r2,d2,hap2,_⟩
   ·rcases W8 hp' with e|⟨e,_⟩
    ·rw[hj]at e;cases e
    ·have e2:=hp'.1;rw[hput,hij.gd,e]at e2;exact absurd e2 hgs
   ·rw[hput]at hn';refine⟨r',d',(I8.keep hij).1 hn',fun γ'=>?_⟩;have:=h' γ';rw[St.put_len]at this;exact this
   ·have:=(DL hst.2.2).2.2.1;rw[(K8 hj).1]at this;cases this
   ·have:=hap2.spec.1;rw[(K8 hj).2]at this;cases this
  obtain⟨r',d',hn',_⟩:=key 0;have hfd:=hfj d' hj hn'.2.1;have hdd:d≠d':=fun e=>hne d hd (by rw[e];exact hn'.2.1);have hneq:¬(l=s.up.length/\q=d'):=by
   rintro ⟨e1,e2⟩;rcases hsp.2.1 with⟨_,h2⟩|⟨x,hx⟩
   ·exact hdd (h2.symm.trans e2)
   ·rw[e1,e2,hfd]at hx;cases hx
  refine .inr (.inl ⟨r',d',hn',fun γ'=>.inr (.inr (.inr ⟨l,q,r,d,?_,fun γ=>?_⟩))⟩)
  ·have h3:=(JT.keep (P:=P) (W:=W) (fr:=fr) (c:=true) (u:=r'.val s.up.length d' γ') (l:=l) (q:=q) (d':=d) (r:=r) (s:=s) (_e:=none) hji).2 hap;rw[hn'.2.1]at h3;exact h3.move (St.put_len _ _ _ _ _) (by rw[St.get_putLoc,if_neg hneq]) (gW hfd)
  ·obtain⟨r2,d2,hn2,h2⟩:=key γ;have e1:d2=d':=bf.inj (hn2.2.1.symm.trans hn'.2.1);have e2:r2=r':=bf.inj (hn2.2.2.symm.trans hn'.2.2);subst e1;subst e2;refine hk _ _ _ _ ⟨fun t=>?_,fun l1 k1=>?_,?_⟩ (h2 γ')
   ·simp only[Fr.get_put];by_cases e1:t=d2
    ·subst e1;simp[Ne.symm hdd]
    ·simp[e1]
   ·have q1:∀(s0:St) (m e γ:Nat) (r:A6),m=s0.up.length->∀l k,(s0.put m e γ r).get l k=if l=m/\k=e then some (γ,r) else s0.get l k:=fun s0 m e γ r hm l k=>by subst hm;exact St.get_putLoc s0 l k
    have hpl:=hap.pl;rw[q1 _ _ _ _ _ (St.put_len _ _ _ _ _).symm,MZ hpl,MZ (s:=s.put s.up.length d2 γ' r2.res) (by
     rw[St.put_len];rcases hpl with h|⟨x,h⟩
     ·exact .inl h
     ·exact .inr ⟨x,by rw[St.get_putLoc,if_neg hneq]; exact h⟩),St.get_putLoc]
    by_cases e1:l1=s.up.length/\k1=d2
    ·obtain⟨rfl,rfl⟩:=e1;have:¬(s.up.length=l/\k1=q):=fun e=>hneq ⟨e.1.symm,e.2.symm⟩;simp[this]
    ·simp[e1]
   ·simp only[St.put_len]
theorem mR{Wi Wj:AN}{oi oj:dl}{gi gj:Option (Tmp×Bool)}{k k':Fr->St->Prop}(hZ:Wi=Wj\/(kW oi=false/\kP oi=false/\kW oj=false/\kP oj=false))(hij:GF oj gj oi.dst)(hji:GF oi gi oj.dst)(hne:∀d,oi.dst=some d->oj.dst≠some d)(hA:kA Ω.own oi=true->kA Ω.own oj=true\/kW oj=true)(hW:kW oi=true->kW oj=false/\kP oj=false)(hP:kP oi=true->kA Ω.own oj=true)
  (hfj:∀d,kA Ω.own oj=true->oj.dst=some d->s.get s.up.length d=none) (hfi:∀d,kA Ω.own oi=true->oi.dst=some d->s.get s.up.length d=none)
  (h:I9 P Ω Wi oi gi fr s fun f1 s1=>I9 P Ω Wj oj gj f1 s1 k) (hk:∀f1 s1 f2 s2,FC f1 s1 f2 s2->k f1 s1->k' f2 s2) :
  I9 P Ω Wj oj gj fr s fun f2 s2=>I9 P Ω Wi oi gi f2 s2 k':=by
 rcases hZ with rfl|⟨z1,z2,z3,z4⟩
 ·exact sK hij hji hne hA hW hP hfj hfi h hk
 have noS:∀{o:dl} {gd:Option (Tmp×Bool)} {W:AN} {fr:Fr} {s:St} {l q γ:Nat} {r:A6},kW o=false->FZ P W o gd fr s l q γ r->False:=fun hz hst=>by have:=(DL hst.2.2).2.2.1;rw[hz]at this;cases this
 have noA:∀{o:dl} {gd:Option (Tmp×Bool)} {W:AN} {fr:Fr} {s:St} {l q d:Nat} {r:A6},kP o=false->JT P W o gd fr s l q d r->False:=fun hz hap=>by have:=hap.spec.1;rw[hz]at this;cases this
 have hcomm:∀(c c':Bool) (v v':V),∀t,(putD (putD fr oi.dst c v) oj.dst c' v').get t=(putD (putD fr oj.dst c' v') oi.dst c v).get t:=by
  intro c c' v v' t;simp only[GD];by_cases e1:oj.dst=some t
  ·have:oi.dst≠some t:=fun e2=>hne t e2 e1;simp[e1,this]
  ·simp[e1]
 rcases h with⟨g,v,hp,h⟩|⟨r,d,hn,h⟩|⟨l,q,γ,r,hst,h⟩|⟨l,q,r,d,hap,h⟩
 ·rcases h with⟨g',u,hp',h⟩|⟨r,d,hn,h⟩|⟨l,q,γ,r,hst,h⟩|⟨l,q,r,d,hap,h⟩
  ·exact .inl ⟨g',u,hp'.back hij,.inl ⟨g,v,hp.keep hji (zR.refl Wi s),hk _ _ _ _ ⟨hcomm _ _ _ _,fun _ _=>rfl,rfl⟩ h⟩⟩
  ·have hd:=hn.2.1;refine .inr (.inl ⟨r,d,(I8.keep hij).1 hn,fun γ=>.inl ⟨g,v,?_,hk _ _ _ _ ⟨fun t=>?_,fun _ _=>rfl,rfl⟩ (h γ)⟩⟩)
   ·have:=hp.keep (c:=true) (u:=r.val s.up.length d γ) hji (gW (W:=Wi) (r:=r.res) (γ:=γ) (hfj d (Q8 hn.2.2) hd));rw[hd]at this;exact this
   ·have:=hcomm g true v (r.val s.up.length d γ) t;rw[hd]at this;exact this
  ·exact(noS z3 hst).elim
  ·exact(noA z4 hap).elim
 ·have hd:=hn.2.1;have hput:∀c v,fr.put d c v=putD fr oi.dst c v:=fun c v=>by rw[hd];rfl
  have hj:kA Ω.own oj=true:=(hA (Q8 hn.2.2)).resolve_right fun h=>by rw[z3]at h;cases h
  by_cases hgs:NW fr gj=some false
  ·refine .inl ⟨false,.bool false,⟨hgs,.inr (.inr (.inr ⟨rfl,rfl,K8 hj⟩))⟩,.inr (.inl ⟨r,d,(I8.keep hji).2 hn,fun γ=>?_⟩)⟩;have h1:=h γ;rw[hput]at h1;refine hk _ _ _ _ ⟨fun t=>?_,fun _ _=>rfl,rfl⟩ (Q9 hij hgs hj h1);have:=hcomm true false (r.val s.up.length d γ) (.bool false) t;rw[this,hd];rfl
  have key:∀γ,∃r' d',I8 P Ω oj gj fr r' d'/\∀γ',k ((fr.put d true (r.val s.up.length d γ)).put d' true (r'.val s.up.length d' γ')) ((s.put s.up.length d γ r.res).put s.up.length d' γ' r'.res):=by
   intro γ;rcases h γ with⟨g',u,hp',_⟩|⟨r',d',hn',h'⟩|⟨l,q,γ2,r2,hst,_⟩|⟨l,q,r2,d2,hap,_⟩
   ·rcases W8 hp' with e|⟨e,_⟩
    ·rw[hj]at e;cases e
    ·have e2:=hp'.1;rw[hput,hij.gd,e]at e2;exact absurd e2 hgs
   ·rw[hput]at hn';refine⟨r',d',(I8.keep hij).1 hn',fun γ'=>?_⟩;have:=h' γ';rw[St.put_len]at this;exact this
   ·exact(noS z3 hst).elim
   ·exact(noA z4 hap).elim
  obtain⟨r',d',hn',_⟩:=key 0;refine .inr (.inl ⟨r',d',hn',fun γ'=>.inr (.inl ⟨r,d,?_,fun γ=>?_⟩)⟩)
  ·have:=(I8.keep (P:=P) (fr:=fr) (c:=true) (u:=r'.val s.up.length d' γ') (r:=r) (e:=d) hji).2 hn;rw[hn'.2.1]at this;exact this
  ·obtain⟨r2,d2,hn2,h2⟩:=key γ;have e1:d2=d':=bf.inj (hn2.2.1.symm.trans hn'.2.1);have e2:r2=r':=bf.inj (hn2.2.2.symm.trans hn'.2.2);subst e1;subst e2;have hdd:d≠d2:=fun e=>hne d hd (by rw[e];exact hn'.2.1);refine hk _ _ _ _ ⟨fun t=>?_,fun l t=>?_,?_⟩ (h2 γ')
   ·rw[St.put_len];simp only[Fr.get_put];by_cases e1:t=d2
    ·subst e1;simp[Ne.symm hdd]
    ·simp[e1]
   ·have q1:∀(s0:St) (m e γ:Nat) (r:A6),m=s0.up.length->∀l k,(s0.put m e γ r).get l k=if l=m/\k=e then some (γ,r) else s0.get l k:=fun s0 m e γ r hm l k=>by subst hm;exact St.get_putLoc s0 l k
    rw[q1 _ _ _ _ _ (St.put_len _ _ _ _ _).symm,q1 _ _ _ _ _ rfl,q1 _ _ _ _ _ rfl,q1 _ _ _ _ _ rfl,St.put_len];by_cases e1:t=d2
    ·subst e1;simp[Ne.symm hdd]
    ·simp[e1]
   ·simp only[St.put_len]
 ·exact(noS z1 hst).elim
 ·exact(noA z2 hap).elim
end Go.Pg
namespace Go.Pg
variable {P:dm}{Ω:HO P}{n N:Nat}{ρ:Option Nat}{G0 G:Gh}{fr fr':Fr}{s s':St}{a:Act}{w:dn}
def bS(gs:List (Option (Tmp×Bool)))(i:Nat):Option (Tmp×Bool):=match gs[i]? with
 |some g=>g
 |none=>none
theorem M0{all:List dl}:∀{l:List dl} {gs:List (Option (Tmp×Bool))},JW all gs l=true->∀{i:Nat} {o:dl},l[i]? = some o->HL all o (bS gs i)=true
 |[],_,_,i,o,h=>by simp at h
 |o'::l,gs,hg,i,o,h=>by
  cases gs with
  |nil=>
   simp only[JW,bw]at hg
   cases i with
   |zero=>simp at h;subst h;exact hg.1
   |succ i=>
    have:=M0 hg.2 (i:=i) (o:=o) (by simpa using h)
    simpa [bS]using this
  |cons g gs=>
   simp only[JW,bw]at hg
   cases i with
   |zero=>simp at h;subst h;exact hg.1
   |succ i=>
    have:=M0 hg.2 (i:=i) (o:=o) (by simpa using h)
    simpa [bS]using this
def atD(d:Nat):List dl->Nat->Nat
 |[],n=>n
 |o::l,n=>match o.dst with
  |some e=>cond (br e d) n (atD d l (n+1))
  |none=>atD d l (n+1)
def zB(l:List dl)(o:dl):Bool:=match o.op with
 |.load ..=>match o.dst with
  |some d=>cond (l.any kW) (l.all fun s=>cond (kW s||kP s) (s.after.toList.any fun e=>br e.on (atD d l 0)&&Region.binds .any e) true) false
  |none=>false
 |_=>false
theorem AOQ{l:List dl}{o:dl}(h:zB l o=true):∃T x,o.op=.load T x:=by
 unfold zB at h;split at h
 ·rename_i T x e;exact⟨T,x,e⟩
 ·cases h
def wz(l:List dl)(W:AN)(o:dl):AN:=cond (zB l o) [] W
def zP(l:List dl)(oi oj:dl):Bool:=cond (kW oi||kP oi||kW oj||kP oj) (zB l oi==zB l oj) true
theorem AKS{l:List dl}{oi oj:dl}(h:zP l oi oj=true)(W:AN):wz l W oi=wz l W oj\/(kW oi=false/\kP oi=false/\kW oj=false/\kP oj=false):=by
 unfold zP at h;cases hc:(kW oi||kP oi||kW oj||kP oj)with
 |true=>
  rw[hc]at h
  left
  unfold wz
  rw[eq_of_beq h]
 |false=>
  simp only[dv]at hc
  exact .inr ⟨hc.1.1.1,hc.1.1.2,hc.1.2,hc.2⟩
def NQ(P:dm)(Ω:HO P)(W:AN)(l:List dl)(gs:List (Option (Tmp×Bool)))(i:Nat)(fr:Fr)(s:St)(k:Fr->St->Prop):Prop:=match l[i]? with
 |some o=>I9 P Ω (wz l W o) o (bS gs i) fr s k
 |none=>False
abbrev zT(l:List dl)(listed:Array Bool):List Nat:=Region.ready .any l.toArray listed
def gX(P:dm)(Ω:HO P)(W:AN)(l:List dl)(gs:List (Option (Tmp×Bool)))(T:Array Bool->Fr->St->Prop):Nat->List Nat->Array Bool->Fr->St->Prop
 |0,_,listed,fr,s=>T listed fr s
 |m+1,R,listed,fr,s=>zT l listed≠[]/\∀j∈zT l listed,j∈R/\NQ P Ω W l gs j fr s (gX P Ω W l gs T m (R.erase j) (listed.setIfInBounds j true))
variable {W:AN}{l:List dl}{gs:List (Option (Tmp×Bool))}{T:Array Bool->Fr->St->Prop}
theorem ZE(hT:∀listed fr s fr' s',FC fr s fr' s'->T listed fr s->T listed fr' s'):∀(m:Nat) (R:List Nat) (listed:Array Bool) (fr:Fr) (s:St) (fr':Fr) (s':St),FC fr s fr' s'->gX P Ω W l gs T m R listed fr s->gX P Ω W l gs T m R listed fr' s'
 |0,_,_,_,_,_,_,hs,h=>hT _ _ _ _ _ hs h
 |m+1,R,listed,fr,s,fr',s',hs,h=>by
  refine⟨h.1,fun j hj=>⟨(h.2 j hj).1,?_⟩⟩;have:=(h.2 j hj).2;unfold NQ at this|-;split
  ·rename_i o ho;simp only[ho]at this;exact mP this hs fun f1 s1 f2 s2 h12 h'=>ZE hT m _ _ _ _ _ _ h12 h'
  ·rename_i ho;simp only[ho]at this
def Led(o:dl)(s s1:St):Prop:=s1=s\/(∃γ r d,o.dst=some d/\s1=s.put s.up.length d γ r)\/∃l q γ r x,s.get l q=some x/\s1=s.put l q γ r
theorem M1{o:dl}{gd:Option (Tmp×Bool)}{k k':Fr->St->Prop}(h:I9 P Ω W o gd fr s k)(hk:∀f1 s1,Led o s s1->k f1 s1->k' f1 s1):I9 P Ω W o gd fr s k':=by
 rcases h with⟨g,v,h1,h2⟩|⟨r,d,h1,h2⟩|⟨l,q,γ,r,h1,h2⟩|⟨l,q,r,d,h1,h2⟩
 ·exact .inl ⟨g,v,h1,hk _ _ (.inl rfl) h2⟩
 ·exact .inr (.inl ⟨r,d,h1,fun γ=>hk _ _ (.inr (.inl ⟨γ,r.res,d,h1.2.1,rfl⟩)) (h2 γ)⟩)
 ·obtain⟨⟨r0,hg⟩,_⟩:=DL h1.2.2;exact .inr (.inr (.inl ⟨l,q,γ,r,h1,hk _ _ (.inr (.inr ⟨l,q,γ,r,_,hg,rfl⟩)) h2⟩))
 ·refine .inr (.inr (.inr ⟨l,q,r,d,h1,fun γ=>hk _ _ ?_ (h2 γ)⟩));rcases h1.spec.2.1 with⟨rfl,rfl⟩|⟨x,hx⟩
  ·exact .inr (.inl ⟨γ,r,_,h1.2.2.1,rfl⟩)
  ·exact .inr (.inr ⟨l,q,γ,r,x,hx,rfl⟩)
def OG(own:dl->Bool)(l:List dl)(R:List Nat)(s:St):Prop:=∀j∈R,∀o d,l[j]? = some o->kA own o=true->o.dst=some d->s.get s.up.length d=none
def zU(l:List dl):Prop:=∀(j k:Nat) (o o':dl) (d:Nat),l[j]? = some o->l[k]? = some o'->j≠k->o.dst=some d->o'.dst≠some d
theorem OG.led{own:dl->Bool}{R:List Nat}{j:Nat}{o:dl}{s1:St}(h:OG own l R s)(hD:zU l)(hj:l[j]? = some o)(hR:∀k∈R,k≠j)(hl:Led o s s1):OG own l R s1:=by
 rcases hl with rfl|⟨γ,r,d,hd,rfl⟩|⟨l1,q1,γ,r,x,hx,rfl⟩
 ·exact h
 ·intro k hk o' d' ho' hA hd';rw[St.put_len,St.get_putLoc];have:d'≠d:=fun e=>hD j k o o' d hj ho' (Ne.symm (hR k hk)) hd (by rw[<-e];exact hd');rw[if_neg (fun e=>this e.2)];exact h k hk o' d' ho' hA hd'
 ·intro k hk o' d' ho' hA hd';have h0:=h k hk o' d' ho' hA hd';rw[St.put_len,St.get_put s hx,if_neg (fun e=>by rw[e.1,e.2,hx]at h0;cases h0)];exact h0
structure AKT(own:dl->Bool)(l:List dl)(gs:List (Option (Tmp×Bool)))(i:Nat)(oi:dl)(B:List Nat)(R:List Nat)(listed:Array Bool):Prop where
 ready:i∈zT l listed
 mem:i∈R
 wait:∀b∈B,∃o,l[b]? = some o/\∃e∈o.after,Region.binds .any e=true/\(e.on=i\/e.on∈B)
 un:∀b∈B,listed.getD b true=false
 free:∀j oj,l[j]? = some oj->j≠i->j∉B->listed.getD j true=false->j∈R/\GF oj (bS gs j) oi.dst/\GF oi (bS gs i) oj.dst/\(∀d,oi.dst=some d->oj.dst≠some d)/\(kA own oi=true->kA own oj=true\/kW oj=true)/\(kW oi=true->kW oj=false/\kP oj=false)/\(kP oi=true->kA own oj=true)/\zP l oi oj=true
theorem W9{listed:Array Bool}{j:Nat}(h:listed.getD j true=false):listed.getD j false=false:=by
 rcases cp j listed.size with h'|h'
 ·simp[h']at h|-;exact h
 ·simp[ck h']at h
theorem AKT.blocked{own:dl->Bool}{i:Nat}{oi:dl}{B R:List Nat}{listed:Array Bool}(h:AKT own l gs i oi B R listed){j:Nat}(hj:j∈zT l listed):j∉B:=by
 intro hb;obtain⟨_,o,ho,hall⟩:=mem_ready.1 hj;obtain⟨o',ho',e,he,hbi,hon⟩:=h.wait j hb;have:o=o':=by simpa [ho']using ho.symm
 subst this;have h1:=hall e he hbi;rcases hon with hon|hon
 ·rw[hon,W9 (mem_ready.1 h.ready).1]at h1;cases h1
 ·rw[W9 (h.un _ hon)]at h1;cases h1
theorem sL(hT:∀listed fr s fr' s',FC fr s fr' s'->T listed fr s->T listed fr' s')(hD:zU l){i:Nat}{oi:dl}{B:List Nat}(hi:l[i]? = some oi):∀(m:Nat) (R:List Nat) (listed:Array Bool) (fr:Fr) (s:St),
  AKT Ω.own l gs i oi B R listed->R.length=m+1->R.Nodup->OG Ω.own l R s->NQ P Ω W l gs i fr s (gX P Ω W l gs T m (R.erase i) (listed.setIfInBounds i true))->gX P Ω W l gs T (m+1) R listed fr s:=by
 intro m
 induction m with
 |zero=>
  intro R listed fr s hF hlen _ _ h
  refine⟨fun e=>?_,fun j hj=>?_⟩
  ·have:=hF.ready;rw[e]at this;cases this
  ·by_cases hji:j=i
   ·subst hji;exact⟨hF.mem,h⟩
   ·obtain⟨hun,oj,hoj,_⟩:=mem_ready.1 hj;have hR:=(hF.free j oj (by simpa using hoj) hji (hF.blocked hj) hun).1;exfalso;obtain⟨x,rfl⟩:=List.length_eq_one_iff.1 hlen;have e1:=hF.mem;simp at e1 hR;exact hji (hR.trans e1.symm)
 |succ m ih=>
  intro R listed fr s hF hlen hnd hfresh h
  refine⟨fun e=>?_,fun j hj=>?_⟩
  ·have:=hF.ready;rw[e]at this;cases this
  ·by_cases hji:j=i
   ·subst hji;exact⟨hF.mem,h⟩
   ·obtain⟨hun,oj,hoj,_⟩:=mem_ready.1 hj;have hoj':l[j]? = some oj:=by simpa using hoj
    have hjB:=hF.blocked hj;obtain⟨hjR,b1,b2,hne,hA,hWW,hPP,hZZ⟩:=hF.free j oj hoj' hji hjB hun;refine⟨hjR,?_⟩;unfold NQ at h|-;simp only[hi]at h;simp only[hoj'];have h1:I9 P Ω (wz l W oi) oi (bS gs i) fr s fun f1 s1=>I9 P Ω (wz l W oj) oj (bS gs j) f1 s1 (gX P Ω W l gs T m ((R.erase i).erase j) ((listed.setIfInBounds i true).setIfInBounds j true)):=by refine M1 h fun f1 s1 _ h'=>?_;have:=(h'.2 j (ready_mono hj hji)).2;unfold NQ at this;simp only[hoj']at this;exact this
    have h2:=mR (AKS hZZ W) b1 b2 hne hA hWW hPP (fun d hk hd=>hfresh j hjR oj d hoj' hk hd) (fun d hk hd=>hfresh i hF.mem oi d hi hk hd) h1 fun f1 s1 f2 s2 h12 h'=>ZE hT _ _ _ _ _ _ _ h12 h';refine M1 h2 fun f1 s1 hled h'=>?_;have hlt:j<listed.size:=by
     rcases cp j listed.size with h'|h'
     ·exact h'
     ·simp[ck h']at hun
    refine ih (R.erase j) (listed.setIfInBounds j true) f1 s1 ⟨ready_mono hF.ready (Ne.symm hji),(dw (Ne.symm hji)).2 hF.mem,hF.wait,fun b hb=>?_,fun k ok hk hki hkB hku=>?_⟩ ?_ (hnd.erase j) ?_ ?_
    ·rw[getD_set_ne true (fun e=>hjB (by rw[e];exact hb))];exact hF.un b hb
    ·have hkj:k≠j:=by intro e;subst e;simp[hlt]at hku
     rw[getD_set_ne true (Ne.symm hkj)]at hku;obtain⟨q1,q2⟩:=hF.free k ok hk hki hkB hku;exact⟨(dw hkj).2 q1,q2⟩
    ·rw[List.length_erase_of_mem hjR,hlen];rfl
    ·refine OG.led (j:=j) (fun k hk=>hfresh k (List.mem_of_mem_erase hk)) hD hoj' (fun k hk e=>?_) hled;subst e;exact(List.Nodup.mem_erase_iff hnd).1 hk |>.1 rfl
    ·unfold NQ;simp only[hi];rw[List.erase_comm,Array.setIfInBounds_comm _ _ hji];exact h'
def QL(P:dm)(Ω:HO P)(W:AN)(l:List dl)(gs:List (Option (Tmp×Bool))):List Nat->Fr->St->(Fr->St->Prop)->Prop
 |[],fr,s,K=>K fr s
 |i::r,fr,s,K=>NQ P Ω W l gs i fr s fun fr s=>QL P Ω W l gs r fr s K
theorem SP{_x y:dl}{gd:Option (Tmp×Bool)}{d:Option Tmp}(h:∀t,d=some t->t∉y.looksAt l.toArray)(hg:HL l y gd=true):GF y gd d:=by
 intro t ht;have:=h t ht;unfold Oper.looksAt at this;simp only[dx,not_or]at this;refine⟨fun z hz e=>this.1 ?_,fun p hp e=>this.2 ?_⟩
 ·subst e;exact List.mem_filterMap.2 ⟨.tmp t,by simpa using hz,rfl⟩
 ·obtain⟨q,w⟩:=p;subst hp;unfold HL at hg;split at hg
  ·rename_i hh;cases hh
  ·rename_i j w1 d1 w2 ho e1;cases e1;simp only[ho];simp only[bw]at hg;have h2:=hg.2;split at h2
   ·rename_i o hoj;split at h2
    ·rename_i d' hd';have:d'=q:=bc h2;subst this;have e':d'=t:=e;subst e';simp only[cr,hoj,bh,hd',Option.toList_some,List.mem_singleton]
    ·cases h2
   ·cases h2
  ·cases hg
def HP{α:Type}(n:Nat)(k:Nat->α):α:=match n with
 |0=>k 0
 |m+1=>k (m+1)
theorem E9{α:Type}(n:Nat)(k:Nat->α):HP n k=k n:=by cases n<;>rfl
def NR:List Nat->Nat
 |[]=>0
 |k::r=>cd (NR r) (bq 1 k)
theorem CI(k j:Nat):(bq 1 k).testBit j=decide (k=j):=by have h:bq 1 k=1 <<< k:=rfl;rw[h,Nat.one_shiftLeft,Nat.testBit_two_pow]
theorem testBit_or(a b j:Nat):(cd a b).testBit j=(a.testBit j||b.testBit j):=Nat.testBit_or a b j
theorem testBit_and(a b j:Nat):(bp a b).testBit j=(a.testBit j&&b.testBit j):=Nat.testBit_and a b j
theorem DN:∀{ks:List Nat} {j:Nat},(NR ks).testBit j=true↔j∈ks
 |[],j=>by simp[NR]
 |k::r,j=>by
  rw[NR,testBit_or,CI,cj,DN,decide_eq_true_eq,cq];constructor
  ·rintro (h|h)
   ·exact .inr h
   ·exact .inl h.symm
  ·rintro (h|h)
   ·exact .inr h.symm
   ·exact .inl h
theorem F0{a b:Nat}(h:br (bp a b) 0=true){j:Nat}(ha:a.testBit j=true)(hb:b.testBit j=true):False:=by have h1:=bc h;have h2:=testBit_and a b j;rw[h1,ha,hb]at h2;simp at h2
theorem SQ{a b:Nat}(h:br (bp a b) 0=false):∃j,a.testBit j=true/\b.testBit j=true:=by
 refine Classical.byContradiction fun hn=>?_;have:bp a b=0:=dj fun j=>by
  rw[testBit_and,Nat.zero_testBit];cases ha:a.testBit j with
  |false=>rfl
  |true=>cases hb:b.testBit j with
   |false=>rfl
   |true=>exact absurd ⟨j,ha,hb⟩ hn
 rw[this]at h;cases h
theorem AE9{a b:Nat}(h:br (bp a b) a=true){j:Nat}(ha:a.testBit j=true):b.testBit j=true:=by have h1:=bc h;have h2:=testBit_and a b j;rw[h1,ha]at h2;simpa using h2.symm
def T7(m k:Nat):Bool:=!(br (bp m (bq 1 k)) 0)
theorem SR(m k:Nat):T7 m k=m.testBit k:=by
 unfold T7;cases hm:m.testBit k with
 |true=>
  cases hb:br (bp m (bq 1 k)) 0 with
  |false=>rfl
  |true=>exact(F0 hb hm (by rw[CI];simp)).elim
 |false=>
  cases hb:br (bp m (bq 1 k)) 0 with
  |true=>rfl
  |false=>
   obtain⟨j,h1,h2⟩:=SQ hb
   rw[CI,decide_eq_true_eq]at h2
   rw[h2,h1]at hm
   cases hm
def zV(o:dl):List Nat:=(o.after.toList.filter fun e=>Region.binds .any e).map (·.on)
theorem ZF{o:dl}{k:Nat}:k∈zV o↔∃e∈o.after,Region.binds .any e=true/\e.on=k:=by
 simp only[zV,List.mem_map,List.mem_filter,bz];constructor
 ·rintro ⟨e,⟨h1,h2⟩,h3⟩;exact⟨e,h1,h2,h3⟩
 ·rintro ⟨e,h1,h2,h3⟩;exact⟨e,⟨h1,h2⟩,h3⟩
def afM(l:List dl)(j:Nat):Nat:=match l[j]? with
 |some o=>NR (zV o)
 |none=>0
def lkM(l:List dl)(j:Nat):Nat:=match l[j]? with
 |some o=>NR (o.looksAt l.toArray)
 |none=>0
def dsM(l:List dl)(j:Nat):Nat:=match l[j]? with
 |some o=>match o.dst with
  |some d=>bq 1 d
  |none=>0
 |none=>0
def afL:List dl->Nat->List (Nat×Nat)
 |[],_=>[]
 |o::r,j=>(j,NR (zV o))::afL r (j+1)
theorem gY:∀{r:List dl} {j0 j m:Nat},(j,m)∈afL r j0->∃k o,j=j0+k/\r[k]? = some o/\m=NR (zV o)
 |[],_,_,_,h=>by cases h
 |o::r,j0,j,m,h=>by
  rcases cq.1 h with h|h
  ·cases h;exact⟨0,o,rfl,rfl,rfl⟩
  ·obtain⟨k,o',h1,h2,h3⟩:=gY h;exact⟨k+1,o',by omega,by simpa using h2,h3⟩
def KS(i:Nat):List (Nat×Nat)->Nat->Nat
 |[],B=>B
 |p::js,B=>cond (br (bp p.2 (cd B (bq 1 i))) 0) (KS i js B) (HP (cd B (bq 1 p.1)) (KS i js))
def mS(l:List dl)(i B b:Nat):Prop:=∃o,l[b]? = some o/\∃e∈o.after,Region.binds .any e=true/\(e.on=i\/B.testBit e.on=true)
theorem M2{l:List dl}{i:Nat}:∀{js:List (Nat×Nat)} {B:Nat},(∀p∈js,∃o,l[p.1]? = some o/\p.2=NR (zV o))->(∀b,B.testBit b=true->mS l i B b)->∀b,(KS i js B).testBit b=true->mS l i (KS i js B) b
 |[],B,_,h=>h
 |p::js,B,hj,h=>by
  unfold KS;cases hc:br (bp p.2 (cd B (bq 1 i))) 0 with
  |true=>exact M2 (fun q hq=>hj q (dz _ hq)) h
  |false=>
   show ∀b,(HP (cd B (bq 1 p.1)) (KS i js)).testBit b=true->mS l i (HP (cd B (bq 1 p.1)) (KS i js)) b
   rw[E9]
   have mono:∀b,mS l i B b->mS l i (cd B (bq 1 p.1)) b:=fun b ⟨o,h1,e,h2,h3,h4⟩=>⟨o,h1,e,h2,h3,h4.imp id fun h=>by rw[testBit_or,h];rfl⟩
   refine M2 (fun q hq=>hj q (dz _ hq)) fun b hb=>?_
   rw[testBit_or,cj,CI,decide_eq_true_eq]at hb
   rcases hb with hb|rfl
   ·exact mono b (h b hb)
   ·obtain⟨o,ho,hm⟩:=hj p (by simp);obtain⟨k,h1,h2⟩:=SQ hc;rw[hm,DN,ZF]at h1;obtain⟨e,he,hbi,rfl⟩:=h1;rw[testBit_or,cj,CI,decide_eq_true_eq]at h2;exact mono _ ⟨o,ho,e,he,hbi,h2.elim .inr fun h=>.inl h.symm⟩
def AFA(own:dl->Bool)(l:List dl)(i j:Nat):Bool:=match l[i]? with
 |some oi=>match l[j]? with
  |some oj=>(!(kA own oi)||(kA own oj||kW oj))&&!(kW oi&&(kW oj||kP oj))&&(!(kP oi)||kA own oj)&&zP l oi oj
  |none=>false
 |none=>false
def wI(own:dl->Bool)(l:List dl)(i j:Nat):Bool :=
 br (bp (dsM l i) (cd (lkM l j) (dsM l j))) 0&&br (bp (dsM l j) (lkM l i)) 0&&AFA own l i j
def OH(l:List dl)(i done:Nat):Bool:=br (bp (afM l i) done) (afM l i)
def phM(own:dl->Bool)(l:List dl)(tl:List Nat):List Nat->Nat->Bool
 |[],_=>true
 |i::r,done=>HP (KS i (afL l 0) 0) fun B=>
  Nat.blt i l.length&&!(T7 done i)&&OH l i done&&br (bp B done) 0&&tl.all (T7 B)&&r.all (fun j=>T7 B j||wI own l i j)&&HP (cd done (bq 1 i)) (phM own l tl r)
def dW(l:List dl)(rest:List Nat):List Nat->Nat->Bool
 |[],_=>true
 |i::r,done=>Nat.blt i l.length&&!(T7 done i)&&OH l i done&&r.all (fun j=>!(OH l j done))&&rest.all (fun j=>!(OH l j done))&&HP (cd done (bq 1 i)) (dW l rest r)
structure KQ(l:List dl)(rest:List Nat)(done:Nat)(listed:Array Bool):Prop where
 size:listed.size=l.length
 bit:∀k,done.testBit k=listed.getD k false
 cov:∀k,k<l.length->done.testBit k=false->k∈rest
theorem KQ.un{rest:List Nat}{done:Nat}{listed:Array Bool}(h:KQ l rest done listed){k:Nat}:listed.getD k true=false↔k<l.length/\done.testBit k=false:=by
 rw[h.bit];rcases cp k listed.size with h'|h'
 ·have:=h.size;simp[h'];intro;omega
 ·have:=h.size;simp[ck h'];omega
theorem KQ.next{rest:List Nat}{i done:Nat}{listed:Array Bool}(h:KQ l (i::rest) done listed)(hi:i<l.length):KQ l rest (cd done (bq 1 i)) (listed.setIfInBounds i true):=by
 refine⟨by simpa using h.size,fun k=>?_,fun k hk hd=>?_⟩
 ·rw[testBit_or,CI,h.bit];by_cases e:i=k
  ·subst e;have:i<listed.size:=by rw[h.size];exact hi
   simp[this]
  ·rw[getD_set_ne false e];simp[e]
 ·rw[testBit_or,CI,dv,decide_eq_false_iff_not]at hd;rcases cq.1 (h.cov k hk hd.1)with rfl|h'
  ·exact absurd rfl hd.2
  ·exact h'
theorem KQ.ready{rest:List Nat}{i done:Nat}{listed:Array Bool}(h:KQ l rest done listed)(hi:i<l.length)(hn:T7 done i=false)(hr:OH l i done=true):i∈zT l listed:=by rw[SR]at hn;have ho:l[i]? = some l[i]:=bx hi;refine mem_ready.2 ⟨h.un.2 ⟨hi,hn⟩,l[i],by simp,fun e he hb=>?_⟩;rw[<-h.bit];refine AE9 hr ?_;unfold afM;rw[ho];exact DN.2 (ZF.2 ⟨e,he,hb,rfl⟩)
theorem KQ.unready{rest:List Nat}{j done:Nat}{listed:Array Bool}(h:KQ l rest done listed)(hr:OH l j done=false):j∉zT l listed:=by
 intro hj;obtain⟨h1,o,ho,h2⟩:=mem_ready.1 hj;have ho':l[j]? = some o:=by simpa using ho
 have:bp (afM l j) done=afM l j:=dj fun k=>by
  rw[testBit_and];cases ha:(afM l j).testBit k with
  |false=>rfl
  |true=>
   unfold afM at ha
   rw[ho']at ha
   obtain⟨e,he,hb,rfl⟩:=ZF.1 (DN.1 ha)
   rw[h.bit,h2 e he hb]
   rfl
 unfold OH at hr;rw[this]at hr;have:=Nat.beq_refl (afM l j);rw[this]at hr;cases hr
theorem sM{own:dl->Bool}{i j:Nat}{oi oj:dl}(hi:l[i]? = some oi)(hj:l[j]? = some oj)(h:wI own l i j=true) :
  (∀d,oi.dst=some d->d∉oj.looksAt l.toArray)/\(∀d,oi.dst=some d->oj.dst≠some d)/\(∀d,oj.dst=some d->d∉oi.looksAt l.toArray) /\
  (kA own oi=true->kA own oj=true\/kW oj=true)/\(kW oi&&(kW oj||kP oj))=false/\(kP oi=true->kA own oj=true)/\zP l oi oj=true:=by
 unfold wI AFA dsM lkM at h
 simp only[hi,hj,bw,cj,cx]at h
 obtain⟨⟨h1,h2⟩,⟨⟨h3,h4⟩,h5⟩,h6⟩:=h
 refine⟨fun d hd hm=>?_,fun d hd he=>?_,fun d hd hm=>?_,fun hk=>?_,h4,fun hk=>?_,h6⟩
 ·rw[hd]at h1;refine F0 h1 (j:=d) (by rw[CI];simp) ?_;rw[testBit_or,DN.2 hm];rfl
 ·rw[hd,he]at h1;refine F0 h1 (j:=d) (by rw[CI];simp) ?_;rw[testBit_or,CI];simp
 ·rw[hd]at h2;exact F0 h2 (j:=d) (by rw[CI];simp) (DN.2 hm)
 ·rcases h3 with h3|h3
  ·rw[hk]at h3;cases h3
  ·exact h3
 ·rcases h5 with h5|h5
  ·rw[hk]at h5;cases h5
  ·exact h5
def PhP(own:dl->Bool)(l:List dl)(gs:List (Option (Tmp×Bool))):List Nat->Array Bool->Prop
 |[],_=>True
 |i::r,listed=>(∃oi B,l[i]? = some oi/\AKT own l gs i oi B (i::r) listed)/\PhP own l gs r (listed.setIfInBounds i true)
def AFB(l:List dl):List Nat->Array Bool->Prop
 |[],_=>True
 |i::r,listed=>(i∈zT l listed/\∀j∈zT l listed,j=i)/\AFB l r (listed.setIfInBounds i true)
theorem mT{own:dl->Bool}{tl:List Nat}(hg:JW l gs l=true):∀{R:List Nat} {done:Nat} {listed:Array Bool},KQ l (R++tl) done listed->phM own l tl R done=true->PhP own l gs R listed
 |[],_,_,_,_=>trivial
 |i::r,done,listed,hL,h=>by
  unfold phM at h;rw[E9,E9]at h;simp only[bw,cx,bt,cj]at h;obtain⟨⟨⟨⟨⟨⟨h1,h2⟩,h3⟩,h4⟩,h5⟩,h6⟩,h7⟩:=h;have hi:i<l.length:=by simpa [cg]using h1
  have hw:=M2 (l:=l) (i:=i) (js:=afL l 0) (B:=0) (fun p hp=>by
   obtain⟨k,o,e1,e2,e3⟩:=gY (j:=p.1) (m:=p.2) hp;exact⟨o,by rw[e1,df]; exact e2,e3⟩) (fun b hb=>by simp at hb)
  generalize KS i (afL l 0) 0=B at *;have hb:∀b,b∈(List.range l.length).filter (fun b=>B.testBit b)↔B.testBit b=true:=fun b=>by rw[List.mem_filter,List.mem_range];refine⟨fun h=>h.2,fun h=>⟨?_,h⟩⟩;obtain⟨o,ho,_⟩:=hw b h;exact(bn.1 ho).1
  refine⟨⟨l[i],(List.range l.length).filter (fun b=>B.testBit b),bx hi,⟨hL.ready hi h2 h3,by simp,fun b hbm=>?_,fun b hbm=>?_,fun j oj hj hji hjB hun=>?_⟩⟩,mT hg (hL.next hi) h7⟩
  ·obtain⟨o,ho,e,he,hbi,hon⟩:=hw b ((hb b).1 hbm);exact⟨o,ho,e,he,hbi,hon.imp id fun h=>(hb _).2 h⟩
  ·have hbt:=(hb b).1 hbm;refine hL.un.2 ⟨?_,?_⟩
   ·obtain⟨o,ho,_⟩:=hw b hbt;exact(bn.1 ho).1
   ·cases hd:done.testBit b with
    |false=>rfl
    |true=>exact(F0 h4 hbt hd).elim
  ·obtain⟨hlt,hdn⟩:=hL.un.1 hun;have hnb:B.testBit j=false:=by
    cases hd:B.testBit j with
    |false=>rfl
    |true=>exact absurd ((hb j).2 hd) hjB
   rcases dx.1 (hL.cov j hlt hdn)with hm|hm
   ·rcases cq.1 hm with rfl|hr
    ·exact absurd rfl hji
    ·have hp:wI own l i j=true:=by
      rcases h6 j hr with h6|h6
      ·rw[SR,hnb]at h6;cases h6
      ·exact h6
     obtain⟨a1,a2,a3,a4,a5,a6,a7⟩:=sM (bx hi) hj hp;exact⟨hm,SP (_x:=l[i]) a1 (M0 hg hj),SP (_x:=oj) a3 (M0 hg (bx hi)),a2,a4,fun hk=>by rw[hk]at a5;simpa using a5,a6,a7⟩
   ·have:=h5 j hm;rw[SR,hnb]at this;cases this
theorem ZG{rest:List Nat}:∀{tl:List Nat} {done:Nat} {listed:Array Bool},KQ l (tl++rest) done listed->dW l rest tl done=true->AFB l tl listed
 |[],_,_,_,_=>trivial
 |i::r,done,listed,hL,h=>by
  unfold dW at h;rw[E9]at h;simp only[bw,cx,bt]at h;obtain⟨⟨⟨⟨⟨h1,h2⟩,h3⟩,h4⟩,h5⟩,h6⟩:=h;have hi:i<l.length:=by simpa [cg]using h1
  refine⟨⟨hL.ready hi h2 h3,fun j hj=>?_⟩,ZG (hL.next hi) h6⟩;obtain⟨q1,o,ho,_⟩:=mem_ready.1 hj;obtain⟨hlt,hdn⟩:=hL.un.1 q1;rcases dx.1 (hL.cov j hlt hdn)with hm|hm
  ·rcases cq.1 hm with rfl|hr
   ·rfl
   ·exact absurd hj (hL.unready (h4 j hr))
  ·exact absurd hj (hL.unready (h5 j hm))
theorem mU{rest:List Nat}:∀{tl:List Nat} {done:Nat},dW l rest tl done=true->∀i∈tl,i<l.length
 |[],_,_,i,hi=>by cases hi
 |j::r,done,h,i,hi=>by
  unfold dW at h;rw[E9]at h;simp only[bw]at h;obtain⟨⟨⟨⟨⟨h1,_⟩,_⟩,_⟩,_⟩,h6⟩:=h;rcases cq.1 hi with rfl|hi
  ·simpa [cg]using h1
  ·exact mU h6 i hi
theorem KQ.fold{tl:List Nat}:∀{R:List Nat} {done:Nat} {listed:Array Bool},(∀i∈R,i<l.length)->KQ l (R++tl) done listed->KQ l tl (R.foldl (fun m i=>cd m (bq 1 i)) done) (R.foldl (fun L i=>L.setIfInBounds i true) listed)
 |[],_,_,_,h=>h
 |i::r,_,_,hi,h=>KQ.fold (R:=r) (fun j hj=>hi j (by simp[hj])) (h.next (hi i (by simp)))
theorem KQ.start{rest:List Nat}(h:br (NR rest) (2 ^ l.length-1)=true):KQ l rest 0 (Array.replicate l.length false):=by
 refine⟨by simp,fun k=>?_,fun k hk _=>?_⟩
 ·rw[Nat.zero_testBit];rcases cp k l.length with h'|h'
  ·simp[Array.getD,h']
  ·simp[Array.getD,Nat.not_lt.2 h']
 ·refine DN.1 ?_;rw[bc h,Nat.testBit_two_pow_sub_one];simp[hk]
theorem SU(hT:∀listed fr s fr' s',FC fr s fr' s'->T listed fr s->T listed fr' s')(hD:zU l)(hg:JW l gs l=true):∀(R:List Nat) (listed:Array Bool) (fr:Fr) (s:St),R.Nodup->OG Ω.own l R s->PhP Ω.own l gs R listed ->
  QL P Ω W l gs R fr s (T (R.foldl (fun L i=>L.setIfInBounds i true) listed))->gX P Ω W l gs T R.length R listed fr s
 |[],_,_,_,_,_,_,h=>h
 |i::r,listed,fr,s,hnd,hfr,hp,h=>by
  obtain⟨⟨oi',B,hi',hF⟩,hp⟩:=hp;simp only[QL,NQ]at h;split at h
  ·rename_i oi hi;obtain rfl:oi'=oi:=bf.inj (hi'.symm.trans hi);refine sL hT hD hi r.length (i::r) listed fr s hF rfl hnd hfr ?_;unfold NQ;simp only[hi,List.erase_cons_head];refine M1 h fun f1 s1 hled h'=>SU hT hD hg r _ _ _ (db.1 hnd).2 ?_ hp h';exact OG.led (j:=i) (fun k hk=>hfr k (by simp[hk])) hD hi (fun k hk e=>(db.1 hnd).1 (by rw[<-e];exact hk)) hled
  ·cases h
def zW(P:dm)(l:List dl)(gs:List (Option (Tmp×Bool))):List Nat->Fr->St->(Fr->St->Prop)->Prop
 |[],fr,s,K=>K fr s
 |i::r,fr,s,K=>match l[i]? with
  |some o=>match NW fr (bS gs i)with
   |some g=>SE P g o fr s fun fr s=>zW P l gs r fr s K
   |none=>False
  |none=>False
theorem HQ{i:Nat}{o:dl}{g:Bool}{k:Fr->St->Prop}{Q:Exit->Act->dn->Prop}{K:Act->dn->Prop}(hR:I4 n N G0 G fr s a w)(hN:LP N l=true)(hg:JW l gs l=true)(hi:l[i]? = some o)(hgd:NW fr (bS gs i)=some g)
  (h:SE P g o fr s k) (hK:∀G' a' w' fr' s',I4 n N G0 G' fr' s' a' w'->k fr' s'->K a' w'):wpOpIn (wf ρ) 0 P l.toArray Q i K a w:=by
 have hw:=YO (ops:=l.toArray) hR.fr (by simpa using M0 hg hi) hgd
 obtain⟨h1,h2⟩:=VK (ρ:=ρ) hR (Y6 hN (cz hi)) h
 unfold wpOpIn
 simp only[cr,hi,hw]
 cases g with
 |true=>exact h1 rfl _ _ hK
 |false=>
  obtain⟨fr',s',hR',hk⟩:=h2 rfl
  exact⟨fun _ _=>trivial,hK _ _ _ _ _ hR' hk⟩
theorem ZH{K:Exit->Fr->St->Prop}(hN:LP N l=true)(hg:JW l gs l=true){t:Nat}{C:Fr->St->Prop}{L:Array Bool}(hC:∀fr s G a w,C fr s->I4 n N G0 G fr s a w->wpAnyIn (wf ρ) 0 P .any l.toArray (K7 n N G0 K) t L a w) :
  ∀(tl:List Nat) (listed:Array Bool) (G:Gh) (fr:Fr) (s:St) (a:Act) (w:dn),tl.foldl (fun L i=>L.setIfInBounds i true) listed=L->AFB l tl listed->I4 n N G0 G fr s a w->zW P l gs tl fr s C ->
  wpAnyIn (wf ρ) 0 P .any l.toArray (K7 n N G0 K) (tl.length+t) listed a w
 |[],listed,G,fr,s,a,w,hL,_,hR,h=>by rw[show([]:List Nat).length+t=t from df t];subst hL;exact hC _ _ _ _ _ h hR
 |i::r,listed,G,fr,s,a,w,hL,ht,hR,h=>by
  obtain⟨⟨e1,e2⟩,ht⟩:=ht;rw[show(i::r).length+t=(r.length+t)+1 by simp only[List.length_cons];omega];refine⟨fun h0=>(by rw[show zT l listed=[] from h0]at e1;cases e1),fun j hj=>?_⟩;have:j=i:=e2 j hj;subst this;simp only[zW]at h;split at h
  ·rename_i o ho;split at h
   ·rename_i g hgd;exact HQ hR hN hg ho hgd h fun G' a' w' fr' s' hR' hk=>ZH hN hg hC r _ G' fr' s' a' w' hL ht hR' hk
   ·cases h
  ·cases h
theorem ZI{K:Exit->Fr->St->Prop}(hN:LP N l=true)(hg:JW l gs l=true){t:Nat}(hT:∀listed fr s G a w,T listed fr s->I4 n N G0 G fr s a w->wpAnyIn (wf ρ) 0 P .any l.toArray (K7 n N G0 K) t listed a w) :
  ∀(m:Nat) (R:List Nat) (listed:Array Bool) (G:Gh) (fr:Fr) (s:St) (a:Act) (w:dn),I4 n N G0 G fr s a w->gX P Ω W l gs T m R listed fr s->wpAnyIn (wf ρ) 0 P .any l.toArray (K7 n N G0 K) (m+t) listed a w
 |0,_,listed,G,fr,s,a,w,hR,h=>by rw[df];exact hT _ _ _ _ _ _ h hR
 |m+1,R,listed,G,fr,s,a,w,hR,h=>by
  rw[Nat.add_right_comm];refine⟨fun h0=>absurd h0 h.1,fun j hj=>?_⟩;have h':=(h.2 j hj).2;unfold NQ at h';split at h'
  ·rename_i o ho;have main:∀(g:Bool),NW fr (bS gs j)=some g->SE P g o fr s (gX P Ω W l gs T m (R.erase j) (listed.setIfInBounds j true))->wpOpIn (wf ρ) 0 P l.toArray (K7 n N G0 K) j (wpAnyIn (wf ρ) 0 P .any l.toArray (K7 n N G0 K) (m+t) (listed.setIfInBounds j true)) a w:=fun g hgd hst=>
    HQ hR hN hg ho hgd hst fun G' a' w' fr' s' hR' hk=>ZI hN hg hT m _ _ G' fr' s' a' w' hR' hk
   rcases h' with⟨g,v,⟨h1,h2⟩,h3⟩|⟨r,d,⟨h1,h2,h3⟩,h4⟩|⟨l1,q,γ,r,⟨h1,h2,h3⟩,h4⟩|⟨l1,q,r,d,ha,h4⟩
   ·refine main g h1 ?_;rcases h2 with⟨s0,h2,h2'⟩|⟨f,args,h2,_,s0,hb0,h2'⟩|h2|⟨rfl,_⟩
    ·exact .inl (DS (Ω:=Ω) (.inl ⟨v,mM h2.sub h2',h3⟩))
    ·exact .inl (DS (Ω:=Ω) (.inr (.inl ⟨f,args,v,h2,fun hg s' hs'=>h2' hg s' fun l k x e=>hs' _ _ _ (hb0.sub _ _ _ e),h3⟩)))
    ·exact .inl (DS (Ω:=Ω) (.inl ⟨v,h2.val,h3⟩))
    ·exact .inr (.inl ⟨rfl,v,h3⟩)
   ·exact main true h1 (.inl (DS (Ω:=Ω) (.inr (.inr ⟨r,d,rfl,h2,h3,h4⟩))))
   ·exact main true h1 (.inl ((DL h3).2.2.2 _ h4))
   ·exact main true ha.1 (.inl (ha.spec.2.2 _ h4))
  ·cases h'
theorem I4.same(h:I4 n N G0 G fr s a w)(hs:FC fr s fr' s'):I4 n N G0 G fr' s' a w :=
 ⟨h.le,h.inv.congr fun l k=>(hs.p l k).symm,fun k c v e=>h.fr k c v ((hs.f k).trans e),h.size,hs.n.symm.trans h.lvl,h.marks⟩
def ZJ:List Nat->Bool
 |[]=>true
 |x::r=>!(r.contains x)&&ZJ r
theorem OI:∀{r:List Nat},ZJ r=true->r.Nodup
 |[],_=>.nil
 |x::r,h=>by simp only[ZJ,bw,cx]at h;exact db.2 ⟨fun hm=>by rw[List.contains_iff_mem.2 hm]at h;exact absurd h.1 (by simp),OI h.2⟩
def ZK:List dl->Bool
 |[]=>true
 | o :: r=>(match o.dst with
  |some d=>r.all fun p=>match p.dst with
   |some d'=>!(br d' d)
   |none=>true
  | none=>true)&&ZK r
theorem RA:∀{l:List dl},ZK l=true->zU l
 |[],_,j,k,o,o',d,h,_,_,_=>by simp at h
 |p::r,hB,j,k,o,o',d,h1,h2,hne,hd=>by
  simp only[ZK,bw]at hB;have look:∀{x y:dl} {e:Nat},(match x.dst with
   |some d=>r.all fun p=>match p.dst with
    |some d'=>!(br d' d)
    |none=>true
   | none=>true)=true->y∈r->x.dst=some e->y.dst≠some e:=by
   intro _ y e hx hy hxe hye
   simp only[hxe]at hx
   have:=bt.1 hx y hy
   simp[hye]at this
  cases j with
  |zero=>
   cases k with
   |zero=>exact absurd rfl hne
   |succ k=>
    simp at h1 h2
    subst h1
    exact look hB.1 (cz h2) hd
  |succ j=>
   cases k with
   |zero=>
    simp at h1 h2
    subst h2
    intro hd'
    exact look hB.1 (cz h1) hd' hd
   |succ k=>exact RA hB.2 j k o o' d (by simpa using h1) (by simpa using h2) (fun e=>hne (by rw[e])) hd
def ZL(own:dl->Bool)(l:List dl)(R:List Nat)(L:AA):Bool:=R.all fun j=>match l[j]? with
 |some o=>!(kA own o)||match o.dst with
  |some d=>(L.get d).isNone
  |none=>true
 |none=>true
theorem mV{own:dl->Bool}{R:List Nat}(h:ZL own l R s.loc=true):OG own l R s:=by intro j hj o d ho hk hd;have:=bt.1 h j hj;simp only[ho,hk,Bool.not_true,Bool.false_or,hd,Option.isNone_iff_eq_none]at this;simpa [St.get]using this
abbrev V9:=List (List Nat×List Nat)
def NS(S:V9):List Nat:=S.flatMap fun p=>p.1++p.2
def AFC(done:Nat)(R:List Nat):Nat:=R.foldl (fun m i=>cd m (bq 1 i)) done
def AKU(own:dl->Bool)(l:List dl):V9->Nat->Bool
 |[],_=>true
 |(R,tl)::S,done=>R.all (Nat.blt · l.length)&&ZJ R&&phM own l (tl++NS S) R done&&HP (AFC done R) fun d1=>dW l (NS S) tl d1&&HP (AFC d1 tl) (AKU own l S)
def OJ(own:dl->Bool)(N:Nat)(gs:List (Option (Tmp×Bool)))(S:V9)(l:List dl):Bool :=
 LP N l&&JW l gs l&&ZK l&&AKU own l S 0&&br (NS S).length l.length&&br (NR (NS S)) (2 ^ l.length-1)
def mW(P:dm)(Ω:HO P)(l:List dl)(gs:List (Option (Tmp×Bool))):V9->Fr->St->(Fr->St->Prop)->Prop
 |[],fr,s,K=>K fr s
 |(R,tl)::S,fr,s,K=>∃W,ZL Ω.own l R s.loc=true/\QL P Ω W l gs R fr s fun fr s=>zW P l gs tl fr s fun fr s=>mW P Ω l gs S fr s K
theorem ZM{Ω:HO P}{W:AN}:∀(R:List Nat) (fr:Fr) (s:St) (k k':Fr->St->Prop),(∀f1 s1,k f1 s1->k' f1 s1)->QL P Ω W l gs R fr s k->QL P Ω W l gs R fr s k'
 |[],_,_,_,_,hk,h=>hk _ _ h
 |i::r,fr,s,k,k',hk,h=>by
  simp only[QL,NQ]at h|-;split at h
  ·exact M1 h fun f1 s1 _ h'=>ZM r _ _ _ _ hk h'
  ·cases h
theorem VN{K:Exit->Fr->St->Prop}{Ω:HO P}(hN:LP N l=true)(hg:JW l gs l=true)(hD:zU l):∀(S:V9) (done:Nat) (listed:Array Bool),KQ l (NS S) done listed->AKU Ω.own l S done=true ->
  ∀(G:Gh) (fr:Fr) (s:St) (a:Act) (w:dn),I4 n N G0 G fr s a w->mW P Ω l gs S fr s (K .normal)->wpAnyIn (wf ρ) 0 P .any l.toArray (K7 n N G0 K) (NS S).length listed a w
 |[],done,listed,hL,_,G,fr,s,a,w,hR,h=>by refine⟨List.eq_nil_iff_forall_not_mem.2 fun j hj=>?_,G,fr,s,hR,h⟩;obtain⟨h1,o,ho,_⟩:=mem_ready.1 hj;obtain⟨hlt,hdn⟩:=hL.un.1 h1;exact absurd (hL.cov j hlt hdn) (by simp[NS])
 |(R,tl)::S,done,listed,hL,hM,G,fr,s,a,w,hR,h=>by
  unfold AKU at hM;rw[E9,E9]at hM;simp only[bw]at hM;obtain⟨⟨⟨h1,h2⟩,h3⟩,h4,h5⟩:=hM;have hfl:NS ((R,tl)::S)=R++(tl++NS S):=by simp[NS]
  rw[hfl]at hL;have hL1:=hL.fold (fun i hi=>by simpa [cg]using bt.1 h1 i hi);have hT:=ZG hL1 h4;have hL2:=hL1.fold (mU h4);have hP:=mT hg hL h3;obtain⟨W,hF,hw⟩:=h;let T:Array Bool->Fr->St->Prop:=fun listed fr s=>∀G a w,I4 n N G0 G fr s a w->wpAnyIn (wf ρ) 0 P .any l.toArray (K7 n N G0 K) (tl.length+(NS S).length) listed a w;have hw':QL P Ω W l gs R fr s (T (R.foldl (fun L i=>L.setIfInBounds i true) listed)) :=
   ZM R fr s _ _ (fun f1 s1 h' G a w hR=>ZH hN hg (C:=fun fr s=>mW P Ω l gs S fr s (K .normal)) (fun fr s G a w hc hR=>VN hN hg hD S _ _ hL2 h5 G fr s a w hR hc) tl _ G f1 s1 a w rfl hT hR h') hw
  have hA:=SU (T:=T) (fun listed f1 s1 f2 s2 hs hT G a w hR=>hT G a w (hR.same ⟨fun k=>(hs.f k).symm,fun l k=>(hs.p l k).symm,hs.n.symm⟩)) hD hg R _ fr s (OI h2) (mV hF) hP hw';have hB:=ZI (ρ:=ρ) (K:=K) hN hg (T:=T) (t:=tl.length+(NS S).length) (fun listed f1 s1 G a w hT hR=>hT G a w hR) R.length R _ G fr s a _ hR hA;rw[hfl];simpa using hB
theorem zX{id:Nat}{K:Exit->Fr->St->Prop}(Ω:HO P)(hm:P.follows .mixedOrders=true)(gs:List (Option (Tmp×Bool)))(S:V9)(hB:OJ Ω.own N gs S l=true)
  (h:mW P Ω l gs S fr s (K .normal)):BH P n N ρ (.region id l.toArray true) K fr s:=by
 simp only[OJ,bw]at hB
 obtain⟨⟨⟨⟨⟨h1,h2⟩,h3⟩,h4⟩,h5⟩,h6⟩:=hB
 intro G0 G a w hR
 refine wpIn_region_any hm ?_
 have hR':I4 n N G0 G fr s a { w with drawn:=w.drawn+1 }:=⟨hR.le,hR.inv.drawn _,hR.fr,hR.size,hR.lvl,hR.marks⟩
 have:=VN (ρ:=ρ) (K:=K) (Ω:=Ω) h1 h2 (RA h3) S 0 _ (KQ.start (l:=l) h6) h4 G fr s a _ hR' h
 rw[bc h5]at this
 simpa using this
end Go.Pg
