/- A region that draws its order: operations that only compute, calls that only compute and new places may come in any order. No program in sight. -/
import Derived.Test.YthhdhbalenanjaaGreatP3
import Derived.OrdersIn
namespace Go.Pg
variable {P:Program}{n N:Nat}{ρ:Option Nat}{G0 G:Gh}{fr fr':Fr}{s s':St}{a:Act}{w:World}
def St.sub(s s':St):Prop:=∀l k x,s.get l k=some x→s'.get l k=some x
theorem qU(h:s.sub s'){p:V}{cs:List V}(hp:BH s p=some cs):BH s' p=some cs:=by
 cases p with
 |ptr l k g off=>
  simp only[BH]at hp⊢
  split at hp
  ·rename_i g' ds e;rw[h _ _ _ e];exact hp
  ·cases hp
 |eptr l k g i off=>
  simp only[BH]at hp⊢
  split at hp
  ·rename_i g' T es e;rw[h _ _ _ e];exact hp
  ·cases hp
 |_=>exact hp
theorem ZB(h:s.sub s'){T:TypeId}{x i v:V}(hp:B7 P s T x i=some v):B7 P s' T x i=some v:=by
 unfold B7 at hp⊢;split at hp
 ·exact hp
 ·split at hp
  ·rename_i g' U es e;rw[h _ _ _ e];exact hp
  ·cases hp
 ·exact hp
 ·exact hp
 ·exact hp
 ·cases hp
theorem qV(h:s.sub s'){T:TypeId}{x v:V}{lo hi mx:Option V}(hp:CC P s T x lo hi mx=some v):CC P s' T x lo hi mx=some v:=by
 unfold CC at hp⊢;split at hp;case h_6=>
  split at hp
  ·rename_i g' U es e;rw[h _ _ _ e];exact hp
  ·cases hp
 case h_7=>
  split at hp
  ·rename_i g' cs m e e';rw[h _ _ _ e,e'];exact hp
  ·cases hp
 all_goals exact hp
theorem lS(h:s.sub s'){T:TypeId}{x i v:V}{ok:Bool}(hp:D9 P s T x i ok=some v):D9 P s' T x i ok=some v:=by
 unfold D9 at hp⊢;split at hp
 ·split at hp
  ·rename_i g' es e;rw[h _ _ _ e];exact hp
  ·cases hp
 ·cases hp
theorem AOX(h:s.sub s'){o:Oper}{r:Operand→Option V}{v:V}(hv:JR P o s r=some v):JR P o s' r=some v:=by
 unfold JR at hv⊢;split at hv;case h_4 T x ho=>
  obtain⟨p,h1,h2⟩:=Option.bind_eq_some_iff.1 hv
  obtain⟨cs,h3,h4⟩:=Option.bind_eq_some_iff.1 h2
  simp only[h1,Option.bind_some,qU h h3,h4]
 case h_10 T x i ho=>
  obtain⟨p,h1,h2⟩:=Option.bind_eq_some_iff.1 hv
  obtain⟨q,h3,h4⟩:=Option.bind_eq_some_iff.1 h2
  simp only[h1,h3,Option.bind_some,ZB h h4]
 case h_16 T x lo hi mx ho=>
  obtain⟨p,h1,h2⟩:=Option.bind_eq_some_iff.1 hv
  obtain⟨q,h3,h4⟩:=Option.bind_eq_some_iff.1 h2
  obtain⟨q',h5,h6⟩:=Option.bind_eq_some_iff.1 h4
  obtain⟨q2,h7,h8⟩:=Option.bind_eq_some_iff.1 h6
  simp only[h1,h3,h5,h7,Option.bind_some,qV h h8]
 case h_17 T x i ok ho=>
  obtain⟨p,h1,h2⟩:=Option.bind_eq_some_iff.1 hv
  obtain⟨q,h3,h4⟩:=Option.bind_eq_some_iff.1 h2
  simp only[h1,h3,Option.bind_some,lS h h4]
 all_goals exact hv
theorem NW{r r':Operand→Option V}:∀{l:List Operand},(∀x∈l,r x=r' x)→l.mapM r=l.mapM r'
 |[],_=>rfl
 |x::l,h=>by simp only[List.mapM_cons];rw[h x (by simp),NW (l:=l) fun y hy=>h y (by simp[hy])]
theorem NX{r r':Operand→Option V}:∀{l:List (Nat×Operand)},(∀x∈l.map (·.2),r x=r' x)→DN r l=DN r' l
 |[],_=>rfl
 |(i,x)::l,h=>by simp only[DN];rw[h x (by simp),NX (l:=l) fun y hy=>h y (by simp at hy⊢;exact .inr hy)]
theorem ADJ{o:Oper}{r r':Operand→Option V}(h:∀x∈o.op.operands,r x=r' x):JR P o s r=JR P o s r':=by
 unfold JR;split<;>rename_i ho<;>(try rw[ho]at h)<;>(try simp only[Op.operands,Call.operands]at h);case h_13=>
  split
  ·rename_i x T e1 e2;have:r x=r' x:=h x (by rw[←Array.mem_toList_iff];simp[e1]);rw[this]
  ·rfl
 case h_14=>
  split
  ·rename_i x y e1;have hx:r x=r' x:=h x (by rw[←Array.mem_toList_iff];simp[e1]);have hy:r y=r' y:=h y (by rw[←Array.mem_toList_iff];simp[e1]);rw[hx,hy]
  ·rfl
 case h_15=>
  split
  ·rename_i x y e1;have hx:r x=r' x:=h x (by rw[←Array.mem_toList_iff];simp[e1]);have hy:r y=r' y:=h y (by rw[←Array.mem_toList_iff];simp[e1]);rw[hx,hy]
  ·rfl
 case h_16 T x lo hi mx=>
  have hx:r x=r' x:=h x (by simp)
  have hl:∀y,lo=some y→r y=r' y:=fun y e=>h y (by simp[e])
  have hh:∀y,hi=some y→r y=r' y:=fun y e=>h y (by simp[e])
  have hm:∀y,mx=some y→r y=r' y:=fun y e=>h y (by simp[e])
  rw[hx]
  cases lo<;>cases hi<;>cases mx<;>simp_all
 case h_18 f first captured=>
  rw[NW (r:=r) (r':=r') (l:=first.toList) fun x hx=>h x (by simp at hx⊢;exact .inl hx),NW (r:=r) (r':=r') (l:=captured.toList) fun x hx=>h x (by simp at hx⊢;exact .inr hx)]
 all_goals first|rfl|(simp at h;simp[h])
def F9(P:Program)(g:Bool)(o:Oper)(fr:Fr)(s:St):Option V:=match o.op with
 |.pick c a b=>match EI g fr c,rd fr a,rd fr b with
  |some (.bool c),some (ca,.bool a),some (cb,.bool b)=>if (g=true→c=true→ca=true)∧(g=true→c=false→cb=true) then some (.bool (if c then a else b)) else none
  |_,_,_=>none
 |.build T parts=>(DN (EI g fr) parts.toList).bind (CZ P T)
 |.buildSlice T len parts=>(DN (EI g fr) parts.toList).bind (CK P T len)
 |_=>JR P o s (EI g fr)
def JU(g:Bool)(o:Oper)(fr:Fr):Option (FuncId×List V):=match o.op with
 |.call { callee:=.value f,args,.. }=>match EI g fr f,args.toList.mapM (EI g fr)with
  |some (.fn fid first cap),some vs=>some (fid,(first++vs++cap).map weakV)
  |_,_=>none
 |_=>none
section
variable (σ:Nat→Nat)(δ:Nat)
mutual
def V.ren:V→V
 |.int k n=>.int k n
 |.bool b=>.bool b
 |.raw v=>.raw v
 |.agg cs=>.agg (gS cs)
 |.tup cs=>.tup (gS cs)
 |.list f es=>.list f (qW es)
 |.ref cs=>.ref (gS cs)
 |.ptr l k g off=>.ptr (l+δ) k (σ g) off
 |.eptr l k g i off=>.eptr (l+δ) k (σ g) i off
 |.vec l k g len=>.vec (l+δ) k (σ g) len
 |.mp l k g=>.mp (l+δ) k (σ g)
 |.fn f xs ys=>.fn f (gS xs) (gS ys)
 |.yld l k g=>.yld (l+δ) k (σ g)
 |.nil=>.nil
 |.vtl l k g i n=>.vtl (l+δ) k (σ g) i n
 |.any=>.any
def gS:List V→List V
 |[]=>[]
 |v::r=>V.ren v::gS r
def qW:List (List V)→List (List V)
 |[]=>[]
 |v::r=>gS v::qW r
end
end
def H3(r:A6)(l k γ:Nat):V:=match r with
 |.vec _ es=>.vec l k γ es.length
 |.map _=>.mp l k γ
 |_=>.ptr l k γ 0
structure Mk where
 res:A6
 t:Option V
def Mk.val(r:Mk)(l k γ:Nat):V:=match r.t with
 |none=>H3 r.res l k γ
 |some t=>t.ren (fun _=>γ) l
structure H4(P:Program) where
 own:Oper→Bool
 ow:FuncId→List V→Tmp→Option Mk
 ok:∀f args d r,ow f args d=some r→∀(s:St),F6 P f args s fun v s'=>∃γ,v=r.val s.up.length d γ∧s'=s.put s.up.length d γ r.res
def H4.nothing(P:Program):H4 P:=⟨fun _=>false,fun _ _ _=>none,fun _ _ _ _ h=>by cases h⟩
def RZ(P:Program)(Ω:H4 P)(o:Oper)(fr:Fr):Option Mk:=match o.op with
 |.alloc T=>(CG P T).map fun cs=>⟨.box cs,none⟩
 |.box _ x=>match EI true fr x with
  |some v=>if BJ v=true then some ⟨.box (BI v),none⟩ else none
  |none=>none
 |.makeMap _ none=>some ⟨.map [],none⟩
 |.makeSlice T x y=>match EI true fr x,EI true fr y,B0 P T with
  |some (.int _ n),some (.int _ m),some (none,e)=>match CG P e with
   |some z=>if 0≤n∧m=n∧z.length=P.cellsOf e∧n.toNat*P.bytesOf e≤140737488355328∧n.toNat≤maxLen then some ⟨.vec e (List.replicate n.toNat z),none⟩ else none
   |none=>none
  |_,_,_=>none
 | .call { callee:=.value _,.. }=>if Ω.own o=true then(match JU true o fr,o.dst with
  |some (f,args),some d=>Ω.ow f args d
  | _,_=>none) else none
 |_=>none
def ATA(P:Program)(g:Bool)(f:FuncId)(args:List V)(r:V):Prop:=g=true→∀s,F6 P f args s fun r' s'=>r'=r∧s'=s
def BBE(P:Program)(Ω:H4 P)(g:Bool)(o:Oper)(fr:Fr)(s:St)(k:Fr→St→Prop):Prop :=
 (∃v,F9 P g o fr s=some v∧k (putD fr o.dst g v) s) ∨
 (∃f args r,JU g o fr=some (f,args)∧ATA P g f args r∧k (putD fr o.dst g r) s) ∨
 (∃r d,g=true∧o.dst=some d∧RZ P Ω o fr=some r∧∀γ,k (fr.put d true (r.val s.up.length d γ)) (s.put s.up.length d γ r.res))
theorem F6.mono{f:FuncId}{args:List V}{K K':V→St→Prop}(h:F6 P f args s K)(hk:∀r s',K r s'→K' r s'):F6 P f args s K' :=
 ⟨h.1,fun G vals w R hI hA hR=>h.2 G vals w R hI hA fun G' r v w' s' h1 h2 h3 h4 h5=>hR G' r v w' s' h1 h2 h3 h4 (hk _ _ h5)⟩
theorem EA{Ω:H4 P}{g:Bool}{o:Oper}{k:Fr→St→Prop}(h:BBE P Ω g o fr s k):E5 P g o fr s k:=by
 rcases h with⟨v,hv,hk⟩|⟨f,args,r,hc,hr,hk⟩|⟨r,d,rfl,hd,hr,hk⟩
 ·unfold F9 at hv;unfold E5;split at hv
  ·rename_i c x y ho;simp only[ho];split at hv
   ·rename_i c' ca va cb vb e1 e2 e3;split at hv
    ·rename_i hcond;cases hv;simp only[e1,e2,e3];exact⟨hcond.1,hcond.2,hk⟩
    ·cases hv
   ·cases hv
  ·rename_i T parts ho;obtain⟨ps,h1,h2⟩:=Option.bind_eq_some_iff.1 hv;simp only[ho,h1,h2];exact hk
  ·rename_i T len parts ho;obtain⟨ps,h1,h2⟩:=Option.bind_eq_some_iff.1 hv;simp only[ho,h1,h2];exact hk
  ·have hv0:=hv;unfold JR at hv;split at hv<;>rename_i ho<;>first
    |(simp only[ho,hv0];exact hk)
    |cases hv
 ·unfold JU at hc;unfold E5;split at hc
  ·rename_i f' args' argTypes' ho;simp only[ho];split at hc
   ·rename_i fid first cap vs e1 e2;cases hc;simp only[e1,e2];exact .inr ⟨r,fun hg=>hr hg s,hk⟩
   ·cases hc
  ·cases hc
 ·unfold RZ at hr;unfold E5;split at hr
  ·rename_i T ho;obtain⟨cs,h1,rfl⟩:=Option.map_eq_some_iff.1 hr;simp only[ho,hd,h1];exact⟨trivial,hk⟩
  ·rename_i T x ho;split at hr
   ·rename_i v e1;split at hr
    ·rename_i hf;cases hr;simp only[ho,hd,e1];exact⟨trivial,hf,hk⟩
    ·cases hr
   ·cases hr
  ·rename_i T ho;cases hr;simp only[ho,hd];exact⟨trivial,hk⟩
  ·rename_i T x y ho;split at hr
   ·rename_i k1 n k2 m e e1 e2 e3;split at hr
    ·rename_i z e4;split at hr
     ·rename_i hc;cases hr;simp only[ho,hd,e1,e2,e3,e4];simp only[Mk.val,H3,List.length_replicate]at hk;exact⟨trivial,hc.1,hc.2.1,hc.2.2.1,hc.2.2.2.1,hc.2.2.2.2,hk⟩
     ·cases hr
    ·cases hr
   ·cases hr
  ·rename_i f0 args0 argTypes0 ho;split at hr
   ·split at hr
    ·rename_i f args d' hc hd';obtain rfl:d'=d:=Option.some.inj (hd'.symm.trans hd);unfold JU at hc;simp only[ho]at hc⊢;split at hc
     ·rename_i fid first cap vs e1 e2;cases hc;simp only[e1,e2];refine .inl ⟨rfl,(Ω.ok _ _ _ _ hr s).mono fun v s' hrs=>?_⟩;obtain⟨γ,rfl,rfl⟩:=hrs;rw[hd];exact hk γ
     ·cases hc
    ·cases hr
   ·cases hr
  ·cases hr
end Go.Pg
namespace Go.Pg
variable {P:Program}{Ω:H4 P}{n N:Nat}{ρ:Option Nat}{G0 G:Gh}{fr fr':Fr}{s s':St}{a:Act}{w:World}
theorem DF{x:Operand}{g:Bool}(h:rd fr x=rd fr' x):EI g fr x=EI g fr' x:=by unfold EI;rw[h]
theorem HC{o:Oper}{g:Bool}(h:∀x∈o.op.operands,rd fr x=rd fr' x):F9 P g o fr s=F9 P g o fr' s:=by
 unfold F9;split
 ·rename_i c x y ho;rw[ho]at h;have h1:=h c (by simp[Op.operands]);have h2:=h x (by simp[Op.operands]);have h3:=h y (by simp[Op.operands]);rw[DF h1,h2,h3]
 ·rename_i T parts ho;rw[ho]at h;rw[NX (r:=EI g fr) (r':=EI g fr') fun x hx=>DF (h x (by simpa [Op.operands]using hx))]
 ·rename_i T len parts ho;rw[ho]at h;rw[NX (r:=EI g fr) (r':=EI g fr') fun x hx=>DF (h x (by simpa [Op.operands]using hx))]
 ·exact ADJ fun x hx=>DF (h x hx)
theorem qX{o:Oper}{g:Bool}{v:V}(h:s.sub s')(hv:F9 P g o fr s=some v):F9 P g o fr s'=some v:=by
 unfold F9 at hv⊢;split at hv
 ·exact hv
 ·exact hv
 ·exact hv
 ·exact AOX h hv
theorem HH{o:Oper}{g:Bool}(h:∀x∈o.op.operands,rd fr x=rd fr' x):JU g o fr=JU g o fr':=by
 unfold JU;split
 ·rename_i f args argTypes ho;rw[ho]at h;simp only[Op.operands,Call.operands]at h;rw[DF (h f (by simp)),NW (r:=EI g fr) (r':=EI g fr') fun x hx=>DF (h x (by simp at hx⊢;exact .inr hx))]
 ·rfl
theorem dA{o:Oper}(h:∀x∈o.op.operands,rd fr x=rd fr' x):RZ P Ω o fr=RZ P Ω o fr':=by
 unfold RZ;split
 ·rfl
 ·rename_i T x ho;rw[ho]at h;rw[DF (h x (by simp[Op.operands]))]
 ·rfl
 ·rename_i T x y ho;rw[ho]at h;rw[DF (h x (by simp[Op.operands])),DF (h y (by simp[Op.operands]))]
 ·rename_i f args argTypes ho;rw[HH h]
 ·rfl
def kA(own:Oper→Bool)(o:Oper):Bool:=match o.op with
 |.alloc _|.box _ _|.makeSlice ..|.makeMap ..=>true
 |.call { callee:=.value _,.. }=>own o
 |_=>false
def kP(o:Oper):Bool:=match o.op with
 |.call { callee:=.builtin .append,.. }=>true
 |_=>false
def kW(o:Oper):Bool:=match o.op with
 |.store ..=>true
 |_=>false
theorem S9{o:Oper}{r:Mk}(h:RZ P Ω o fr=some r):kA Ω.own o=true:=by
 unfold RZ at h;unfold kA;split at h;case h_5 e=>
  simp only[e]
  split at h
  ·assumption
  ·cases h
 all_goals first
  |(rename_i e;simp[e];done)
  |cases h
abbrev AN:=List (Nat×Nat)
def YW(W:AN)(s0 s:St):Prop:=∀l k x,s0.get l k=some x→(l,k)∉W∧s.get l k=some x
def BM9(W:AN)(s s':St):Prop:=∀l k x,(l,k)∉W→s.get l k=some x→s'.get l k=some x
def GD:Nat:=2000000
def Shp(W:AN)(s s':St):Prop:=∀l k γ T es,(l,k+GD)∉W→s.get l k=some (γ,.vec T es)→∃es',s'.get l k=some (γ,.vec T es')∧es'.map List.length=es.map List.length
def EZ:Nat:=4000000
def EK(k c:Nat):Nat:=6000000+1000*k+c
def AXS(W:AN)(l k:Nat)(r r':A6):Prop:=r'=r∨(∃cs cs':List V,r=.box cs∧r'=.box cs'∧∀c:Nat,(l,EK k c)∉W→cs'[c]? = cs[c]?) ∨
 ∃(T:TypeId) (es es':List (List V)),r=.vec T es∧r'=.vec T es'∧es'.length=es.length∧∀(i:Nat) (e:List V),es[i]? = some e→∃e':List V,es'[i]? = some e'∧∀c:Nat,(l,EK k c)∉W→e'[c]? = e[c]?
def Cel(W:AN)(s s':St):Prop:=∀l k γ r,(l,k+GD)∉W→(l,k+EZ)∉W→s.get l k=some (γ,r)→∃r',s'.get l k=some (γ,r')∧AXS W l k r r'
def Out(W:AN)(s s':St):Prop:=BM9 W s s'∧(Shp W s s'∧Cel W s s')
theorem YW.out{W:AN}{s0:St}(h:YW W s0 s)(ho:Out W s s'):YW W s0 s':=fun l k x e=>⟨(h l k x e).1,ho.1 l k x (h l k x e).1 (h l k x e).2⟩
theorem YW.sub{W:AN}{s0:St}(h:YW W s0 s):s0.sub s:=fun l k x e=>(h l k x e).2
theorem Out.refl(W:AN)(s:St):Out W s s:=⟨fun _ _ _ _ e=>e,fun _ _ _ _ es _ e=>⟨es,e,rfl⟩,fun _ _ _ r _ _ e=>⟨r,e,.inl rfl⟩⟩
def VN(P:Program)(W:AN)(g:Bool)(o:Oper)(fr:Fr)(s:St)(v:V):Prop:=∃T x i e l k γ n ki j T' es,o.op=.indexAddr T x i∧EI g fr x=some (.vec l k γ n)∧EI g fr i=some (.int ki j)∧B0 P T=some (none,e)∧(l,k+GD)∉W ∧
 s.get l k=some (γ,.vec T' es)∧(0≤j∧j<n∧n≤es.length∧(es.getD j.toNat []).length=P.cellsOf e∧0<P.cellsOf e)∧v=.eptr l k γ j.toNat 0
theorem VN.val{W:AN}{g:Bool}{o:Oper}{v:V}(h:VN P W g o fr s v):F9 P g o fr s=some v:=by obtain⟨T,x,i,e,l,k,γ,n,ki,j,T',es,h1,h2,h3,h4,_,h5,h6,rfl⟩:=h;unfold F9;simp only[h1,JR,h2,h3,Option.bind_some,B7,h4,h5];rw[if_pos ⟨trivial,h6⟩]
theorem VN.out{W:AN}{g:Bool}{o:Oper}{v:V}(h:VN P W g o fr s v)(hs:Shp W s s'):VN P W g o fr s' v:=by
 obtain⟨T,x,i,e,l,k,γ,n,ki,j,T',es,h1,h2,h3,h4,hw,h5,h6,rfl⟩:=h;obtain⟨es',h7,h8⟩:=hs _ _ _ _ _ hw h5;refine⟨T,x,i,e,l,k,γ,n,ki,j,T',es',h1,h2,h3,h4,hw,h7,?_,rfl⟩;have hl:es'.length=es.length:=by have:=congrArg List.length h8;simpa using this
 have hd:(es'.getD j.toNat []).length=(es.getD j.toNat []).length:=by have:=congrArg (fun l=>l[j.toNat]?) h8;simp only[List.getElem?_map]at this;simp only[List.getD_eq_getElem?_getD];cases h1:es'[j.toNat]?<;>cases h2:es[j.toNat]?<;>simp_all
 rw[hl,hd];exact h6
theorem VN.frame{W:AN}{g:Bool}{o:Oper}{v:V}(h:VN P W g o fr s v)(hf:∀x∈o.op.operands,EI g fr x=EI g fr' x):VN P W g o fr' s v:=by obtain⟨T,x,i,e,l,k,γ,n,ki,j,T',es,h1,h2,h3,h4⟩:=h;rw[h1]at hf;exact⟨T,x,i,e,l,k,γ,n,ki,j,T',es,h1,(hf x (by simp[Op.operands])).symm.trans h2,(hf i (by simp[Op.operands])).symm.trans h3,h4⟩
def AII:V→Option (Nat×Nat×Nat)
 |.ptr l k _ off=>some (l,k,off)
 |.eptr l k _ _ off=>some (l,k,off)
 |_=>none
def LdV(P:Program)(W:AN)(g:Bool)(o:Oper)(fr:Fr)(s:St)(v:V):Prop:=∃T x p cs l k off,o.op=.load T x∧EI g fr x=some p∧AII p=some (l,k,off)∧BH s p=some cs∧BS P T cs=some v∧0<P.cellsOf T ∧
 (l,k+GD)∉W∧(l,k+EZ)∉W∧∀c,c<P.cellsOf T→(l,EK k (off+c))∉W
theorem qY{T:TypeId}{cs ds:List V}{v:V}(h0:0<P.cellsOf T)(h:∀c,c<P.cellsOf T→ds[c]? = cs[c]?)(hv:BS P T cs=some v):BS P T ds=some v:=by
 have agg:∀{a b:List V},(∀c,c<P.cellsOf T→b[c]? = a[c]?)→(if P.cellsOf T≤a.length then some (V.agg (a.take (P.cellsOf T))) else none)=some v→(if P.cellsOf T≤b.length then some (V.agg (b.take (P.cellsOf T))) else none)=some v:=by
  intro a b hab hv;split at hv
  ·rename_i hl;have e1:=hab (P.cellsOf T-1) (by omega);have hl1:P.cellsOf T-1<a.length:=by omega
   rw[List.getElem?_eq_getElem hl1]at e1;have hl2:=(List.getElem?_eq_some_iff.1 e1).1;rw[if_pos (by omega)];rw[←hv];congr 2;apply List.ext_getElem?;intro c;simp only[List.getElem?_take];split
   ·rename_i hc;exact hab c hc
   ·rfl
  ·cases hv
 unfold BS at hv⊢;split at hv
 ·exact agg h hv
 ·exact agg h hv
 ·rw[h 0 h0];exact hv
 ·cases hv
theorem LdV.val{W:AN}{g:Bool}{o:Oper}{v:V}(h:LdV P W g o fr s v):F9 P g o fr s=some v:=by obtain⟨T,x,p,cs,l,k,off,h1,h2,_,h4,h5,_⟩:=h;unfold F9;simp only[h1,JR,h2,h4,h5,Option.bind_some]
theorem LdV.out{W:AN}{g:Bool}{o:Oper}{v:V}(h:LdV P W g o fr s v)(hs:Cel W s s'):LdV P W g o fr s' v:=by
 obtain⟨T,x,p,cs,l,k,off,h1,h2,h3,h4,h5,h6,h7,h8,h9⟩:=h;have key:∃cs',BH s' p=some cs'∧∀c,c<P.cellsOf T→cs'[c]? = cs[c]?:=by
  cases p with
  |ptr l' k' γ off'=>
   simp only[AII,Option.some.injEq,Prod.mk.injEq]at h3
   obtain⟨rfl,rfl,rfl⟩:=h3
   simp only[BH]at h4
   split at h4
   ·rename_i g' ds e;split at h4
    ·rename_i hg;cases h4;obtain⟨r',e',hr⟩:=hs _ _ _ _ h7 h8 e;rcases hr with rfl|⟨cs0,cs',e1,rfl,hc⟩|⟨_,_,_,e1,_⟩
     ·exact⟨_,by simp only[BH,e',hg,if_true],fun _ _=>rfl⟩
     ·cases e1;refine⟨cs'.drop off',by simp only[BH,e',hg,if_true],fun c hc'=>?_⟩;rw[List.getElem?_drop,List.getElem?_drop];exact hc _ (h9 c hc')
     ·cases e1
    ·cases h4
   ·cases h4
  |eptr l' k' γ i off'=>
   simp only[AII,Option.some.injEq,Prod.mk.injEq]at h3
   obtain⟨rfl,rfl,rfl⟩:=h3
   simp only[BH]at h4
   split at h4
   ·rename_i g' U es e;split at h4
    ·rename_i hg;obtain⟨e0,he0,rfl⟩:=Option.map_eq_some_iff.1 h4;obtain⟨r',e',hr⟩:=hs _ _ _ _ h7 h8 e;rcases hr with rfl|⟨_,_,e1,_⟩|⟨U',es0,es',e1,rfl,hl,hc⟩
     ·exact⟨_,by simp only[BH,e',hg,if_true,he0,Option.map_some],fun _ _=>rfl⟩
     ·cases e1
     ·cases e1;obtain⟨e2,he2,hcc⟩:=hc i e0 he0;refine⟨e2.drop off',by simp only[BH,e',hg,if_true,he2,Option.map_some],fun c hc'=>?_⟩;rw[List.getElem?_drop,List.getElem?_drop];exact hcc _ (h9 c hc')
    ·cases h4
   ·cases h4
  |_=>cases h3
 obtain⟨cs',e1,e2⟩:=key;exact⟨T,x,p,cs',l,k,off,h1,h2,h3,e1,qY h6 e2 h5,h6,h7,h8,h9⟩
theorem LdV.frame{W:AN}{g:Bool}{o:Oper}{v:V}(h:LdV P W g o fr s v)(hf:∀x∈o.op.operands,EI g fr x=EI g fr' x):LdV P W g o fr' s v:=by obtain⟨T,x,p,cs,l,k,off,h1,h2,h3⟩:=h;rw[h1]at hf;exact⟨T,x,p,cs,l,k,off,h1,(hf x (by simp[Op.operands])).symm.trans h2,h3⟩
def gT(P:Program)(W:AN)(g:Bool)(o:Oper)(fr:Fr)(s:St)(v:V):Prop:=VN P W g o fr s v∨LdV P W g o fr s v
theorem gT.val{W:AN}{g:Bool}{o:Oper}{v:V}(h:gT P W g o fr s v):F9 P g o fr s=some v:=h.elim (fun h=>h.val) fun h=>h.val
theorem gT.out{W:AN}{g:Bool}{o:Oper}{v:V}(h:gT P W g o fr s v)(hs:Shp W s s'∧Cel W s s'):gT P W g o fr s' v:=h.imp (fun h=>h.out hs.1) fun h=>h.out hs.2
theorem gT.frame{W:AN}{g:Bool}{o:Oper}{v:V}(h:gT P W g o fr s v)(hf:∀x∈o.op.operands,EI g fr x=EI g fr' x):gT P W g o fr' s v:=h.imp (fun h=>h.frame hf) fun h=>h.frame hf
def J2(P:Program)(Ω:H4 P)(W:AN)(o:Oper)(gd:Option (Tmp×Bool))(fr:Fr)(s:St)(g:Bool)(v:V):Prop :=
 RY fr gd=some g∧((∃s0,YW W s0 s∧F9 P g o fr s0=some v)∨(∃f args,JU g o fr=some (f,args)∧Ω.own o=false∧ATA P g f args v)∨gT P W g o fr s v∨(g=false∧kA Ω.own o=false∧kW o=false∧kP o=false))
def K0(P:Program)(Ω:H4 P)(o:Oper)(gd:Option (Tmp×Bool))(fr:Fr)(r:Mk)(d:Nat):Prop:=RY fr gd=some true∧o.dst=some d∧RZ P Ω o fr=some r
def DT(P:Program)(o:Oper)(fr:Fr)(s:St):Option (Nat×Nat×Nat×A6):=match o.op with
 |.store T x y=>match EI true fr x,EI true fr y with
  |some (.ptr l q γ off),some v=>match s.get l q with
   |some (γ',.box cs)=>if γ'=γ∧BJ v=true∧0<P.cellsOf T∧(BI v).length=P.cellsOf T∧off+P.cellsOf T≤cs.length∧o.dst=none then some (l,q,γ,.box (BC cs off (BI v))) else none
   |_=>none
  |some (.eptr l q γ i off),some v=>match s.get l q with
   |some (γ',.vec U es)=>if γ'=γ∧BJ v=true∧0<P.cellsOf T∧(BI v).length=P.cellsOf T∧i<es.length∧off+P.cellsOf T≤(es.getD i []).length∧o.dst=none then
     some (l,q,γ,.vec U (es.set i (BC (es.getD i []) off (BI v)))) else none
   |_=>none
  |_,_=>none
 |_=>none
def J3(P:Program)(o:Oper)(fr:Fr):Option (Nat×Nat):=match o.op with
 |.store T x _=>match EI true fr x with
  |some (.ptr _ _ _ off)=>some (off,P.cellsOf T)
  |some (.eptr _ _ _ _ off)=>some (off,P.cellsOf T)
  |_=>none
 |_=>none
theorem VO{o:Oper}(h:∀x∈o.op.operands,rd fr x=rd fr' x):J3 P o fr=J3 P o fr':=by
 unfold J3;split
 ·rename_i T x y ho;rw[ho]at h;rw[DF (h x (by simp[Op.operands]))]
 ·rfl
def WOK(P:Program)(W:AN)(o:Oper)(fr:Fr)(l q:Nat):Prop:=(l,q)∈W∧((l,q+EZ)∈W∨∀off n,J3 P o fr=some (off,n)→∀c,off≤c→c<off+n→(l,EK q c)∈W)
theorem WOK.frame{W:AN}{o:Oper}{l q:Nat}(h:WOK P W o fr l q)(hf:J3 P o fr=J3 P o fr'):WOK P W o fr' l q:=⟨h.1,h.2.imp id fun h=>by rw[←hf];exact h⟩
def GM(P:Program)(W:AN)(o:Oper)(gd:Option (Tmp×Bool))(fr:Fr)(s:St)(l q γ:Nat)(r:A6):Prop:=RY fr gd=some true∧WOK P W o fr l q∧DT P o fr s=some (l,q,γ,r)
theorem EH{o:Oper}{l q γ:Nat}{r:A6}(h:DT P o fr s=some (l,q,γ,r)):(∃r0,s.get l q=some (γ,r0))∧o.dst=none∧kW o=true∧∀(k:Fr→St→Prop),k fr (s.put l q γ r)→E5 P true o fr s k:=by
 unfold DT at h;unfold E5 kW;split at h
 ·rename_i T x y ho;simp only[ho];split at h
  ·rename_i l' q' γ' off v e1 e2;simp only[e1,e2];split at h
   ·rename_i γ2 cs e3;split at h
    ·rename_i hc;cases h;obtain⟨c1,c2,c3,c4,c5,c6⟩:=hc;subst c1;simp only[e3];exact⟨⟨_,rfl⟩,c6,trivial,fun k hk=>⟨trivial,trivial,c2,c3,c4,c5,c6,hk⟩⟩
    ·cases h
   ·cases h
  ·rename_i l' q' γ' i off v e1 e2;simp only[e1,e2];split at h
   ·rename_i γ2 U es e3;split at h
    ·rename_i hc;cases h;obtain⟨c1,c2,c3,c4,c5,c6,c7⟩:=hc;subst c1;simp only[e3];exact⟨⟨_,rfl⟩,c7,trivial,fun k hk=>⟨trivial,trivial,c2,c3,c4,c5,c6,c7,hk⟩⟩
    ·cases h
   ·cases h
  ·cases h
 ·cases h
theorem Q3{o:Oper}{l q γ:Nat}{r:A6}(h:DT P o fr s=some (l,q,γ,r))(hs:s'.get l q=s.get l q):DT P o fr s'=some (l,q,γ,r):=by
 unfold DT at h⊢;split at h
 ·rename_i T x y ho;split at h
  ·rename_i l' q' γ' off v e1 e2;have hl:l'=l∧q'=q:=by
    split at h
    ·split at h
     ·cases h;exact⟨rfl,rfl⟩
     ·cases h
    ·cases h
   obtain⟨rfl,rfl⟩:=hl;rw[hs];exact h
  ·rename_i l' q' γ' i off v e1 e2;have hl:l'=l∧q'=q:=by
    split at h
    ·split at h
     ·cases h;exact⟨rfl,rfl⟩
     ·cases h
    ·cases h
   obtain⟨rfl,rfl⟩:=hl;rw[hs];exact h
  ·cases h
 ·cases h
def vN(o:Oper)(fr:Fr):Option (Nat×Nat×Nat):=match o.op with
 |.store _ x _=>match EI true fr x with
  |some (.ptr l q γ _)=>some (l,q,γ)
  |some (.eptr l q γ _ _)=>some (l,q,γ)
  |_=>none
 |_=>none
theorem dB{o:Oper}{l q γ:Nat}{r:A6}(h:DT P o fr s=some (l,q,γ,r)):vN o fr=some (l,q,γ):=by
 unfold DT at h;unfold vN;split at h
 ·rename_i T x y ho;try simp only[ho]
  split at h
  ·rename_i l1 q1 γ1 off v e1 e2;try simp only[e1]
   split at h
   ·split at h
    ·cases h;rfl
    ·cases h
   ·cases h
  ·rename_i l1 q1 γ1 i off v e1 e2;try simp only[e1]
   split at h
   ·split at h
    ·cases h;rfl
    ·cases h
   ·cases h
  ·cases h
 ·cases h
theorem dC{o:Oper}{l q γ l' q' γ':Nat}{r r':A6}(h:DT P o fr s=some (l,q,γ,r))(h':DT P o fr s'=some (l',q',γ',r')):l=l'∧q=q'∧γ=γ':=by have:=(dB h).symm.trans (dB h');simpa using this
theorem VP{o:Oper}(h:∀x∈o.op.operands,rd fr x=rd fr' x):DT P o fr s=DT P o fr' s:=by
 unfold DT;split
 ·rename_i T x y ho;rw[ho]at h;rw[DF (h x (by simp[Op.operands])),DF (h y (by simp[Op.operands]))]
 ·rfl
theorem AIJ{W:AN}{o:Oper}{gd:Option (Tmp×Bool)}{g:Bool}{v:V}(h:J2 P Ω W o gd fr s g v):kA Ω.own o=false∧kW o=false∧kP o=false:=by
 obtain⟨_,h⟩:=h;rcases h with⟨s0,_,h⟩|⟨f,args,h,hn,_⟩|(⟨T,x,i,e,l,k,γ,n,ki,j,T',es,h1,_⟩|⟨T,x,p,cs,l,k,off,h1,_⟩)|⟨_,h⟩;rotate_left 2
 ·simp[kA,kW,kP,h1]
 ·simp[kA,kW,kP,h1]
 ·exact h
 ·unfold F9 at h;unfold kA kW kP;split at h<;>rename_i ho
  ·simp[ho]
  ·simp[ho]
  ·simp[ho]
  ·unfold JR at h;split at h<;>rename_i ho<;>first
    |(simp[ho];done)
    |cases h
 ·unfold JU at h;split at h
  ·rename_i ho;simp[kA,kW,kP,ho,hn]
  ·cases h
theorem lT{W:AN}{o:Oper}{gd:Option (Tmp×Bool)}{g:Bool}{v:V}(h:J2 P Ω W o gd fr s g v):kA Ω.own o=false:=(AIJ h).1
theorem dD{o:Oper}(h:kA Ω.own o=true):kW o=false∧kP o=false:=by
 unfold kA at h;unfold kW kP;split at h<;>rename_i e<;>first
  |(simp[e];done)
  |cases h
theorem AXT{o:Oper}{r:Mk}(h:RZ P Ω o fr=some r):kW o=false:=(dD (S9 h)).1
def vO:V→Option (List (List V))
 |.list _ es=>some es
 |.nil=>some []
 |_=>none
theorem qZ(h:s.sub s'){x:V}{es:List (List V)}(he:elemsOf s x=some es):elemsOf s' x=some es:=by
 cases x with
 |vec l k g n=>
  simp only[elemsOf]at he⊢
  cases hg:s.get l k with
  |none=>rw[hg]at he;cases he
  |some y=>
   rw[hg]at he
   rw[h _ _ _ hg]
   exact he
 |vtl l k g i n=>
  simp only[elemsOf]at he⊢
  cases hg:s.get l k with
  |none=>rw[hg]at he;cases he
  |some y=>
   rw[hg]at he
   rw[h _ _ _ hg]
   exact he
 |list b es=>exact he
 |nil=>exact he
 |_=>cases he
def B9(P:Program)(e:TypeId)(n:Nat)(ys:List (List V)):Bool:=Nat.blt 0 (P.cellsOf e)&&ZN P e&&ys.all (fun y=>y.length==P.cellsOf e)&&Nat.ble (n+ys.length) maxLen&&Nat.ble ((n+ys.length)*P.bytesOf e) 140737488355328
def ZC(P:Program)(o:Oper)(fr:Fr)(s0 s:St):Option (Nat×Nat×A6):=match o.op with
 |.call { callee:=.builtin .append,args,argTypes }=>match args.toList,argTypes.toList,o.dst with
  | [x,y],[T,U],some d=>if T=U then(match B0 P T,EI true fr x,(EI true fr y).bind (elemsOf s0)with
   |some (none,e),some xv,some ys=>match JA xv ys with
    |some es=>if es.all (fun y=>y.length==P.cellsOf e)=true∧B9 P e es.length ys=true then some (s.up.length,d,.vec e (es++ys)) else none
    |none=>match xv with
    |.vec l q γ n=>match S6 n ys (s.get l q)with
     |some (γ',.vec U es)=>if γ'=γ∧U=e∧n=es.length∧es.all (fun y=>y.length==P.cellsOf e)=true∧B9 P e es.length ys=true then some (l,q,.vec e (es++ys)) else none
     |_=>none
    |_=>none
   | _,_,_=>none) else none
  |_,_,_=>none
 |_=>none
def K1(P:Program)(W:AN)(o:Oper)(gd:Option (Tmp×Bool))(fr:Fr)(s:St)(l q d:Nat)(r:A6):Prop:=RY fr gd=some true∧((l,q)∈W∧(l,q+GD)∈W)∧o.dst=some d∧∃s0,YW W s0 s∧ZC P o fr s0 s=some (l,q,r)
theorem dE{o:Oper}{s0:St}(h:∀x∈o.op.operands,rd fr x=rd fr' x):ZC P o fr s0 s=ZC P o fr' s0 s:=by
 unfold ZC;split
 ·rename_i args argTypes ho;rw[ho]at h;split
  ·rename_i x y T U d e1 e2 e3;have hx:EI true fr x=EI true fr' x:=DF (h x (by simp only[Op.operands,Call.operands];rw[←Array.mem_toList_iff];simp[e1]));have hy:EI true fr y=EI true fr' y:=DF (h y (by simp only[Op.operands,Call.operands];rw[←Array.mem_toList_iff];simp[e1]));rw[hx,hy]
  ·rfl
 ·rfl
theorem XA{o:Oper}{l q d:Nat}{r:A6}{s0:St}(hsub:s0.sub s)(h:ZC P o fr s0 s=some (l,q,r))(hd:o.dst=some d):kP o=true∧((l=s.up.length∧q=d)∨∃x,s.get l q=some x) ∧
  (∀s',s'.up.length=s.up.length→s'.get l q=s.get l q→ZC P o fr s0 s'=some (l,q,r))∧∀(k:Fr→St→Prop),(∀γ,k (fr.put d true (H3 r l q γ)) (s.put l q γ r))→E5 P true o fr s k:=by
 unfold ZC at h
 split at h
 ·rename_i args argTypes ho;split at h
  ·rename_i x y T U d' e1 e2 e3;have:d'=d:=Option.some.inj (e3.symm.trans hd);subst this;split at h
   ·rename_i hT;subst hT;split at h
    ·rename_i e xv ys hel hx hy;obtain⟨yv,hyv,hys⟩:=Option.bind_eq_some_iff.1 hy;have hys':(EI true fr y).bind (elemsOf s)=some ys:=by rw[hyv];exact qZ hsub hys
     split at h
     ·rename_i es hn;split at h
      ·rename_i hc;cases h;refine⟨by simp[kP,ho],.inl ⟨rfl,rfl⟩,fun s' hu _=>?_,fun k hk=>?_⟩
       ·unfold ZC;simp only[ho,e1,e2,e3,hel,hx,hy,if_true,hn,hu];rw[if_pos hc]
       ·obtain⟨hce,hc⟩:=hc;simp only[B9,Bool.and_eq_true,Nat.blt_eq,Nat.ble_eq]at hc;unfold E5;simp only[ho,e1,e2,e3,hel,hx,hys',hn];exact⟨trivial,trivial,hc.1.1.1.1,hc.1.1.1.2,hce,hc.1.1.2,hc.1.2,hc.2,hk⟩
      ·cases h
     ·rename_i hn;split at h
      ·rename_i l' q' γ n;split at h
       ·rename_i γ' U' es hget;split at h
        ·rename_i hc;cases h;obtain⟨c1,c2,c3,c4,c5⟩:=hc;refine⟨by simp[kP,ho],.inr ⟨_,(Q0 hget).choose_spec.1⟩,fun s' _ hs'=>?_,fun k hk=>?_⟩
         ·unfold ZC;simp only[ho,e1,e2,e3,hel,hx,hy,if_true,hn,hs',hget];rw[if_pos ⟨c1,c2,c3,c4,c5⟩]
         ·simp only[B9,Bool.and_eq_true,Nat.blt_eq,Nat.ble_eq]at c5;unfold E5;simp only[ho,e1,e2,e3,hel,hx,hys',hn,hget];refine⟨trivial,?_⟩;refine⟨trivial,c1,c2,c3,c5.1.1.1.1,c5.1.1.1.2,c4,c5.1.1.2,c5.1.2,c5.2,?_⟩;intro γ2;have:=hk γ2;simpa [H3]using this
        ·cases h
       ·cases h
      ·cases h
    ·cases h
   ·cases h
  ·cases h
 ·cases h
def IW(P:Program)(Ω:H4 P)(W:AN)(o:Oper)(gd:Option (Tmp×Bool))(fr:Fr)(s:St)(k:Fr→St→Prop):Prop :=
 (∃g v,J2 P Ω W o gd fr s g v∧k (putD fr o.dst g v) s)∨(∃r d,K0 P Ω o gd fr r d∧∀γ,k (fr.put d true (r.val s.up.length d γ)) (s.put s.up.length d γ r.res)) ∨
 (∃l q γ r,GM P W o gd fr s l q γ r∧k fr (s.put l q γ r))∨(∃l q r d,K1 P W o gd fr s l q d r∧∀γ,k (fr.put d true (H3 r l q γ)) (s.put l q γ r))
structure GN(fr:Fr)(s:St)(fr':Fr)(s':St):Prop where
 f:∀k,fr.get k=fr'.get k
 p:∀l k,s.get l k=s'.get l k
 n:s.up.length=s'.up.length
theorem GN.refl(fr:Fr)(s:St):GN fr s fr s:=⟨fun _=>rfl,fun _ _=>rfl,rfl⟩
theorem GN.rd(h:GN fr s fr' s')(x:Operand):Pg.rd fr x=Pg.rd fr' x:=by
 cases x with
 |tmp t=>exact h.f t
 |_=>rfl
theorem GN.gd(h:GN fr s fr' s')(gd:Option (Tmp×Bool)):RY fr gd=RY fr' gd:=by
 cases gd with
 |none=>rfl
 |some p=>simp only[RY,h.f]
theorem GN.sub(h:GN fr s fr' s'):s.sub s':=fun l k x e=>by rw[←h.p];exact e
theorem GW(fr:Fr)(d:Option Tmp)(c:Bool)(v:V)(k:Nat):(putD fr d c v).get k=if d=some k then some (c,v) else fr.get k:=by
 cases d with
 |none=>simp[putD]
 |some d=>simp only[putD,Fr.get_put,Option.some.injEq,eq_comm]
theorem GN.putD(h:GN fr s fr' s')(d:Option Tmp)(c:Bool)(v:V):GN (Pg.putD fr d c v) s (Pg.putD fr' d c v) s' :=
 ⟨fun k=>by simp only[GW,h.f],h.p,h.n⟩
theorem GN.new(h:GN fr s fr' s')(d γ:Nat)(r:Mk):GN (fr.put d true (r.val s.up.length d γ)) (s.put s.up.length d γ r.res) (fr'.put d true (r.val s'.up.length d γ)) (s'.put s'.up.length d γ r.res) :=
 ⟨fun k=>by simp only[Fr.get_put,h.f,h.n],fun l k=>by rw[St.get_putLoc,St.get_putLoc,h.n,h.p],by rw[St.put_len,St.put_len];exact h.n⟩
theorem GN.out(h:GN fr s fr' s')(W:AN):Out W s s':=⟨fun l k x _ e=>by rw[←h.p];exact e,fun l k γ T es _ e=>⟨es,by rw[←h.p];exact e,rfl⟩,fun l k γ r _ _ e=>⟨r,by rw[←h.p];exact e,.inl rfl⟩⟩
theorem GN.store(h:GN fr s fr' s'){l q γ:Nat}{r:A6}{x:Nat×A6}(hx:s.get l q=some x):GN fr (s.put l q γ r) fr' (s'.put l q γ r) :=
 ⟨h.f,fun l' k'=>by rw[St.get_put s hx,St.get_put s' (by rw[←h.p];exact hx),h.p],by rw[St.put_len,St.put_len];exact h.n⟩
theorem NY{s:St}{l q:Nat}(h:l=s.up.length∨∃x,s.get l q=some x)(γ:Nat)(r:A6)(l' k':Nat):(s.put l q γ r).get l' k'=if l'=l∧k'=q then some (γ,r) else s.get l' k':=by
 rcases h with rfl|⟨x,hx⟩
 ·exact St.get_putLoc s l' k'
 ·exact St.get_put s hx l' k'
theorem K1.spec{W:AN}{o:Oper}{gd:Option (Tmp×Bool)}{l q d:Nat}{r:A6}(h:K1 P W o gd fr s l q d r):kP o=true∧((l=s.up.length∧q=d)∨∃x,s.get l q=some x)∧∀(k:Fr→St→Prop),(∀γ,k (fr.put d true (H3 r l q γ)) (s.put l q γ r))→E5 P true o fr s k:=by obtain⟨_,_,h3,s0,hb,h4⟩:=h;have q:=XA hb.sub h4 h3;exact⟨q.1,q.2.1,q.2.2.2⟩
theorem K1.move{W:AN}{o:Oper}{gd:Option (Tmp×Bool)}{l q d:Nat}{r:A6}(h:K1 P W o gd fr s l q d r)(hn:s'.up.length=s.up.length)(hq:s'.get l q=s.get l q)(ho:Out W s s'):K1 P W o gd fr s' l q d r:=by obtain⟨h1,h2,h3,s0,hb,h4⟩:=h;exact⟨h1,h2,h3,s0,hb.out ho,(XA hb.sub h4 h3).2.2.1 s' hn hq⟩
theorem K1.pl{W:AN}{o:Oper}{gd:Option (Tmp×Bool)}{l q d:Nat}{r:A6}(h:K1 P W o gd fr s l q d r):l=s.up.length∨∃x,s.get l q=some x:=h.spec.2.1.imp (fun h=>h.1) id
theorem GN.app(h:GN fr s fr' s'){l q:Nat}(hl:l=s.up.length∨∃x,s.get l q=some x)(d γ:Nat)(r:A6)(v:V):GN (fr.put d true v) (s.put l q γ r) (fr'.put d true v) (s'.put l q γ r) :=
 ⟨fun k=>by simp only[Fr.get_put,h.f],fun l' k=>by rw[NY hl,NY (s:=s') (by rw[←h.n,←h.p];exact hl),h.p],by rw[St.put_len,St.put_len];exact h.n⟩
theorem rA{W:AN}{o:Oper}{gd:Option (Tmp×Bool)}{k k':Fr→St→Prop}(h:IW P Ω W o gd fr s k)(hs:GN fr s fr' s')(hk:∀f1 s1 f2 s2,GN f1 s1 f2 s2→k f1 s1→k' f2 s2):IW P Ω W o gd fr' s' k':=by
 rcases h with⟨g,v,⟨h1,h2⟩,h3⟩|⟨r,d,⟨h1,h2,h3⟩,h4⟩|⟨l,q,γ,r,⟨h1,h2,h3⟩,h4⟩|⟨l,q,r,d,hap,h5⟩
 ·refine .inl ⟨g,v,⟨(hs.gd gd).symm.trans h1,?_⟩,hk _ _ _ _ (hs.putD _ _ _) h3⟩;rcases h2 with⟨s0,h2,h2'⟩|⟨f,args,h2,h2'⟩|h2|h2
  ·exact .inl ⟨s0,h2.out (hs.out W),(HC fun x _=>(hs.rd x).symm).trans h2'⟩
  ·exact .inr (.inl ⟨f,args,(HH fun x _=>(hs.rd x).symm).trans h2,h2'⟩)
  ·exact .inr (.inr (.inl ((h2.out (hs.out W).2).frame fun x _=>DF (hs.rd x))))
  ·exact .inr (.inr (.inr h2))
 ·exact .inr (.inl ⟨r,d,⟨(hs.gd gd).symm.trans h1,h2,(dA fun x _=>(hs.rd x).symm).trans h3⟩,fun γ=>hk _ _ _ _ (hs.new d γ r) (h4 γ)⟩)
 ·obtain⟨⟨r0,hg⟩,_⟩:=EH h3;exact .inr (.inr (.inl ⟨l,q,γ,r,⟨(hs.gd gd).symm.trans h1,h2.frame (VO fun x _=>hs.rd x),Q3 ((VP fun x _=>(hs.rd x).symm).trans h3) (hs.p l q).symm⟩,hk _ _ _ _ (hs.store hg) h4⟩))
 ·have hpl:=hap.pl;obtain⟨h1,h2,h3,s0,hb,h4⟩:=hap;exact .inr (.inr (.inr ⟨l,q,r,d,⟨(hs.gd gd).symm.trans h1,h2,h3,s0,hb.out (hs.out W),(XA hb.sub ((dE fun x _=>(hs.rd x).symm).trans h4) h3).2.2.1 s' hs.n.symm (hs.p l q).symm⟩,fun γ=>hk _ _ _ _ (hs.app hpl d γ r _) (h5 γ)⟩))
def HI(o:Oper)(gd:Option (Tmp×Bool))(d:Option Tmp):Prop:=∀t,d=some t→(∀x∈o.op.operands,x≠.tmp t)∧(∀p,gd=some p→p.1≠t)
theorem HI.rd{o:Oper}{gd:Option (Tmp×Bool)}{d:Option Tmp}(h:HI o gd d)(c:Bool)(v:V):∀x∈o.op.operands,Pg.rd (putD fr d c v) x=Pg.rd fr x:=by
 intro x hx;cases d with
 |none=>rfl
 |some t=>
  have:=(h t rfl).1 x hx
  cases x with
  |tmp j=>
   show(fr.put t c v).get j=fr.get j
   rw[Fr.get_put,if_neg (fun e=>this (by rw[e]))]
  |_=>rfl
theorem HI.gd{o:Oper}{gd:Option (Tmp×Bool)}{d:Option Tmp}(h:HI o gd d)(c:Bool)(v:V):RY (putD fr d c v) gd=RY fr gd:=by
 cases d with
 |none=>rfl
 |some t=>
  cases gd with
  |none=>rfl
  |some p=>
   have:=(h t rfl).2 p rfl
   obtain⟨j,w⟩:=p
   show(match(fr.put t c v).get j with|some (c,.bool b)=>some (c&&(b==w))|_=>none)=_
   rw[Fr.get_put,if_neg this]
   rfl
theorem J2.keep{W:AN}{o:Oper}{gd:Option (Tmp×Bool)}{d:Option Tmp}{g c:Bool}{u v:V}(h:J2 P Ω W o gd fr s g v)(hb:HI o gd d)(hs:Out W s s'):J2 P Ω W o gd (putD fr d c u) s' g v:=by
 refine⟨(hb.gd c u).trans h.1,?_⟩;rcases h.2 with⟨s0,h2,h2'⟩|⟨f,args,h2,h2'⟩|h2|h2
 ·exact .inl ⟨s0,h2.out hs,(HC (hb.rd c u)).trans h2'⟩
 ·exact .inr (.inl ⟨f,args,(HH (hb.rd c u)).trans h2,h2'⟩)
 ·exact .inr (.inr (.inl ((h2.out hs.2).frame fun x hx=>(DF (hb.rd c u x hx)).symm)))
 ·exact .inr (.inr (.inr h2))
theorem J2.out{W:AN}{o:Oper}{gd:Option (Tmp×Bool)}{g:Bool}{v:V}(h:J2 P Ω W o gd fr s g v)(hs:Out W s s'):J2 P Ω W o gd fr s' g v :=
 ⟨h.1,h.2.imp (fun ⟨s0,h2,h2'⟩=>⟨s0,h2.out hs,h2'⟩) fun h=>h.imp id fun h=>h.imp (fun h=>h.out hs.2) id⟩
theorem J2.back{W:AN}{o:Oper}{gd:Option (Tmp×Bool)}{d:Option Tmp}{g c:Bool}{u v:V}(h:J2 P Ω W o gd (putD fr d c u) s g v)(hb:HI o gd d):J2 P Ω W o gd fr s g v:=by
 refine⟨(hb.gd c u).symm.trans h.1,?_⟩;rcases h.2 with⟨s0,h2,h2'⟩|⟨f,args,h2,h2'⟩|h2|h2
 ·exact .inl ⟨s0,h2,(HC (hb.rd c u)).symm.trans h2'⟩
 ·exact .inr (.inl ⟨f,args,(HH (hb.rd c u)).symm.trans h2,h2'⟩)
 ·exact .inr (.inr (.inl (h2.frame fun x hx=>DF (hb.rd c u x hx))))
 ·exact .inr (.inr (.inr h2))
theorem K1.keep{W:AN}{o:Oper}{gd:Option (Tmp×Bool)}{d _e:Option Tmp}{c:Bool}{u:V}{l q d':Nat}{r:A6}(hb:HI o gd d):K1 P W o gd (putD fr d c u) s l q d' r↔K1 P W o gd fr s l q d' r:=by unfold K1;simp only[hb.gd c u,dE (hb.rd c u)]
theorem GM.keep{W:AN}{o:Oper}{gd:Option (Tmp×Bool)}{d:Option Tmp}{c:Bool}{u:V}{l q γ:Nat}{r:A6}(hb:HI o gd d):GM P W o gd (putD fr d c u) s l q γ r↔GM P W o gd fr s l q γ r:=by have e:J3 P o (putD fr d c u)=J3 P o fr:=VO (hb.rd c u);unfold GM;rw[hb.gd c u,VP (hb.rd c u)];exact⟨fun h=>⟨h.1,h.2.1.frame e,h.2.2⟩,fun h=>⟨h.1,h.2.1.frame e.symm,h.2.2⟩⟩
theorem GM.at{W:AN}{o:Oper}{gd:Option (Tmp×Bool)}{l q γ:Nat}{r:A6}(h:GM P W o gd fr s l q γ r)(hs:s'.get l q=s.get l q):GM P W o gd fr s' l q γ r:=⟨h.1,h.2.1,Q3 h.2.2 hs⟩
theorem K0.keep{o:Oper}{gd:Option (Tmp×Bool)}{d:Option Tmp}{c:Bool}{u:V}{r:Mk}{e:Nat}(hb:HI o gd d):K0 P Ω o gd (putD fr d c u) r e↔K0 P Ω o gd fr r e:=by unfold K0;rw[hb.gd c u,dA (hb.rd c u)]
theorem lU{d γ:Nat}{r:A6}(h:s.get s.up.length d=none):s.sub (s.put s.up.length d γ r):=by
 intro l k x e;rw[St.get_putLoc];split
 ·rename_i hc;obtain⟨rfl,rfl⟩:=hc;rw[h]at e;cases e
 ·exact e
theorem lV{W:AN}{d γ:Nat}{r:A6}(h:s.get s.up.length d=none):Out W s (s.put s.up.length d γ r):=⟨fun l k x _ e=>lU h l k x e,fun l k _γ' _T es _ e=>⟨es,lU h l k _ e,rfl⟩,fun l k _γ' r _ _ e=>⟨r,lU h l k _ e,.inl rfl⟩⟩
theorem AOZ{W:AN}{l q γ:Nat}{r:A6}(hl:l=s.up.length∨∃x,s.get l q=some x)(hW:(l,q)∈W)(hW2:(l,q+GD)∈W):Out W s (s.put l q γ r):=⟨fun l' k' y hn e=>by
 rw[NY hl,if_neg (fun h=>hn (by rw[h.1,h.2];exact hW))];exact e,fun l' k' γ' T es hn e=>⟨es,by rw[NY hl,if_neg (fun h=>hn (by rw[h.1,h.2];exact hW2))];exact e,rfl⟩,
 fun l' k' γ' r' hn _ e=>⟨r',by rw[NY hl,if_neg (fun h=>hn (by rw[h.1,h.2]; exact hW2))]; exact e,.inl rfl⟩⟩
theorem BNC{o:Oper}(h:kP o=true):kW o=false:=by
 unfold kP at h;unfold kW;split at h<;>rename_i e
 ·simp[e]
 ·cases h
theorem rC{α:Type}{cs ds:List α}{off n:Nat}(h1:ds.length=n)(h2:off+n≤cs.length):(BC cs off ds).length=cs.length:=by subst h1;simp[BC];omega
theorem VQ{o:Oper}{l q γ:Nat}{r:A6}(h:DT P o fr s=some (l,q,γ,r)):∃r0,s.get l q=some (γ,r0)∧((∃cs cs',r0=.box cs∧r=.box cs')∨∃T es es',r0=.vec T es∧r=.vec T es'∧es'.map List.length=es.map List.length):=by
 unfold DT at h;split at h
 ·split at h
  ·split at h
   ·rename_i γ2 cs e3;split at h
    ·rename_i hc;cases h;obtain⟨c1,_⟩:=hc;subst c1;exact⟨_,e3,.inl ⟨_,_,rfl,rfl⟩⟩
    ·cases h
   ·cases h
  ·rename_i i off v e1 e2;split at h
   ·rename_i γ2 U es e3;split at h
    ·rename_i hc;cases h;obtain⟨c1,c2,c3,c4,c5,c6,c7⟩:=hc;subst c1;refine⟨_,e3,.inr ⟨_,_,_,rfl,rfl,?_⟩⟩;have hg:es.getD i []=es[i]:=by simp[List.getD,c5]
     rw[List.map_set,rC c4 c6,hg];apply List.ext_getElem?;intro j;rw[List.getElem?_set];split
     ·rename_i e;subst e;simp[c5]
     ·rfl
    ·cases h
   ·cases h
  ·cases h
 ·cases h
theorem dF{cs ds:List V}{off n c:Nat}(h1:ds.length=n)(h2:off+n≤cs.length)(hc:¬(off≤c∧c<off+n)):(BC cs off ds)[c]? = cs[c]?:=by
 subst h1;unfold BC;by_cases h:c<off
 ·rw[List.append_assoc,List.getElem?_append_left (by simp;omega),List.getElem?_take_of_lt h]
 ·have hl:(cs.take off++ds).length=off+ds.length:=by simp;omega
  rw[List.getElem?_append_right (by omega),hl,List.getElem?_drop];congr 1;omega
theorem dG{W:AN}{o:Oper}{l q γ:Nat}{r:A6}(h:DT P o fr s=some (l,q,γ,r))(hC:∀off n,J3 P o fr=some (off,n)→∀c,off≤c→c<off+n→(l,EK q c)∈W):∃r0,s.get l q=some (γ,r0)∧AXS W l q r0 r∧AXS W l q r r0:=by
 unfold DT at h;unfold J3 at hC;split at h
 ·rename_i T x y ho;simp only[ho]at hC;split at h
  ·rename_i l' q' γ' off v e1 e2;simp only[e1]at hC;split at h
   ·rename_i γ2 cs e3;split at h
    ·rename_i hc;cases h;obtain⟨c1,c2,c3,c4,c5,c6⟩:=hc;subst c1;have hC:=hC _ _ rfl;have key:∀c,(l,EK q c)∉W→(BC cs off (BI v))[c]? = cs[c]?:=fun c hn=>dF c4 c5 fun hh=>hn (hC c hh.1 hh.2);exact⟨_,e3,.inr (.inl ⟨_,_,rfl,rfl,key⟩),.inr (.inl ⟨_,_,rfl,rfl,fun c hn=>(key c hn).symm⟩)⟩
    ·cases h
   ·cases h
  ·rename_i l' q' γ' i off v e1 e2;simp only[e1]at hC;split at h
   ·rename_i γ2 U es e3;split at h
    ·rename_i hc;cases h;obtain⟨c1,c2,c3,c4,c5,c6,c7⟩:=hc;subst c1;have hC:=hC _ _ rfl;have hg:es.getD i []=es[i]:=by simp[List.getD,c5]
     have key:∀c,(l,EK q c)∉W→(BC (es.getD i []) off (BI v))[c]? = (es.getD i [])[c]?:=fun c hn=>dF c4 c6 fun hh=>hn (hC c hh.1 hh.2);refine⟨_,e3,.inr (.inr ⟨_,_,_,rfl,rfl,by simp,fun j e he=>?_⟩),.inr (.inr ⟨_,_,_,rfl,rfl,by simp,fun j e he=>?_⟩)⟩
     ·rw[List.getElem?_set];by_cases hij:i=j
      ·subst hij;have:e=es.getD i []:=by rw[hg];rw[List.getElem?_eq_getElem c5]at he;exact(Option.some.inj he).symm
       subst this;exact⟨_,by simp[c5],key⟩
      ·exact⟨e,by rw[if_neg hij];exact he,fun _ _=>rfl⟩
     ·rw[List.getElem?_set]at he;by_cases hij:i=j
      ·subst hij;simp only[c5,if_true,Option.some.injEq]at he;subst he;exact⟨_,by rw[hg];exact List.getElem?_eq_getElem c5,fun c hn=>(key c hn).symm⟩
      ·rw[if_neg hij]at he;exact⟨e,he,fun _ _=>rfl⟩
    ·cases h
   ·cases h
  ·cases h
 ·cases h
theorem ADL{W:AN}{o:Oper}{l q γ:Nat}{r:A6}(h:DT P o fr s=some (l,q,γ,r))(hW0:WOK P W o fr l q):Out W s (s.put l q γ r):=by
 have hW:=hW0.1;obtain⟨r0,hx,hsh⟩:=VQ h;refine⟨fun l' k' y hn e=>by rw[St.get_put s hx,if_neg (fun h=>hn (by rw[h.1,h.2];exact hW))];exact e,fun l' k' γ' T es _ e=>?_,fun l' k' γ' r' _ hn e=>?_⟩
 ·rw[St.get_put s hx];by_cases hc:l'=l∧k'=q
  ·obtain⟨rfl,rfl⟩:=hc;rw[hx]at e;cases e;rcases hsh with⟨cs,cs',h1,_⟩|⟨T0,es0,es',h1,h2,h3⟩
   ·cases h1
   ·cases h1;subst h2;exact⟨es',by simp,h3⟩
  ·rw[if_neg hc];exact⟨es,e,rfl⟩
 ·rw[St.get_put s hx];by_cases hc:l'=l∧k'=q
  ·obtain⟨rfl,rfl⟩:=hc;rcases hW0.2 with hm|hC
   ·exact(hn hm).elim
   ·obtain⟨r1,e1,h1,_⟩:=dG h hC;rw[e1]at e;cases e;exact⟨r,by simp,h1⟩
  ·rw[if_neg hc];exact⟨r',e,.inl rfl⟩
theorem vP{W:AN}{o:Oper}{l q γ:Nat}{r:A6}(h:DT P o fr s=some (l,q,γ,r))(hW0:WOK P W o fr l q):Out W (s.put l q γ r) s:=by
 have hW:=hW0.1;obtain⟨r0,hx,hsh⟩:=VQ h;refine⟨fun l' k' y hn e=>by rw[St.get_put s hx,if_neg (fun h=>hn (by rw[h.1,h.2];exact hW))]at e;exact e,fun l' k' γ' T es _ e=>?_,fun l' k' γ' r' _ hn e=>?_⟩
 ·rw[St.get_put s hx]at e;by_cases hc:l'=l∧k'=q
  ·obtain⟨rfl,rfl⟩:=hc;simp only[and_self,if_true,Option.some.injEq,Prod.mk.injEq]at e;obtain⟨rfl,rfl⟩:=e;rcases hsh with⟨cs,cs',_,h1⟩|⟨T0,es0,es',h1,h2,h3⟩
   ·cases h1
   ·cases h2;subst h1;exact⟨es0,hx,h3.symm⟩
  ·rw[if_neg hc]at e;exact⟨es,e,rfl⟩
 ·rw[St.get_put s hx]at e;by_cases hc:l'=l∧k'=q
  ·obtain⟨rfl,rfl⟩:=hc;simp only[and_self,if_true,Option.some.injEq,Prod.mk.injEq]at e;obtain⟨rfl,rfl⟩:=e;rcases hW0.2 with hm|hC
   ·exact(hn hm).elim
   ·obtain⟨r1,e1,_,h1⟩:=dG h hC;exact⟨r1,e1,h1⟩
  ·rw[if_neg hc]at e;exact⟨r',e,.inl rfl⟩
theorem vQ{W:AN}{oi oj:Oper}{gi gj:Option (Tmp×Bool)}{k k':Fr→St→Prop}(hij:HI oj gj oi.dst)(hji:HI oi gi oj.dst)(hne:∀d,oi.dst=some d→oj.dst≠some d)(hA:kA Ω.own oi=true→kA Ω.own oj=true∨kW oj=true)(hW:kW oi=true→kW oj=false∧kP oj=false)(hP:kP oi=true→kA Ω.own oj=true)
  (hfj:∀d,kA Ω.own oj=true→oj.dst=some d→s.get s.up.length d=none) (hfi:∀d,kA Ω.own oi=true→oi.dst=some d→s.get s.up.length d=none)
  (h:IW P Ω W oi gi fr s fun f1 s1=>IW P Ω W oj gj f1 s1 k) (hk:∀f1 s1 f2 s2,GN f1 s1 f2 s2→k f1 s1→k' f2 s2) :
  IW P Ω W oj gj fr s fun f2 s2=>IW P Ω W oi gi f2 s2 k':=by
 have hcomm:∀(c c':Bool) (v v':V),∀t,(putD (putD fr oi.dst c v) oj.dst c' v').get t=(putD (putD fr oj.dst c' v') oi.dst c v).get t:=by
  intro c c' v v' t;simp only[GW];by_cases e1:oj.dst=some t
  ·have:oi.dst≠some t:=fun e2=>hne t e2 e1;simp[e1,this]
  ·simp[e1]
 rcases h with⟨g,v,hp,h⟩|⟨r,d,hn,h⟩|⟨l,q,γ,r,hst,h⟩|⟨l,q,r,d,hap,h⟩
 ·rcases h with⟨g',u,hp',h⟩|⟨r,d,hn,h⟩|⟨l,q,γ,r,hst,h⟩|⟨l,q,r,d,hap,h⟩
  ·exact .inl ⟨g',u,hp'.back hij,.inl ⟨g,v,hp.keep hji (Out.refl W s),hk _ _ _ _ ⟨hcomm _ _ _ _,fun _ _=>rfl,rfl⟩ h⟩⟩
  ·have hd:=hn.2.1;refine .inr (.inl ⟨r,d,(K0.keep hij).1 hn,fun γ=>.inl ⟨g,v,?_,hk _ _ _ _ ⟨fun t=>?_,fun _ _=>rfl,rfl⟩ (h γ)⟩⟩)
   ·have:=hp.keep (c:=true) (u:=r.val s.up.length d γ) hji (lV (W:=W) (r:=r.res) (γ:=γ) (hfj d (S9 hn.2.2) hd));rw[hd]at this;exact this
   ·have:=hcomm g true v (r.val s.up.length d γ) t;rw[hd]at this;exact this
  ·have hst':=(GM.keep hij).1 hst;obtain⟨⟨r0,hg⟩,hdn,_⟩:=EH hst'.2.2;exact .inr (.inr (.inl ⟨l,q,γ,r,hst',.inl ⟨g,v,hp.out (ADL hst'.2.2 hst'.2.1),hk _ _ _ _ (GN.refl _ _) h⟩⟩))
  ·have hap':=(K1.keep (_e:=none) hij).1 hap;have hd:=hap.2.2.1;refine .inr (.inr (.inr ⟨l,q,r,d,hap',fun γ=>.inl ⟨g,v,?_,hk _ _ _ _ ⟨fun t=>?_,fun _ _=>rfl,rfl⟩ (h γ)⟩⟩))
   ·have:=hp.keep (c:=true) (u:=H3 r l q γ) hji (AOZ (W:=W) (r:=r) (γ:=γ) hap'.pl hap'.2.1.1 hap'.2.1.2);rw[hd]at this;exact this
   ·have:=hcomm g true v (H3 r l q γ) t;rw[hd]at this;exact this
 ·have hd:=hn.2.1;have hput:∀c v,fr.put d c v=putD fr oi.dst c v:=fun c v=>by rw[hd];rfl
  have hfd:=hfi d (S9 hn.2.2) hd;rcases hA (S9 hn.2.2)with hj|hj
  ·have key:∀γ,∃r' d',K0 P Ω oj gj fr r' d'∧∀γ',k ((fr.put d true (r.val s.up.length d γ)).put d' true (r'.val s.up.length d' γ')) ((s.put s.up.length d γ r.res).put s.up.length d' γ' r'.res):=by
    intro γ;rcases h γ with⟨g',u,hp',_⟩|⟨r',d',hn',h'⟩|⟨l,q,γ2,r2,hst,_⟩|⟨l,q,r2,d2,hap,_⟩
    ·have:=lT hp';rw[hj]at this;cases this
    ·rw[hput]at hn';refine⟨r',d',(K0.keep hij).1 hn',fun γ'=>?_⟩;have:=h' γ';rw[St.put_len]at this;exact this
    ·have:=(EH hst.2.2).2.2.1;rw[(dD hj).1]at this;cases this
    ·have:=hap.spec.1;rw[(dD hj).2]at this;cases this
   obtain⟨r',d',hn',_⟩:=key 0;refine .inr (.inl ⟨r',d',hn',fun γ'=>.inr (.inl ⟨r,d,?_,fun γ=>?_⟩)⟩)
   ·have:=(K0.keep (P:=P) (fr:=fr) (c:=true) (u:=r'.val s.up.length d' γ') (r:=r) (e:=d) hji).2 hn;rw[hn'.2.1]at this;exact this
   ·obtain⟨r2,d2,hn2,h2⟩:=key γ;have e1:d2=d':=Option.some.inj (hn2.2.1.symm.trans hn'.2.1);have e2:r2=r':=Option.some.inj (hn2.2.2.symm.trans hn'.2.2);subst e1;subst e2;have hdd:d≠d2:=fun e=>hne d hd (by rw[e];exact hn'.2.1);refine hk _ _ _ _ ⟨fun t=>?_,fun l t=>?_,?_⟩ (h2 γ')
    ·rw[St.put_len];simp only[Fr.get_put];by_cases e1:t=d2
     ·subst e1;simp[Ne.symm hdd]
     ·simp[e1]
    ·have q1:∀(s0:St) (m e γ:Nat) (r:A6),m=s0.up.length→∀l k,(s0.put m e γ r).get l k=if l=m∧k=e then some (γ,r) else s0.get l k:=fun s0 m e γ r hm l k=>by subst hm;exact St.get_putLoc s0 l k
     rw[q1 _ _ _ _ _ (St.put_len _ _ _ _ _).symm,q1 _ _ _ _ _ rfl,q1 _ _ _ _ _ rfl,q1 _ _ _ _ _ rfl,St.put_len];by_cases e1:t=d2
     ·subst e1;simp[Ne.symm hdd]
     ·simp[e1]
    ·simp only[St.put_len]
  ·have key:∀γ,∃l q γ2 r2,RY fr gj=some true∧WOK P W oj fr l q∧DT P oj fr (s.put s.up.length d γ r.res)=some (l,q,γ2,r2)∧k (fr.put d true (r.val s.up.length d γ)) ((s.put s.up.length d γ r.res).put l q γ2 r2):=by
    intro γ;rcases h γ with⟨g',u,hp',_⟩|⟨r',d',hn',h'⟩|⟨l,q,γ2,r2,hst,h'⟩|⟨l,q,r2,d2,hap,_⟩
    ·have:=(AIJ hp').2.1;rw[hj]at this;cases this
    ·have:=AXT hn'.2.2;rw[hj]at this;cases this
    ·rw[hput]at hst;have hst':=(GM.keep hij).1 hst;exact⟨l,q,γ2,r2,hst'.1,hst'.2.1,hst'.2.2,h'⟩
    ·have:=BNC hap.spec.1;rw[hj]at this;cases this
   obtain⟨l,q,γp,r2,hg,hlq,hst0,_⟩:=key 0;have hneq:¬(l=s.up.length∧q=d):=by intro e;obtain⟨l',q',γ',r',_,_,h1,_⟩:=key (γp+1);obtain⟨rfl,rfl,rfl⟩:=dC hst0 h1;obtain⟨⟨r0,h2⟩,_⟩:=EH h1;rw[St.get_putLoc,if_pos e]at h2;simp at h2
   have hs:∀γ,s.get l q=(s.put s.up.length d γ r.res).get l q:=fun γ=>by rw[St.get_putLoc,if_neg hneq]
   have hst:DT P oj fr s=some (l,q,γp,r2):=Q3 hst0 (hs 0);obtain⟨⟨r0,hget⟩,hdn,_⟩:=EH hst;refine .inr (.inr (.inl ⟨l,q,γp,r2,⟨hg,hlq,hst⟩,.inr (.inl ⟨r,d,hn,fun γ=>?_⟩)⟩));obtain⟨l',q',γ',r',_,_,h1,h2⟩:=key γ;obtain⟨rfl,rfl,rfl⟩:=dC hst0 h1;have h3:=Q3 h1 (hs γ);rw[hst]at h3;simp only[Option.some.injEq,Prod.mk.injEq,true_and]at h3;subst h3;refine hk _ _ _ _ ⟨fun t=>by rw[St.put_len],fun l1 k1=>?_,by simp only[St.put_len]⟩ h2;have q1:∀(s0:St) (m e γ:Nat) (r:A6),m=s0.up.length→∀l k,(s0.put m e γ r).get l k=if l=m∧k=e then some (γ,r) else s0.get l k:=fun s0 m e γ r hm l k=>by subst hm;exact St.get_putLoc s0 l k
   rw[q1 (s.put l q γp r2) _ _ _ _ rfl,St.put_len,St.get_put s hget,St.get_put (x:=(γp,r0)) _ (by rw[q1 _ _ _ _ _ rfl,if_neg hneq];exact hget),q1 _ _ _ _ _ rfl];by_cases e1:l1=s.up.length∧k1=d
   ·obtain⟨rfl,rfl⟩:=e1;have:¬(s.up.length=l∧k1=q):=fun e=>hneq ⟨e.1.symm,e.2.symm⟩;simp[this]
   ·simp[e1]
 ·obtain⟨⟨r0,hg⟩,hdn,hkw,_⟩:=EH hst.2.2;have hjw:=(hW hkw).1;rcases h with⟨g',u,hp',h⟩|⟨r',d',hn',h⟩|⟨l',q',γ',r',hst',h⟩|⟨l',q',r',d',hap,h⟩
  ·exact .inl ⟨g',u,hp'.out (vP hst.2.2 hst.2.1),.inr (.inr (.inl ⟨l,q,γ,r,(GM.keep hji).2 hst,hk _ _ _ _ (GN.refl _ _) h⟩))⟩
  ·have hd':=hn'.2.1;have hfd:=hfj d' (S9 hn'.2.2) hd';have hneq:¬(l=s.up.length∧q=d'):=fun e=>by rw[e.1,e.2,hfd]at hg;cases hg
   refine .inr (.inl ⟨r',d',hn',fun γ'=>.inr (.inr (.inl ⟨l,q,γ,r,?_,hk _ _ _ _ ⟨fun t=>by rw[St.put_len],fun l1 k1=>?_,by simp only[St.put_len]⟩ (h γ')⟩))⟩)
   ·have h3:=(GM.keep (P:=P) (W:=W) (fr:=fr) (c:=true) (u:=r'.val s.up.length d' γ') (l:=l) (q:=q) (γ:=γ) (r:=r) (s:=s) hji).2 hst;rw[hd']at h3;exact h3.at (by rw[St.get_putLoc,if_neg hneq])
   ·have q1:∀(s0:St) (m e γ:Nat) (r:A6),m=s0.up.length→∀l k,(s0.put m e γ r).get l k=if l=m∧k=e then some (γ,r) else s0.get l k:=fun s0 m e γ r hm l k=>by subst hm;exact St.get_putLoc s0 l k
    rw[q1 _ _ _ _ _ rfl,St.put_len,St.get_put s hg,St.get_put (x:=(γ,r0)) _ (by rw[q1 _ _ _ _ _ rfl,if_neg hneq];exact hg),q1 _ _ _ _ _ rfl];by_cases e1:l1=s.up.length∧k1=d'
    ·obtain⟨rfl,rfl⟩:=e1;have:¬(s.up.length=l∧k1=q):=fun e=>hneq ⟨e.1.symm,e.2.symm⟩;simp[this]
    ·simp[e1]
  ·have:=(EH hst'.2.2).2.2.1;rw[hjw]at this;cases this
  ·have:=hap.spec.1;rw[(hW hkw).2]at this;cases this
 ·have hd:=hap.2.2.1;have hsp:=hap.spec;have hj:=hP hsp.1;have hput:∀c v,fr.put d c v=putD fr oi.dst c v:=fun c v=>by rw[hd];rfl
  have key:∀γ,∃r' d',K0 P Ω oj gj fr r' d'∧∀γ',k ((fr.put d true (H3 r l q γ)).put d' true (r'.val s.up.length d' γ')) ((s.put l q γ r).put s.up.length d' γ' r'.res):=by
   intro γ;rcases h γ with⟨g',u,hp',_⟩|⟨r',d',hn',h'⟩|⟨l2,q2,γ2,r2,hst,_⟩|⟨l2,q2,r2,d2,hap2,_⟩
   ·have:=lT hp';rw[hj]at this;cases this
   ·rw[hput]at hn';refine⟨r',d',(K0.keep hij).1 hn',fun γ'=>?_⟩;have:=h' γ';rw[St.put_len]at this;exact this
   ·have:=(EH hst.2.2).2.2.1;rw[(dD hj).1]at this;cases this
   ·have:=hap2.spec.1;rw[(dD hj).2]at this;cases this
  obtain⟨r',d',hn',_⟩:=key 0;have hfd:=hfj d' hj hn'.2.1;have hdd:d≠d':=fun e=>hne d hd (by rw[e];exact hn'.2.1);have hneq:¬(l=s.up.length∧q=d'):=by
   rintro ⟨e1,e2⟩;rcases hsp.2.1 with⟨_,h2⟩|⟨x,hx⟩
   ·exact hdd (h2.symm.trans e2)
   ·rw[e1,e2,hfd]at hx;cases hx
  refine .inr (.inl ⟨r',d',hn',fun γ'=>.inr (.inr (.inr ⟨l,q,r,d,?_,fun γ=>?_⟩))⟩)
  ·have h3:=(K1.keep (P:=P) (W:=W) (fr:=fr) (c:=true) (u:=r'.val s.up.length d' γ') (l:=l) (q:=q) (d':=d) (r:=r) (s:=s) (_e:=none) hji).2 hap;rw[hn'.2.1]at h3;exact h3.move (St.put_len _ _ _ _ _) (by rw[St.get_putLoc,if_neg hneq]) (lV hfd)
  ·obtain⟨r2,d2,hn2,h2⟩:=key γ;have e1:d2=d':=Option.some.inj (hn2.2.1.symm.trans hn'.2.1);have e2:r2=r':=Option.some.inj (hn2.2.2.symm.trans hn'.2.2);subst e1;subst e2;refine hk _ _ _ _ ⟨fun t=>?_,fun l1 k1=>?_,?_⟩ (h2 γ')
   ·simp only[Fr.get_put];by_cases e1:t=d2
    ·subst e1;simp[Ne.symm hdd]
    ·simp[e1]
   ·have q1:∀(s0:St) (m e γ:Nat) (r:A6),m=s0.up.length→∀l k,(s0.put m e γ r).get l k=if l=m∧k=e then some (γ,r) else s0.get l k:=fun s0 m e γ r hm l k=>by subst hm;exact St.get_putLoc s0 l k
    have hpl:=hap.pl;rw[q1 _ _ _ _ _ (St.put_len _ _ _ _ _).symm,NY hpl,NY (s:=s.put s.up.length d2 γ' r2.res) (by
     rw[St.put_len];rcases hpl with h|⟨x,h⟩
     ·exact .inl h
     ·exact .inr ⟨x,by rw[St.get_putLoc,if_neg hneq]; exact h⟩),St.get_putLoc]
    by_cases e1:l1=s.up.length∧k1=d2
    ·obtain⟨rfl,rfl⟩:=e1;have:¬(s.up.length=l∧k1=q):=fun e=>hneq ⟨e.1.symm,e.2.symm⟩;simp[this]
    ·simp[e1]
   ·simp only[St.put_len]
theorem rD{Wi Wj:AN}{oi oj:Oper}{gi gj:Option (Tmp×Bool)}{k k':Fr→St→Prop}(hZ:Wi=Wj∨(kW oi=false∧kP oi=false∧kW oj=false∧kP oj=false))(hij:HI oj gj oi.dst)(hji:HI oi gi oj.dst)(hne:∀d,oi.dst=some d→oj.dst≠some d)(hA:kA Ω.own oi=true→kA Ω.own oj=true∨kW oj=true)(hW:kW oi=true→kW oj=false∧kP oj=false)(hP:kP oi=true→kA Ω.own oj=true)
  (hfj:∀d,kA Ω.own oj=true→oj.dst=some d→s.get s.up.length d=none) (hfi:∀d,kA Ω.own oi=true→oi.dst=some d→s.get s.up.length d=none)
  (h:IW P Ω Wi oi gi fr s fun f1 s1=>IW P Ω Wj oj gj f1 s1 k) (hk:∀f1 s1 f2 s2,GN f1 s1 f2 s2→k f1 s1→k' f2 s2) :
  IW P Ω Wj oj gj fr s fun f2 s2=>IW P Ω Wi oi gi f2 s2 k':=by
 rcases hZ with rfl|⟨z1,z2,z3,z4⟩
 ·exact vQ hij hji hne hA hW hP hfj hfi h hk
 have noS:∀{o:Oper} {gd:Option (Tmp×Bool)} {W:AN} {fr:Fr} {s:St} {l q γ:Nat} {r:A6},kW o=false→GM P W o gd fr s l q γ r→False:=fun hz hst=>by have:=(EH hst.2.2).2.2.1;rw[hz]at this;cases this
 have noA:∀{o:Oper} {gd:Option (Tmp×Bool)} {W:AN} {fr:Fr} {s:St} {l q d:Nat} {r:A6},kP o=false→K1 P W o gd fr s l q d r→False:=fun hz hap=>by have:=hap.spec.1;rw[hz]at this;cases this
 have hcomm:∀(c c':Bool) (v v':V),∀t,(putD (putD fr oi.dst c v) oj.dst c' v').get t=(putD (putD fr oj.dst c' v') oi.dst c v).get t:=by
  intro c c' v v' t;simp only[GW];by_cases e1:oj.dst=some t
  ·have:oi.dst≠some t:=fun e2=>hne t e2 e1;simp[e1,this]
  ·simp[e1]
 rcases h with⟨g,v,hp,h⟩|⟨r,d,hn,h⟩|⟨l,q,γ,r,hst,h⟩|⟨l,q,r,d,hap,h⟩
 ·rcases h with⟨g',u,hp',h⟩|⟨r,d,hn,h⟩|⟨l,q,γ,r,hst,h⟩|⟨l,q,r,d,hap,h⟩
  ·exact .inl ⟨g',u,hp'.back hij,.inl ⟨g,v,hp.keep hji (Out.refl Wi s),hk _ _ _ _ ⟨hcomm _ _ _ _,fun _ _=>rfl,rfl⟩ h⟩⟩
  ·have hd:=hn.2.1;refine .inr (.inl ⟨r,d,(K0.keep hij).1 hn,fun γ=>.inl ⟨g,v,?_,hk _ _ _ _ ⟨fun t=>?_,fun _ _=>rfl,rfl⟩ (h γ)⟩⟩)
   ·have:=hp.keep (c:=true) (u:=r.val s.up.length d γ) hji (lV (W:=Wi) (r:=r.res) (γ:=γ) (hfj d (S9 hn.2.2) hd));rw[hd]at this;exact this
   ·have:=hcomm g true v (r.val s.up.length d γ) t;rw[hd]at this;exact this
  ·exact(noS z3 hst).elim
  ·exact(noA z4 hap).elim
 ·have hd:=hn.2.1;have hput:∀c v,fr.put d c v=putD fr oi.dst c v:=fun c v=>by rw[hd];rfl
  have hj:kA Ω.own oj=true:=(hA (S9 hn.2.2)).resolve_right fun h=>by rw[z3]at h;cases h
  have key:∀γ,∃r' d',K0 P Ω oj gj fr r' d'∧∀γ',k ((fr.put d true (r.val s.up.length d γ)).put d' true (r'.val s.up.length d' γ')) ((s.put s.up.length d γ r.res).put s.up.length d' γ' r'.res):=by
   intro γ;rcases h γ with⟨g',u,hp',_⟩|⟨r',d',hn',h'⟩|⟨l,q,γ2,r2,hst,_⟩|⟨l,q,r2,d2,hap,_⟩
   ·have:=lT hp';rw[hj]at this;cases this
   ·rw[hput]at hn';refine⟨r',d',(K0.keep hij).1 hn',fun γ'=>?_⟩;have:=h' γ';rw[St.put_len]at this;exact this
   ·exact(noS z3 hst).elim
   ·exact(noA z4 hap).elim
  obtain⟨r',d',hn',_⟩:=key 0;refine .inr (.inl ⟨r',d',hn',fun γ'=>.inr (.inl ⟨r,d,?_,fun γ=>?_⟩)⟩)
  ·have:=(K0.keep (P:=P) (fr:=fr) (c:=true) (u:=r'.val s.up.length d' γ') (r:=r) (e:=d) hji).2 hn;rw[hn'.2.1]at this;exact this
  ·obtain⟨r2,d2,hn2,h2⟩:=key γ;have e1:d2=d':=Option.some.inj (hn2.2.1.symm.trans hn'.2.1);have e2:r2=r':=Option.some.inj (hn2.2.2.symm.trans hn'.2.2);subst e1;subst e2;have hdd:d≠d2:=fun e=>hne d hd (by rw[e];exact hn'.2.1);refine hk _ _ _ _ ⟨fun t=>?_,fun l t=>?_,?_⟩ (h2 γ')
   ·rw[St.put_len];simp only[Fr.get_put];by_cases e1:t=d2
    ·subst e1;simp[Ne.symm hdd]
    ·simp[e1]
   ·have q1:∀(s0:St) (m e γ:Nat) (r:A6),m=s0.up.length→∀l k,(s0.put m e γ r).get l k=if l=m∧k=e then some (γ,r) else s0.get l k:=fun s0 m e γ r hm l k=>by subst hm;exact St.get_putLoc s0 l k
    rw[q1 _ _ _ _ _ (St.put_len _ _ _ _ _).symm,q1 _ _ _ _ _ rfl,q1 _ _ _ _ _ rfl,q1 _ _ _ _ _ rfl,St.put_len];by_cases e1:t=d2
    ·subst e1;simp[Ne.symm hdd]
    ·simp[e1]
   ·simp only[St.put_len]
 ·exact(noS z1 hst).elim
 ·exact(noA z2 hap).elim
end Go.Pg
namespace Go.Pg
variable {P:Program}{Ω:H4 P}{n N:Nat}{ρ:Option Nat}{G0 G:Gh}{fr fr':Fr}{s s':St}{a:Act}{w:World}
def fZ(gs:List (Option (Tmp×Bool)))(i:Nat):Option (Tmp×Bool):=match gs[i]? with
 |some g=>g
 |none=>none
theorem N3{all:List Oper}:∀{l:List Oper} {gs:List (Option (Tmp×Bool))},KF all gs l=true→∀{i:Nat} {o:Oper},l[i]? = some o→H1 all o (fZ gs i)=true
 |[],_,_,i,o,h=>by simp at h
 |o'::l,gs,hg,i,o,h=>by
  cases gs with
  |nil=>
   simp only[KF,Bool.and_eq_true]at hg
   cases i with
   |zero=>simp at h;subst h;exact hg.1
   |succ i=>
    have:=N3 hg.2 (i:=i) (o:=o) (by simpa using h)
    simpa [fZ]using this
  |cons g gs=>
   simp only[KF,Bool.and_eq_true]at hg
   cases i with
   |zero=>simp at h;subst h;exact hg.1
   |succ i=>
    have:=N3 hg.2 (i:=i) (o:=o) (by simpa using h)
    simpa [fZ]using this
def atD(d:Nat):List Oper→Nat→Nat
 |[],n=>n
 |o::l,n=>match o.dst with
  |some e=>cond (Nat.beq e d) n (atD d l (n+1))
  |none=>atD d l (n+1)
def zB(l:List Oper)(o:Oper):Bool:=match o.op with
 |.load ..=>match o.dst with
  |some d=>cond (l.any kW) (l.all fun s=>cond (kW s||kP s) (s.after.toList.any fun e=>Nat.beq e.on (atD d l 0)&&Region.binds .any e) true) false
  |none=>false
 |_=>false
theorem ATC{l:List Oper}{o:Oper}(h:zB l o=true):∃T x,o.op=.load T x:=by
 unfold zB at h;split at h
 ·rename_i T x e;exact⟨T,x,e⟩
 ·cases h
def wz(l:List Oper)(W:AN)(o:Oper):AN:=cond (zB l o) [] W
def zP(l:List Oper)(oi oj:Oper):Bool:=cond (kW oi||kP oi||kW oj||kP oj) (zB l oi==zB l oj) true
theorem AO0{l:List Oper}{oi oj:Oper}(h:zP l oi oj=true)(W:AN):wz l W oi=wz l W oj∨(kW oi=false∧kP oi=false∧kW oj=false∧kP oj=false):=by
 unfold zP at h;cases hc:(kW oi||kP oi||kW oj||kP oj)with
 |true=>
  rw[hc]at h
  left
  unfold wz
  rw[eq_of_beq h]
 |false=>
  simp only[Bool.or_eq_false_iff]at hc
  exact .inr ⟨hc.1.1.1,hc.1.1.2,hc.1.2,hc.2⟩
def OT(P:Program)(Ω:H4 P)(W:AN)(l:List Oper)(gs:List (Option (Tmp×Bool)))(i:Nat)(fr:Fr)(s:St)(k:Fr→St→Prop):Prop:=match l[i]? with
 |some o=>IW P Ω (wz l W o) o (fZ gs i) fr s k
 |none=>False
abbrev rdy(l:List Oper)(listed:Array Bool):List Nat:=Region.ready .any l.toArray listed
def lW(P:Program)(Ω:H4 P)(W:AN)(l:List Oper)(gs:List (Option (Tmp×Bool)))(T:Array Bool→Fr→St→Prop):Nat→List Nat→Array Bool→Fr→St→Prop
 |0,_,listed,fr,s=>T listed fr s
 |m+1,R,listed,fr,s=>rdy l listed≠[]∧∀j∈rdy l listed,j∈R∧OT P Ω W l gs j fr s (lW P Ω W l gs T m (R.erase j) (listed.setIfInBounds j true))
variable {W:AN}{l:List Oper}{gs:List (Option (Tmp×Bool))}{T:Array Bool→Fr→St→Prop}
theorem dH(hT:∀listed fr s fr' s',GN fr s fr' s'→T listed fr s→T listed fr' s'):∀(m:Nat) (R:List Nat) (listed:Array Bool) (fr:Fr) (s:St) (fr':Fr) (s':St),GN fr s fr' s'→lW P Ω W l gs T m R listed fr s→lW P Ω W l gs T m R listed fr' s'
 |0,_,_,_,_,_,_,hs,h=>hT _ _ _ _ _ hs h
 |m+1,R,listed,fr,s,fr',s',hs,h=>by
  refine⟨h.1,fun j hj=>⟨(h.2 j hj).1,?_⟩⟩;have:=(h.2 j hj).2;unfold OT at this⊢;split
  ·rename_i o ho;simp only[ho]at this;exact rA this hs fun f1 s1 f2 s2 h12 h'=>dH hT m _ _ _ _ _ _ h12 h'
  ·rename_i ho;simp only[ho]at this
def Led(o:Oper)(s s1:St):Prop:=s1=s∨(∃γ r d,o.dst=some d∧s1=s.put s.up.length d γ r)∨∃l q γ r x,s.get l q=some x∧s1=s.put l q γ r
theorem N4{o:Oper}{gd:Option (Tmp×Bool)}{k k':Fr→St→Prop}(h:IW P Ω W o gd fr s k)(hk:∀f1 s1,Led o s s1→k f1 s1→k' f1 s1):IW P Ω W o gd fr s k':=by
 rcases h with⟨g,v,h1,h2⟩|⟨r,d,h1,h2⟩|⟨l,q,γ,r,h1,h2⟩|⟨l,q,r,d,h1,h2⟩
 ·exact .inl ⟨g,v,h1,hk _ _ (.inl rfl) h2⟩
 ·exact .inr (.inl ⟨r,d,h1,fun γ=>hk _ _ (.inr (.inl ⟨γ,r.res,d,h1.2.1,rfl⟩)) (h2 γ)⟩)
 ·obtain⟨⟨r0,hg⟩,_⟩:=EH h1.2.2;exact .inr (.inr (.inl ⟨l,q,γ,r,h1,hk _ _ (.inr (.inr ⟨l,q,γ,r,_,hg,rfl⟩)) h2⟩))
 ·refine .inr (.inr (.inr ⟨l,q,r,d,h1,fun γ=>hk _ _ ?_ (h2 γ)⟩));rcases h1.spec.2.1 with⟨rfl,rfl⟩|⟨x,hx⟩
  ·exact .inr (.inl ⟨γ,r,_,h1.2.2.1,rfl⟩)
  ·exact .inr (.inr ⟨l,q,γ,r,x,hx,rfl⟩)
def P2(own:Oper→Bool)(l:List Oper)(R:List Nat)(s:St):Prop:=∀j∈R,∀o d,l[j]? = some o→kA own o=true→o.dst=some d→s.get s.up.length d=none
def ADN(l:List Oper):Prop:=∀(j k:Nat) (o o':Oper) (d:Nat),l[j]? = some o→l[k]? = some o'→j≠k→o.dst=some d→o'.dst≠some d
theorem P2.led{own:Oper→Bool}{R:List Nat}{j:Nat}{o:Oper}{s1:St}(h:P2 own l R s)(hD:ADN l)(hj:l[j]? = some o)(hR:∀k∈R,k≠j)(hl:Led o s s1):P2 own l R s1:=by
 rcases hl with rfl|⟨γ,r,d,hd,rfl⟩|⟨l1,q1,γ,r,x,hx,rfl⟩
 ·exact h
 ·intro k hk o' d' ho' hA hd';rw[St.put_len,St.get_putLoc];have:d'≠d:=fun e=>hD j k o o' d hj ho' (Ne.symm (hR k hk)) hd (by rw[←e];exact hd');rw[if_neg (fun e=>this e.2)];exact h k hk o' d' ho' hA hd'
 ·intro k hk o' d' ho' hA hd';have h0:=h k hk o' d' ho' hA hd';rw[St.put_len,St.get_put s hx,if_neg (fun e=>by rw[e.1,e.2,hx]at h0;cases h0)];exact h0
structure AO1(own:Oper→Bool)(l:List Oper)(gs:List (Option (Tmp×Bool)))(i:Nat)(oi:Oper)(B:List Nat)(R:List Nat)(listed:Array Bool):Prop where
 ready:i∈rdy l listed
 mem:i∈R
 wait:∀b∈B,∃o,l[b]? = some o∧∃e∈o.after,Region.binds .any e=true∧(e.on=i∨e.on∈B)
 un:∀b∈B,listed.getD b true=false
 free:∀j oj,l[j]? = some oj→j≠i→j∉B→listed.getD j true=false→j∈R∧HI oj (fZ gs j) oi.dst∧HI oi (fZ gs i) oj.dst∧(∀d,oi.dst=some d→oj.dst≠some d)∧(kA own oi=true→kA own oj=true∨kW oj=true)∧(kW oi=true→kW oj=false∧kP oj=false)∧(kP oi=true→kA own oj=true)∧zP l oi oj=true
theorem ZQ{listed:Array Bool}{j:Nat}(h:listed.getD j true=false):listed.getD j false=false:=by
 rcases Nat.lt_or_ge j listed.size with h'|h'
 ·simp[h']at h⊢;exact h
 ·simp[Array.getElem?_eq_none h']at h
theorem AO1.blocked{own:Oper→Bool}{i:Nat}{oi:Oper}{B R:List Nat}{listed:Array Bool}(h:AO1 own l gs i oi B R listed){j:Nat}(hj:j∈rdy l listed):j∉B:=by
 intro hb;obtain⟨_,o,ho,hall⟩:=mem_ready.1 hj;obtain⟨o',ho',e,he,hbi,hon⟩:=h.wait j hb;have:o=o':=by simpa [ho']using ho.symm
 subst this;have h1:=hall e he hbi;rcases hon with hon|hon
 ·rw[hon,ZQ (mem_ready.1 h.ready).1]at h1;cases h1
 ·rw[ZQ (h.un _ hon)]at h1;cases h1
theorem vR(hT:∀listed fr s fr' s',GN fr s fr' s'→T listed fr s→T listed fr' s')(hD:ADN l){i:Nat}{oi:Oper}{B:List Nat}(hi:l[i]? = some oi):∀(m:Nat) (R:List Nat) (listed:Array Bool) (fr:Fr) (s:St),
  AO1 Ω.own l gs i oi B R listed→R.length=m+1→R.Nodup→P2 Ω.own l R s→OT P Ω W l gs i fr s (lW P Ω W l gs T m (R.erase i) (listed.setIfInBounds i true))→lW P Ω W l gs T (m+1) R listed fr s:=by
 intro m
 induction m with
 |zero=>
  intro R listed fr s hF hlen _ _ h
  refine⟨fun e=>?_,fun j hj=>?_⟩
  ·have:=hF.ready;rw[e]at this;cases this
  ·by_cases hji:j=i
   ·subst hji;exact⟨hF.mem,h⟩
   ·obtain⟨hun,oj,hoj,_⟩:=mem_ready.1 hj;have hR:=(hF.free j oj (by simpa using hoj) hji (hF.blocked hj) hun).1;exfalso;obtain⟨x,rfl⟩:=List.length_eq_one_iff.1 hlen;have e1:=hF.mem;simp at e1 hR;exact hji (hR.trans e1.symm)
 |succ m ih=>
  intro R listed fr s hF hlen hnd hfresh h
  refine⟨fun e=>?_,fun j hj=>?_⟩
  ·have:=hF.ready;rw[e]at this;cases this
  ·by_cases hji:j=i
   ·subst hji;exact⟨hF.mem,h⟩
   ·obtain⟨hun,oj,hoj,_⟩:=mem_ready.1 hj;have hoj':l[j]? = some oj:=by simpa using hoj
    have hjB:=hF.blocked hj;obtain⟨hjR,b1,b2,hne,hA,hWW,hPP,hZZ⟩:=hF.free j oj hoj' hji hjB hun;refine⟨hjR,?_⟩;unfold OT at h⊢;simp only[hi]at h;simp only[hoj'];have h1:IW P Ω (wz l W oi) oi (fZ gs i) fr s fun f1 s1=>IW P Ω (wz l W oj) oj (fZ gs j) f1 s1 (lW P Ω W l gs T m ((R.erase i).erase j) ((listed.setIfInBounds i true).setIfInBounds j true)):=by refine N4 h fun f1 s1 _ h'=>?_;have:=(h'.2 j (ready_mono hj hji)).2;unfold OT at this;simp only[hoj']at this;exact this
    have h2:=rD (AO0 hZZ W) b1 b2 hne hA hWW hPP (fun d hk hd=>hfresh j hjR oj d hoj' hk hd) (fun d hk hd=>hfresh i hF.mem oi d hi hk hd) h1 fun f1 s1 f2 s2 h12 h'=>dH hT _ _ _ _ _ _ _ h12 h';refine N4 h2 fun f1 s1 hled h'=>?_;have hlt:j<listed.size:=by
     rcases Nat.lt_or_ge j listed.size with h'|h'
     ·exact h'
     ·simp[Array.getElem?_eq_none h']at hun
    refine ih (R.erase j) (listed.setIfInBounds j true) f1 s1 ⟨ready_mono hF.ready (Ne.symm hji),(List.mem_erase_of_ne (Ne.symm hji)).2 hF.mem,hF.wait,fun b hb=>?_,fun k ok hk hki hkB hku=>?_⟩ ?_ (hnd.erase j) ?_ ?_
    ·rw[getD_set_ne true (fun e=>hjB (by rw[e];exact hb))];exact hF.un b hb
    ·have hkj:k≠j:=by intro e;subst e;simp[hlt]at hku
     rw[getD_set_ne true (Ne.symm hkj)]at hku;obtain⟨q1,q2⟩:=hF.free k ok hk hki hkB hku;exact⟨(List.mem_erase_of_ne hkj).2 q1,q2⟩
    ·rw[List.length_erase_of_mem hjR,hlen];rfl
    ·refine P2.led (j:=j) (fun k hk=>hfresh k (List.mem_of_mem_erase hk)) hD hoj' (fun k hk e=>?_) hled;subst e;exact(List.Nodup.mem_erase_iff hnd).1 hk |>.1 rfl
    ·unfold OT;simp only[hi];rw[List.erase_comm,Array.setIfInBounds_comm _ _ hji];exact h'
def R8(P:Program)(Ω:H4 P)(W:AN)(l:List Oper)(gs:List (Option (Tmp×Bool))):List Nat→Fr→St→(Fr→St→Prop)→Prop
 |[],fr,s,K=>K fr s
 |i::r,fr,s,K=>OT P Ω W l gs i fr s fun fr s=>R8 P Ω W l gs r fr s K
theorem VR{_x y:Oper}{gd:Option (Tmp×Bool)}{d:Option Tmp}(h:∀t,d=some t→t∉y.looksAt l.toArray)(hg:H1 l y gd=true):HI y gd d:=by
 intro t ht;have:=h t ht;unfold Oper.looksAt at this;simp only[List.mem_append,not_or]at this;refine⟨fun z hz e=>this.1 ?_,fun p hp e=>this.2 ?_⟩
 ·subst e;exact List.mem_filterMap.2 ⟨.tmp t,by simpa using hz,rfl⟩
 ·obtain⟨q,w⟩:=p;subst hp;unfold H1 at hg;split at hg
  ·rename_i hh;cases hh
  ·rename_i j w1 d1 w2 ho e1;cases e1;simp only[ho];simp only[Bool.and_eq_true]at hg;have h2:=hg.2;split at h2
   ·rename_i o hoj;split at h2
    ·rename_i d' hd';have:d'=q:=Nat.eq_of_beq_eq_true h2;subst this;have e':d'=t:=e;subst e';simp only[List.getElem?_toArray,hoj,Option.bind_some,hd',Option.toList_some,List.mem_singleton]
    ·cases h2
   ·cases h2
  ·cases hg
def H5{α:Type}(n:Nat)(k:Nat→α):α:=match n with
 |0=>k 0
 |m+1=>k (m+1)
theorem FU{α:Type}(n:Nat)(k:Nat→α):H5 n k=k n:=by cases n<;>rfl
def OU:List Nat→Nat
 |[]=>0
 |k::r=>Nat.lor (OU r) (Nat.shiftLeft 1 k)
theorem CU(k j:Nat):(Nat.shiftLeft 1 k).testBit j=decide (k=j):=by have h:Nat.shiftLeft 1 k=1 <<< k:=rfl;rw[h,Nat.one_shiftLeft,Nat.testBit_two_pow]
theorem testBit_or(a b j:Nat):(Nat.lor a b).testBit j=(a.testBit j||b.testBit j):=Nat.testBit_or a b j
theorem testBit_and(a b j:Nat):(Nat.land a b).testBit j=(a.testBit j&&b.testBit j):=Nat.testBit_and a b j
theorem D7:∀{ks:List Nat} {j:Nat},(OU ks).testBit j=true↔j∈ks
 |[],j=>by simp[OU]
 |k::r,j=>by
  rw[OU,testBit_or,CU,Bool.or_eq_true,D7,decide_eq_true_eq,List.mem_cons];constructor
  ·rintro (h|h)
   ·exact .inr h
   ·exact .inl h.symm
  ·rintro (h|h)
   ·exact .inr h.symm
   ·exact .inl h
theorem GO{a b:Nat}(h:Nat.beq (Nat.land a b) 0=true){j:Nat}(ha:a.testBit j=true)(hb:b.testBit j=true):False:=by have h1:=Nat.eq_of_beq_eq_true h;have h2:=testBit_and a b j;rw[h1,ha,hb]at h2;simp at h2
theorem VS{a b:Nat}(h:Nat.beq (Nat.land a b) 0=false):∃j,a.testBit j=true∧b.testBit j=true:=by
 refine Classical.byContradiction fun hn=>?_;have:Nat.land a b=0:=Nat.eq_of_testBit_eq fun j=>by
  rw[testBit_and,Nat.zero_testBit];cases ha:a.testBit j with
  |false=>rfl
  |true=>cases hb:b.testBit j with
   |false=>rfl
   |true=>exact absurd ⟨j,ha,hb⟩ hn
 rw[this]at h;cases h
theorem AIK{a b:Nat}(h:Nat.beq (Nat.land a b) a=true){j:Nat}(ha:a.testBit j=true):b.testBit j=true:=by have h1:=Nat.eq_of_beq_eq_true h;have h2:=testBit_and a b j;rw[h1,ha]at h2;simpa using h2.symm
def XB(m k:Nat):Bool:=!(Nat.beq (Nat.land m (Nat.shiftLeft 1 k)) 0)
theorem VT(m k:Nat):XB m k=m.testBit k:=by
 unfold XB;cases hm:m.testBit k with
 |true=>
  cases hb:Nat.beq (Nat.land m (Nat.shiftLeft 1 k)) 0 with
  |false=>rfl
  |true=>exact(GO hb hm (by rw[CU];simp)).elim
 |false=>
  cases hb:Nat.beq (Nat.land m (Nat.shiftLeft 1 k)) 0 with
  |true=>rfl
  |false=>
   obtain⟨j,h1,h2⟩:=VS hb
   rw[CU,decide_eq_true_eq]at h2
   rw[h2,h1]at hm
   cases hm
def ADO(o:Oper):List Nat:=(o.after.toList.filter fun e=>Region.binds .any e).map (·.on)
theorem dI{o:Oper}{k:Nat}:k∈ADO o↔∃e∈o.after,Region.binds .any e=true∧e.on=k:=by
 simp only[ADO,List.mem_map,List.mem_filter,Array.mem_toList_iff];constructor
 ·rintro ⟨e,⟨h1,h2⟩,h3⟩;exact⟨e,h1,h2,h3⟩
 ·rintro ⟨e,h1,h2,h3⟩;exact⟨e,⟨h1,h2⟩,h3⟩
def afM(l:List Oper)(j:Nat):Nat:=match l[j]? with
 |some o=>OU (ADO o)
 |none=>0
def lkM(l:List Oper)(j:Nat):Nat:=match l[j]? with
 |some o=>OU (o.looksAt l.toArray)
 |none=>0
def dsM(l:List Oper)(j:Nat):Nat:=match l[j]? with
 |some o=>match o.dst with
  |some d=>Nat.shiftLeft 1 d
  |none=>0
 |none=>0
def afL:List Oper→Nat→List (Nat×Nat)
 |[],_=>[]
 |o::r,j=>(j,OU (ADO o))::afL r (j+1)
theorem lX:∀{r:List Oper} {j0 j m:Nat},(j,m)∈afL r j0→∃k o,j=j0+k∧r[k]? = some o∧m=OU (ADO o)
 |[],_,_,_,h=>by cases h
 |o::r,j0,j,m,h=>by
  rcases List.mem_cons.1 h with h|h
  ·cases h;exact⟨0,o,rfl,rfl,rfl⟩
  ·obtain⟨k,o',h1,h2,h3⟩:=lX h;exact⟨k+1,o',by omega,by simpa using h2,h3⟩
def L8(i:Nat):List (Nat×Nat)→Nat→Nat
 |[],B=>B
 |p::js,B=>cond (Nat.beq (Nat.land p.2 (Nat.lor B (Nat.shiftLeft 1 i))) 0) (L8 i js B) (H5 (Nat.lor B (Nat.shiftLeft 1 p.1)) (L8 i js))
def rF(l:List Oper)(i B b:Nat):Prop:=∃o,l[b]? = some o∧∃e∈o.after,Region.binds .any e=true∧(e.on=i∨B.testBit e.on=true)
theorem N5{l:List Oper}{i:Nat}:∀{js:List (Nat×Nat)} {B:Nat},(∀p∈js,∃o,l[p.1]? = some o∧p.2=OU (ADO o))→(∀b,B.testBit b=true→rF l i B b)→∀b,(L8 i js B).testBit b=true→rF l i (L8 i js B) b
 |[],B,_,h=>h
 |p::js,B,hj,h=>by
  unfold L8;cases hc:Nat.beq (Nat.land p.2 (Nat.lor B (Nat.shiftLeft 1 i))) 0 with
  |true=>exact N5 (fun q hq=>hj q (List.mem_cons_of_mem _ hq)) h
  |false=>
   show ∀b,(H5 (Nat.lor B (Nat.shiftLeft 1 p.1)) (L8 i js)).testBit b=true→rF l i (H5 (Nat.lor B (Nat.shiftLeft 1 p.1)) (L8 i js)) b
   rw[FU]
   have mono:∀b,rF l i B b→rF l i (Nat.lor B (Nat.shiftLeft 1 p.1)) b:=fun b ⟨o,h1,e,h2,h3,h4⟩=>⟨o,h1,e,h2,h3,h4.imp id fun h=>by rw[testBit_or,h];rfl⟩
   refine N5 (fun q hq=>hj q (List.mem_cons_of_mem _ hq)) fun b hb=>?_
   rw[testBit_or,Bool.or_eq_true,CU,decide_eq_true_eq]at hb
   rcases hb with hb|rfl
   ·exact mono b (h b hb)
   ·obtain⟨o,ho,hm⟩:=hj p (by simp);obtain⟨k,h1,h2⟩:=VS hc;rw[hm,D7,dI]at h1;obtain⟨e,he,hbi,rfl⟩:=h1;rw[testBit_or,Bool.or_eq_true,CU,decide_eq_true_eq]at h2;exact mono _ ⟨o,ho,e,he,hbi,h2.elim .inr fun h=>.inl h.symm⟩
def AIL(own:Oper→Bool)(l:List Oper)(i j:Nat):Bool:=match l[i]? with
 |some oi=>match l[j]? with
  |some oj=>(!(kA own oi)||(kA own oj||kW oj))&&!(kW oi&&(kW oj||kP oj))&&(!(kP oi)||kA own oj)&&zP l oi oj
  |none=>false
 |none=>false
def AAM(own:Oper→Bool)(l:List Oper)(i j:Nat):Bool :=
 Nat.beq (Nat.land (dsM l i) (Nat.lor (lkM l j) (dsM l j))) 0&&Nat.beq (Nat.land (dsM l j) (lkM l i)) 0&&AIL own l i j
def P3(l:List Oper)(i done:Nat):Bool:=Nat.beq (Nat.land (afM l i) done) (afM l i)
def phM(own:Oper→Bool)(l:List Oper)(tl:List Nat):List Nat→Nat→Bool
 |[],_=>true
 |i::r,done=>H5 (L8 i (afL l 0) 0) fun B=>
  Nat.blt i l.length&&!(XB done i)&&P3 l i done&&Nat.beq (Nat.land B done) 0&&tl.all (XB B)&&r.all (fun j=>XB B j||AAM own l i j)&&H5 (Nat.lor done (Nat.shiftLeft 1 i)) (phM own l tl r)
def jG(l:List Oper)(rest:List Nat):List Nat→Nat→Bool
 |[],_=>true
 |i::r,done=>Nat.blt i l.length&&!(XB done i)&&P3 l i done&&r.all (fun j=>!(P3 l j done))&&rest.all (fun j=>!(P3 l j done))&&H5 (Nat.lor done (Nat.shiftLeft 1 i)) (jG l rest r)
structure LL(l:List Oper)(rest:List Nat)(done:Nat)(listed:Array Bool):Prop where
 size:listed.size=l.length
 bit:∀k,done.testBit k=listed.getD k false
 cov:∀k,k<l.length→done.testBit k=false→k∈rest
theorem LL.un{rest:List Nat}{done:Nat}{listed:Array Bool}(h:LL l rest done listed){k:Nat}:listed.getD k true=false↔k<l.length∧done.testBit k=false:=by
 rw[h.bit];rcases Nat.lt_or_ge k listed.size with h'|h'
 ·have:=h.size;simp[h'];intro;omega
 ·have:=h.size;simp[Array.getElem?_eq_none h'];omega
theorem LL.next{rest:List Nat}{i done:Nat}{listed:Array Bool}(h:LL l (i::rest) done listed)(hi:i<l.length):LL l rest (Nat.lor done (Nat.shiftLeft 1 i)) (listed.setIfInBounds i true):=by
 refine⟨by simpa using h.size,fun k=>?_,fun k hk hd=>?_⟩
 ·rw[testBit_or,CU,h.bit];by_cases e:i=k
  ·subst e;have:i<listed.size:=by rw[h.size];exact hi
   simp[this]
  ·rw[getD_set_ne false e];simp[e]
 ·rw[testBit_or,CU,Bool.or_eq_false_iff,decide_eq_false_iff_not]at hd;rcases List.mem_cons.1 (h.cov k hk hd.1)with rfl|h'
  ·exact absurd rfl hd.2
  ·exact h'
theorem LL.ready{rest:List Nat}{i done:Nat}{listed:Array Bool}(h:LL l rest done listed)(hi:i<l.length)(hn:XB done i=false)(hr:P3 l i done=true):i∈rdy l listed:=by rw[VT]at hn;have ho:l[i]? = some l[i]:=List.getElem?_eq_getElem hi;refine mem_ready.2 ⟨h.un.2 ⟨hi,hn⟩,l[i],by simp,fun e he hb=>?_⟩;rw[←h.bit];refine AIK hr ?_;unfold afM;rw[ho];exact D7.2 (dI.2 ⟨e,he,hb,rfl⟩)
theorem LL.unready{rest:List Nat}{j done:Nat}{listed:Array Bool}(h:LL l rest done listed)(hr:P3 l j done=false):j∉rdy l listed:=by
 intro hj;obtain⟨h1,o,ho,h2⟩:=mem_ready.1 hj;have ho':l[j]? = some o:=by simpa using ho
 have:Nat.land (afM l j) done=afM l j:=Nat.eq_of_testBit_eq fun k=>by
  rw[testBit_and];cases ha:(afM l j).testBit k with
  |false=>rfl
  |true=>
   unfold afM at ha
   rw[ho']at ha
   obtain⟨e,he,hb,rfl⟩:=dI.1 (D7.1 ha)
   rw[h.bit,h2 e he hb]
   rfl
 unfold P3 at hr;rw[this]at hr;have:=Nat.beq_refl (afM l j);rw[this]at hr;cases hr
theorem vS{own:Oper→Bool}{i j:Nat}{oi oj:Oper}(hi:l[i]? = some oi)(hj:l[j]? = some oj)(h:AAM own l i j=true) :
  (∀d,oi.dst=some d→d∉oj.looksAt l.toArray)∧(∀d,oi.dst=some d→oj.dst≠some d)∧(∀d,oj.dst=some d→d∉oi.looksAt l.toArray) ∧
  (kA own oi=true→kA own oj=true∨kW oj=true)∧(kW oi&&(kW oj||kP oj))=false∧(kP oi=true→kA own oj=true)∧zP l oi oj=true:=by
 unfold AAM AIL dsM lkM at h
 simp only[hi,hj,Bool.and_eq_true,Bool.or_eq_true,Bool.not_eq_true']at h
 obtain⟨⟨h1,h2⟩,⟨⟨h3,h4⟩,h5⟩,h6⟩:=h
 refine⟨fun d hd hm=>?_,fun d hd he=>?_,fun d hd hm=>?_,fun hk=>?_,h4,fun hk=>?_,h6⟩
 ·rw[hd]at h1;refine GO h1 (j:=d) (by rw[CU];simp) ?_;rw[testBit_or,D7.2 hm];rfl
 ·rw[hd,he]at h1;refine GO h1 (j:=d) (by rw[CU];simp) ?_;rw[testBit_or,CU];simp
 ·rw[hd]at h2;exact GO h2 (j:=d) (by rw[CU];simp) (D7.2 hm)
 ·rcases h3 with h3|h3
  ·rw[hk]at h3;cases h3
  ·exact h3
 ·rcases h5 with h5|h5
  ·rw[hk]at h5;cases h5
  ·exact h5
def PhP(own:Oper→Bool)(l:List Oper)(gs:List (Option (Tmp×Bool))):List Nat→Array Bool→Prop
 |[],_=>True
 |i::r,listed=>(∃oi B,l[i]? = some oi∧AO1 own l gs i oi B (i::r) listed)∧PhP own l gs r (listed.setIfInBounds i true)
def AIM(l:List Oper):List Nat→Array Bool→Prop
 |[],_=>True
 |i::r,listed=>(i∈rdy l listed∧∀j∈rdy l listed,j=i)∧AIM l r (listed.setIfInBounds i true)
theorem rG{own:Oper→Bool}{tl:List Nat}(hg:KF l gs l=true):∀{R:List Nat} {done:Nat} {listed:Array Bool},LL l (R++tl) done listed→phM own l tl R done=true→PhP own l gs R listed
 |[],_,_,_,_=>trivial
 |i::r,done,listed,hL,h=>by
  unfold phM at h;rw[FU,FU]at h;simp only[Bool.and_eq_true,Bool.not_eq_true',List.all_eq_true,Bool.or_eq_true]at h;obtain⟨⟨⟨⟨⟨⟨h1,h2⟩,h3⟩,h4⟩,h5⟩,h6⟩,h7⟩:=h;have hi:i<l.length:=by simpa [Nat.blt_eq]using h1
  have hw:=N5 (l:=l) (i:=i) (js:=afL l 0) (B:=0) (fun p hp=>by
   obtain⟨k,o,e1,e2,e3⟩:=lX (j:=p.1) (m:=p.2) hp;exact⟨o,by rw[e1,Nat.zero_add]; exact e2,e3⟩) (fun b hb=>by simp at hb)
  generalize L8 i (afL l 0) 0=B at *;have hb:∀b,b∈(List.range l.length).filter (fun b=>B.testBit b)↔B.testBit b=true:=fun b=>by rw[List.mem_filter,List.mem_range];refine⟨fun h=>h.2,fun h=>⟨?_,h⟩⟩;obtain⟨o,ho,_⟩:=hw b h;exact(List.getElem?_eq_some_iff.1 ho).1
  refine⟨⟨l[i],(List.range l.length).filter (fun b=>B.testBit b),List.getElem?_eq_getElem hi,⟨hL.ready hi h2 h3,by simp,fun b hbm=>?_,fun b hbm=>?_,fun j oj hj hji hjB hun=>?_⟩⟩,rG hg (hL.next hi) h7⟩
  ·obtain⟨o,ho,e,he,hbi,hon⟩:=hw b ((hb b).1 hbm);exact⟨o,ho,e,he,hbi,hon.imp id fun h=>(hb _).2 h⟩
  ·have hbt:=(hb b).1 hbm;refine hL.un.2 ⟨?_,?_⟩
   ·obtain⟨o,ho,_⟩:=hw b hbt;exact(List.getElem?_eq_some_iff.1 ho).1
   ·cases hd:done.testBit b with
    |false=>rfl
    |true=>exact(GO h4 hbt hd).elim
  ·obtain⟨hlt,hdn⟩:=hL.un.1 hun;have hnb:B.testBit j=false:=by
    cases hd:B.testBit j with
    |false=>rfl
    |true=>exact absurd ((hb j).2 hd) hjB
   rcases List.mem_append.1 (hL.cov j hlt hdn)with hm|hm
   ·rcases List.mem_cons.1 hm with rfl|hr
    ·exact absurd rfl hji
    ·have hp:AAM own l i j=true:=by
      rcases h6 j hr with h6|h6
      ·rw[VT,hnb]at h6;cases h6
      ·exact h6
     obtain⟨a1,a2,a3,a4,a5,a6,a7⟩:=vS (List.getElem?_eq_getElem hi) hj hp;exact⟨hm,VR (_x:=l[i]) a1 (N3 hg hj),VR (_x:=oj) a3 (N3 hg (List.getElem?_eq_getElem hi)),a2,a4,fun hk=>by rw[hk]at a5;simpa using a5,a6,a7⟩
   ·have:=h5 j hm;rw[VT,hnb]at this;cases this
theorem dJ{rest:List Nat}:∀{tl:List Nat} {done:Nat} {listed:Array Bool},LL l (tl++rest) done listed→jG l rest tl done=true→AIM l tl listed
 |[],_,_,_,_=>trivial
 |i::r,done,listed,hL,h=>by
  unfold jG at h;rw[FU]at h;simp only[Bool.and_eq_true,Bool.not_eq_true',List.all_eq_true]at h;obtain⟨⟨⟨⟨⟨h1,h2⟩,h3⟩,h4⟩,h5⟩,h6⟩:=h;have hi:i<l.length:=by simpa [Nat.blt_eq]using h1
  refine⟨⟨hL.ready hi h2 h3,fun j hj=>?_⟩,dJ (hL.next hi) h6⟩;obtain⟨q1,o,ho,_⟩:=mem_ready.1 hj;obtain⟨hlt,hdn⟩:=hL.un.1 q1;rcases List.mem_append.1 (hL.cov j hlt hdn)with hm|hm
  ·rcases List.mem_cons.1 hm with rfl|hr
   ·rfl
   ·exact absurd hj (hL.unready (h4 j hr))
  ·exact absurd hj (hL.unready (h5 j hm))
theorem rH{rest:List Nat}:∀{tl:List Nat} {done:Nat},jG l rest tl done=true→∀i∈tl,i<l.length
 |[],_,_,i,hi=>by cases hi
 |j::r,done,h,i,hi=>by
  unfold jG at h;rw[FU]at h;simp only[Bool.and_eq_true]at h;obtain⟨⟨⟨⟨⟨h1,_⟩,_⟩,_⟩,_⟩,h6⟩:=h;rcases List.mem_cons.1 hi with rfl|hi
  ·simpa [Nat.blt_eq]using h1
  ·exact rH h6 i hi
theorem LL.fold{tl:List Nat}:∀{R:List Nat} {done:Nat} {listed:Array Bool},(∀i∈R,i<l.length)→LL l (R++tl) done listed→LL l tl (R.foldl (fun m i=>Nat.lor m (Nat.shiftLeft 1 i)) done) (R.foldl (fun L i=>L.setIfInBounds i true) listed)
 |[],_,_,_,h=>h
 |i::r,_,_,hi,h=>LL.fold (R:=r) (fun j hj=>hi j (by simp[hj])) (h.next (hi i (by simp)))
theorem LL.start{rest:List Nat}(h:Nat.beq (OU rest) (2 ^ l.length-1)=true):LL l rest 0 (Array.replicate l.length false):=by
 refine⟨by simp,fun k=>?_,fun k hk _=>?_⟩
 ·rw[Nat.zero_testBit];rcases Nat.lt_or_ge k l.length with h'|h'
  ·simp[Array.getD,h']
  ·simp[Array.getD,Nat.not_lt.2 h']
 ·refine D7.1 ?_;rw[Nat.eq_of_beq_eq_true h,Nat.testBit_two_pow_sub_one];simp[hk]
theorem VU(hT:∀listed fr s fr' s',GN fr s fr' s'→T listed fr s→T listed fr' s')(hD:ADN l)(hg:KF l gs l=true):∀(R:List Nat) (listed:Array Bool) (fr:Fr) (s:St),R.Nodup→P2 Ω.own l R s→PhP Ω.own l gs R listed →
  R8 P Ω W l gs R fr s (T (R.foldl (fun L i=>L.setIfInBounds i true) listed))→lW P Ω W l gs T R.length R listed fr s
 |[],_,_,_,_,_,_,h=>h
 |i::r,listed,fr,s,hnd,hfr,hp,h=>by
  obtain⟨⟨oi',B,hi',hF⟩,hp⟩:=hp;simp only[R8,OT]at h;split at h
  ·rename_i oi hi;obtain rfl:oi'=oi:=Option.some.inj (hi'.symm.trans hi);refine vR hT hD hi r.length (i::r) listed fr s hF rfl hnd hfr ?_;unfold OT;simp only[hi,List.erase_cons_head];refine N4 h fun f1 s1 hled h'=>VU hT hD hg r _ _ _ (List.nodup_cons.1 hnd).2 ?_ hp h';exact P2.led (j:=i) (fun k hk=>hfr k (by simp[hk])) hD hi (fun k hk e=>(List.nodup_cons.1 hnd).1 (by rw[←e];exact hk)) hled
  ·cases h
def ADP(P:Program)(l:List Oper)(gs:List (Option (Tmp×Bool))):List Nat→Fr→St→(Fr→St→Prop)→Prop
 |[],fr,s,K=>K fr s
 |i::r,fr,s,K=>match l[i]? with
  |some o=>match RY fr (fZ gs i)with
   |some g=>VI P g o fr s fun fr s=>ADP P l gs r fr s K
   |none=>False
  |none=>False
theorem H6{i:Nat}{o:Oper}{g:Bool}{k:Fr→St→Prop}{Q:Exit→Act→World→Prop}{K:Act→World→Prop}(hR:J0 n N G0 G fr s a w)(hN:M5 N l=true)(hg:KF l gs l=true)(hi:l[i]? = some o)(hgd:RY fr (fZ gs i)=some g)
  (h:VI P g o fr s k) (hK:∀G' a' w' fr' s',J0 n N G0 G' fr' s' a' w'→k fr' s'→K a' w'):wpOpIn (wf ρ) 0 P l.toArray Q i K a w:=by
 have hw:=cE (ops:=l.toArray) hR.fr (by simpa using N3 hg hi) hgd
 obtain⟨h1,h2⟩:=YT (ρ:=ρ) hR (cY hN (List.mem_of_getElem? hi)) h
 unfold wpOpIn
 simp only[List.getElem?_toArray,hi,hw]
 cases g with
 |true=>exact h1 rfl _ _ hK
 |false=>
  obtain⟨fr',s',hR',hk⟩:=h2 rfl
  exact⟨fun _ _=>trivial,hK _ _ _ _ _ hR' hk⟩
theorem dK{K:Exit→Fr→St→Prop}(hN:M5 N l=true)(hg:KF l gs l=true){t:Nat}{C:Fr→St→Prop}{L:Array Bool}(hC:∀fr s G a w,C fr s→J0 n N G0 G fr s a w→wpAnyIn (wf ρ) 0 P .any l.toArray (MM n N G0 K) t L a w) :
  ∀(tl:List Nat) (listed:Array Bool) (G:Gh) (fr:Fr) (s:St) (a:Act) (w:World),tl.foldl (fun L i=>L.setIfInBounds i true) listed=L→AIM l tl listed→J0 n N G0 G fr s a w→ADP P l gs tl fr s C →
  wpAnyIn (wf ρ) 0 P .any l.toArray (MM n N G0 K) (tl.length+t) listed a w
 |[],listed,G,fr,s,a,w,hL,_,hR,h=>by rw[show([]:List Nat).length+t=t from Nat.zero_add t];subst hL;exact hC _ _ _ _ _ h hR
 |i::r,listed,G,fr,s,a,w,hL,ht,hR,h=>by
  obtain⟨⟨e1,e2⟩,ht⟩:=ht;rw[show(i::r).length+t=(r.length+t)+1 by simp only[List.length_cons];omega];refine⟨fun h0=>(by rw[show rdy l listed=[] from h0]at e1;cases e1),fun j hj=>?_⟩;have:j=i:=e2 j hj;subst this;simp only[ADP]at h;split at h
  ·rename_i o ho;split at h
   ·rename_i g hgd;exact H6 hR hN hg ho hgd h fun G' a' w' fr' s' hR' hk=>dK hN hg hC r _ G' fr' s' a' w' hL ht hR' hk
   ·cases h
  ·cases h
theorem dL{K:Exit→Fr→St→Prop}(hN:M5 N l=true)(hg:KF l gs l=true){t:Nat}(hT:∀listed fr s G a w,T listed fr s→J0 n N G0 G fr s a w→wpAnyIn (wf ρ) 0 P .any l.toArray (MM n N G0 K) t listed a w) :
  ∀(m:Nat) (R:List Nat) (listed:Array Bool) (G:Gh) (fr:Fr) (s:St) (a:Act) (w:World),J0 n N G0 G fr s a w→lW P Ω W l gs T m R listed fr s→wpAnyIn (wf ρ) 0 P .any l.toArray (MM n N G0 K) (m+t) listed a w
 |0,_,listed,G,fr,s,a,w,hR,h=>by rw[Nat.zero_add];exact hT _ _ _ _ _ _ h hR
 |m+1,R,listed,G,fr,s,a,w,hR,h=>by
  rw[Nat.add_right_comm];refine⟨fun h0=>absurd h0 h.1,fun j hj=>?_⟩;have h':=(h.2 j hj).2;unfold OT at h';split at h'
  ·rename_i o ho;have main:∀(g:Bool),RY fr (fZ gs j)=some g→VI P g o fr s (lW P Ω W l gs T m (R.erase j) (listed.setIfInBounds j true))→wpOpIn (wf ρ) 0 P l.toArray (MM n N G0 K) j (wpAnyIn (wf ρ) 0 P .any l.toArray (MM n N G0 K) (m+t) (listed.setIfInBounds j true)) a w:=fun g hgd hst=>
    H6 hR hN hg ho hgd hst fun G' a' w' fr' s' hR' hk=>dL hN hg hT m _ _ G' fr' s' a' w' hR' hk
   rcases h' with⟨g,v,⟨h1,h2⟩,h3⟩|⟨r,d,⟨h1,h2,h3⟩,h4⟩|⟨l1,q,γ,r,⟨h1,h2,h3⟩,h4⟩|⟨l1,q,r,d,ha,h4⟩
   ·refine main g h1 ?_;rcases h2 with⟨s0,h2,h2'⟩|⟨f,args,h2,_,h2'⟩|h2|⟨rfl,_⟩
    ·exact .inl (EA (Ω:=Ω) (.inl ⟨v,qX h2.sub h2',h3⟩))
    ·exact .inl (EA (Ω:=Ω) (.inr (.inl ⟨f,args,v,h2,h2',h3⟩)))
    ·exact .inl (EA (Ω:=Ω) (.inl ⟨v,h2.val,h3⟩))
    ·exact .inr (.inl ⟨rfl,v,h3⟩)
   ·exact main true h1 (.inl (EA (Ω:=Ω) (.inr (.inr ⟨r,d,rfl,h2,h3,h4⟩))))
   ·exact main true h1 (.inl ((EH h3).2.2.2 _ h4))
   ·exact main true ha.1 (.inl (ha.spec.2.2 _ h4))
  ·cases h'
theorem J0.same(h:J0 n N G0 G fr s a w)(hs:GN fr s fr' s'):J0 n N G0 G fr' s' a w :=
 ⟨h.le,h.inv.congr fun l k=>(hs.p l k).symm,fun k c v e=>h.fr k c v ((hs.f k).trans e),h.size,hs.n.symm.trans h.lvl,h.marks⟩
def dM:List Nat→Bool
 |[]=>true
 |x::r=>!(r.contains x)&&dM r
theorem P4:∀{r:List Nat},dM r=true→r.Nodup
 |[],_=>.nil
 |x::r,h=>by simp only[dM,Bool.and_eq_true,Bool.not_eq_true']at h;exact List.nodup_cons.2 ⟨fun hm=>by rw[List.contains_iff_mem.2 hm]at h;exact absurd h.1 (by simp),P4 h.2⟩
def dN:List Oper→Bool
 |[]=>true
 | o :: r=>(match o.dst with
  |some d=>r.all fun p=>match p.dst with
   |some d'=>!(Nat.beq d' d)
   |none=>true
  | none=>true)&&dN r
theorem TA:∀{l:List Oper},dN l=true→ADN l
 |[],_,j,k,o,o',d,h,_,_,_=>by simp at h
 |p::r,hB,j,k,o,o',d,h1,h2,hne,hd=>by
  simp only[dN,Bool.and_eq_true]at hB;have look:∀{x y:Oper} {e:Nat},(match x.dst with
   |some d=>r.all fun p=>match p.dst with
    |some d'=>!(Nat.beq d' d)
    |none=>true
   | none=>true)=true→y∈r→x.dst=some e→y.dst≠some e:=by
   intro _ y e hx hy hxe hye
   simp only[hxe]at hx
   have:=List.all_eq_true.1 hx y hy
   simp[hye]at this
  cases j with
  |zero=>
   cases k with
   |zero=>exact absurd rfl hne
   |succ k=>
    simp at h1 h2
    subst h1
    exact look hB.1 (List.mem_of_getElem? h2) hd
  |succ j=>
   cases k with
   |zero=>
    simp at h1 h2
    subst h2
    intro hd'
    exact look hB.1 (List.mem_of_getElem? h1) hd' hd
   |succ k=>exact TA hB.2 j k o o' d (by simpa using h1) (by simpa using h2) (fun e=>hne (by rw[e])) hd
def dO(own:Oper→Bool)(l:List Oper)(R:List Nat)(L:AA):Bool:=R.all fun j=>match l[j]? with
 |some o=>!(kA own o)||match o.dst with
  |some d=>(L.get d).isNone
  |none=>true
 |none=>true
theorem rI{own:Oper→Bool}{R:List Nat}(h:dO own l R s.loc=true):P2 own l R s:=by intro j hj o d ho hk hd;have:=List.all_eq_true.1 h j hj;simp only[ho,hk,Bool.not_true,Bool.false_or,hd,Option.isNone_iff_eq_none]at this;simpa [St.get]using this
abbrev ZD:=List (List Nat×List Nat)
def OV(S:ZD):List Nat:=S.flatMap fun p=>p.1++p.2
def AIN(done:Nat)(R:List Nat):Nat:=R.foldl (fun m i=>Nat.lor m (Nat.shiftLeft 1 i)) done
def AO2(own:Oper→Bool)(l:List Oper):ZD→Nat→Bool
 |[],_=>true
 |(R,tl)::S,done=>R.all (Nat.blt · l.length)&&dM R&&phM own l (tl++OV S) R done&&H5 (AIN done R) fun d1=>jG l (OV S) tl d1&&H5 (AIN d1 tl) (AO2 own l S)
def P5(own:Oper→Bool)(N:Nat)(gs:List (Option (Tmp×Bool)))(S:ZD)(l:List Oper):Bool :=
 M5 N l&&KF l gs l&&dN l&&AO2 own l S 0&&Nat.beq (OV S).length l.length&&Nat.beq (OU (OV S)) (2 ^ l.length-1)
def rJ(P:Program)(Ω:H4 P)(l:List Oper)(gs:List (Option (Tmp×Bool))):ZD→Fr→St→(Fr→St→Prop)→Prop
 |[],fr,s,K=>K fr s
 |(R,tl)::S,fr,s,K=>∃W,dO Ω.own l R s.loc=true∧R8 P Ω W l gs R fr s fun fr s=>ADP P l gs tl fr s fun fr s=>rJ P Ω l gs S fr s K
theorem dP{Ω:H4 P}{W:AN}:∀(R:List Nat) (fr:Fr) (s:St) (k k':Fr→St→Prop),(∀f1 s1,k f1 s1→k' f1 s1)→R8 P Ω W l gs R fr s k→R8 P Ω W l gs R fr s k'
 |[],_,_,_,_,hk,h=>hk _ _ h
 |i::r,fr,s,k,k',hk,h=>by
  simp only[R8,OT]at h⊢;split at h
  ·exact N4 h fun f1 s1 _ h'=>dP r _ _ _ _ hk h'
  ·cases h
theorem YX{K:Exit→Fr→St→Prop}{Ω:H4 P}(hN:M5 N l=true)(hg:KF l gs l=true)(hD:ADN l):∀(S:ZD) (done:Nat) (listed:Array Bool),LL l (OV S) done listed→AO2 Ω.own l S done=true →
  ∀(G:Gh) (fr:Fr) (s:St) (a:Act) (w:World),J0 n N G0 G fr s a w→rJ P Ω l gs S fr s (K .normal)→wpAnyIn (wf ρ) 0 P .any l.toArray (MM n N G0 K) (OV S).length listed a w
 |[],done,listed,hL,_,G,fr,s,a,w,hR,h=>by refine⟨List.eq_nil_iff_forall_not_mem.2 fun j hj=>?_,G,fr,s,hR,h⟩;obtain⟨h1,o,ho,_⟩:=mem_ready.1 hj;obtain⟨hlt,hdn⟩:=hL.un.1 h1;exact absurd (hL.cov j hlt hdn) (by simp[OV])
 |(R,tl)::S,done,listed,hL,hM,G,fr,s,a,w,hR,h=>by
  unfold AO2 at hM;rw[FU,FU]at hM;simp only[Bool.and_eq_true]at hM;obtain⟨⟨⟨h1,h2⟩,h3⟩,h4,h5⟩:=hM;have hfl:OV ((R,tl)::S)=R++(tl++OV S):=by simp[OV]
  rw[hfl]at hL;have hL1:=hL.fold (fun i hi=>by simpa [Nat.blt_eq]using List.all_eq_true.1 h1 i hi);have hT:=dJ hL1 h4;have hL2:=hL1.fold (rH h4);have hP:=rG hg hL h3;obtain⟨W,hF,hw⟩:=h;let T:Array Bool→Fr→St→Prop:=fun listed fr s=>∀G a w,J0 n N G0 G fr s a w→wpAnyIn (wf ρ) 0 P .any l.toArray (MM n N G0 K) (tl.length+(OV S).length) listed a w;have hw':R8 P Ω W l gs R fr s (T (R.foldl (fun L i=>L.setIfInBounds i true) listed)) :=
   dP R fr s _ _ (fun f1 s1 h' G a w hR=>dK hN hg (C:=fun fr s=>rJ P Ω l gs S fr s (K .normal)) (fun fr s G a w hc hR=>YX hN hg hD S _ _ hL2 h5 G fr s a w hR hc) tl _ G f1 s1 a w rfl hT hR h') hw
  have hA:=VU (T:=T) (fun listed f1 s1 f2 s2 hs hT G a w hR=>hT G a w (hR.same ⟨fun k=>(hs.f k).symm,fun l k=>(hs.p l k).symm,hs.n.symm⟩)) hD hg R _ fr s (P4 h2) (rI hF) hP hw';have hB:=dL (ρ:=ρ) (K:=K) hN hg (T:=T) (t:=tl.length+(OV S).length) (fun listed f1 s1 G a w hT hR=>hT G a w hR) R.length R _ G fr s a _ hR hA;rw[hfl];simpa using hB
theorem ADQ{id:Nat}{K:Exit→Fr→St→Prop}(Ω:H4 P)(hm:P.follows .mixedOrders=true)(gs:List (Option (Tmp×Bool)))(S:ZD)(hB:P5 Ω.own N gs S l=true)
  (h:rJ P Ω l gs S fr s (K .normal)):BQ P n N ρ (.region id l.toArray true) K fr s:=by
 simp only[P5,Bool.and_eq_true]at hB
 obtain⟨⟨⟨⟨⟨h1,h2⟩,h3⟩,h4⟩,h5⟩,h6⟩:=hB
 intro G0 G a w hR
 refine wpIn_region_any hm ?_
 have hR':J0 n N G0 G fr s a { w with drawn:=w.drawn+1 }:=⟨hR.le,hR.inv.drawn _,hR.fr,hR.size,hR.lvl,hR.marks⟩
 have:=YX (ρ:=ρ) (K:=K) (Ω:=Ω) h1 h2 (TA h3) S 0 _ (LL.start (l:=l) h6) h4 G fr s a _ hR' h
 rw[Nat.eq_of_beq_eq_true h5]at this
 simpa using this
end Go.Pg
