/- Contracts: out. No condition. -/
import Derived.Test.YtmnlpgjklibndaaGreatW2
open Go.Proofs.Tryz renaming prog->br,f167->bt,underlying239->cj
open List renaming map_cons->bj,drop_eq_getElem_cons->bq,mem_cons->bw,nodup_cons->bx,map_append->bz,mapM_cons->bc,any_cons->bg,map->bh,mem_map->bn,map_nil->bp
set_option maxRecDepth 100000
set_option linter.unusedSimpArgs false
open Go Go.Pg Go.Proofs
namespace Go.Proofs.Tryz.Op
def I8(x:Int):Int:=if 1<x then 1 else x
def PC(l:List Int):List Int:=l.map I8
theorem AZ1(n d t c:Nat)(fr:Fr)(s:St)(a b:Int):stepK br (BU br ann kn (n+200)) (some d) (.call true none (.func 166) [.tmp t]) ⟨c,(t,true,.list true [[.int .i64 a],[.int .i64 b]])::fr,s⟩ =
  some ⟨c+1,(d,true,.int .i64 (if b<a then b else a))::(t,true,.list true [[.int .i64 a],[.int .i64 b]])::fr,s.put s.up.length d c .dead⟩:=by
 rw[WT (f:=166) (first:=[]) (cap:=[]) (vs:=[.list true [[.int .i64 a],[.int .i64 b]]]) (r:=.int .i64 (if b<a then b else a)) (by simp) (by simp) (by kernel_rfl) (by simp) (by simpa using k98 n a b)]
 rfl
theorem AZ2(n:Nat)(h:List Int)(hl:h.length=4):A4 br kn (AF br ann kn (n+300)) 187 [.agg (h.map i)]=some (.agg ((PC h).map i)):=by obtain⟨a0,a1,a2,a3,rfl⟩:=WZ hl;rw[AP rfl,AQ Tryz.func187 A35 rfl (by simp)];have o1:=fun d t c fr s a b=>AZ1 (n+89) d t c fr s a b;have o2:=fun d t c fr s a b=>AZ1 (n+88) d t c fr s a b;simp only[Nat.add_assoc,Nat.reduceAdd]at o1 o2;simp[AT1,AJ,AE,o1,o2,PC,I8]
structure Mom where
 k:Int
 ch:List Int
 tk:List Int
deriving DecidableEq
structure Mom.ok(m:Mom):Prop where
 ch:m.ch.length=4
 tk:m.tk.length=4
 wk:cL m.k
 wc:∀x∈m.ch,cL x
 wt:∀x∈m.tk,cL x
def OD(m:Mom):List V:=i m.k::(m.ch.map i++m.tk.map i)
def LY(p:Mom×Bool):V×V:=(.agg (OD p.1),.bool p.2)
theorem kl3(d:Nat){n:Int}(h:(Lit.int .i64 n).wf=true):br.keyLits (d+1) 3 [.int .i64 n]=some [.int .i64 n]:=by unfold Program.keyLits;rw[Tryz.underlying3];simp only;rw[if_pos ⟨trivial,h⟩]
theorem AH1(d:Nat){a b c e:Int}(ha:(Lit.int .i64 a).wf=true)(hb:(Lit.int .i64 b).wf=true)(hc:(Lit.int .i64 c).wf=true)(he:(Lit.int .i64 e).wf=true) :
  br.keyLits (d+2) 160 [.int .i64 a,.int .i64 b,.int .i64 c,.int .i64 e]=some [.int .i64 a,.int .i64 b,.int .i64 c,.int .i64 e]:=by
 have c3:br.cellsOf 3=1:=T1
 unfold Program.keyLits
 rw[Tryz.underlying160]
 simp only
 rw[if_pos (by rw[YF];rfl),show List.range 4=[0,1,2,3] from rfl]
 simp[bc,c3,kl3 d ha,kl3 d hb,kl3 d hc,kl3 d he]
theorem AZ4(d:Nat){k a0 a1 a2 a3 b0 b1 b2 b3:Int}(hk:(Lit.int .i64 k).wf=true)(h0:(Lit.int .i64 a0).wf=true)(h1:(Lit.int .i64 a1).wf=true)(h2:(Lit.int .i64 a2).wf=true)(h3:(Lit.int .i64 a3).wf=true)
  (g0:(Lit.int .i64 b0).wf=true) (g1:(Lit.int .i64 b1).wf=true) (g2:(Lit.int .i64 b2).wf=true) (g3:(Lit.int .i64 b3).wf=true) :
  (br.keyLits (d+3) 239 [.int .i64 k,.int .i64 a0,.int .i64 a1,.int .i64 a2,.int .i64 a3,.int .i64 b0,.int .i64 b1,.int .i64 b2,.int .i64 b3]).isSome=true:=by
 have c3:br.cellsOf 3=1:=T1
 have UJ:br.cellsOf 160=4:=YF
 unfold Program.keyLits
 rw[cj]
 simp only
 rw[if_pos (by rw[YH];exact⟨rfl,by decide +kernel⟩)]
 simp[bc,c3,UJ,kl3 (d+1) hk,AH1 d h0 h1 h2 h3,AH1 d g0 g1 g2 g3]
theorem AZ5:br.keyType 239=true:=by kernel_rfl
theorem AZ6:br.types.size+1=(br.types.size-2)+3:=by have:2<=br.types.size:=of_decide_eq_true (by kernel_rfl);omega
theorem AA4(m:Mom)(h:m.ok):PV br 239 (.agg (OD m))=some (OD m):=by
 obtain⟨k,ch,tk⟩:=m;obtain⟨a0,a1,a2,a3,rfl⟩:=WZ h.ch;obtain⟨b0,b1,b2,b3,rfl⟩:=WZ h.tk;have hk:=ZO h.wk;have hc:=h.wc;have ht:=h.wt;simp only[bw,List.not_mem_nil,or_false,forall_eq_or_imp,forall_eq]at hc ht;have q:=AZ4 (br.types.size-2) hk (ZO hc.1) (ZO hc.2.1) (ZO hc.2.2.1) (ZO hc.2.2.2) (ZO ht.1) (ZO ht.2.1) (ZO ht.2.2.1) (ZO ht.2.2.2);rw[<-AZ6]at q;have hf:(Value.agg #[.int .i64 k,.int .i64 a0,.int .i64 a1,.int .i64 a2,.int .i64 a3,.int .i64 b0,.int .i64 b1,.int .i64 b2,.int .i64 b3]).formed br 239=true:=by unfold Value.formed;rw[cj];simp[YH]
 have hko:(keyOf br 239 (.agg #[.int .i64 k,.int .i64 a0,.int .i64 a1,.int .i64 a2,.int .i64 a3,.int .i64 b0,.int .i64 b1,.int .i64 b2,.int .i64 b3])).isSome=true:=by unfold keyOf;rw[cj];simp only;rw[if_pos (by rw[AZ5,hf];rfl),Option.isSome_map];exact q
 have hp:DC (OD ⟨k,[a0,a1,a2,a3],[b0,b1,b2,b3]⟩)=some [.int .i64 k,.int .i64 a0,.int .i64 a1,.int .i64 a2,.int .i64 a3,.int .i64 b0,.int .i64 b1,.int .i64 b2,.int .i64 b3]:=rfl;unfold PV;simp only[hp];rw[if_pos hko]
theorem pI:jC br 239=true:=by kernel_rfl
theorem pJ:pZ br 220=some (239,4):=by kernel_rfl
theorem iI:∀(x y:List Int),x.length=y.length->uD (x.map i) (y.map i)=some (x==y)
 |[],[],_=>rfl
 |a::x,b::y,h=>by have ih:=iI x y (by simpa using h);simp only[bj];show(if IntKind.i64=IntKind.i64 then(match uD (x.map i) (y.map i)with|some r=>some ((a==b)&&r)|none=>none) else none)=_;rw[if_pos rfl,ih];rfl
theorem AZ7(m n:Mom)(hm:m.ok)(hn:n.ok):uD (OD m) (OD n)=some (decide (m=n)):=by
 have:=iI (m.k::(m.ch++m.tk)) (n.k::(n.ch++n.tk)) (by simp[hm.ch,hm.tk,hn.ch,hn.tk]);simp only[bj,bz]at this;show uD (i m.k::(m.ch.map i++m.tk.map i)) (i n.k::(n.ch.map i++n.tk.map i))=_;rw[this];congr 1;obtain⟨k,ch,tk⟩:=m;obtain⟨k',ch',tk'⟩:=n;have h1:=hm.ch;have h2:=hn.ch;simp only at h1 h2;by_cases h:(⟨k,ch,tk⟩:Mom)=⟨k',ch',tk'⟩
 ·simp only[Mom.mk.injEq]at h;obtain⟨rfl,rfl,rfl⟩:=h;simp
 ·rw[decide_eq_false h,beq_eq_false_iff_ne];intro hh;simp only[List.cons.injEq]at hh;obtain⟨rfl,hh⟩:=hh;obtain⟨rfl,rfl⟩:=List.append_inj hh (by rw[h1,h2]);exact h rfl
def X8(m:Mom):List (Mom×Bool)->Nat->List Nat
 |[],_=>[]
 |p::L,j=>if p.1=m then j::X8 m L (j+1) else X8 m L (j+1)
theorem cO(m:Mom)(hm:m.ok):∀(L:List (Mom×Bool)) (j:Nat),(∀p∈L,p.1.ok)->IC br 239 (OD m) (L.map LY) j=some (X8 m L j)
 |[],_,_=>rfl
 |p::L,j,h=>by have ih:=cO m hm L (j+1) (fun q hq=>h q (by simp[hq]));simp only[bj,LY,IC,AA4 p.1 (h p (by simp)),AZ7 p.1 m (h p (by simp)) hm];have ih':IC br 239 (OD m) (bh LY L) (j+1)=some (X8 m L (j+1)):=ih;rw[ih'];simp[X8]
def GY(m:Mom):List (Mom×Bool)->Option Bool
 |[]=>none
 |p::L=>if p.1=m then some p.2 else GY m L
def KI(m:Mom)(b:Bool):List (Mom×Bool)->List (Mom×Bool)
 |[]=>[(m,b)]
 |p::L=>if p.1=m then(m,b)::L else p::KI m b L
structure pK(L:List (Mom×Bool)):Prop where
 ok:∀p∈L,p.1.ok
 nd:(L.map (·.1)).Nodup
theorem pK.tail{p:Mom×Bool}{L:List (Mom×Bool)}(h:pK (p::L)):pK L:=⟨fun q hq=>h.ok q (by simp[hq]),(bx.1 h.nd).2⟩
theorem iJ(m m':Mom)(b:Bool):∀L,GY m' (KI m b L)=if m=m' then some b else GY m' L
 |[]=>by simp[KI,GY]
 |p::L=>by
  have ih:=iJ m m' b L;unfold KI;split
  ·rename_i h;simp only[GY,h];split<;>rfl
  ·rename_i h;simp only[GY,ih];split
   ·rename_i h2;rw[if_neg (by rw[<-h2];exact fun hh=>h hh.symm)]
   ·rfl
theorem iK(m:Mom)(b:Bool):∀L,∀q∈(KI m b L).map (·.1),q=m\/q∈L.map (·.1)
 |[],q,hq=>by simp[KI]at hq;exact .inl hq
 |p::L,q,hq=>by
  unfold KI at hq;split at hq
  ·simp at hq;rcases hq with h|h
   ·exact .inl h
   ·exact .inr (by simp[h])
  ·simp only[bj,bw]at hq;rcases hq with h|h
   ·exact .inr (by simp[h])
   ·rcases iK m b L q h with h|h
    ·exact .inl h
    ·exact .inr (by simp only[bj,bw];exact .inr h)
theorem pL{m:Mom}(b:Bool)(hm:m.ok):∀{L},pK L->pK (KI m b L)
 |[],_=>⟨by simp[KI,hm],by simp[KI]⟩
 |p::L,h=>by
  have ih:=pL b hm h.tail;unfold KI;split
  ·rename_i hp;refine⟨fun q hq=>?_,?_⟩
   ·simp only[bw]at hq;rcases hq with rfl|hq
    ·exact hm
    ·exact h.ok q (by simp[hq])
   ·have:=h.nd;simp only[bj,hp]at this|-;exact this
  ·rename_i hp;refine⟨fun q hq=>?_,?_⟩
   ·simp only[bw]at hq;rcases hq with rfl|hq
    ·exact h.ok q (by simp)
    ·exact ih.ok q hq
   ·simp only[bj,bx];refine⟨fun hh=>?_,ih.nd⟩;rcases iK m b L p.1 hh with hh|hh
    ·exact hp hh
    ·exact(bx.1 h.nd).1 hh
theorem Q4(m:Mom):∀(L:List (Mom×Bool)) (j:Nat),m∉L.map (·.1)->X8 m L j=[]/\GY m L=none/\∀b,KI m b L=L++[(m,b)]
 |[],j,_=>⟨rfl,rfl,fun _=>rfl⟩
 |p::L,j,h=>by simp only[bj,bw,not_or]at h;obtain⟨i1,i2,i3⟩:=Q4 m L (j+1) h.2;have hp:¬p.1=m:=fun hh=>h.1 hh.symm;exact⟨by simp[X8,hp,i1],by simp[GY,hp,i2],fun b=>by simp[KI,hp,i3]⟩
theorem W9(m:Mom):∀(L:List (Mom×Bool)) (j:Nat),m∈L.map (·.1)->(L.map (·.1)).Nodup->∃k,X8 m L j=[j+k]/\(∃b,L[k]? = some (m,b)/\GY m L=some b)/\∀b,KI m b L=L.set k (m,b)
 |p::L,j,h,hn=>by
  simp only[bj,bx]at hn;by_cases hp:p.1=m
  ·refine⟨0,?_,⟨p.2,?_,?_⟩,fun b=>?_⟩
   ·simp[X8,hp,(Q4 m L (j+1) (by rw[<-hp];exact hn.1)).1]
   ·simp[<-hp]
   ·simp[GY,hp]
   ·simp[KI,hp]
  ·simp only[bj,bw]at h;obtain⟨k,i1,⟨b,i2,i3⟩,i4⟩:=W9 m L (j+1) (h.resolve_left fun hh=>hp hh.symm) hn.2;refine⟨k+1,?_,⟨b,?_,?_⟩,fun b=>?_⟩
   ·simp[X8,hp,i1];omega
   ·simpa using i2
   ·simp[GY,hp,i3]
   ·simp[KI,hp,i4]
theorem AE7:OX br 4=some (.bool false):=by kernel_rfl
theorem AA5{s:St}{l q g:Nat}{L:List (Mom×Bool)}{m:Mom}(hs:s.get l q=some (g,.map (L.map LY)))(hL:pK L)(hm:m.ok) :
  CG br s 220 (.mp l q g) (.agg (OD m)) true=some (.tup [.bool ((GY m L).getD false),.bool (GY m L).isSome]):=by
 unfold CG
 simp only[pJ,hs,pI,AA4 m hm,cO m hm L 0 hL.ok,and_self,if_true]
 by_cases h:m∈L.map (·.1)
 ·obtain⟨k,i1,⟨b,i2,i3⟩,_⟩:=W9 m L 0 h hL.nd;simp[i1,i2,i3,LY]
 ·obtain⟨i1,i2,_⟩:=Q4 m L 0 h;simp[i1,i2,AE7]
theorem AE8{s:St}{l q g:Nat}{L:List (Mom×Bool)}{m:Mom}{b:Bool}(hs:s.get l q=some (g,.map (L.map LY)))(hL:pK L)(hm:m.ok) :
  ID br s 220 (.mp l q g) (.agg (OD m)) (.bool b)=some (l,q,g,(KI m b L).map LY):=by
 unfold ID
 simp only[pJ,hs,pI,AA4 m hm,cO m hm L 0 hL.ok,and_self,if_true]
 by_cases h:m∈L.map (·.1)
 ·obtain⟨k,i1,_,i4⟩:=W9 m L 0 h hL.nd;simp[i1,i4,LY]
 ·obtain⟨i1,_,i4⟩:=Q4 m L 0 h;simp[i1,i4,LY]
def endsP(b:A5):Nat->Nat->AU->Bool
 |0,k,s=>b.counts.all (countOne s.money k)
 | d+1,k,s=>b.counts.all (countOne s.money k)&&(match b.lines[k]? with
  |some l=>(readingsP b.chairs l).any fun x=>(BS b.coin s k x).2&&endsP b d (k+1) (BS b.coin s k x).1
  | none=>false)
structure pM(s s':AU):Prop where
 lc:s.ch.length=s'.ch.length
 lt:s.tk.length=s'.tk.length
 ch:∀j,s.ch.getD j 0=0↔s'.ch.getD j 0=0
 tk:∀j,s.tk.getD j 0=0↔s'.tk.getD j 0=0
 mo:s.money=s'.money
theorem NU{l l':List Int}(hl:l.length=l'.length)(h:∀j,l.getD j 0=0↔l'.getD j 0=0)(n:Nat)(v:Int):∀j,(l.set n v).getD j 0=0↔(l'.set n v).getD j 0=0:=by
 intro j;have:=h j;simp only[List.getD_eq_getElem?_getD,List.getElem?_set]at this|-;by_cases hn:n=j
 ·subst hn;simp only[if_true,hl]
 ·simp only[hn,if_false];exact this
theorem mQ{coin:Int}{s s':AU}(h:pM s s')(k:Int)(l:AK):(BS coin s k l).2=(BS coin s' k l).2/\pM (BS coin s k l).1 (BS coin s' k l).1:=by
 have e1:decide (s.ch.getD l.c.toNat 0=0)=decide (s'.ch.getD l.c.toNat 0=0):=decide_eq_decide.2 (h.ch _);have e2:decide (s.tk.getD l.t.toNat 0=0)=decide (s'.tk.getD l.t.toNat 0=0):=decide_eq_decide.2 (h.tk _);unfold BS;simp only[e1,e2];split
 ·exact⟨rfl,h⟩
 ·split
  ·refine⟨rfl,⟨?_,?_,NU h.lc h.ch _ _,NU h.lt h.tk _ _,?_⟩⟩
   ·simpa using h.lc
   ·simpa using h.lt
   ·simp only[h.mo]
  ·refine⟨rfl,⟨?_,?_,NU h.lc h.ch _ _,NU h.lt h.tk _ _,?_⟩⟩
   ·simpa using h.lc
   ·simpa using h.lt
   ·simp only[h.mo]
theorem XA(b:A5):∀(d k:Nat) {s s':AU},pM s s'->endsP b d k s=endsP b d k s'
 |0,k,s,s',h=>by simp only[endsP,h.mo]
 |d+1,k,s,s',h=>by
  simp only[endsP,h.mo];cases b.lines[k]? with
  |none=>rfl
  |some l=>
   simp only
   congr 2
   funext x
   obtain⟨h1,h2⟩:=mQ (coin:=b.coin) h (k:Int) x
   rw[h1,XA b d (k+1) h2]
def X9(l:List Int):Int:=((l.filter fun x=>!decide (x=0)).length:Int)
structure tY(b:A5)(k:Nat)(s:AU):Prop where
 ok:s.ok
 ch:∀x∈s.ch,0<=x/\x<=k
 tk:∀x∈s.tk,0<=x/\x<=k
 mo:s.money=b.box+b.coin*X9 s.ch
def FG(k:Nat)(s:AU):Mom:=⟨k,PC s.ch,PC s.tk⟩
theorem ZS{x:Int}(_h:0<=x):I8 x=0↔x=0:=by unfold I8;split<;>omega
theorem XB{x:Int}(h:0<=x):0<=I8 x/\I8 x<=1:=by unfold I8;split<;>omega
theorem AA6{b:A5}{k:Nat}{s:AU}(h:tY b k s)(hk:k<=1000):(FG k s).ok where
 ch:=by simp[FG,PC,h.ok.ch]
 tk:=by simp[FG,PC,h.ok.tk]
 wk:=M3 (by simp only[FG];omega) (by simp only[FG];omega)
 wc:=by intro x hx;simp only[FG,PC,bn]at hx;obtain⟨y,hy,rfl⟩:=hx;have:=XB (h.ch y hy).1;exact M3 (by omega) (by omega)
 wt:=by intro x hx;simp only[FG,PC,bn]at hx;obtain⟨y,hy,rfl⟩:=hx;have:=XB (h.tk y hy).1;exact M3 (by omega) (by omega)
theorem SB:∀{l l':List Int},(∀x∈l,0<=x)->(∀x∈l',0<=x)->PC l=PC l'->(∀j,l.getD j 0=0↔l'.getD j 0=0)/\X9 l=X9 l'/\l.length=l'.length
 |[],[],_,_,_=>⟨fun _=>Iff.rfl,rfl,rfl⟩
 |[],_::_,_,_,h=>by simp[PC]at h
 |_::_,[],_,_,h=>by simp[PC]at h
 |a::l,a'::l',h1,h2,h=>by
  simp only[PC,bj,List.cons.injEq]at h;obtain⟨i1,i2,i3⟩:=SB (l:=l) (l':=l') (fun x hx=>h1 x (by simp[hx])) (fun x hx=>h2 x (by simp[hx])) h.2;have e1:=ZS (h1 a (by simp));have e2:=ZS (h2 a' (by simp));have e:a=0↔a'=0:=by rw[<-e1,<-e2,h.1]
  refine⟨fun j=>?_,?_,by simp[i3]⟩
  ·cases j with
   |zero=>simpa using e
   |succ j=>simpa using i1 j
  ·unfold X9 at i2|-;by_cases ha:a=0
   ·have ha':=e.1 ha;simp only[List.filter_cons,ha,ha',decide_true,Bool.not_true,Bool.false_eq_true,if_false];exact i2
   ·have ha':¬a'=0:=fun hh=>ha (e.2 hh);simp only[List.filter_cons,ha,ha',decide_false,Bool.not_false,if_true,List.length_cons];omega
theorem tZ{b:A5}{k k':Nat}{s s':AU}(h:tY b k s)(h':tY b k' s')(e:FG k s=FG k' s'):k=k'/\pM s s':=by simp only[FG,Mom.mk.injEq]at e;obtain⟨e0,e1,e2⟩:=e;obtain⟨i1,i2,i3⟩:=SB (fun x hx=>(h.ch x hx).1) (fun x hx=>(h'.ch x hx).1) e1;obtain⟨j1,j2,j3⟩:=SB (fun x hx=>(h.tk x hx).1) (fun x hx=>(h'.tk x hx).1) e2;exact⟨by omega,⟨i3,j3,i1,j1,by rw[h.mo,h'.mo,i2]⟩⟩
def S4(b:A5)(L:List (Mom×Bool)):Prop:=∀(k:Nat) (s:AU) (v:Bool),k<=b.lines.length->tY b k s->GY (FG k s) L=some v->v=endsP b (b.lines.length-k) k s
theorem uA{b:A5}{L:List (Mom×Bool)}(h:S4 b L){k:Nat}{s:AU}(hm:tY b k s):S4 b (KI (FG k s) (endsP b (b.lines.length-k) k s) L):=by
 intro k' s' v hk' hm' hv;rw[iJ]at hv;split at hv
 ·rename_i e;obtain⟨rfl,ha⟩:=tZ hm hm' e;rw[<-XA b _ _ ha];exact(Option.some.inj hv).symm
 ·exact h k' s' v hk' hm' hv
def XC(x:Int):Int:=if x=0 then 0 else 1
theorem ZT(a:Int)(l:List Int):X9 (a::l)=XC a+X9 l:=by
 unfold X9 XC;by_cases ha:a=0
 ·simp[ha]
 ·simp[ha];omega
theorem XD:∀(l:List Int) (n:Nat) (v:Int),n<l.length->X9 (l.set n v)=X9 l-XC (l.getD n 0)+XC v
 |a::l,0,v,_=>by simp only[List.set_cons_zero,ZT,List.getD_cons_zero];omega
 |a::l,n+1,v,h=>by have:=XD l n v (by simpa using h);simp only[List.set_cons_succ,ZT,List.getD_cons_succ,this];omega
theorem ZU(b:A5):tY b 0 (BE b) where
 ok:=⟨rfl,rfl⟩
 ch:=by intro x hx;simp[BE]at hx;omega
 tk:=by intro x hx;simp[BE]at hx;omega
 mo:=by simp[BE,X9]
theorem NV{l:List Int}{k:Nat}{n:Nat}{v:Int}(h:∀x∈l,0<=x/\x<=k)(h0:0<=v)(h1:v<=(k+1:Nat)):∀x∈l.set n v,0<=x/\x<=(k+1:Nat):=by
 intro x hx;rcases List.mem_or_eq_of_mem_set hx with hx|rfl
 ·have:=h x hx;omega
 ·exact⟨h0,h1⟩
theorem iL{b:A5}{k:Nat}{s:AU}{l:AK}(h:tY b k s)(hc0:0<=l.c)(hc:l.c<4)(h2:(BS b.coin s k l).2=true):tY b (k+1) (BS b.coin s k l).1:=by
 have hlen:l.c.toNat<s.ch.length:=by rw[h.ok.ch];omega
 have e1:=XD s.ch l.c.toNat 0 hlen;have e2:=XD s.ch l.c.toNat ((k:Int)+1) hlen;have hz:XC 0=0:=rfl;have hk:XC ((k:Int)+1)=1:=by unfold XC;rw[if_neg (by omega)]
 have hm:=h.mo;unfold BS at h2|-;simp only at h2|-;by_cases ho:l.k=2
 ·simp only[ho,decide_true]at h2|-;split at h2
  ·cases h2
  ·rename_i hn;simp only[Bool.bne_true,Bool.not_not,Bool.or_eq_true,decide_eq_true_eq,not_or]at hn;rw[if_neg (by simpa using hn)];simp only[if_true];refine⟨⟨by simp[h.ok.ch],by simp[h.ok.tk]⟩,NV h.ch (by omega) (by omega),NV h.tk (by omega) (by omega),?_⟩;simp only;have h1:XC (s.ch.getD l.c.toNat 0)=1:=by unfold XC;rw[if_neg hn.1]
   rw[e1,hm,h1,hz,Int.mul_add,Int.mul_sub];omega
 ·simp only[ho,decide_false]at h2|-;split at h2
  ·cases h2
  ·rename_i hn;simp only[Bool.bne_false,Bool.or_eq_true,Bool.not_eq_true',decide_eq_false_iff_not,not_or,Decidable.not_not]at hn;rw[if_neg (by simpa using hn)];simp only[Bool.false_eq_true,if_false];refine⟨⟨by simp[h.ok.ch],by simp[h.ok.tk]⟩,NV h.ch (by omega) (by omega),NV h.tk (by omega) (by omega),?_⟩;simp only;have h1:XC (s.ch.getD l.c.toNat 0)=0:=by unfold XC;rw[if_pos hn.1]
   rw[e2,hm,h1,hk,Int.mul_add,Int.mul_sub];omega
theorem XF(s:St)(f:Nat):∀l:List Int,(l.map i).mapM (AV s (f+1))=some (l.map i)
 |[]=>rfl
 |a::l=>by have e:AV s (f+1) (i a)=some (i a):=rfl;simp only[bj,bc,e,XF s f l];rfl
theorem AE9(s:St)(m:Mom):BM s (.agg (OD m))=some (.agg (OD m)):=by have:=XF s 2 (m.k::(m.ch++m.tk));simp only[bj,bz]at this;show((i m.k::(m.ch.map i++m.tk.map i)).mapM (AV s 3)).map V.agg=_;rw[this];rfl
@[simp] theorem uB(s:St)(L:List (Mom×Bool)):BT s (.map (L.map LY))=.map (L.map LY):=by
 have:BN s (.map (L.map LY))=some (.map (L.map LY)):=by unfold BN;simp only;rw[IX];intro x hx;simp only[bn]at hx;obtain⟨p,_,rfl⟩:=hx;simp only[LY,AE9];rfl
 unfold BT;rw[this]
@[simp] theorem ASI(ps:List (Nat×V)):CJ br 222 ps=if (ps.all fun p=>BC p.2)=true then iV .agg (CW (fun i=>[(0,5),(5,1)][i]?) [V.int .i64 0,.int .i64 0,.int .i64 0,.nil,.nil,.raw (.map none)] ps) else none:=EB (by kernel_rfl) Tryz.underlying222 (by kernel_rfl) (by kernel_rfl) ps
@[simp] theorem A3A{P:Program}(r:Operand->Option V):FD P (.mkM none) r=[]:=rfl
def XG(b:A5):List (List (Mom×Bool))->AB
 |[]=>[(6,2,.box [i b.chairs,i b.coin,i b.box,V.list false (b.lines.map AD),V.list false (b.counts.map AN),.mp 0 4 1]),(4,1,.map []),(1,0,.box [i b.chairs,i b.coin,i b.box,V.list false (b.lines.map AD),V.list false (b.counts.map AN)])]
 |L::Hs=>(4,1,.map (L.map LY))::XG b Hs
def I9:List (List (Mom×Bool))->List (Mom×Bool)
 |[]=>[]
 |L::_=>L
@[simp] theorem AZ8(b:A5):∀Hs,(XG b Hs).get 6=some (2,.box [i b.chairs,i b.coin,i b.box,V.list false (b.lines.map AD),V.list false (b.counts.map AN),.mp 0 4 1])
 |[]=>rfl
 |L::Hs=>by have:=AZ8 b Hs;simpa [XG]using this
@[simp] theorem BAK(b:A5):∀Hs,(XG b Hs).get 4=some (1,.map ((I9 Hs).map LY))
 |[]=>rfl
 |L::Hs=>by simp[XG,I9]
@[simp] theorem A3B(b:A5)(L:List (Mom×Bool))(Hs:List (List (Mom×Bool))):AB.put (XG b Hs) 4 1 (.map (L.map LY))=XG b (L::Hs):=rfl
theorem JA(b:A5)(t:St)(ht:1<=t.up.length):∀Hs,A6 t (XG b Hs)=XG b Hs
 |[]=>by
  have h0:¬0=t.up.length:=by omega
  obtain⟨up,loc⟩:=t;simp[XG,h0,AD,AN];exact uB _ []
 |L::Hs=>by have:=JA b t ht Hs;simp[XG,this]
def OS(rs:List AB):Prop:=∀s:St,rs.length+1<=s.up.length->rs.map (A6 s)=rs
def SR(b:A5)(N k:Nat):Prop:=∀(rest:List AB) (loc:AB) (s:AU) (L:List (List (Mom×Bool))) (c dd:Nat) (fr:Fr),2<=c->OS (rest++[loc])->tY b k s->s.bd k->pK (I9 L)->S4 b (I9 L) ->
 ∃L' c',pK (I9 L')/\S4 b (I9 L')/\c<=c'/\NS (BU br ann kn N) (some dd) ⟨c,fr,⟨XG b L::rest,loc⟩⟩ 167 [.ptr 0 6 2 0,.agg (AS s),i k] =
  some ⟨c',(dd,true,.bool (endsP b (b.lines.length-k) k s))::fr,⟨XG b L'::rest,loc⟩⟩
def LG(b:A5)(k:Nat)(s:AU)(x:AK):Bool:=(BS b.coin s k x).2&&endsP b (b.lines.length-(k+1)) (k+1) (BS b.coin s k x).1
theorem ANR(n:Nat)(b:A5)(k:Nat)(s:AU)(rs:List AB)(c0 c1:Nat)(mom:List V)(hst:OS rs)(hmom:∀t,BT t (.box mom)=.box mom)(xs:List AK)(hxs:∀x∈xs,(0<=x.c/\x.c<4)/\(0<=x.t/\x.t<4))(hlen:xs.length<=100)(hk:k<=100)(hco:1<=b.coin/\b.coin<=99)(hm:tY b k s)(hbd:s.bd k)(hrec:SR b (n+692) (k+1)) :
  ∀(e j:Nat) (L:List (List (Mom×Bool))) (c m:Nat),j+e=xs.length->e<m->pK (I9 L)->S4 b (I9 L) ->
  ∃L' c',pK (I9 L')/\S4 b (I9 L')/\c<=c'/\BQ (AF br ann kn (n+700) 94) PL (some ([0,2,4,7,8,61,62,63],[4,7,61])) m
   ⟨c,[(0,true,.ptr 0 6 2 0),(2,true,i k),(4,true,.ptr (rs.length+1) 4 c0 0),(7,true,.ptr (rs.length+1) 7 c1 0),(8,true,.bool false),(61,true,sl (xs.map AD)),(62,true,i xs.length),(63,true,i j)],⟨XG b L::rs,[(4,c0,.box (AS s)),(7,c1,.box mom)]⟩⟩ =
   bif (xs.drop j).any (LG b k s) then some (.exit 0,⟨c',[(8,true,.bool true),(0,true,.ptr 0 6 2 0),(7,true,.ptr (rs.length+1) 7 c1 0)],⟨XG b L'::rs,[(7,c1,.box mom)]⟩⟩)
   else some (.exit 0,⟨c',[(64,true,.bool false),(0,true,.ptr 0 6 2 0),(2,true,i k),(4,true,.ptr (rs.length+1) 4 c0 0),(7,true,.ptr (rs.length+1) 7 c1 0),(8,true,.bool false),(61,true,sl (xs.map AD)),(62,true,i xs.length),(63,true,i xs.length)],⟨XG b L'::rs,[(4,c0,.box (AS s)),(7,c1,.box mom)]⟩⟩)
 |0,j,L,c,m+1,hd,hmm,hL,hS=>by
  have:j=xs.length:=by omega
  subst this;refine⟨L,c,hL,hS,Nat.le_refl _,?_⟩;simp[AE]
 |e+1,j,L,c,m+1,hd,hmm,hL,hS=>by
  have hj:j<xs.length:=by omega
  have hw:IntKind.i64.wrap ((j:Int)+1)=(j:Int)+1:=AW (by omega) (by omega);have hwk:IntKind.i64.wrap ((k:Int)+1)=(k:Int)+1:=AW (by omega) (by omega);obtain⟨⟨x1,x2⟩,x3,x4⟩:=hxs _ (List.getElem_mem hj);obtain⟨m0,m1,y0,y1⟩:=hbd;have q104:=fun n=>ANH n b s k xs[j] hm.ok x1 x2 x3 x4 (by omega) (by omega) (by omega) (by omega) (by omega) (by omega) (by omega) (by omega);obtain⟨a0,a1,a2,a3,b0,b1,b2,b3,hcs⟩:=DM hm.ok;obtain⟨A0,A1,A2,A3,B0,B1,B2,B3,hcn⟩:=DM (QX b.coin s k xs[j] hm.ok);simp only[AC,AD,hcs,hcn]at q104;cases hn:(BS b.coin s k xs[j]).2 with
  |false=>
   obtain⟨L',c',i1,i2,i3,ih⟩:=ANR n b k s rs c0 c1 mom hst hmom xs hxs hlen hk hco hm ⟨m0,m1,y0,y1⟩ hrec e (j+1) L (c+2) m (by omega) (by omega) hL hS
   refine⟨L',c',i1,i2,by omega,?_⟩
   rw[AE,bq hj]
   simp only[hn]at q104
   have hz:LG b k s xs[j]=false:=by simp[LG,hn]
   simp only[bg,hz,Bool.false_or]
   simp only[hcs]at ih|-
   try simp at ih
   simp[hj,hw,hwk,AD,AN,q104,ih]
  |true=>
   have hmn:tY b (k+1) (BS b.coin s k xs[j]).1:=iL hm x1 x2 hn
   have hbn:=cM (j:=(k:Int)) (l:=xs[j]) (show s.bd k from⟨m0,m1,y0,y1⟩) hco.1 hco.2
   obtain⟨L1,C1,g1,g2,g3,gq⟩:=hrec rs [(4,c0,.box (AS s)),(7,c1,.box mom),(12,c+1,.box (AS (BS b.coin s k xs[j]).1))] (BS b.coin s k xs[j]).1 L (c+1+1) 84
    [(83,true,.int .i64 ((k:Int)+1)),(82,true,i k),(81,true,.agg (AS (BS b.coin s k xs[j]).1)),(80,true,.ptr 0 6 2 0),(79,true,.bool true),(78,true,.bool true),(0,true,.ptr 0 6 2 0),(2,true,i k),(4,true,.ptr (rs.length+1) 4 c0 0),
     (7,true,.ptr (rs.length+1) 7 c1 0),(8,true,.bool false),(12,true,.ptr (rs.length+1) 12 (c+1) 0),(13,true,.bool true),(61,true,sl (xs.map AD)),(62,true,i xs.length),(63,true,i j)]
    (by omega) (fun t ht=>by
     have h0:=hst t (by simp at ht; omega);simp only[bz,bj,bp,h0,hcs,hcn];simp[hmom]) hmn hbn hL hS
   have hz:LG b k s xs[j]=endsP b (b.lines.length-(k+1)) (k+1) (BS b.coin s k xs[j]).1:=by simp[LG,hn]
   rw[<-hz]at gq
   simp only[hn]at q104
   cases hv:LG b k s xs[j]with
   |true=>
    refine⟨L1,C1,g1,g2,by omega,?_⟩
    rw[AE,bq hj]
    simp only[bg,hv,Bool.true_or]
    rw[hv]at gq
    simp only[hcs,hcn]at gq|-
    try simp at gq
    simp[hj,hw,hwk,AD,AN,q104,gq]
   |false=>
    obtain⟨L',c',i1,i2,i3,ih⟩:=ANR n b k s rs c0 c1 mom hst hmom xs hxs hlen hk hco hm ⟨m0,m1,y0,y1⟩ hrec e (j+1) L1 C1 m (by omega) (by omega) g1 g2
    refine⟨L',c',i1,i2,by omega,?_⟩
    rw[AE,bq hj]
    simp only[bg,hv,Bool.false_or]
    rw[hv]at gq
    simp only[hcs,hcn]at gq ih|-
    try simp at gq ih
    simp[hj,hw,hwk,AD,AN,q104,gq,ih]
structure SC(b:A5):Prop where
 ch1:1<=b.chairs
 ch4:b.chairs<=4
 ln:b.lines.length<=8
 cn:b.counts.length<=4
 co1:1<=b.coin
 co2:b.coin<=99
 bx1:0<=b.box
 bx2:b.box<=999
 lok:b.lines.all (BZ b.chairs)=true
theorem pN{b:A5}(h:EL b=0):SC b:=by obtain⟨h1,h4,hl8,hc4,hc1,hc2,hx1,hx2,hok,_,_⟩:=W2 h;exact⟨h1,h4,hl8,hc4,hc1,hc2,hx1,hx2,hok⟩
theorem NE{s:AU}(h:s.ok):∃a0 a1 a2 a3 b0 b1 b2 b3,s.ch=[a0,a1,a2,a3]/\s.tk=[b0,b1,b2,b3]/\AS s=[i a0,i a1,i a2,i a3,i b0,i b1,i b2,i b3,i s.money,i s.mixed]:=by obtain⟨a0,a1,a2,a3,e1⟩:=WZ h.ch;obtain⟨b0,b1,b2,b3,e2⟩:=WZ h.tk;exact⟨a0,a1,a2,a3,b0,b1,b2,b3,e1,e2,by simp[AS,e1,e2]⟩
def AZ9(b:A5)(N k:Nat):Prop:=∀(rs:List AB) (s:AU) (L:List (List (Mom×Bool))) (c dd:Nat) (fr:Fr),2<=c->OS rs->tY b k s->s.bd k->pK (I9 L)->S4 b (I9 L) ->
 ∃L' c',pK (I9 L')/\S4 b (I9 L')/\c<=c'/\mI br (some dd) fr bt.results.toList (AF br ann kn N bt.ntmps dG ⟨c,AJ 0 [.ptr 0 6 2 0,.agg (AS s),i k],⟨XG b L::rs,[]⟩⟩) =
  tM (some dd) fr c' (.bool (endsP b (b.lines.length-k) k s)) (DJ (XG b L'::rs))
theorem ANS{b:A5}{N k:Nat}(h:AZ9 b N k):SR b N k:=by intro rest loc s L c dd fr hc hst hm hbd hL hS;obtain⟨L',c',h1,h2,h3,h4⟩:=h (rest++[loc]) s L c dd fr hc hst hm hbd hL hS;refine⟨L',c',h1,h2,h3,?_⟩;rw[CC Tryz.func167 b167 rfl (by simp),List.cons_append,h4,<-List.cons_append,unsnoc_snoc];rfl
theorem A7R(b:A5)(hb:SC b)(hrd:∀l∈b.lines,∀x∈readingsP b.chairs l,(0<=x.c/\x.c<4)/\(0<=x.t/\x.t<4))(hrl:∀l∈b.lines,(readingsP b.chairs l).length<=100) :
  ∀(d k:Nat),k+d=b.lines.length->∀n,AZ9 b (n+18*d+1000) k:=by
 obtain⟨h1,h4,hl8,hc4,hc1,hc2,hx1,hx2,hok⟩:=hb
 intro d
 induction d with
 |zero=>
  intro k hk n rs s L c dd fr hc2' hst hm hbd hL hS
  have hs1:=fun t:St=>fun h=>hst t h
  obtain⟨a0,a1,a2,a3,b0,b1,b2,b3,hch,htk,hcs⟩:=NE hm.ok
  have q93:=fun n=>k93 n b s k hm.ok (by omega)
  simp only[AC,hcs]at q93
  refine⟨L,c+1,hL,hS,by omega,?_⟩
  simp only[show bt.ntmps=94 from rfl]
  have hkl:k=b.lines.length:=by omega
  have he:decide ((k:Int)=b.lines.length)=true:=by simp[hkl]
  rw[show b.lines.length-k=0 by omega]
  simp only[endsP,hcs]
  generalize hc:b.counts.all (countOne s.money k)=cc at q93|-
  cases cc
  ·simp[dG,AJ,JA,hs1,AD,AN,q93]
  ·simp[dG,AJ,JA,hs1,AD,AN,q93,he]
 |succ d ih=>
  intro k hk n rs s L c dd fr hc2' hst hm hbd hL hS
  have hs1:=fun t:St=>fun h=>hst t h
  have hkl:k<b.lines.length:=by omega
  have hmo:=AA6 hm (by omega)
  have ql:∀(r:List AB) (lo:AB),CG br ⟨XG b L::r,lo⟩ 220 (.mp 0 4 1) (.agg (OD (FG k s))) true=some (.tup [.bool ((GY (FG k s) (I9 L)).getD false),.bool (GY (FG k s) (I9 L)).isSome]):=fun r lo=>AA5 (by simp) hL hmo
  have qu:∀(r:List AB) (lo:AB) (L':List (List (Mom×Bool))) (v:Bool),pK (I9 L')->ID br ⟨XG b L'::r,lo⟩ 220 (.mp 0 4 1) (.agg (OD (FG k s))) (.bool v)=some (0,4,1,(KI (FG k s) v (I9 L')).map LY):=fun r lo L' v h=>AE8 (by simp) h hmo
  obtain⟨a0,a1,a2,a3,b0,b1,b2,b3,hch,htk,hcs⟩:=NE hm.ok
  have q93:=fun n=>k93 n b s k hm.ok (by omega)
  have qa:=fun n=>AZ2 n [a0,a1,a2,a3] rfl
  have qb:=fun n=>AZ2 n [b0,b1,b2,b3] rfl
  have q81:=fun n=>k81 n b b.lines[k] h1 h4
  have he:decide ((k:Int)=b.lines.length)=false:=by rw[decide_eq_false_iff_not];omega
  have hen:OD (FG k s)=[.int .i64 k,i (I8 a0),i (I8 a1),i (I8 a2),i (I8 a3),i (I8 b0),i (I8 b1),i (I8 b2),i (I8 b3)]:=by simp only[OD,FG,hch,htk,PC,bj,bp];rfl
  rw[hen]at ql qu
  simp only[AC,hcs,bj,bp,PC,AD]at q93 qa qb q81
  have hmem:b.lines[k]∈b.lines:=List.getElem_mem hkl
  have hr:SR b (n+18*(d+1)+290+692) (k+1):=by have:=ANS (ih (k+1) (by omega) n);rwa [show n+18*(d+1)+290+692=n+18*d+1000 by omega]
  have hl:=ANR (n+18*(d+1)+290) b k s rs c (c+1) [.int .i64 k,i (I8 a0),i (I8 a1),i (I8 a2),i (I8 a3),i (I8 b0),i (I8 b1),i (I8 b2),i (I8 b3)] hst (by intro t;simp) (readingsP b.chairs b.lines[k]) (hrd _ hmem) (hrl _ hmem) (by omega) ⟨hc1,hc2⟩ hm hbd hr
  generalize n+18*(d+1)=n2 at hl|-
  have hend:endsP b (b.lines.length-k) k s=(b.counts.all (countOne s.money k)&&(readingsP b.chairs b.lines[k]).any (LG b k s)):=by rw[show b.lines.length-k=d+1 by omega];simp only[endsP,List.getElem?_eq_getElem hkl];congr 2;funext x;simp only[LG];rw[show b.lines.length-(k+1)=d by omega]
  rw[hend]
  generalize hc:b.counts.all (countOne s.money k)=cc at q93 hend|-
  cases cc
  ·refine⟨L,c+1,hL,hS,by omega,?_⟩;simp only[show bt.ntmps=94 from rfl];simp only[hcs];simp[dG,AJ,JA,hs1,AD,AN,q93]
  ·simp only[Bool.true_and]at hend|-;cases hlk:GY (FG k s) (I9 L)with
   |some v=>
    have:=hS k s v (by omega) hm hlk
    rw[hend]at this
    rw[<-this]
    rw[hlk]at ql
    refine⟨L,c+2,hL,hS,by omega,?_⟩
    simp only[show bt.ntmps=94 from rfl]
    simp only[hcs]
    simp[dG,AJ,JA,ql,qa,qb,hs1,AD,AN,q93,he]
   |none=>
    rw[hlk]at ql
    obtain⟨L1,C1,g1,g2,g3,gq⟩:=hl (readingsP b.chairs b.lines[k]).length 0 L (c+1+1) (n2+990) (by omega) (by have:=hrl _ hmem;omega) hL hS
    simp only[List.drop_zero]at gq
    have hsu:=uA g2 hm
    rw[hend]at hsu
    generalize hv:(readingsP b.chairs b.lines[k]).any (LG b k s)=v at gq hsu|-
    have qu1:=fun r lo v=>qu r lo L1 v g1
    have hu1:=fun fr s es=>gH (c:=C1) (fr:=fr) (s:=s) 0 4 1 es (by omega)
    refine⟨KI (FG k s) v (I9 L1)::L1,C1,pL v hmo g1,hsu,by omega,?_⟩
    simp only[show bt.ntmps=94 from rfl]
    simp only[hcs]at gq|-
    try simp at gq
    cases v
    ·simp at gq;simp[dG,AJ,ql,qa,qb,hs1,AD,AN,q93,he,q81,hkl,gq,qu1,hu1,JA]
    ·simp at gq;simp[dG,AJ,ql,qa,qb,hs1,AD,AN,q93,he,q81,hkl,gq,qu1,hu1,JA]
def NF(b:A5):Bool:=endsP b b.lines.length 0 (BE b)
theorem iM{b:A5}(h:SC b):(BE b).bd 0:=by have h1:=h.bx1;have h2:=h.bx2;exact⟨by simp[BE];omega,by simp[BE];omega,by simp[BE],by simp[BE]⟩
theorem AA7{b:A5}(h:SC b):∀l∈b.lines,∀x∈readingsP b.chairs l,(0<=x.c/\x.c<4)/\(0<=x.t/\x.t<4):=by intro l hl x hx;have h4:=h.ch4;obtain⟨_,h2,h3⟩:=LD h.ch4 (List.all_eq_true.1 h.lok l hl) hx;omega
theorem A0A(n:Nat)(b:A5)(hb:SC b)(fr:Fr)(dd:Nat):∃L c',3<=c'/\NS (BU br ann kn (n+1200)) (some dd) ⟨3,fr,⟨[],XG b []⟩⟩ 167 [.ptr 0 6 2 0,.agg (AS (BE b)),i 0]=some ⟨c',(dd,true,.bool (NF b))::fr,⟨[],XG b L⟩⟩:=by
 have hl:=hb.ln;have hr:∀l∈b.lines,(readingsP b.chairs l).length<=100:=fun l _=>by have:=FE b.chairs l hb.ch4;omega
 obtain⟨L',c',h1,h2,h3,h4⟩:=A7R b hb (AA7 hb) hr b.lines.length 0 (by omega) (n+200-18*b.lines.length) [] (BE b) [] 3 dd fr (by omega) (by intro t _;rfl) (ZU b) (iM hb) ⟨by simp[I9],by simp[I9]⟩ (by intro k s v _ _ h;simp[I9,GY]at h);rw[show n+200-18*b.lines.length+18*b.lines.length+1000=n+1200 by omega]at h4;refine⟨L',c',by omega,?_⟩;rw[CC Tryz.func167 b167 rfl (by simp)];simp only[List.nil_append];simp only[Int.natCast_zero]at h4;rw[h4];rfl
theorem k84(n:Nat)(b:A5)(hb:SC b):A4 br kn (AF br ann kn (n+1300)) 138 [.agg (AC b)]=some (.bool (NF b)):=by rw[AP rfl,AQ Tryz.func138 A36 rfl (by simp[AC,AD,AN])];have q105:=fun n=>AEZ n b;have q108:=fun fr=>A0A (n+97) b hb fr 9;obtain⟨a0,a1,a2,a3,b0,b1,b2,b3,hch,htk,hcs⟩:=NE (FF b);simp only[AC,hcs,XG]at q105 q108;simp[AT2,AJ,AC,q105,MR,sL];obtain⟨L,c',h1,h2⟩:=q108 [(6,true,V.ptr 0 6 2 0),(5,true,V.agg [i b.chairs,i b.coin,i b.box,V.list false (bh AD b.lines),V.list false (bh AN b.counts),V.mp 0 4 1]),(4,true,V.mp 0 4 1),(8,true,V.agg [i a0,i a1,i a2,i a3,i b0,i b1,i b2,i b3,i (BE b).money,i (BE b).mixed]),(7,true,V.agg [i b.chairs,i b.coin,i b.box,V.list false (bh AD b.lines),V.list false (bh AN b.counts)]),(3,true,V.agg [i b.chairs,i b.coin,i b.box,V.list false (bh AD b.lines),V.list false (bh AN b.counts)]),(1,true,V.ptr 0 1 0 0)];simp[h2];done
def E6(b:A5)(fine:Bool):Int:=if EL b=0 then(if fine=true then(if NF b=true then 0 else 11) else 2) else EL b
theorem k68(n:Nat)(b:A5)(fine:Bool):A4 br kn (AF br ann kn (n+1400)) 105 [.agg (AC b),.bool fine]=some (i (E6 b fine)):=by
 rw[AP rfl,AQ Tryz.func105 A37 rfl (by simp[AC,AD,AN])];have q55:=fun n=>k55 n b;unfold E6;by_cases he:EL b=0
 ·have q84:=fun n=>k84 n b (pN he);rw[he]at q55;rw[if_pos he];simp only[AC]at q55 q84;cases fine
  ·simp[vT,AJ,AC,q55,AD,AN,q84];done
  ·generalize NF b=p at q84;cases p
   ·simp[vT,AJ,AC,q55,AD,AN,q84];done
   ·simp[vT,AJ,AC,q55,AD,AN,q84];done
 ·have e:decide (EL b=0)=false:=by simpa using he
  rw[if_neg he];simp only[AC]at q55;simp[vT,AJ,AC,q55,AD,AN,e];done
end Go.Proofs.Tryz.Op
