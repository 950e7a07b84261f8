/- Contracts: out. No condition. -/
import Derived.Test.YtmnlpgjklibndaaGreatW2
open Go.Proofs.Tryz renaming prog->br,f167->bt,underlying239->cj
open List renaming map_cons->bj,drop_eq_getElem_cons->bq,mem_cons->bw,nodup_cons->bx,map_append->bz,mapM_cons->bc,any_cons->bg,map->bh,mem_map->bn,map_nil->bp
set_option maxRecDepth 100000
set_option linter.unusedSimpArgs false
open Go Go.Pg Go.Proofs
namespace Go.Proofs.Tryz.Op
def KN(x:Int):Int:=if 1<x then 1 else x
def RM(l:List Int):List Int:=l.map KN
theorem A98(n d t c:Nat)(fr:Fr)(s:St)(a b:Int):stepK br (BX br ann kn (n+200)) (some d) (.call true none (.func 166) [.tmp t]) ⟨c,(t,true,.list true [[.int .i64 a],[.int .i64 b]])::fr,s⟩ =
  some ⟨c+1,(d,true,.int .i64 (if b<a then b else a))::(t,true,.list true [[.int .i64 a],[.int .i64 b]])::fr,s.put s.up.length d c .dead⟩:=by
 rw[aL (f:=166) (first:=[]) (cap:=[]) (vs:=[.list true [[.int .i64 a],[.int .i64 b]]]) (r:=.int .i64 (if b<a then b else a)) (by simp) (by simp) (by kernel_rfl) (by simp) (by simpa using k98 n a b)]
 rfl
theorem A99(n:Nat)(h:List Int)(hl:h.length=4):AW br kn (AH br ann kn (n+300)) 187 [.agg (h.map i)]=some (.agg ((RM h).map i)):=by obtain⟨a0,a1,a2,a3,rfl⟩:=aT hl;rw[AO rfl,AP Tryz.func187 BEK rfl (by simp)];have o1:=fun d t c fr s a b=>A98 (n+89) d t c fr s a b;have o2:=fun d t c fr s a b=>A98 (n+88) d t c fr s a b;simp only[Nat.add_assoc,Nat.reduceAdd]at o1 o2;simp[A3N,AJ,AD,o1,o2,RM,KN]
structure Mom where
 k:Int
 ch:List Int
 tk:List Int
deriving DecidableEq
structure Mom.ok(m:Mom):Prop where
 ch:m.ch.length=4
 tk:m.tk.length=4
 wk:VZ m.k
 wc:∀x∈m.ch,VZ x
 wt:∀x∈m.tk,VZ x
def QD(m:Mom):List V:=i m.k::(m.ch.map i++m.tk.map i)
def N3(p:Mom×Bool):V×V:=(.agg (QD p.1),.bool p.2)
theorem kl3(d:Nat){n:Int}(h:(Lit.int .i64 n).wf=true):br.keyLits (d+1) 3 [.int .i64 n]=some [.int .i64 n]:=by unfold Program.keyLits;rw[Tryz.underlying3];simp only;rw[if_pos ⟨trivial,h⟩]
theorem AQG(d:Nat){a b c e:Int}(ha:(Lit.int .i64 a).wf=true)(hb:(Lit.int .i64 b).wf=true)(hc:(Lit.int .i64 c).wf=true)(he:(Lit.int .i64 e).wf=true) :
  br.keyLits (d+2) 160 [.int .i64 a,.int .i64 b,.int .i64 c,.int .i64 e]=some [.int .i64 a,.int .i64 b,.int .i64 c,.int .i64 e]:=by
 have c3:br.cellsOf 3=1:=R4
 unfold Program.keyLits
 rw[Tryz.underlying160]
 simp only
 rw[if_pos (by rw[dG];rfl),show List.range 4=[0,1,2,3] from rfl]
 simp[bc,c3,kl3 d ha,kl3 d hb,kl3 d hc,kl3 d he]
theorem BAA(d:Nat){k a0 a1 a2 a3 b0 b1 b2 b3:Int}(hk:(Lit.int .i64 k).wf=true)(h0:(Lit.int .i64 a0).wf=true)(h1:(Lit.int .i64 a1).wf=true)(h2:(Lit.int .i64 a2).wf=true)(h3:(Lit.int .i64 a3).wf=true)
  (g0:(Lit.int .i64 b0).wf=true) (g1:(Lit.int .i64 b1).wf=true) (g2:(Lit.int .i64 b2).wf=true) (g3:(Lit.int .i64 b3).wf=true) :
  (br.keyLits (d+3) 239 [.int .i64 k,.int .i64 a0,.int .i64 a1,.int .i64 a2,.int .i64 a3,.int .i64 b0,.int .i64 b1,.int .i64 b2,.int .i64 b3]).isSome=true:=by
 have c3:br.cellsOf 3=1:=R4
 have X1:br.cellsOf 160=4:=dG
 unfold Program.keyLits
 rw[cj]
 simp only
 rw[if_pos (by rw[dI];exact⟨rfl,by decide +kernel⟩)]
 simp[bc,c3,X1,kl3 (d+1) hk,AQG d h0 h1 h2 h3,AQG d g0 g1 g2 g3]
theorem BAB:br.keyType 239=true:=by kernel_rfl
theorem BAC:br.types.size+1=(br.types.size-2)+3:=by have:2<=br.types.size:=of_decide_eq_true (by kernel_rfl);omega
theorem AIB(m:Mom)(h:m.ok):P6 br 239 (.agg (QD m))=some (QD m):=by
 obtain⟨k,ch,tk⟩:=m;obtain⟨a0,a1,a2,a3,rfl⟩:=aT h.ch;obtain⟨b0,b1,b2,b3,rfl⟩:=aT h.tk;have hk:=aU h.wk;have hc:=h.wc;have ht:=h.wt;simp only[bw,List.not_mem_nil,or_false,forall_eq_or_imp,forall_eq]at hc ht;have q:=BAA (br.types.size-2) hk (aU hc.1) (aU hc.2.1) (aU hc.2.2.1) (aU hc.2.2.2) (aU ht.1) (aU ht.2.1) (aU ht.2.2.1) (aU ht.2.2.2);rw[<-BAC]at q;have hf:(Value.agg #[.int .i64 k,.int .i64 a0,.int .i64 a1,.int .i64 a2,.int .i64 a3,.int .i64 b0,.int .i64 b1,.int .i64 b2,.int .i64 b3]).formed br 239=true:=by unfold Value.formed;rw[cj];simp[dI]
 have hko:(keyOf br 239 (.agg #[.int .i64 k,.int .i64 a0,.int .i64 a1,.int .i64 a2,.int .i64 a3,.int .i64 b0,.int .i64 b1,.int .i64 b2,.int .i64 b3])).isSome=true:=by unfold keyOf;rw[cj];simp only;rw[if_pos (by rw[BAB,hf];rfl),Option.isSome_map];exact q
 have hp:DP (QD ⟨k,[a0,a1,a2,a3],[b0,b1,b2,b3]⟩)=some [.int .i64 k,.int .i64 a0,.int .i64 a1,.int .i64 a2,.int .i64 a3,.int .i64 b0,.int .i64 b1,.int .i64 b2,.int .i64 b3]:=rfl;unfold P6;simp only[hp];rw[if_pos hko]
theorem yA:lP br 239=true:=by kernel_rfl
theorem yB:rX br 220=some (239,4):=by kernel_rfl
theorem bF:∀(x y:List Int),x.length=y.length->wH (x.map i) (y.map i)=some (x==y)
 |[],[],_=>rfl
 |a::x,b::y,h=>by have ih:=bF x y (by simpa using h);simp only[bj];show(if IntKind.i64=IntKind.i64 then(match wH (x.map i) (y.map i)with|some r=>some ((a==b)&&r)|none=>none) else none)=_;rw[if_pos rfl,ih];rfl
theorem BAD(m n:Mom)(hm:m.ok)(hn:n.ok):wH (QD m) (QD n)=some (decide (m=n)):=by
 have:=bF (m.k::(m.ch++m.tk)) (n.k::(n.ch++n.tk)) (by simp[hm.ch,hm.tk,hn.ch,hn.tk]);simp only[bj,bz]at this;show wH (i m.k::(m.ch.map i++m.tk.map i)) (i n.k::(n.ch.map i++n.tk.map i))=_;rw[this];congr 1;obtain⟨k,ch,tk⟩:=m;obtain⟨k',ch',tk'⟩:=n;have h1:=hm.ch;have h2:=hn.ch;simp only at h1 h2;by_cases h:(⟨k,ch,tk⟩:Mom)=⟨k',ch',tk'⟩
 ·simp only[Mom.mk.injEq]at h;obtain⟨rfl,rfl,rfl⟩:=h;simp
 ·rw[decide_eq_false h,beq_eq_false_iff_ne];intro hh;simp only[List.cons.injEq]at hh;obtain⟨rfl,hh⟩:=hh;obtain⟨rfl,rfl⟩:=List.append_inj hh (by rw[h1,h2]);exact h rfl
def cU(m:Mom):List (Mom×Bool)->Nat->List Nat
 |[],_=>[]
 |p::L,j=>if p.1=m then j::cU m L (j+1) else cU m L (j+1)
theorem jT(m:Mom)(hm:m.ok):∀(L:List (Mom×Bool)) (j:Nat),(∀p∈L,p.1.ok)->H5 br 239 (QD m) (L.map N3) j=some (cU m L j)
 |[],_,_=>rfl
 |p::L,j,h=>by have ih:=jT m hm L (j+1) (fun q hq=>h q (by simp[hq]));simp only[bj,N3,H5,AIB p.1 (h p (by simp)),BAD p.1 m (h p (by simp)) hm];have ih':H5 br 239 (QD m) (bh N3 L) (j+1)=some (cU m L (j+1)):=ih;rw[ih'];simp[cU]
def IB(m:Mom):List (Mom×Bool)->Option Bool
 |[]=>none
 |p::L=>if p.1=m then some p.2 else IB m L
def ME(m:Mom)(b:Bool):List (Mom×Bool)->List (Mom×Bool)
 |[]=>[(m,b)]
 |p::L=>if p.1=m then(m,b)::L else p::ME m b L
structure yC(L:List (Mom×Bool)):Prop where
 ok:∀p∈L,p.1.ok
 nd:(L.map (·.1)).Nodup
theorem yC.tail{p:Mom×Bool}{L:List (Mom×Bool)}(h:yC (p::L)):yC L:=⟨fun q hq=>h.ok q (by simp[hq]),(bx.1 h.nd).2⟩
theorem pW(m m':Mom)(b:Bool):∀L,IB m' (ME m b L)=if m=m' then some b else IB m' L
 |[]=>by simp[ME,IB]
 |p::L=>by
  have ih:=pW m m' b L;unfold ME;split
  ·rename_i h;simp only[IB,h];split<;>rfl
  ·rename_i h;simp only[IB,ih];split
   ·rename_i h2;rw[if_neg (by rw[<-h2];exact fun hh=>h hh.symm)]
   ·rfl
theorem pX(m:Mom)(b:Bool):∀L,∀q∈(ME m b L).map (·.1),q=m\/q∈L.map (·.1)
 |[],q,hq=>by simp[ME]at hq;exact .inl hq
 |p::L,q,hq=>by
  unfold ME at hq;split at hq
  ·simp at hq;rcases hq with h|h
   ·exact .inl h
   ·exact .inr (by simp[h])
  ·simp only[bj,bw]at hq;rcases hq with h|h
   ·exact .inr (by simp[h])
   ·rcases pX m b L q h with h|h
    ·exact .inl h
    ·exact .inr (by simp only[bj,bw];exact .inr h)
theorem yD{m:Mom}(b:Bool)(hm:m.ok):∀{L},yC L->yC (ME m b L)
 |[],_=>⟨by simp[ME,hm],by simp[ME]⟩
 |p::L,h=>by
  have ih:=yD b hm h.tail;unfold ME;split
  ·rename_i hp;refine⟨fun q hq=>?_,?_⟩
   ·simp only[bw]at hq;rcases hq with rfl|hq
    ·exact hm
    ·exact h.ok q (by simp[hq])
   ·have:=h.nd;simp only[bj,hp]at this|-;exact this
  ·rename_i hp;refine⟨fun q hq=>?_,?_⟩
   ·simp only[bw]at hq;rcases hq with rfl|hq
    ·exact h.ok q (by simp)
    ·exact ih.ok q hq
   ·simp only[bj,bx];refine⟨fun hh=>?_,ih.nd⟩;rcases pX m b L p.1 hh with hh|hh
    ·exact hp hh
    ·exact(bx.1 h.nd).1 hh
theorem TL(m:Mom):∀(L:List (Mom×Bool)) (j:Nat),m∉L.map (·.1)->cU m L j=[]/\IB m L=none/\∀b,ME m b L=L++[(m,b)]
 |[],j,_=>⟨rfl,rfl,fun _=>rfl⟩
 |p::L,j,h=>by simp only[bj,bw,not_or]at h;obtain⟨i1,i2,i3⟩:=TL m L (j+1) h.2;have hp:¬p.1=m:=fun hh=>h.1 hh.symm;exact⟨by simp[cU,hp,i1],by simp[IB,hp,i2],fun b=>by simp[ME,hp,i3]⟩
theorem bG(m:Mom):∀(L:List (Mom×Bool)) (j:Nat),m∈L.map (·.1)->(L.map (·.1)).Nodup->∃k,cU m L j=[j+k]/\(∃b,L[k]? = some (m,b)/\IB m L=some b)/\∀b,ME m b L=L.set k (m,b)
 |p::L,j,h,hn=>by
  simp only[bj,bx]at hn;by_cases hp:p.1=m
  ·refine⟨0,?_,⟨p.2,?_,?_⟩,fun b=>?_⟩
   ·simp[cU,hp,(TL m L (j+1) (by rw[<-hp];exact hn.1)).1]
   ·simp[<-hp]
   ·simp[IB,hp]
   ·simp[ME,hp]
  ·simp only[bj,bw]at h;obtain⟨k,i1,⟨b,i2,i3⟩,i4⟩:=bG m L (j+1) (h.resolve_left fun hh=>hp hh.symm) hn.2;refine⟨k+1,?_,⟨b,?_,?_⟩,fun b=>?_⟩
   ·simp[cU,hp,i1];omega
   ·simpa using i2
   ·simp[IB,hp,i3]
   ·simp[ME,hp,i4]
theorem yE:Q4 br 4=some (.bool false):=by kernel_rfl
theorem AIC{s:St}{l q g:Nat}{L:List (Mom×Bool)}{m:Mom}(hs:s.get l q=some (g,.map (L.map N3)))(hL:yC L)(hm:m.ok) :
  CO br s 220 (.mp l q g) (.agg (QD m)) true=some (.tup [.bool ((IB m L).getD false),.bool (IB m L).isSome]):=by
 unfold CO
 simp only[yB,hs,yA,AIB m hm,jT m hm L 0 hL.ok,and_self,if_true]
 by_cases h:m∈L.map (·.1)
 ·obtain⟨k,i1,⟨b,i2,i3⟩,_⟩:=bG m L 0 h hL.nd;simp[i1,i2,i3,N3]
 ·obtain⟨i1,i2,_⟩:=TL m L 0 h;simp[i1,i2,yE]
theorem AMS{s:St}{l q g:Nat}{L:List (Mom×Bool)}{m:Mom}{b:Bool}(hs:s.get l q=some (g,.map (L.map N3)))(hL:yC L)(hm:m.ok) :
  I5 br s 220 (.mp l q g) (.agg (QD m)) (.bool b)=some (l,q,g,(ME m b L).map N3):=by
 unfold I5
 simp only[yB,hs,yA,AIB m hm,jT m hm L 0 hL.ok,and_self,if_true]
 by_cases h:m∈L.map (·.1)
 ·obtain⟨k,i1,_,i4⟩:=bG m L 0 h hL.nd;simp[i1,i4,N3]
 ·obtain⟨i1,_,i4⟩:=TL m L 0 h;simp[i1,i4,N3]
def endsP(b:A5):Nat->Nat->AY->Bool
 |0,k,s=>b.counts.all (countOne s.money k)
 | d+1,k,s=>b.counts.all (countOne s.money k)&&(match b.lines[k]? with
  |some l=>(readingsP b.chairs l).any fun x=>(CA b.coin s k x).2&&endsP b d (k+1) (CA b.coin s k x).1
  | none=>false)
structure yF(s s':AY):Prop where
 lc:s.ch.length=s'.ch.length
 lt:s.tk.length=s'.tk.length
 ch:∀j,s.ch.getD j 0=0↔s'.ch.getD j 0=0
 tk:∀j,s.tk.getD j 0=0↔s'.tk.getD j 0=0
 mo:s.money=s'.money
theorem PU{l l':List Int}(hl:l.length=l'.length)(h:∀j,l.getD j 0=0↔l'.getD j 0=0)(n:Nat)(v:Int):∀j,(l.set n v).getD j 0=0↔(l'.set n v).getD j 0=0:=by
 intro j;have:=h j;simp only[List.getD_eq_getElem?_getD,List.getElem?_set]at this|-;by_cases hn:n=j
 ·subst hn;simp only[if_true,hl]
 ·simp only[hn,if_false];exact this
theorem uX{coin:Int}{s s':AY}(h:yF s s')(k:Int)(l:AF):(CA coin s k l).2=(CA coin s' k l).2/\yF (CA coin s k l).1 (CA coin s' k l).1:=by
 have e1:decide (s.ch.getD l.c.toNat 0=0)=decide (s'.ch.getD l.c.toNat 0=0):=decide_eq_decide.2 (h.ch _);have e2:decide (s.tk.getD l.t.toNat 0=0)=decide (s'.tk.getD l.t.toNat 0=0):=decide_eq_decide.2 (h.tk _);unfold CA;simp only[e1,e2];split
 ·exact⟨rfl,h⟩
 ·split
  ·refine⟨rfl,⟨?_,?_,PU h.lc h.ch _ _,PU h.lt h.tk _ _,?_⟩⟩
   ·simpa using h.lc
   ·simpa using h.lt
   ·simp only[h.mo]
  ·refine⟨rfl,⟨?_,?_,PU h.lc h.ch _ _,PU h.lt h.tk _ _,?_⟩⟩
   ·simpa using h.lc
   ·simpa using h.lt
   ·simp only[h.mo]
theorem bH(b:A5):∀(d k:Nat) {s s':AY},yF s s'->endsP b d k s=endsP b d k s'
 |0,k,s,s',h=>by simp only[endsP,h.mo]
 |d+1,k,s,s',h=>by
  simp only[endsP,h.mo];cases b.lines[k]? with
  |none=>rfl
  |some l=>
   simp only
   congr 2
   funext x
   obtain⟨h1,h2⟩:=uX (coin:=b.coin) h (k:Int) x
   rw[h1,bH b d (k+1) h2]
def cV(l:List Int):Int:=((l.filter fun x=>!decide (x=0)).length:Int)
structure Met(b:A5)(k:Nat)(s:AY):Prop where
 ok:s.ok
 ch:∀x∈s.ch,0<=x/\x<=k
 tk:∀x∈s.tk,0<=x/\x<=k
 mo:s.money=b.box+b.coin*cV s.ch
def GK(k:Nat)(s:AY):Mom:=⟨k,RM s.ch,RM s.tk⟩
theorem fK{x:Int}(_h:0<=x):KN x=0↔x=0:=by unfold KN;split<;>omega
theorem bI{x:Int}(h:0<=x):0<=KN x/\KN x<=1:=by unfold KN;split<;>omega
theorem AID{b:A5}{k:Nat}{s:AY}(h:Met b k s)(hk:k<=1000):(GK k s).ok where
 ch:=by simp[GK,RM,h.ok.ch]
 tk:=by simp[GK,RM,h.ok.tk]
 wk:=O6 (by simp only[GK];omega) (by simp only[GK];omega)
 wc:=by intro x hx;simp only[GK,RM,bn]at hx;obtain⟨y,hy,rfl⟩:=hx;have:=bI (h.ch y hy).1;exact O6 (by omega) (by omega)
 wt:=by intro x hx;simp only[GK,RM,bn]at hx;obtain⟨y,hy,rfl⟩:=hx;have:=bI (h.tk y hy).1;exact O6 (by omega) (by omega)
theorem U5:∀{l l':List Int},(∀x∈l,0<=x)->(∀x∈l',0<=x)->RM l=RM l'->(∀j,l.getD j 0=0↔l'.getD j 0=0)/\cV l=cV l'/\l.length=l'.length
 |[],[],_,_,_=>⟨fun _=>Iff.rfl,rfl,rfl⟩
 |[],_::_,_,_,h=>by simp[RM]at h
 |_::_,[],_,_,h=>by simp[RM]at h
 |a::l,a'::l',h1,h2,h=>by
  simp only[RM,bj,List.cons.injEq]at h;obtain⟨i1,i2,i3⟩:=U5 (l:=l) (l':=l') (fun x hx=>h1 x (by simp[hx])) (fun x hx=>h2 x (by simp[hx])) h.2;have e1:=fK (h1 a (by simp));have e2:=fK (h2 a' (by simp));have e:a=0↔a'=0:=by rw[<-e1,<-e2,h.1]
  refine⟨fun j=>?_,?_,by simp[i3]⟩
  ·cases j with
   |zero=>simpa using e
   |succ j=>simpa using i1 j
  ·unfold cV at i2|-;by_cases ha:a=0
   ·have ha':=e.1 ha;simp only[List.filter_cons,ha,ha',decide_true,Bool.not_true,Bool.false_eq_true,if_false];exact i2
   ·have ha':¬a'=0:=fun hh=>ha (e.2 hh);simp only[List.filter_cons,ha,ha',decide_false,Bool.not_false,if_true,List.length_cons];omega
theorem ABS{b:A5}{k k':Nat}{s s':AY}(h:Met b k s)(h':Met b k' s')(e:GK k s=GK k' s'):k=k'/\yF s s':=by simp only[GK,Mom.mk.injEq]at e;obtain⟨e0,e1,e2⟩:=e;obtain⟨i1,i2,i3⟩:=U5 (fun x hx=>(h.ch x hx).1) (fun x hx=>(h'.ch x hx).1) e1;obtain⟨j1,j2,j3⟩:=U5 (fun x hx=>(h.tk x hx).1) (fun x hx=>(h'.tk x hx).1) e2;exact⟨by omega,⟨i3,j3,i1,j1,by rw[h.mo,h'.mo,i2]⟩⟩
def V2(b:A5)(L:List (Mom×Bool)):Prop:=∀(k:Nat) (s:AY) (v:Bool),k<=b.lines.length->Met b k s->IB (GK k s) L=some v->v=endsP b (b.lines.length-k) k s
theorem ABT{b:A5}{L:List (Mom×Bool)}(h:V2 b L){k:Nat}{s:AY}(hm:Met b k s):V2 b (ME (GK k s) (endsP b (b.lines.length-k) k s) L):=by
 intro k' s' v hk' hm' hv;rw[pW]at hv;split at hv
 ·rename_i e;obtain⟨rfl,ha⟩:=ABS hm hm' e;rw[<-bH b _ _ ha];exact(Option.some.inj hv).symm
 ·exact h k' s' v hk' hm' hv
def bJ(x:Int):Int:=if x=0 then 0 else 1
theorem fL(a:Int)(l:List Int):cV (a::l)=bJ a+cV l:=by
 unfold cV bJ;by_cases ha:a=0
 ·simp[ha]
 ·simp[ha];omega
theorem bK:∀(l:List Int) (n:Nat) (v:Int),n<l.length->cV (l.set n v)=cV l-bJ (l.getD n 0)+bJ v
 |a::l,0,v,_=>by simp only[List.set_cons_zero,fL,List.getD_cons_zero];omega
 |a::l,n+1,v,h=>by have:=bK l n v (by simpa using h);simp only[List.set_cons_succ,fL,List.getD_cons_succ,this];omega
theorem fM(b:A5):Met b 0 (BQ b) where
 ok:=⟨rfl,rfl⟩
 ch:=by intro x hx;simp[BQ]at hx;omega
 tk:=by intro x hx;simp[BQ]at hx;omega
 mo:=by simp[BQ,cV]
theorem PV{l:List Int}{k:Nat}{n:Nat}{v:Int}(h:∀x∈l,0<=x/\x<=k)(h0:0<=v)(h1:v<=(k+1:Nat)):∀x∈l.set n v,0<=x/\x<=(k+1:Nat):=by
 intro x hx;rcases List.mem_or_eq_of_mem_set hx with hx|rfl
 ·have:=h x hx;omega
 ·exact⟨h0,h1⟩
theorem pY{b:A5}{k:Nat}{s:AY}{l:AF}(h:Met b k s)(hc0:0<=l.c)(hc:l.c<4)(h2:(CA b.coin s k l).2=true):Met b (k+1) (CA b.coin s k l).1:=by
 have hlen:l.c.toNat<s.ch.length:=by rw[h.ok.ch];omega
 have e1:=bK s.ch l.c.toNat 0 hlen;have e2:=bK s.ch l.c.toNat ((k:Int)+1) hlen;have hz:bJ 0=0:=rfl;have hk:bJ ((k:Int)+1)=1:=by unfold bJ;rw[if_neg (by omega)]
 have hm:=h.mo;unfold CA at h2|-;simp only at h2|-;by_cases ho:l.k=2
 ·simp only[ho,decide_true]at h2|-;split at h2
  ·cases h2
  ·rename_i hn;simp only[Bool.bne_true,Bool.not_not,Bool.or_eq_true,decide_eq_true_eq,not_or]at hn;rw[if_neg (by simpa using hn)];simp only[if_true];refine⟨⟨by simp[h.ok.ch],by simp[h.ok.tk]⟩,PV h.ch (by omega) (by omega),PV h.tk (by omega) (by omega),?_⟩;simp only;have h1:bJ (s.ch.getD l.c.toNat 0)=1:=by unfold bJ;rw[if_neg hn.1]
   rw[e1,hm,h1,hz,Int.mul_add,Int.mul_sub];omega
 ·simp only[ho,decide_false]at h2|-;split at h2
  ·cases h2
  ·rename_i hn;simp only[Bool.bne_false,Bool.or_eq_true,Bool.not_eq_true',decide_eq_false_iff_not,not_or,Decidable.not_not]at hn;rw[if_neg (by simpa using hn)];simp only[Bool.false_eq_true,if_false];refine⟨⟨by simp[h.ok.ch],by simp[h.ok.tk]⟩,PV h.ch (by omega) (by omega),PV h.tk (by omega) (by omega),?_⟩;simp only;have h1:bJ (s.ch.getD l.c.toNat 0)=0:=by unfold bJ;rw[if_pos hn.1]
   rw[e2,hm,h1,hk,Int.mul_add,Int.mul_sub];omega
theorem bL(s:St)(f:Nat):∀l:List Int,(l.map i).mapM (A4 s (f+1))=some (l.map i)
 |[]=>rfl
 |a::l=>by have e:A4 s (f+1) (i a)=some (i a):=rfl;simp only[bj,bc,e,bL s f l];rfl
theorem AMT(s:St)(m:Mom):B4 s (.agg (QD m))=some (.agg (QD m)):=by have:=bL s 2 (m.k::(m.ch++m.tk));simp only[bj,bz]at this;show((i m.k::(m.ch.map i++m.tk.map i)).mapM (A4 s 3)).map V.agg=_;rw[this];rfl
@[simp] theorem ABU(s:St)(L:List (Mom×Bool)):BU s (.map (L.map N3))=.map (L.map N3):=by
 have:BW s (.map (L.map N3))=some (.map (L.map N3)):=by unfold BW;simp only;rw[IP];intro x hx;simp only[bn]at hx;obtain⟨p,_,rfl⟩:=hx;simp only[N3,AMT];rfl
 unfold BU;rw[this]
@[simp] theorem A10(ps:List (Nat×V)):CP br 222 ps=if (ps.all fun p=>BD p.2)=true then kE .agg (C4 (fun i=>[(0,5),(5,1)][i]?) [V.int .i64 0,.int .i64 0,.int .i64 0,.nil,.nil,.raw (.map none)] ps) else none:=EI (by kernel_rfl) Tryz.underlying222 (by kernel_rfl) (by kernel_rfl) ps
@[simp] theorem BDN{P:Program}(r:Operand->Option V):GI P (.mkM none) r=[]:=rfl
def bM(b:A5):List (List (Mom×Bool))->AA
 |[]=>[(6,2,.box [i b.chairs,i b.coin,i b.box,V.list false (b.lines.map AB),V.list false (b.counts.map AM),.mp 0 4 1]),(4,1,.map []),(1,0,.box [i b.chairs,i b.coin,i b.box,V.list false (b.lines.map AB),V.list false (b.counts.map AM)])]
 |L::Hs=>(4,1,.map (L.map N3))::bM b Hs
def KO:List (List (Mom×Bool))->List (Mom×Bool)
 |[]=>[]
 |L::_=>L
@[simp] theorem BAE(b:A5):∀Hs,(bM b Hs).get 6=some (2,.box [i b.chairs,i b.coin,i b.box,V.list false (b.lines.map AB),V.list false (b.counts.map AM),.mp 0 4 1])
 |[]=>rfl
 |L::Hs=>by have:=BAE b Hs;simpa [bM]using this
@[simp] theorem BL4(b:A5):∀Hs,(bM b Hs).get 4=some (1,.map ((KO Hs).map N3))
 |[]=>rfl
 |L::Hs=>by simp[bM,KO]
@[simp] theorem BDO(b:A5)(L:List (Mom×Bool))(Hs:List (List (Mom×Bool))):AA.put (bM b Hs) 4 1 (.map (L.map N3))=bM b (L::Hs):=rfl
theorem KP(b:A5)(t:St)(ht:1<=t.up.length):∀Hs,AQ t (bM b Hs)=bM b Hs
 |[]=>by
  have h0:¬0=t.up.length:=by omega
  obtain⟨up,loc⟩:=t;simp[bM,h0,AB,AM];exact ABU _ []
 |L::Hs=>by have:=KP b t ht Hs;simp[bM,this]
def QV(rs:List AA):Prop:=∀s:St,rs.length+1<=s.up.length->rs.map (AQ s)=rs
def VQ(b:A5)(N k:Nat):Prop:=∀(rest:List AA) (loc:AA) (s:AY) (L:List (List (Mom×Bool))) (c dd:Nat) (fr:Fr),2<=c->QV (rest++[loc])->Met b k s->s.bd k->yC (KO L)->V2 b (KO L) ->
 ∃L' c',yC (KO L')/\V2 b (KO L')/\c<=c'/\K3 (BX br ann kn N) (some dd) ⟨c,fr,⟨bM b L::rest,loc⟩⟩ 167 [.ptr 0 6 2 0,.agg (AX s),i k] =
  some ⟨c',(dd,true,.bool (endsP b (b.lines.length-k) k s))::fr,⟨bM b L'::rest,loc⟩⟩
def NL(b:A5)(k:Nat)(s:AY)(x:AF):Bool:=(CA b.coin s k x).2&&endsP b (b.lines.length-(k+1)) (k+1) (CA b.coin s k x).1
theorem AWS(n:Nat)(b:A5)(k:Nat)(s:AY)(rs:List AA)(c0 c1:Nat)(mom:List V)(hst:QV rs)(hmom:∀t,BU t (.box mom)=.box mom)(xs:List AF)(hxs:∀x∈xs,(0<=x.c/\x.c<4)/\(0<=x.t/\x.t<4))(hlen:xs.length<=100)(hk:k<=100)(hco:1<=b.coin/\b.coin<=99)(hm:Met b k s)(hbd:s.bd k)(hrec:VQ b (n+692) (k+1)) :
  ∀(e j:Nat) (L:List (List (Mom×Bool))) (c m:Nat),j+e=xs.length->e<m->yC (KO L)->V2 b (KO L) ->
  ∃L' c',yC (KO L')/\V2 b (KO L')/\c<=c'/\BN (AH br ann kn (n+700) 94) RW (some ([0,2,4,7,8,61,62,63],[4,7,61])) m
   ⟨c,[(0,true,.ptr 0 6 2 0),(2,true,i k),(4,true,.ptr (rs.length+1) 4 c0 0),(7,true,.ptr (rs.length+1) 7 c1 0),(8,true,.bool false),(61,true,sl (xs.map AB)),(62,true,i xs.length),(63,true,i j)],⟨bM b L::rs,[(4,c0,.box (AX s)),(7,c1,.box mom)]⟩⟩ =
   bif (xs.drop j).any (NL b k s) then some (.exit 0,⟨c',[(8,true,.bool true),(0,true,.ptr 0 6 2 0),(7,true,.ptr (rs.length+1) 7 c1 0)],⟨bM b L'::rs,[(7,c1,.box mom)]⟩⟩)
   else some (.exit 0,⟨c',[(64,true,.bool false),(0,true,.ptr 0 6 2 0),(2,true,i k),(4,true,.ptr (rs.length+1) 4 c0 0),(7,true,.ptr (rs.length+1) 7 c1 0),(8,true,.bool false),(61,true,sl (xs.map AB)),(62,true,i xs.length),(63,true,i xs.length)],⟨bM b L'::rs,[(4,c0,.box (AX s)),(7,c1,.box mom)]⟩⟩)
 |0,j,L,c,m+1,hd,hmm,hL,hS=>by
  have:j=xs.length:=by omega
  subst this;refine⟨L,c,hL,hS,Nat.le_refl _,?_⟩;simp[AD]
 |e+1,j,L,c,m+1,hd,hmm,hL,hS=>by
  have hj:j<xs.length:=by omega
  have hw:IntKind.i64.wrap ((j:Int)+1)=(j:Int)+1:=AU (by omega) (by omega);have hwk:IntKind.i64.wrap ((k:Int)+1)=(k:Int)+1:=AU (by omega) (by omega);obtain⟨⟨x1,x2⟩,x3,x4⟩:=hxs _ (List.getElem_mem hj);obtain⟨m0,m1,y0,y1⟩:=hbd;have q104:=fun n=>AWJ n b s k xs[j] hm.ok x1 x2 x3 x4 (by omega) (by omega) (by omega) (by omega) (by omega) (by omega) (by omega) (by omega);obtain⟨a0,a1,a2,a3,b0,b1,b2,b3,hcs⟩:=ED hm.ok;obtain⟨A0,A1,A2,A3,B0,B1,B2,B3,hcn⟩:=ED (TI b.coin s k xs[j] hm.ok);simp only[AE,AB,hcs,hcn]at q104;cases hn:(CA b.coin s k xs[j]).2 with
  |false=>
   obtain⟨L',c',i1,i2,i3,ih⟩:=AWS n b k s rs c0 c1 mom hst hmom xs hxs hlen hk hco hm ⟨m0,m1,y0,y1⟩ hrec e (j+1) L (c+2) m (by omega) (by omega) hL hS
   refine⟨L',c',i1,i2,by omega,?_⟩
   rw[AD,bq hj]
   simp only[hn]at q104
   have hz:NL b k s xs[j]=false:=by simp[NL,hn]
   simp only[bg,hz,Bool.false_or]
   simp only[hcs]at ih|-
   try simp at ih
   simp[hj,hw,hwk,AB,AM,q104,ih]
  |true=>
   have hmn:Met b (k+1) (CA b.coin s k xs[j]).1:=pY hm x1 x2 hn
   have hbn:=jR (j:=(k:Int)) (l:=xs[j]) (show s.bd k from⟨m0,m1,y0,y1⟩) hco.1 hco.2
   obtain⟨L1,C1,g1,g2,g3,gq⟩:=hrec rs [(4,c0,.box (AX s)),(7,c1,.box mom),(12,c+1,.box (AX (CA b.coin s k xs[j]).1))] (CA b.coin s k xs[j]).1 L (c+1+1) 84
    [(83,true,.int .i64 ((k:Int)+1)),(82,true,i k),(81,true,.agg (AX (CA b.coin s k xs[j]).1)),(80,true,.ptr 0 6 2 0),(79,true,.bool true),(78,true,.bool true),(0,true,.ptr 0 6 2 0),(2,true,i k),(4,true,.ptr (rs.length+1) 4 c0 0),
     (7,true,.ptr (rs.length+1) 7 c1 0),(8,true,.bool false),(12,true,.ptr (rs.length+1) 12 (c+1) 0),(13,true,.bool true),(61,true,sl (xs.map AB)),(62,true,i xs.length),(63,true,i j)]
    (by omega) (fun t ht=>by
     have h0:=hst t (by simp at ht; omega);simp only[bz,bj,bp,h0,hcs,hcn];simp[hmom]) hmn hbn hL hS
   have hz:NL b k s xs[j]=endsP b (b.lines.length-(k+1)) (k+1) (CA b.coin s k xs[j]).1:=by simp[NL,hn]
   rw[<-hz]at gq
   simp only[hn]at q104
   cases hv:NL b k s xs[j]with
   |true=>
    refine⟨L1,C1,g1,g2,by omega,?_⟩
    rw[AD,bq hj]
    simp only[bg,hv,Bool.true_or]
    rw[hv]at gq
    simp only[hcs,hcn]at gq|-
    try simp at gq
    simp[hj,hw,hwk,AB,AM,q104,gq]
   |false=>
    obtain⟨L',c',i1,i2,i3,ih⟩:=AWS n b k s rs c0 c1 mom hst hmom xs hxs hlen hk hco hm ⟨m0,m1,y0,y1⟩ hrec e (j+1) L1 C1 m (by omega) (by omega) g1 g2
    refine⟨L',c',i1,i2,by omega,?_⟩
    rw[AD,bq hj]
    simp only[bg,hv,Bool.false_or]
    rw[hv]at gq
    simp only[hcs,hcn]at gq ih|-
    try simp at gq ih
    simp[hj,hw,hwk,AB,AM,q104,gq,ih]
structure RN(b:A5):Prop where
 ch1:1<=b.chairs
 ch4:b.chairs<=4
 ln:b.lines.length<=8
 cn:b.counts.length<=4
 co1:1<=b.coin
 co2:b.coin<=99
 bx1:0<=b.box
 bx2:b.box<=999
 lok:b.lines.all (CJ b.chairs)=true
theorem XN{b:A5}(h:E4 b=0):RN b:=by obtain⟨h1,h4,hl8,hc4,hc1,hc2,hx1,hx2,hok,_,_⟩:=U4 h;exact⟨h1,h4,hl8,hc4,hc1,hc2,hx1,hx2,hok⟩
theorem O9{s:AY}(h:s.ok):∃a0 a1 a2 a3 b0 b1 b2 b3,s.ch=[a0,a1,a2,a3]/\s.tk=[b0,b1,b2,b3]/\AX s=[i a0,i a1,i a2,i a3,i b0,i b1,i b2,i b3,i s.money,i s.mixed]:=by obtain⟨a0,a1,a2,a3,e1⟩:=aT h.ch;obtain⟨b0,b1,b2,b3,e2⟩:=aT h.tk;exact⟨a0,a1,a2,a3,b0,b1,b2,b3,e1,e2,by simp[AX,e1,e2]⟩
def BAF(b:A5)(N k:Nat):Prop:=∀(rs:List AA) (s:AY) (L:List (List (Mom×Bool))) (c dd:Nat) (fr:Fr),2<=c->QV rs->Met b k s->s.bd k->yC (KO L)->V2 b (KO L) ->
 ∃L' c',yC (KO L')/\V2 b (KO L')/\c<=c'/\jI br (some dd) fr bt.results.toList (AH br ann kn N bt.ntmps lE ⟨c,AJ 0 [.ptr 0 6 2 0,.agg (AX s),i k],⟨bM b L::rs,[]⟩⟩) =
  pA (some dd) fr c' (.bool (endsP b (b.lines.length-k) k s)) (CW (bM b L'::rs))
theorem AWT{b:A5}{N k:Nat}(h:BAF b N k):VQ b N k:=by intro rest loc s L c dd fr hc hst hm hbd hL hS;obtain⟨L',c',h1,h2,h3,h4⟩:=h (rest++[loc]) s L c dd fr hc hst hm hbd hL hS;refine⟨L',c',h1,h2,h3,?_⟩;rw[BP Tryz.func167 b167 rfl (by simp),List.cons_append,h4,<-List.cons_append,unsnoc_snoc];rfl
theorem BIN(b:A5)(hb:RN b)(hrd:∀l∈b.lines,∀x∈readingsP b.chairs l,(0<=x.c/\x.c<4)/\(0<=x.t/\x.t<4))(hrl:∀l∈b.lines,(readingsP b.chairs l).length<=100) :
  ∀(d k:Nat),k+d=b.lines.length->∀n,BAF b (n+18*d+1000) k:=by
 obtain⟨h1,h4,hl8,hc4,hc1,hc2,hx1,hx2,hok⟩:=hb
 intro d
 induction d with
 |zero=>
  intro k hk n rs s L c dd fr hc2' hst hm hbd hL hS
  have hs1:=fun t:St=>fun h=>hst t h
  obtain⟨a0,a1,a2,a3,b0,b1,b2,b3,hch,htk,hcs⟩:=O9 hm.ok
  have q93:=fun n=>k93 n b s k hm.ok (by omega)
  simp only[AE,hcs]at q93
  refine⟨L,c+1,hL,hS,by omega,?_⟩
  simp only[show bt.ntmps=94 from rfl]
  have hkl:k=b.lines.length:=by omega
  have he:decide ((k:Int)=b.lines.length)=true:=by simp[hkl]
  rw[show b.lines.length-k=0 by omega]
  simp only[endsP,hcs]
  generalize hc:b.counts.all (countOne s.money k)=cc at q93|-
  cases cc
  ·simp[lE,AJ,KP,hs1,AB,AM,q93]
  ·simp[lE,AJ,KP,hs1,AB,AM,q93,he]
 |succ d ih=>
  intro k hk n rs s L c dd fr hc2' hst hm hbd hL hS
  have hs1:=fun t:St=>fun h=>hst t h
  have hkl:k<b.lines.length:=by omega
  have hmo:=AID hm (by omega)
  have ql:∀(r:List AA) (lo:AA),CO br ⟨bM b L::r,lo⟩ 220 (.mp 0 4 1) (.agg (QD (GK k s))) true=some (.tup [.bool ((IB (GK k s) (KO L)).getD false),.bool (IB (GK k s) (KO L)).isSome]):=fun r lo=>AIC (by simp) hL hmo
  have qu:∀(r:List AA) (lo:AA) (L':List (List (Mom×Bool))) (v:Bool),yC (KO L')->I5 br ⟨bM b L'::r,lo⟩ 220 (.mp 0 4 1) (.agg (QD (GK k s))) (.bool v)=some (0,4,1,(ME (GK k s) v (KO L')).map N3):=fun r lo L' v h=>AMS (by simp) h hmo
  obtain⟨a0,a1,a2,a3,b0,b1,b2,b3,hch,htk,hcs⟩:=O9 hm.ok
  have q93:=fun n=>k93 n b s k hm.ok (by omega)
  have qa:=fun n=>A99 n [a0,a1,a2,a3] rfl
  have qb:=fun n=>A99 n [b0,b1,b2,b3] rfl
  have q81:=fun n=>k81 n b b.lines[k] h1 h4
  have he:decide ((k:Int)=b.lines.length)=false:=by rw[decide_eq_false_iff_not];omega
  have hen:QD (GK k s)=[.int .i64 k,i (KN a0),i (KN a1),i (KN a2),i (KN a3),i (KN b0),i (KN b1),i (KN b2),i (KN b3)]:=by simp only[QD,GK,hch,htk,RM,bj,bp];rfl
  rw[hen]at ql qu
  simp only[AE,hcs,bj,bp,RM,AB]at q93 qa qb q81
  have hmem:b.lines[k]∈b.lines:=List.getElem_mem hkl
  have hr:VQ b (n+18*(d+1)+290+692) (k+1):=by have:=AWT (ih (k+1) (by omega) n);rwa [show n+18*(d+1)+290+692=n+18*d+1000 by omega]
  have hl:=AWS (n+18*(d+1)+290) b k s rs c (c+1) [.int .i64 k,i (KN a0),i (KN a1),i (KN a2),i (KN a3),i (KN b0),i (KN b1),i (KN b2),i (KN b3)] hst (by intro t;simp) (readingsP b.chairs b.lines[k]) (hrd _ hmem) (hrl _ hmem) (by omega) ⟨hc1,hc2⟩ hm hbd hr
  generalize n+18*(d+1)=n2 at hl|-
  have hend:endsP b (b.lines.length-k) k s=(b.counts.all (countOne s.money k)&&(readingsP b.chairs b.lines[k]).any (NL b k s)):=by rw[show b.lines.length-k=d+1 by omega];simp only[endsP,List.getElem?_eq_getElem hkl];congr 2;funext x;simp only[NL];rw[show b.lines.length-(k+1)=d by omega]
  rw[hend]
  generalize hc:b.counts.all (countOne s.money k)=cc at q93 hend|-
  cases cc
  ·refine⟨L,c+1,hL,hS,by omega,?_⟩;simp only[show bt.ntmps=94 from rfl];simp only[hcs];simp[lE,AJ,KP,hs1,AB,AM,q93]
  ·simp only[Bool.true_and]at hend|-;cases hlk:IB (GK k s) (KO L)with
   |some v=>
    have:=hS k s v (by omega) hm hlk
    rw[hend]at this
    rw[<-this]
    rw[hlk]at ql
    refine⟨L,c+2,hL,hS,by omega,?_⟩
    simp only[show bt.ntmps=94 from rfl]
    simp only[hcs]
    simp[lE,AJ,KP,ql,qa,qb,hs1,AB,AM,q93,he]
   |none=>
    rw[hlk]at ql
    obtain⟨L1,C1,g1,g2,g3,gq⟩:=hl (readingsP b.chairs b.lines[k]).length 0 L (c+1+1) (n2+990) (by omega) (by have:=hrl _ hmem;omega) hL hS
    simp only[List.drop_zero]at gq
    have hsu:=ABT g2 hm
    rw[hend]at hsu
    generalize hv:(readingsP b.chairs b.lines[k]).any (NL b k s)=v at gq hsu|-
    have qu1:=fun r lo v=>qu r lo L1 v g1
    have hu1:=fun fr s es=>aG (c:=C1) (fr:=fr) (s:=s) 0 4 1 es (by omega)
    refine⟨ME (GK k s) v (KO L1)::L1,C1,yD v hmo g1,hsu,by omega,?_⟩
    simp only[show bt.ntmps=94 from rfl]
    simp only[hcs]at gq|-
    try simp at gq
    cases v
    ·simp at gq;simp[lE,AJ,ql,qa,qb,hs1,AB,AM,q93,he,q81,hkl,gq,qu1,hu1,KP]
    ·simp at gq;simp[lE,AJ,ql,qa,qb,hs1,AB,AM,q93,he,q81,hkl,gq,qu1,hu1,KP]
def PA(b:A5):Bool:=endsP b b.lines.length 0 (BQ b)
theorem pZ{b:A5}(h:RN b):(BQ b).bd 0:=by have h1:=h.bx1;have h2:=h.bx2;exact⟨by simp[BQ];omega,by simp[BQ];omega,by simp[BQ],by simp[BQ]⟩
theorem AIE{b:A5}(h:RN b):∀l∈b.lines,∀x∈readingsP b.chairs l,(0<=x.c/\x.c<4)/\(0<=x.t/\x.t<4):=by intro l hl x hx;have h4:=h.ch4;obtain⟨_,h2,h3⟩:=J0 h.ch4 (List.all_eq_true.1 h.lok l hl) hx;omega
theorem BAG(n:Nat)(b:A5)(hb:RN b)(fr:Fr)(dd:Nat):∃L c',3<=c'/\K3 (BX br ann kn (n+1200)) (some dd) ⟨3,fr,⟨[],bM b []⟩⟩ 167 [.ptr 0 6 2 0,.agg (AX (BQ b)),i 0]=some ⟨c',(dd,true,.bool (PA b))::fr,⟨[],bM b L⟩⟩:=by
 have hl:=hb.ln;have hr:∀l∈b.lines,(readingsP b.chairs l).length<=100:=fun l _=>by have:=EQ b.chairs l hb.ch4;omega
 obtain⟨L',c',h1,h2,h3,h4⟩:=BIN b hb (AIE hb) hr b.lines.length 0 (by omega) (n+200-18*b.lines.length) [] (BQ b) [] 3 dd fr (by omega) (by intro t _;rfl) (fM b) (pZ hb) ⟨by simp[KO],by simp[KO]⟩ (by intro k s v _ _ h;simp[KO,IB]at h);rw[show n+200-18*b.lines.length+18*b.lines.length+1000=n+1200 by omega]at h4;refine⟨L',c',by omega,?_⟩;rw[BP Tryz.func167 b167 rfl (by simp)];simp only[List.nil_append];simp only[Int.natCast_zero]at h4;rw[h4];rfl
theorem k84(n:Nat)(b:A5)(hb:RN b):AW br kn (AH br ann kn (n+1300)) 138 [.agg (AE b)]=some (.bool (PA b)):=by rw[AO rfl,AP Tryz.func138 BEL rfl (by simp[AE,AB,AM])];have q105:=fun n=>AMK n b;have q108:=fun fr=>BAG (n+97) b hb fr 9;obtain⟨a0,a1,a2,a3,b0,b1,b2,b3,hch,htk,hcs⟩:=O9 (GJ b);simp only[AE,hcs,bM]at q105 q108;simp[A3O,AJ,AE,q105,LY,nY];obtain⟨L,c',h1,h2⟩:=q108 [(6,true,V.ptr 0 6 2 0),(5,true,V.agg [i b.chairs,i b.coin,i b.box,V.list false (bh AB b.lines),V.list false (bh AM b.counts),V.mp 0 4 1]),(4,true,V.mp 0 4 1),(8,true,V.agg [i a0,i a1,i a2,i a3,i b0,i b1,i b2,i b3,i (BQ b).money,i (BQ b).mixed]),(7,true,V.agg [i b.chairs,i b.coin,i b.box,V.list false (bh AB b.lines),V.list false (bh AM b.counts)]),(3,true,V.agg [i b.chairs,i b.coin,i b.box,V.list false (bh AB b.lines),V.list false (bh AM b.counts)]),(1,true,V.ptr 0 1 0 0)];simp[h2];done
def EG(b:A5)(fine:Bool):Int:=if E4 b=0 then(if fine=true then(if PA b=true then 0 else 11) else 2) else E4 b
theorem k68(n:Nat)(b:A5)(fine:Bool):AW br kn (AH br ann kn (n+1400)) 105 [.agg (AE b),.bool fine]=some (i (EG b fine)):=by
 rw[AO rfl,AP Tryz.func105 BEM rfl (by simp[AE,AB,AM])];have q55:=fun n=>k55 n b;unfold EG;by_cases he:E4 b=0
 ·have q84:=fun n=>k84 n b (XN he);rw[he]at q55;rw[if_pos he];simp only[AE]at q55 q84;cases fine
  ·simp[ADU,AJ,AE,q55,AB,AM,q84];done
  ·generalize PA b=p at q84;cases p
   ·simp[ADU,AJ,AE,q55,AB,AM,q84];done
   ·simp[ADU,AJ,AE,q55,AB,AM,q84];done
 ·have e:decide (E4 b=0)=false:=by simpa using he
  rw[if_neg he];simp only[AE]at q55;simp[ADU,AJ,AE,q55,AB,AM,e];done
end Go.Proofs.Tryz.Op
