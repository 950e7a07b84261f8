/- Contracts: out. No condition. -/
import Derived.Test.YtmnlpgjklibndaaGreatW2
open Go.Proofs.Tryz renaming prog->br,f167->bt,underlying239->cj
open List renaming map_cons->bj,drop_eq_getElem_cons->bq,mem_cons->bw,nodup_cons->bx,map_append->bz,mapM_cons->bc,any_cons->bg,map->bh,mem_map->bn,map_nil->bp
set_option maxRecDepth 100000
set_option linter.unusedSimpArgs false
open Go Go.Pg Go.Proofs
namespace Go.Proofs.Tryz.Op
def JN(x:Int):Int:=if 1<x then 1 else x
def QE(l:List Int):List Int:=l.map JN
theorem A41(n d t c:Nat)(fr:Fr)(s:St)(a b:Int):stepK br (BR br ann kn (n+200)) (some d) (.call true none (.func 166) [.tmp t]) ⟨c,(t,true,.list true [[.int .i64 a],[.int .i64 b]])::fr,s⟩ =
  some ⟨c+1,(d,true,.int .i64 (if b<a then b else a))::(t,true,.list true [[.int .i64 a],[.int .i64 b]])::fr,s.put s.up.length d c .dead⟩:=by
 rw[YI (f:=166) (first:=[]) (cap:=[]) (vs:=[.list true [[.int .i64 a],[.int .i64 b]]]) (r:=.int .i64 (if b<a then b else a)) (by simp) (by simp) (by kernel_rfl) (by simp) (by simpa using k98 n a b)]
 rfl
theorem A42(n:Nat)(h:List Int)(hl:h.length=4):A5 br kn (AG br ann kn (n+300)) 187 [.agg (h.map i)]=some (.agg ((QE h).map i)):=by obtain⟨a0,a1,a2,a3,rfl⟩:=YQ hl;rw[AQ rfl,AR Tryz.func187 A86 rfl (by simp)];have o1:=fun d t c fr s a b=>A41 (n+89) d t c fr s a b;have o2:=fun d t c fr s a b=>A41 (n+88) d t c fr s a b;simp only[Nat.add_assoc,Nat.reduceAdd]at o1 o2;simp[AYV,AH,AD,o1,o2,QE,JN]
structure Mom where
 k:Int
 ch:List Int
 tk:List Int
deriving DecidableEq
structure Mom.ok(m:Mom):Prop where
 ch:m.ch.length=4
 tk:m.tk.length=4
 wk:UT m.k
 wc:∀x∈m.ch,UT x
 wt:∀x∈m.tk,UT x
def PA(m:Mom):List V:=i m.k::(m.ch.map i++m.tk.map i)
def MY(p:Mom×Bool):V×V:=(.agg (PA p.1),.bool p.2)
theorem kl3(d:Nat){n:Int}(h:(Lit.int .i64 n).wf=true):br.keyLits (d+1) 3 [.int .i64 n]=some [.int .i64 n]:=by unfold Program.keyLits;rw[Tryz.underlying3];simp only;rw[if_pos ⟨trivial,h⟩]
theorem ALW(d:Nat){a b c e:Int}(ha:(Lit.int .i64 a).wf=true)(hb:(Lit.int .i64 b).wf=true)(hc:(Lit.int .i64 c).wf=true)(he:(Lit.int .i64 e).wf=true) :
  br.keyLits (d+2) 160 [.int .i64 a,.int .i64 b,.int .i64 c,.int .i64 e]=some [.int .i64 a,.int .i64 b,.int .i64 c,.int .i64 e]:=by
 have c3:br.cellsOf 3=1:=QU
 unfold Program.keyLits
 rw[Tryz.underlying160]
 simp only
 rw[if_pos (by rw[aF];rfl),show List.range 4=[0,1,2,3] from rfl]
 simp[bc,c3,kl3 d ha,kl3 d hb,kl3 d hc,kl3 d he]
theorem A43(d:Nat){k a0 a1 a2 a3 b0 b1 b2 b3:Int}(hk:(Lit.int .i64 k).wf=true)(h0:(Lit.int .i64 a0).wf=true)(h1:(Lit.int .i64 a1).wf=true)(h2:(Lit.int .i64 a2).wf=true)(h3:(Lit.int .i64 a3).wf=true)
  (g0:(Lit.int .i64 b0).wf=true) (g1:(Lit.int .i64 b1).wf=true) (g2:(Lit.int .i64 b2).wf=true) (g3:(Lit.int .i64 b3).wf=true) :
  (br.keyLits (d+3) 239 [.int .i64 k,.int .i64 a0,.int .i64 a1,.int .i64 a2,.int .i64 a3,.int .i64 b0,.int .i64 b1,.int .i64 b2,.int .i64 b3]).isSome=true:=by
 have c3:br.cellsOf 3=1:=QU
 have V5:br.cellsOf 160=4:=aF
 unfold Program.keyLits
 rw[cj]
 simp only
 rw[if_pos (by rw[aH];exact⟨rfl,by decide +kernel⟩)]
 simp[bc,c3,V5,kl3 (d+1) hk,ALW d h0 h1 h2 h3,ALW d g0 g1 g2 g3]
theorem A44:br.keyType 239=true:=by kernel_rfl
theorem A45:br.types.size+1=(br.types.size-2)+3:=by have:2<=br.types.size:=of_decide_eq_true (by kernel_rfl);omega
theorem AEE(m:Mom)(h:m.ok):O3 br 239 (.agg (PA m))=some (PA m):=by
 obtain⟨k,ch,tk⟩:=m;obtain⟨a0,a1,a2,a3,rfl⟩:=YQ h.ch;obtain⟨b0,b1,b2,b3,rfl⟩:=YQ h.tk;have hk:=YR h.wk;have hc:=h.wc;have ht:=h.wt;simp only[bw,List.not_mem_nil,or_false,forall_eq_or_imp,forall_eq]at hc ht;have q:=A43 (br.types.size-2) hk (YR hc.1) (YR hc.2.1) (YR hc.2.2.1) (YR hc.2.2.2) (YR ht.1) (YR ht.2.1) (YR ht.2.2.1) (YR ht.2.2.2);rw[<-A45]at q;have hf:(Value.agg #[.int .i64 k,.int .i64 a0,.int .i64 a1,.int .i64 a2,.int .i64 a3,.int .i64 b0,.int .i64 b1,.int .i64 b2,.int .i64 b3]).formed br 239=true:=by unfold Value.formed;rw[cj];simp[aH]
 have hko:(keyOf br 239 (.agg #[.int .i64 k,.int .i64 a0,.int .i64 a1,.int .i64 a2,.int .i64 a3,.int .i64 b0,.int .i64 b1,.int .i64 b2,.int .i64 b3])).isSome=true:=by unfold keyOf;rw[cj];simp only;rw[if_pos (by rw[A44,hf];rfl),Option.isSome_map];exact q
 have hp:DD (PA ⟨k,[a0,a1,a2,a3],[b0,b1,b2,b3]⟩)=some [.int .i64 k,.int .i64 a0,.int .i64 a1,.int .i64 a2,.int .i64 a3,.int .i64 b0,.int .i64 b1,.int .i64 b2,.int .i64 b3]:=rfl;unfold O3;simp only[hp];rw[if_pos hko]
theorem tQ:gV br 239=true:=by kernel_rfl
theorem tR:nB br 220=some (239,4):=by kernel_rfl
theorem YY:∀(x y:List Int),x.length=y.length->rV (x.map i) (y.map i)=some (x==y)
 |[],[],_=>rfl
 |a::x,b::y,h=>by have ih:=YY x y (by simpa using h);simp only[bj];show(if IntKind.i64=IntKind.i64 then(match rV (x.map i) (y.map i)with|some r=>some ((a==b)&&r)|none=>none) else none)=_;rw[if_pos rfl,ih];rfl
theorem A46(m n:Mom)(hm:m.ok)(hn:n.ok):rV (PA m) (PA n)=some (decide (m=n)):=by
 have:=YY (m.k::(m.ch++m.tk)) (n.k::(n.ch++n.tk)) (by simp[hm.ch,hm.tk,hn.ch,hn.tk]);simp only[bj,bz]at this;show rV (i m.k::(m.ch.map i++m.tk.map i)) (i n.k::(n.ch.map i++n.tk.map i))=_;rw[this];congr 1;obtain⟨k,ch,tk⟩:=m;obtain⟨k',ch',tk'⟩:=n;have h1:=hm.ch;have h2:=hn.ch;simp only at h1 h2;by_cases h:(⟨k,ch,tk⟩:Mom)=⟨k',ch',tk'⟩
 ·simp only[Mom.mk.injEq]at h;obtain⟨rfl,rfl,rfl⟩:=h;simp
 ·rw[decide_eq_false h,beq_eq_false_iff_ne];intro hh;simp only[List.cons.injEq]at hh;obtain⟨rfl,hh⟩:=hh;obtain⟨rfl,rfl⟩:=List.append_inj hh (by rw[h1,h2]);exact h rfl
def Z3(m:Mom):List (Mom×Bool)->Nat->List Nat
 |[],_=>[]
 |p::L,j=>if p.1=m then j::Z3 m L (j+1) else Z3 m L (j+1)
theorem fO(m:Mom)(hm:m.ok):∀(L:List (Mom×Bool)) (j:Nat),(∀p∈L,p.1.ok)->HE br 239 (PA m) (L.map MY) j=some (Z3 m L j)
 |[],_,_=>rfl
 |p::L,j,h=>by have ih:=fO m hm L (j+1) (fun q hq=>h q (by simp[hq]));simp only[bj,MY,HE,AEE p.1 (h p (by simp)),A46 p.1 m (h p (by simp)) hm];have ih':HE br 239 (PA m) (bh MY L) (j+1)=some (Z3 m L (j+1)):=ih;rw[ih'];simp[Z3]
def HL(m:Mom):List (Mom×Bool)->Option Bool
 |[]=>none
 |p::L=>if p.1=m then some p.2 else HL m L
def K2(m:Mom)(b:Bool):List (Mom×Bool)->List (Mom×Bool)
 |[]=>[(m,b)]
 |p::L=>if p.1=m then(m,b)::L else p::K2 m b L
structure tS(L:List (Mom×Bool)):Prop where
 ok:∀p∈L,p.1.ok
 nd:(L.map (·.1)).Nodup
theorem tS.tail{p:Mom×Bool}{L:List (Mom×Bool)}(h:tS (p::L)):tS L:=⟨fun q hq=>h.ok q (by simp[hq]),(bx.1 h.nd).2⟩
theorem mC(m m':Mom)(b:Bool):∀L,HL m' (K2 m b L)=if m=m' then some b else HL m' L
 |[]=>by simp[K2,HL]
 |p::L=>by
  have ih:=mC m m' b L;unfold K2;split
  ·rename_i h;simp only[HL,h];split<;>rfl
  ·rename_i h;simp only[HL,ih];split
   ·rename_i h2;rw[if_neg (by rw[<-h2];exact fun hh=>h hh.symm)]
   ·rfl
theorem mD(m:Mom)(b:Bool):∀L,∀q∈(K2 m b L).map (·.1),q=m\/q∈L.map (·.1)
 |[],q,hq=>by simp[K2]at hq;exact .inl hq
 |p::L,q,hq=>by
  unfold K2 at hq;split at hq
  ·simp at hq;rcases hq with h|h
   ·exact .inl h
   ·exact .inr (by simp[h])
  ·simp only[bj,bw]at hq;rcases hq with h|h
   ·exact .inr (by simp[h])
   ·rcases mD m b L q h with h|h
    ·exact .inl h
    ·exact .inr (by simp only[bj,bw];exact .inr h)
theorem tT{m:Mom}(b:Bool)(hm:m.ok):∀{L},tS L->tS (K2 m b L)
 |[],_=>⟨by simp[K2,hm],by simp[K2]⟩
 |p::L,h=>by
  have ih:=tT b hm h.tail;unfold K2;split
  ·rename_i hp;refine⟨fun q hq=>?_,?_⟩
   ·simp only[bw]at hq;rcases hq with rfl|hq
    ·exact hm
    ·exact h.ok q (by simp[hq])
   ·have:=h.nd;simp only[bj,hp]at this|-;exact this
  ·rename_i hp;refine⟨fun q hq=>?_,?_⟩
   ·simp only[bw]at hq;rcases hq with rfl|hq
    ·exact h.ok q (by simp)
    ·exact ih.ok q hq
   ·simp only[bj,bx];refine⟨fun hh=>?_,ih.nd⟩;rcases mD m b L p.1 hh with hh|hh
    ·exact hp hh
    ·exact(bx.1 h.nd).1 hh
theorem R7(m:Mom):∀(L:List (Mom×Bool)) (j:Nat),m∉L.map (·.1)->Z3 m L j=[]/\HL m L=none/\∀b,K2 m b L=L++[(m,b)]
 |[],j,_=>⟨rfl,rfl,fun _=>rfl⟩
 |p::L,j,h=>by simp only[bj,bw,not_or]at h;obtain⟨i1,i2,i3⟩:=R7 m L (j+1) h.2;have hp:¬p.1=m:=fun hh=>h.1 hh.symm;exact⟨by simp[Z3,hp,i1],by simp[HL,hp,i2],fun b=>by simp[K2,hp,i3]⟩
theorem YZ(m:Mom):∀(L:List (Mom×Bool)) (j:Nat),m∈L.map (·.1)->(L.map (·.1)).Nodup->∃k,Z3 m L j=[j+k]/\(∃b,L[k]? = some (m,b)/\HL m L=some b)/\∀b,K2 m b L=L.set k (m,b)
 |p::L,j,h,hn=>by
  simp only[bj,bx]at hn;by_cases hp:p.1=m
  ·refine⟨0,?_,⟨p.2,?_,?_⟩,fun b=>?_⟩
   ·simp[Z3,hp,(R7 m L (j+1) (by rw[<-hp];exact hn.1)).1]
   ·simp[<-hp]
   ·simp[HL,hp]
   ·simp[K2,hp]
  ·simp only[bj,bw]at h;obtain⟨k,i1,⟨b,i2,i3⟩,i4⟩:=YZ m L (j+1) (h.resolve_left fun hh=>hp hh.symm) hn.2;refine⟨k+1,?_,⟨b,?_,?_⟩,fun b=>?_⟩
   ·simp[Z3,hp,i1];omega
   ·simpa using i2
   ·simp[HL,hp,i3]
   ·simp[K2,hp,i4]
theorem tU:PX br 4=some (.bool false):=by kernel_rfl
theorem AEF{s:St}{l q g:Nat}{L:List (Mom×Bool)}{m:Mom}(hs:s.get l q=some (g,.map (L.map MY)))(hL:tS L)(hm:m.ok) :
  CG br s 220 (.mp l q g) (.agg (PA m)) true=some (.tup [.bool ((HL m L).getD false),.bool (HL m L).isSome]):=by
 unfold CG
 simp only[tR,hs,tQ,AEE m hm,fO m hm L 0 hL.ok,and_self,if_true]
 by_cases h:m∈L.map (·.1)
 ·obtain⟨k,i1,⟨b,i2,i3⟩,_⟩:=YZ m L 0 h hL.nd;simp[i1,i2,i3,MY]
 ·obtain⟨i1,i2,_⟩:=R7 m L 0 h;simp[i1,i2,tU]
theorem AIT{s:St}{l q g:Nat}{L:List (Mom×Bool)}{m:Mom}{b:Bool}(hs:s.get l q=some (g,.map (L.map MY)))(hL:tS L)(hm:m.ok) :
  H4 br s 220 (.mp l q g) (.agg (PA m)) (.bool b)=some (l,q,g,(K2 m b L).map MY):=by
 unfold H4
 simp only[tR,hs,tQ,AEE m hm,fO m hm L 0 hL.ok,and_self,if_true]
 by_cases h:m∈L.map (·.1)
 ·obtain⟨k,i1,_,i4⟩:=YZ m L 0 h hL.nd;simp[i1,i4,MY]
 ·obtain⟨i1,_,i4⟩:=R7 m L 0 h;simp[i1,i4,MY]
def endsP(b:AY):Nat->Nat->AW->Bool
 |0,k,s=>b.counts.all (countOne s.money k)
 | d+1,k,s=>b.counts.all (countOne s.money k)&&(match b.lines[k]? with
  |some l=>(readingsP b.chairs l).any fun x=>(BX b.coin s k x).2&&endsP b d (k+1) (BX b.coin s k x).1
  | none=>false)
structure tV(s s':AW):Prop where
 lc:s.ch.length=s'.ch.length
 lt:s.tk.length=s'.tk.length
 ch:∀j,s.ch.getD j 0=0↔s'.ch.getD j 0=0
 tk:∀j,s.tk.getD j 0=0↔s'.tk.getD j 0=0
 mo:s.money=s'.money
theorem OS{l l':List Int}(hl:l.length=l'.length)(h:∀j,l.getD j 0=0↔l'.getD j 0=0)(n:Nat)(v:Int):∀j,(l.set n v).getD j 0=0↔(l'.set n v).getD j 0=0:=by
 intro j;have:=h j;simp only[List.getD_eq_getElem?_getD,List.getElem?_set]at this|-;by_cases hn:n=j
 ·subst hn;simp only[if_true,hl]
 ·simp only[hn,if_false];exact this
theorem qE{coin:Int}{s s':AW}(h:tV s s')(k:Int)(l:AE):(BX coin s k l).2=(BX coin s' k l).2/\tV (BX coin s k l).1 (BX coin s' k l).1:=by
 have e1:decide (s.ch.getD l.c.toNat 0=0)=decide (s'.ch.getD l.c.toNat 0=0):=decide_eq_decide.2 (h.ch _);have e2:decide (s.tk.getD l.t.toNat 0=0)=decide (s'.tk.getD l.t.toNat 0=0):=decide_eq_decide.2 (h.tk _);unfold BX;simp only[e1,e2];split
 ·exact⟨rfl,h⟩
 ·split
  ·refine⟨rfl,⟨?_,?_,OS h.lc h.ch _ _,OS h.lt h.tk _ _,?_⟩⟩
   ·simpa using h.lc
   ·simpa using h.lt
   ·simp only[h.mo]
  ·refine⟨rfl,⟨?_,?_,OS h.lc h.ch _ _,OS h.lt h.tk _ _,?_⟩⟩
   ·simpa using h.lc
   ·simpa using h.lt
   ·simp only[h.mo]
theorem Y0(b:AY):∀(d k:Nat) {s s':AW},tV s s'->endsP b d k s=endsP b d k s'
 |0,k,s,s',h=>by simp only[endsP,h.mo]
 |d+1,k,s,s',h=>by
  simp only[endsP,h.mo];cases b.lines[k]? with
  |none=>rfl
  |some l=>
   simp only
   congr 2
   funext x
   obtain⟨h1,h2⟩:=qE (coin:=b.coin) h (k:Int) x
   rw[h1,Y0 b d (k+1) h2]
def Z4(l:List Int):Int:=((l.filter fun x=>!decide (x=0)).length:Int)
structure xQ(b:AY)(k:Nat)(s:AW):Prop where
 ok:s.ok
 ch:∀x∈s.ch,0<=x/\x<=k
 tk:∀x∈s.tk,0<=x/\x<=k
 mo:s.money=b.box+b.coin*Z4 s.ch
def FY(k:Nat)(s:AW):Mom:=⟨k,QE s.ch,QE s.tk⟩
theorem cE{x:Int}(_h:0<=x):JN x=0↔x=0:=by unfold JN;split<;>omega
theorem Y1{x:Int}(h:0<=x):0<=JN x/\JN x<=1:=by unfold JN;split<;>omega
theorem AEG{b:AY}{k:Nat}{s:AW}(h:xQ b k s)(hk:k<=1000):(FY k s).ok where
 ch:=by simp[FY,QE,h.ok.ch]
 tk:=by simp[FY,QE,h.ok.tk]
 wk:=N3 (by simp only[FY];omega) (by simp only[FY];omega)
 wc:=by intro x hx;simp only[FY,QE,bn]at hx;obtain⟨y,hy,rfl⟩:=hx;have:=Y1 (h.ch y hy).1;exact N3 (by omega) (by omega)
 wt:=by intro x hx;simp only[FY,QE,bn]at hx;obtain⟨y,hy,rfl⟩:=hx;have:=Y1 (h.tk y hy).1;exact N3 (by omega) (by omega)
theorem TM:∀{l l':List Int},(∀x∈l,0<=x)->(∀x∈l',0<=x)->QE l=QE l'->(∀j,l.getD j 0=0↔l'.getD j 0=0)/\Z4 l=Z4 l'/\l.length=l'.length
 |[],[],_,_,_=>⟨fun _=>Iff.rfl,rfl,rfl⟩
 |[],_::_,_,_,h=>by simp[QE]at h
 |_::_,[],_,_,h=>by simp[QE]at h
 |a::l,a'::l',h1,h2,h=>by
  simp only[QE,bj,List.cons.injEq]at h;obtain⟨i1,i2,i3⟩:=TM (l:=l) (l':=l') (fun x hx=>h1 x (by simp[hx])) (fun x hx=>h2 x (by simp[hx])) h.2;have e1:=cE (h1 a (by simp));have e2:=cE (h2 a' (by simp));have e:a=0↔a'=0:=by rw[<-e1,<-e2,h.1]
  refine⟨fun j=>?_,?_,by simp[i3]⟩
  ·cases j with
   |zero=>simpa using e
   |succ j=>simpa using i1 j
  ·unfold Z4 at i2|-;by_cases ha:a=0
   ·have ha':=e.1 ha;simp only[List.filter_cons,ha,ha',decide_true,Bool.not_true,Bool.false_eq_true,if_false];exact i2
   ·have ha':¬a'=0:=fun hh=>ha (e.2 hh);simp only[List.filter_cons,ha,ha',decide_false,Bool.not_false,if_true,List.length_cons];omega
theorem xR{b:AY}{k k':Nat}{s s':AW}(h:xQ b k s)(h':xQ b k' s')(e:FY k s=FY k' s'):k=k'/\tV s s':=by simp only[FY,Mom.mk.injEq]at e;obtain⟨e0,e1,e2⟩:=e;obtain⟨i1,i2,i3⟩:=TM (fun x hx=>(h.ch x hx).1) (fun x hx=>(h'.ch x hx).1) e1;obtain⟨j1,j2,j3⟩:=TM (fun x hx=>(h.tk x hx).1) (fun x hx=>(h'.tk x hx).1) e2;exact⟨by omega,⟨i3,j3,i1,j1,by rw[h.mo,h'.mo,i2]⟩⟩
def UH(b:AY)(L:List (Mom×Bool)):Prop:=∀(k:Nat) (s:AW) (v:Bool),k<=b.lines.length->xQ b k s->HL (FY k s) L=some v->v=endsP b (b.lines.length-k) k s
theorem xS{b:AY}{L:List (Mom×Bool)}(h:UH b L){k:Nat}{s:AW}(hm:xQ b k s):UH b (K2 (FY k s) (endsP b (b.lines.length-k) k s) L):=by
 intro k' s' v hk' hm' hv;rw[mC]at hv;split at hv
 ·rename_i e;obtain⟨rfl,ha⟩:=xR hm hm' e;rw[<-Y0 b _ _ ha];exact(Option.some.inj hv).symm
 ·exact h k' s' v hk' hm' hv
def Y2(x:Int):Int:=if x=0 then 0 else 1
theorem cF(a:Int)(l:List Int):Z4 (a::l)=Y2 a+Z4 l:=by
 unfold Z4 Y2;by_cases ha:a=0
 ·simp[ha]
 ·simp[ha];omega
theorem Y3:∀(l:List Int) (n:Nat) (v:Int),n<l.length->Z4 (l.set n v)=Z4 l-Y2 (l.getD n 0)+Y2 v
 |a::l,0,v,_=>by simp only[List.set_cons_zero,cF,List.getD_cons_zero];omega
 |a::l,n+1,v,h=>by have:=Y3 l n v (by simpa using h);simp only[List.set_cons_succ,cF,List.getD_cons_succ,this];omega
theorem cG(b:AY):xQ b 0 (BG b) where
 ok:=⟨rfl,rfl⟩
 ch:=by intro x hx;simp[BG]at hx;omega
 tk:=by intro x hx;simp[BG]at hx;omega
 mo:=by simp[BG,Z4]
theorem OT{l:List Int}{k:Nat}{n:Nat}{v:Int}(h:∀x∈l,0<=x/\x<=k)(h0:0<=v)(h1:v<=(k+1:Nat)):∀x∈l.set n v,0<=x/\x<=(k+1:Nat):=by
 intro x hx;rcases List.mem_or_eq_of_mem_set hx with hx|rfl
 ·have:=h x hx;omega
 ·exact⟨h0,h1⟩
theorem mE{b:AY}{k:Nat}{s:AW}{l:AE}(h:xQ b k s)(hc0:0<=l.c)(hc:l.c<4)(h2:(BX b.coin s k l).2=true):xQ b (k+1) (BX b.coin s k l).1:=by
 have hlen:l.c.toNat<s.ch.length:=by rw[h.ok.ch];omega
 have e1:=Y3 s.ch l.c.toNat 0 hlen;have e2:=Y3 s.ch l.c.toNat ((k:Int)+1) hlen;have hz:Y2 0=0:=rfl;have hk:Y2 ((k:Int)+1)=1:=by unfold Y2;rw[if_neg (by omega)]
 have hm:=h.mo;unfold BX at h2|-;simp only at h2|-;by_cases ho:l.k=2
 ·simp only[ho,decide_true]at h2|-;split at h2
  ·cases h2
  ·rename_i hn;simp only[Bool.bne_true,Bool.not_not,Bool.or_eq_true,decide_eq_true_eq,not_or]at hn;rw[if_neg (by simpa using hn)];simp only[if_true];refine⟨⟨by simp[h.ok.ch],by simp[h.ok.tk]⟩,OT h.ch (by omega) (by omega),OT h.tk (by omega) (by omega),?_⟩;simp only;have h1:Y2 (s.ch.getD l.c.toNat 0)=1:=by unfold Y2;rw[if_neg hn.1]
   rw[e1,hm,h1,hz,Int.mul_add,Int.mul_sub];omega
 ·simp only[ho,decide_false]at h2|-;split at h2
  ·cases h2
  ·rename_i hn;simp only[Bool.bne_false,Bool.or_eq_true,Bool.not_eq_true',decide_eq_false_iff_not,not_or,Decidable.not_not]at hn;rw[if_neg (by simpa using hn)];simp only[Bool.false_eq_true,if_false];refine⟨⟨by simp[h.ok.ch],by simp[h.ok.tk]⟩,OT h.ch (by omega) (by omega),OT h.tk (by omega) (by omega),?_⟩;simp only;have h1:Y2 (s.ch.getD l.c.toNat 0)=0:=by unfold Y2;rw[if_pos hn.1]
   rw[e2,hm,h1,hk,Int.mul_add,Int.mul_sub];omega
theorem Y4(s:St)(f:Nat):∀l:List Int,(l.map i).mapM (AX s (f+1))=some (l.map i)
 |[]=>rfl
 |a::l=>by have e:AX s (f+1) (i a)=some (i a):=rfl;simp only[bj,bc,e,Y4 s f l];rfl
theorem AIU(s:St)(m:Mom):BQ s (.agg (PA m))=some (.agg (PA m)):=by have:=Y4 s 2 (m.k::(m.ch++m.tk));simp only[bj,bz]at this;show((i m.k::(m.ch.map i++m.tk.map i)).mapM (AX s 3)).map V.agg=_;rw[this];rfl
@[simp] theorem xT(s:St)(L:List (Mom×Bool)):BM s (.map (L.map MY))=.map (L.map MY):=by
 have:BN s (.map (L.map MY))=some (.map (L.map MY)):=by unfold BN;simp only;rw[HT];intro x hx;simp only[bn]at hx;obtain⟨p,_,rfl⟩:=hx;simp only[MY,AIU];rfl
 unfold BM;rw[this]
@[simp] theorem AW3(ps:List (Nat×V)):CI br 222 ps=if (ps.all fun p=>A9 p.2)=true then fU .agg (CR (fun i=>[(0,5),(5,1)][i]?) [V.int .i64 0,.int .i64 0,.int .i64 0,.nil,.nil,.raw (.map none)] ps) else none:=DY (by kernel_rfl) Tryz.underlying222 (by kernel_rfl) (by kernel_rfl) ps
@[simp] theorem A8A{P:Program}(r:Operand->Option V):FV P (.mkM none) r=[]:=rfl
def Y5(b:AY):List (List (Mom×Bool))->AA
 |[]=>[(6,2,.box [i b.chairs,i b.coin,i b.box,V.list false (b.lines.map AB),V.list false (b.counts.map AM),.mp 0 4 1]),(4,1,.map []),(1,0,.box [i b.chairs,i b.coin,i b.box,V.list false (b.lines.map AB),V.list false (b.counts.map AM)])]
 |L::Hs=>(4,1,.map (L.map MY))::Y5 b Hs
def JO:List (List (Mom×Bool))->List (Mom×Bool)
 |[]=>[]
 |L::_=>L
@[simp] theorem A47(b:AY):∀Hs,(Y5 b Hs).get 6=some (2,.box [i b.chairs,i b.coin,i b.box,V.list false (b.lines.map AB),V.list false (b.counts.map AM),.mp 0 4 1])
 |[]=>rfl
 |L::Hs=>by have:=A47 b Hs;simpa [Y5]using this
@[simp] theorem BFW(b:AY):∀Hs,(Y5 b Hs).get 4=some (1,.map ((JO Hs).map MY))
 |[]=>rfl
 |L::Hs=>by simp[Y5,JO]
@[simp] theorem A8B(b:AY)(L:List (Mom×Bool))(Hs:List (List (Mom×Bool))):AA.put (Y5 b Hs) 4 1 (.map (L.map MY))=Y5 b (L::Hs):=rfl
theorem JP(b:AY)(t:St)(ht:1<=t.up.length):∀Hs,AN t (Y5 b Hs)=Y5 b Hs
 |[]=>by
  have h0:¬0=t.up.length:=by omega
  obtain⟨up,loc⟩:=t;simp[Y5,h0,AB,AM];exact xT _ []
 |L::Hs=>by have:=JP b t ht Hs;simp[Y5,this]
def PR(rs:List AA):Prop:=∀s:St,rs.length+1<=s.up.length->rs.map (AN s)=rs
def T5(b:AY)(N k:Nat):Prop:=∀(rest:List AA) (loc:AA) (s:AW) (L:List (List (Mom×Bool))) (c dd:Nat) (fr:Fr),2<=c->PR (rest++[loc])->xQ b k s->s.bd k->tS (JO L)->UH b (JO L) ->
 ∃L' c',tS (JO L')/\UH b (JO L')/\c<=c'/\ME (BR br ann kn N) (some dd) ⟨c,fr,⟨Y5 b L::rest,loc⟩⟩ 167 [.ptr 0 6 2 0,.agg (AU s),i k] =
  some ⟨c',(dd,true,.bool (endsP b (b.lines.length-k) k s))::fr,⟨Y5 b L'::rest,loc⟩⟩
def MK(b:AY)(k:Nat)(s:AW)(x:AE):Bool:=(BX b.coin s k x).2&&endsP b (b.lines.length-(k+1)) (k+1) (BX b.coin s k x).1
theorem AR1(n:Nat)(b:AY)(k:Nat)(s:AW)(rs:List AA)(c0 c1:Nat)(mom:List V)(hst:PR rs)(hmom:∀t,BM t (.box mom)=.box mom)(xs:List AE)(hxs:∀x∈xs,(0<=x.c/\x.c<4)/\(0<=x.t/\x.t<4))(hlen:xs.length<=100)(hk:k<=100)(hco:1<=b.coin/\b.coin<=99)(hm:xQ b k s)(hbd:s.bd k)(hrec:T5 b (n+692) (k+1)) :
  ∀(e j:Nat) (L:List (List (Mom×Bool))) (c m:Nat),j+e=xs.length->e<m->tS (JO L)->UH b (JO L) ->
  ∃L' c',tS (JO L')/\UH b (JO L')/\c<=c'/\BS (AG br ann kn (n+700) 94) QP (some ([0,2,4,7,8,61,62,63],[4,7,61])) m
   ⟨c,[(0,true,.ptr 0 6 2 0),(2,true,i k),(4,true,.ptr (rs.length+1) 4 c0 0),(7,true,.ptr (rs.length+1) 7 c1 0),(8,true,.bool false),(61,true,sl (xs.map AB)),(62,true,i xs.length),(63,true,i j)],⟨Y5 b L::rs,[(4,c0,.box (AU s)),(7,c1,.box mom)]⟩⟩ =
   bif (xs.drop j).any (MK b k s) then some (.exit 0,⟨c',[(8,true,.bool true),(0,true,.ptr 0 6 2 0),(7,true,.ptr (rs.length+1) 7 c1 0)],⟨Y5 b L'::rs,[(7,c1,.box mom)]⟩⟩)
   else some (.exit 0,⟨c',[(64,true,.bool false),(0,true,.ptr 0 6 2 0),(2,true,i k),(4,true,.ptr (rs.length+1) 4 c0 0),(7,true,.ptr (rs.length+1) 7 c1 0),(8,true,.bool false),(61,true,sl (xs.map AB)),(62,true,i xs.length),(63,true,i xs.length)],⟨Y5 b L'::rs,[(4,c0,.box (AU s)),(7,c1,.box mom)]⟩⟩)
 |0,j,L,c,m+1,hd,hmm,hL,hS=>by
  have:j=xs.length:=by omega
  subst this;refine⟨L,c,hL,hS,Nat.le_refl _,?_⟩;simp[AD]
 |e+1,j,L,c,m+1,hd,hmm,hL,hS=>by
  have hj:j<xs.length:=by omega
  have hw:IntKind.i64.wrap ((j:Int)+1)=(j:Int)+1:=AV (by omega) (by omega);have hwk:IntKind.i64.wrap ((k:Int)+1)=(k:Int)+1:=AV (by omega) (by omega);obtain⟨⟨x1,x2⟩,x3,x4⟩:=hxs _ (List.getElem_mem hj);obtain⟨m0,m1,y0,y1⟩:=hbd;have q104:=fun n=>ARR n b s k xs[j] hm.ok x1 x2 x3 x4 (by omega) (by omega) (by omega) (by omega) (by omega) (by omega) (by omega) (by omega);obtain⟨a0,a1,a2,a3,b0,b1,b2,b3,hcs⟩:=DT hm.ok;obtain⟨A0,A1,A2,A3,B0,B1,B2,B3,hcn⟩:=DT (R3 b.coin s k xs[j] hm.ok);simp only[AC,AB,hcs,hcn]at q104;cases hn:(BX b.coin s k xs[j]).2 with
  |false=>
   obtain⟨L',c',i1,i2,i3,ih⟩:=AR1 n b k s rs c0 c1 mom hst hmom xs hxs hlen hk hco hm ⟨m0,m1,y0,y1⟩ hrec e (j+1) L (c+2) m (by omega) (by omega) hL hS
   refine⟨L',c',i1,i2,by omega,?_⟩
   rw[AD,bq hj]
   simp only[hn]at q104
   have hz:MK b k s xs[j]=false:=by simp[MK,hn]
   simp only[bg,hz,Bool.false_or]
   simp only[hcs]at ih|-
   try simp at ih
   simp[hj,hw,hwk,AB,AM,q104,ih]
  |true=>
   have hmn:xQ b (k+1) (BX b.coin s k xs[j]).1:=mE hm x1 x2 hn
   have hbn:=fM (j:=(k:Int)) (l:=xs[j]) (show s.bd k from⟨m0,m1,y0,y1⟩) hco.1 hco.2
   obtain⟨L1,C1,g1,g2,g3,gq⟩:=hrec rs [(4,c0,.box (AU s)),(7,c1,.box mom),(12,c+1,.box (AU (BX b.coin s k xs[j]).1))] (BX b.coin s k xs[j]).1 L (c+1+1) 84
    [(83,true,.int .i64 ((k:Int)+1)),(82,true,i k),(81,true,.agg (AU (BX b.coin s k xs[j]).1)),(80,true,.ptr 0 6 2 0),(79,true,.bool true),(78,true,.bool true),(0,true,.ptr 0 6 2 0),(2,true,i k),(4,true,.ptr (rs.length+1) 4 c0 0),
     (7,true,.ptr (rs.length+1) 7 c1 0),(8,true,.bool false),(12,true,.ptr (rs.length+1) 12 (c+1) 0),(13,true,.bool true),(61,true,sl (xs.map AB)),(62,true,i xs.length),(63,true,i j)]
    (by omega) (fun t ht=>by
     have h0:=hst t (by simp at ht; omega);simp only[bz,bj,bp,h0,hcs,hcn];simp[hmom]) hmn hbn hL hS
   have hz:MK b k s xs[j]=endsP b (b.lines.length-(k+1)) (k+1) (BX b.coin s k xs[j]).1:=by simp[MK,hn]
   rw[<-hz]at gq
   simp only[hn]at q104
   cases hv:MK b k s xs[j]with
   |true=>
    refine⟨L1,C1,g1,g2,by omega,?_⟩
    rw[AD,bq hj]
    simp only[bg,hv,Bool.true_or]
    rw[hv]at gq
    simp only[hcs,hcn]at gq|-
    try simp at gq
    simp[hj,hw,hwk,AB,AM,q104,gq]
   |false=>
    obtain⟨L',c',i1,i2,i3,ih⟩:=AR1 n b k s rs c0 c1 mom hst hmom xs hxs hlen hk hco hm ⟨m0,m1,y0,y1⟩ hrec e (j+1) L1 C1 m (by omega) (by omega) g1 g2
    refine⟨L',c',i1,i2,by omega,?_⟩
    rw[AD,bq hj]
    simp only[bg,hv,Bool.false_or]
    rw[hv]at gq
    simp only[hcs,hcn]at gq ih|-
    try simp at gq ih
    simp[hj,hw,hwk,AB,AM,q104,gq,ih]
structure QF(b:AY):Prop where
 ch1:1<=b.chairs
 ch4:b.chairs<=4
 ln:b.lines.length<=8
 cn:b.counts.length<=4
 co1:1<=b.coin
 co2:b.coin<=99
 bx1:0<=b.box
 bx2:b.box<=999
 lok:b.lines.all (CA b.chairs)=true
theorem VW{b:AY}(h:EP b=0):QF b:=by obtain⟨h1,h4,hl8,hc4,hc1,hc2,hx1,hx2,hok,_,_⟩:=TL h;exact⟨h1,h4,hl8,hc4,hc1,hc2,hx1,hx2,hok⟩
theorem N6{s:AW}(h:s.ok):∃a0 a1 a2 a3 b0 b1 b2 b3,s.ch=[a0,a1,a2,a3]/\s.tk=[b0,b1,b2,b3]/\AU s=[i a0,i a1,i a2,i a3,i b0,i b1,i b2,i b3,i s.money,i s.mixed]:=by obtain⟨a0,a1,a2,a3,e1⟩:=YQ h.ch;obtain⟨b0,b1,b2,b3,e2⟩:=YQ h.tk;exact⟨a0,a1,a2,a3,b0,b1,b2,b3,e1,e2,by simp[AU,e1,e2]⟩
def A48(b:AY)(N k:Nat):Prop:=∀(rs:List AA) (s:AW) (L:List (List (Mom×Bool))) (c dd:Nat) (fr:Fr),2<=c->PR rs->xQ b k s->s.bd k->tS (JO L)->UH b (JO L) ->
 ∃L' c',tS (JO L')/\UH b (JO L')/\c<=c'/\fC br (some dd) fr bt.results.toList (AG br ann kn N bt.ntmps gN ⟨c,AH 0 [.ptr 0 6 2 0,.agg (AU s),i k],⟨Y5 b L::rs,[]⟩⟩) =
  lH (some dd) fr c' (.bool (endsP b (b.lines.length-k) k s)) (CM (Y5 b L'::rs))
theorem AR2{b:AY}{N k:Nat}(h:A48 b N k):T5 b N k:=by intro rest loc s L c dd fr hc hst hm hbd hL hS;obtain⟨L',c',h1,h2,h3,h4⟩:=h (rest++[loc]) s L c dd fr hc hst hm hbd hL hS;refine⟨L',c',h1,h2,h3,?_⟩;rw[BP Tryz.func167 b167 rfl (by simp),List.cons_append,h4,<-List.cons_append,unsnoc_snoc];rfl
theorem BC0(b:AY)(hb:QF b)(hrd:∀l∈b.lines,∀x∈readingsP b.chairs l,(0<=x.c/\x.c<4)/\(0<=x.t/\x.t<4))(hrl:∀l∈b.lines,(readingsP b.chairs l).length<=100) :
  ∀(d k:Nat),k+d=b.lines.length->∀n,A48 b (n+18*d+1000) k:=by
 obtain⟨h1,h4,hl8,hc4,hc1,hc2,hx1,hx2,hok⟩:=hb
 intro d
 induction d with
 |zero=>
  intro k hk n rs s L c dd fr hc2' hst hm hbd hL hS
  have hs1:=fun t:St=>fun h=>hst t h
  obtain⟨a0,a1,a2,a3,b0,b1,b2,b3,hch,htk,hcs⟩:=N6 hm.ok
  have q93:=fun n=>k93 n b s k hm.ok (by omega)
  simp only[AC,hcs]at q93
  refine⟨L,c+1,hL,hS,by omega,?_⟩
  simp only[show bt.ntmps=94 from rfl]
  have hkl:k=b.lines.length:=by omega
  have he:decide ((k:Int)=b.lines.length)=true:=by simp[hkl]
  rw[show b.lines.length-k=0 by omega]
  simp only[endsP,hcs]
  generalize hc:b.counts.all (countOne s.money k)=cc at q93|-
  cases cc
  ·simp[gN,AH,JP,hs1,AB,AM,q93]
  ·simp[gN,AH,JP,hs1,AB,AM,q93,he]
 |succ d ih=>
  intro k hk n rs s L c dd fr hc2' hst hm hbd hL hS
  have hs1:=fun t:St=>fun h=>hst t h
  have hkl:k<b.lines.length:=by omega
  have hmo:=AEG hm (by omega)
  have ql:∀(r:List AA) (lo:AA),CG br ⟨Y5 b L::r,lo⟩ 220 (.mp 0 4 1) (.agg (PA (FY k s))) true=some (.tup [.bool ((HL (FY k s) (JO L)).getD false),.bool (HL (FY k s) (JO L)).isSome]):=fun r lo=>AEF (by simp) hL hmo
  have qu:∀(r:List AA) (lo:AA) (L':List (List (Mom×Bool))) (v:Bool),tS (JO L')->H4 br ⟨Y5 b L'::r,lo⟩ 220 (.mp 0 4 1) (.agg (PA (FY k s))) (.bool v)=some (0,4,1,(K2 (FY k s) v (JO L')).map MY):=fun r lo L' v h=>AIT (by simp) h hmo
  obtain⟨a0,a1,a2,a3,b0,b1,b2,b3,hch,htk,hcs⟩:=N6 hm.ok
  have q93:=fun n=>k93 n b s k hm.ok (by omega)
  have qa:=fun n=>A42 n [a0,a1,a2,a3] rfl
  have qb:=fun n=>A42 n [b0,b1,b2,b3] rfl
  have q81:=fun n=>k81 n b b.lines[k] h1 h4
  have he:decide ((k:Int)=b.lines.length)=false:=by rw[decide_eq_false_iff_not];omega
  have hen:PA (FY k s)=[.int .i64 k,i (JN a0),i (JN a1),i (JN a2),i (JN a3),i (JN b0),i (JN b1),i (JN b2),i (JN b3)]:=by simp only[PA,FY,hch,htk,QE,bj,bp];rfl
  rw[hen]at ql qu
  simp only[AC,hcs,bj,bp,QE,AB]at q93 qa qb q81
  have hmem:b.lines[k]∈b.lines:=List.getElem_mem hkl
  have hr:T5 b (n+18*(d+1)+290+692) (k+1):=by have:=AR2 (ih (k+1) (by omega) n);rwa [show n+18*(d+1)+290+692=n+18*d+1000 by omega]
  have hl:=AR1 (n+18*(d+1)+290) b k s rs c (c+1) [.int .i64 k,i (JN a0),i (JN a1),i (JN a2),i (JN a3),i (JN b0),i (JN b1),i (JN b2),i (JN b3)] hst (by intro t;simp) (readingsP b.chairs b.lines[k]) (hrd _ hmem) (hrl _ hmem) (by omega) ⟨hc1,hc2⟩ hm hbd hr
  generalize n+18*(d+1)=n2 at hl|-
  have hend:endsP b (b.lines.length-k) k s=(b.counts.all (countOne s.money k)&&(readingsP b.chairs b.lines[k]).any (MK b k s)):=by rw[show b.lines.length-k=d+1 by omega];simp only[endsP,List.getElem?_eq_getElem hkl];congr 2;funext x;simp only[MK];rw[show b.lines.length-(k+1)=d by omega]
  rw[hend]
  generalize hc:b.counts.all (countOne s.money k)=cc at q93 hend|-
  cases cc
  ·refine⟨L,c+1,hL,hS,by omega,?_⟩;simp only[show bt.ntmps=94 from rfl];simp only[hcs];simp[gN,AH,JP,hs1,AB,AM,q93]
  ·simp only[Bool.true_and]at hend|-;cases hlk:HL (FY k s) (JO L)with
   |some v=>
    have:=hS k s v (by omega) hm hlk
    rw[hend]at this
    rw[<-this]
    rw[hlk]at ql
    refine⟨L,c+2,hL,hS,by omega,?_⟩
    simp only[show bt.ntmps=94 from rfl]
    simp only[hcs]
    simp[gN,AH,JP,ql,qa,qb,hs1,AB,AM,q93,he]
   |none=>
    rw[hlk]at ql
    obtain⟨L1,C1,g1,g2,g3,gq⟩:=hl (readingsP b.chairs b.lines[k]).length 0 L (c+1+1) (n2+990) (by omega) (by have:=hrl _ hmem;omega) hL hS
    simp only[List.drop_zero]at gq
    have hsu:=xS g2 hm
    rw[hend]at hsu
    generalize hv:(readingsP b.chairs b.lines[k]).any (MK b k s)=v at gq hsu|-
    have qu1:=fun r lo v=>qu r lo L1 v g1
    have hu1:=fun fr s es=>YC (c:=C1) (fr:=fr) (s:=s) 0 4 1 es (by omega)
    refine⟨K2 (FY k s) v (JO L1)::L1,C1,tT v hmo g1,hsu,by omega,?_⟩
    simp only[show bt.ntmps=94 from rfl]
    simp only[hcs]at gq|-
    try simp at gq
    cases v
    ·simp at gq;simp[gN,AH,ql,qa,qb,hs1,AB,AM,q93,he,q81,hkl,gq,qu1,hu1,JP]
    ·simp at gq;simp[gN,AH,ql,qa,qb,hs1,AB,AM,q93,he,q81,hkl,gq,qu1,hu1,JP]
def N7(b:AY):Bool:=endsP b b.lines.length 0 (BG b)
theorem mF{b:AY}(h:QF b):(BG b).bd 0:=by have h1:=h.bx1;have h2:=h.bx2;exact⟨by simp[BG];omega,by simp[BG];omega,by simp[BG],by simp[BG]⟩
theorem AEH{b:AY}(h:QF b):∀l∈b.lines,∀x∈readingsP b.chairs l,(0<=x.c/\x.c<4)/\(0<=x.t/\x.t<4):=by intro l hl x hx;have h4:=h.ch4;obtain⟨_,h2,h3⟩:=I3 h.ch4 (List.all_eq_true.1 h.lok l hl) hx;omega
theorem A49(n:Nat)(b:AY)(hb:QF b)(fr:Fr)(dd:Nat):∃L c',3<=c'/\ME (BR br ann kn (n+1200)) (some dd) ⟨3,fr,⟨[],Y5 b []⟩⟩ 167 [.ptr 0 6 2 0,.agg (AU (BG b)),i 0]=some ⟨c',(dd,true,.bool (N7 b))::fr,⟨[],Y5 b L⟩⟩:=by
 have hl:=hb.ln;have hr:∀l∈b.lines,(readingsP b.chairs l).length<=100:=fun l _=>by have:=EA b.chairs l hb.ch4;omega
 obtain⟨L',c',h1,h2,h3,h4⟩:=BC0 b hb (AEH hb) hr b.lines.length 0 (by omega) (n+200-18*b.lines.length) [] (BG b) [] 3 dd fr (by omega) (by intro t _;rfl) (cG b) (mF hb) ⟨by simp[JO],by simp[JO]⟩ (by intro k s v _ _ h;simp[JO,HL]at h);rw[show n+200-18*b.lines.length+18*b.lines.length+1000=n+1200 by omega]at h4;refine⟨L',c',by omega,?_⟩;rw[BP Tryz.func167 b167 rfl (by simp)];simp only[List.nil_append];simp only[Int.natCast_zero]at h4;rw[h4];rfl
theorem k84(n:Nat)(b:AY)(hb:QF b):A5 br kn (AG br ann kn (n+1300)) 138 [.agg (AC b)]=some (.bool (N7 b)):=by rw[AQ rfl,AR Tryz.func138 A87 rfl (by simp[AC,AB,AM])];have q105:=fun n=>AIL n b;have q108:=fun fr=>A49 (n+97) b hb fr 9;obtain⟨a0,a1,a2,a3,b0,b1,b2,b3,hch,htk,hcs⟩:=N6 (FW b);simp only[AC,hcs,Y5]at q105 q108;simp[AYW,AH,AC,q105,KS,kB];obtain⟨L,c',h1,h2⟩:=q108 [(6,true,V.ptr 0 6 2 0),(5,true,V.agg [i b.chairs,i b.coin,i b.box,V.list false (bh AB b.lines),V.list false (bh AM b.counts),V.mp 0 4 1]),(4,true,V.mp 0 4 1),(8,true,V.agg [i a0,i a1,i a2,i a3,i b0,i b1,i b2,i b3,i (BG b).money,i (BG b).mixed]),(7,true,V.agg [i b.chairs,i b.coin,i b.box,V.list false (bh AB b.lines),V.list false (bh AM b.counts)]),(3,true,V.agg [i b.chairs,i b.coin,i b.box,V.list false (bh AB b.lines),V.list false (bh AM b.counts)]),(1,true,V.ptr 0 1 0 0)];simp[h2];done
def DW(b:AY)(fine:Bool):Int:=if EP b=0 then(if fine=true then(if N7 b=true then 0 else 11) else 2) else EP b
theorem k68(n:Nat)(b:AY)(fine:Bool):A5 br kn (AG br ann kn (n+1400)) 105 [.agg (AC b),.bool fine]=some (i (DW b fine)):=by
 rw[AQ rfl,AR Tryz.func105 A88 rfl (by simp[AC,AB,AM])];have q55:=fun n=>k55 n b;unfold DW;by_cases he:EP b=0
 ·have q84:=fun n=>k84 n b (VW he);rw[he]at q55;rw[if_pos he];simp only[AC]at q55 q84;cases fine
  ·simp[AAB,AH,AC,q55,AB,AM,q84];done
  ·generalize N7 b=p at q84;cases p
   ·simp[AAB,AH,AC,q55,AB,AM,q84];done
   ·simp[AAB,AH,AC,q55,AB,AM,q84];done
 ·have e:decide (EP b=0)=false:=by simpa using he
  rw[if_neg he];simp only[AC]at q55;simp[AAB,AH,AC,q55,AB,AM,e];done
end Go.Proofs.Tryz.Op
