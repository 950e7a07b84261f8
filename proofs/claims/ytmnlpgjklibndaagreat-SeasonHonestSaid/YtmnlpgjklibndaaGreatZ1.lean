/- Contracts: out. No condition. -/
import Derived.Test.YtmnlpgjklibndaaGreatW2
open Go.Proofs.Tryz renaming prog->br,f167->bt,underlying239->cj
open List renaming map_cons->bj,drop_eq_getElem_cons->bq,mem_cons->bw,nodup_cons->bx,map_append->bz,mapM_cons->bc,any_cons->bg,map->bh,mem_map->bn,map_nil->bp
set_option maxRecDepth 100000
set_option linter.unusedSimpArgs false
open Go Go.Pg Go.Proofs
namespace Go.Proofs.Tryz.Op
def J1(x:Int):Int:=if 1<x then 1 else x
def Q3(l:List Int):List Int:=l.map J1
theorem A6T(n d t c:Nat)(fr:Fr)(s:St)(a b:Int):stepK br (BS br ann kn (n+200)) (some d) (.call true none (.func 166) [.tmp t]) ⟨c,(t,true,.list true [[.int .i64 a],[.int .i64 b]])::fr,s⟩ =
  some ⟨c+1,(d,true,.int .i64 (if b<a then b else a))::(t,true,.list true [[.int .i64 a],[.int .i64 b]])::fr,s.put s.up.length d c .dead⟩:=by
 rw[ZE (f:=166) (first:=[]) (cap:=[]) (vs:=[.list true [[.int .i64 a],[.int .i64 b]]]) (r:=.int .i64 (if b<a then b else a)) (by simp) (by simp) (by kernel_rfl) (by simp) (by simpa using k98 n a b)]
 rfl
theorem A6U(n:Nat)(h:List Int)(hl:h.length=4):A4 br kn (AG br ann kn (n+300)) 187 [.agg (h.map i)]=some (.agg ((Q3 h).map i)):=by obtain⟨a0,a1,a2,a3,rfl⟩:=ZM hl;rw[AP rfl,AQ Tryz.func187 BAX rfl (by simp)];have o1:=fun d t c fr s a b=>A6T (n+89) d t c fr s a b;have o2:=fun d t c fr s a b=>A6T (n+88) d t c fr s a b;simp only[Nat.add_assoc,Nat.reduceAdd]at o1 o2;simp[A0I,AH,AE,o1,o2,Q3,J1]
structure Mom where
 k:Int
 ch:List Int
 tk:List Int
deriving DecidableEq
structure Mom.ok(m:Mom):Prop where
 ch:m.ch.length=4
 tk:m.tk.length=4
 wk:VN m.k
 wc:∀x∈m.ch,VN x
 wt:∀x∈m.tk,VN x
def PX(m:Mom):List V:=i m.k::(m.ch.map i++m.tk.map i)
def NG(p:Mom×Bool):V×V:=(.agg (PX p.1),.bool p.2)
theorem kl3(d:Nat){n:Int}(h:(Lit.int .i64 n).wf=true):br.keyLits (d+1) 3 [.int .i64 n]=some [.int .i64 n]:=by unfold Program.keyLits;rw[Tryz.underlying3];simp only;rw[if_pos ⟨trivial,h⟩]
theorem ANI(d:Nat){a b c e:Int}(ha:(Lit.int .i64 a).wf=true)(hb:(Lit.int .i64 b).wf=true)(hc:(Lit.int .i64 c).wf=true)(he:(Lit.int .i64 e).wf=true) :
  br.keyLits (d+2) 160 [.int .i64 a,.int .i64 b,.int .i64 c,.int .i64 e]=some [.int .i64 a,.int .i64 b,.int .i64 c,.int .i64 e]:=by
 have c3:br.cellsOf 3=1:=RM
 unfold Program.keyLits
 rw[Tryz.underlying160]
 simp only
 rw[if_pos (by rw[bI];rfl),show List.range 4=[0,1,2,3] from rfl]
 simp[bc,c3,kl3 d ha,kl3 d hb,kl3 d hc,kl3 d he]
theorem A6V(d:Nat){k a0 a1 a2 a3 b0 b1 b2 b3:Int}(hk:(Lit.int .i64 k).wf=true)(h0:(Lit.int .i64 a0).wf=true)(h1:(Lit.int .i64 a1).wf=true)(h2:(Lit.int .i64 a2).wf=true)(h3:(Lit.int .i64 a3).wf=true)
  (g0:(Lit.int .i64 b0).wf=true) (g1:(Lit.int .i64 b1).wf=true) (g2:(Lit.int .i64 b2).wf=true) (g3:(Lit.int .i64 b3).wf=true) :
  (br.keyLits (d+3) 239 [.int .i64 k,.int .i64 a0,.int .i64 a1,.int .i64 a2,.int .i64 a3,.int .i64 b0,.int .i64 b1,.int .i64 b2,.int .i64 b3]).isSome=true:=by
 have c3:br.cellsOf 3=1:=RM
 have WY:br.cellsOf 160=4:=bI
 unfold Program.keyLits
 rw[cj]
 simp only
 rw[if_pos (by rw[bK];exact⟨rfl,by decide +kernel⟩)]
 simp[bc,c3,WY,kl3 (d+1) hk,ANI d h0 h1 h2 h3,ANI d g0 g1 g2 g3]
theorem A6W:br.keyType 239=true:=by kernel_rfl
theorem A6X:br.types.size+1=(br.types.size-2)+3:=by have:2<=br.types.size:=of_decide_eq_true (by kernel_rfl);omega
theorem AFV(m:Mom)(h:m.ok):PQ br 239 (.agg (PX m))=some (PX m):=by
 obtain⟨k,ch,tk⟩:=m;obtain⟨a0,a1,a2,a3,rfl⟩:=ZM h.ch;obtain⟨b0,b1,b2,b3,rfl⟩:=ZM h.tk;have hk:=ZN h.wk;have hc:=h.wc;have ht:=h.wt;simp only[bw,List.not_mem_nil,or_false,forall_eq_or_imp,forall_eq]at hc ht;have q:=A6V (br.types.size-2) hk (ZN hc.1) (ZN hc.2.1) (ZN hc.2.2.1) (ZN hc.2.2.2) (ZN ht.1) (ZN ht.2.1) (ZN ht.2.2.1) (ZN ht.2.2.2);rw[<-A6X]at q;have hf:(Value.agg #[.int .i64 k,.int .i64 a0,.int .i64 a1,.int .i64 a2,.int .i64 a3,.int .i64 b0,.int .i64 b1,.int .i64 b2,.int .i64 b3]).formed br 239=true:=by unfold Value.formed;rw[cj];simp[bK]
 have hko:(keyOf br 239 (.agg #[.int .i64 k,.int .i64 a0,.int .i64 a1,.int .i64 a2,.int .i64 a3,.int .i64 b0,.int .i64 b1,.int .i64 b2,.int .i64 b3])).isSome=true:=by unfold keyOf;rw[cj];simp only;rw[if_pos (by rw[A6W,hf];rfl),Option.isSome_map];exact q
 have hp:DJ (PX ⟨k,[a0,a1,a2,a3],[b0,b1,b2,b3]⟩)=some [.int .i64 k,.int .i64 a0,.int .i64 a1,.int .i64 a2,.int .i64 a3,.int .i64 b0,.int .i64 b1,.int .i64 b2,.int .i64 b3]:=rfl;unfold PQ;simp only[hp];rw[if_pos hko]
theorem vR:jH br 239=true:=by kernel_rfl
theorem vS:oS br 220=some (239,4):=by kernel_rfl
theorem ZX:∀(x y:List Int),x.length=y.length->tP (x.map i) (y.map i)=some (x==y)
 |[],[],_=>rfl
 |a::x,b::y,h=>by have ih:=ZX x y (by simpa using h);simp only[bj];show(if IntKind.i64=IntKind.i64 then(match tP (x.map i) (y.map i)with|some r=>some ((a==b)&&r)|none=>none) else none)=_;rw[if_pos rfl,ih];rfl
theorem A6Y(m n:Mom)(hm:m.ok)(hn:n.ok):tP (PX m) (PX n)=some (decide (m=n)):=by
 have:=ZX (m.k::(m.ch++m.tk)) (n.k::(n.ch++n.tk)) (by simp[hm.ch,hm.tk,hn.ch,hn.tk]);simp only[bj,bz]at this;show tP (i m.k::(m.ch.map i++m.tk.map i)) (i n.k::(n.ch.map i++n.tk.map i))=_;rw[this];congr 1;obtain⟨k,ch,tk⟩:=m;obtain⟨k',ch',tk'⟩:=n;have h1:=hm.ch;have h2:=hn.ch;simp only at h1 h2;by_cases h:(⟨k,ch,tk⟩:Mom)=⟨k',ch',tk'⟩
 ·simp only[Mom.mk.injEq]at h;obtain⟨rfl,rfl,rfl⟩:=h;simp
 ·rw[decide_eq_false h,beq_eq_false_iff_ne];intro hh;simp only[List.cons.injEq]at hh;obtain⟨rfl,hh⟩:=hh;obtain⟨rfl,rfl⟩:=List.append_inj hh (by rw[h1,h2]);exact h rfl
def aZ(m:Mom):List (Mom×Bool)->Nat->List Nat
 |[],_=>[]
 |p::L,j=>if p.1=m then j::aZ m L (j+1) else aZ m L (j+1)
theorem gX(m:Mom)(hm:m.ok):∀(L:List (Mom×Bool)) (j:Nat),(∀p∈L,p.1.ok)->HP br 239 (PX m) (L.map NG) j=some (aZ m L j)
 |[],_,_=>rfl
 |p::L,j,h=>by have ih:=gX m hm L (j+1) (fun q hq=>h q (by simp[hq]));simp only[bj,NG,HP,AFV p.1 (h p (by simp)),A6Y p.1 m (h p (by simp)) hm];have ih':HP br 239 (PX m) (bh NG L) (j+1)=some (aZ m L (j+1)):=ih;rw[ih'];simp[aZ]
def HW(m:Mom):List (Mom×Bool)->Option Bool
 |[]=>none
 |p::L=>if p.1=m then some p.2 else HW m L
def LK(m:Mom)(b:Bool):List (Mom×Bool)->List (Mom×Bool)
 |[]=>[(m,b)]
 |p::L=>if p.1=m then(m,b)::L else p::LK m b L
structure vT(L:List (Mom×Bool)):Prop where
 ok:∀p∈L,p.1.ok
 nd:(L.map (·.1)).Nodup
theorem vT.tail{p:Mom×Bool}{L:List (Mom×Bool)}(h:vT (p::L)):vT L:=⟨fun q hq=>h.ok q (by simp[hq]),(bx.1 h.nd).2⟩
theorem nT(m m':Mom)(b:Bool):∀L,HW m' (LK m b L)=if m=m' then some b else HW m' L
 |[]=>by simp[LK,HW]
 |p::L=>by
  have ih:=nT m m' b L;unfold LK;split
  ·rename_i h;simp only[HW,h];split<;>rfl
  ·rename_i h;simp only[HW,ih];split
   ·rename_i h2;rw[if_neg (by rw[<-h2];exact fun hh=>h hh.symm)]
   ·rfl
theorem nU(m:Mom)(b:Bool):∀L,∀q∈(LK m b L).map (·.1),q=m\/q∈L.map (·.1)
 |[],q,hq=>by simp[LK]at hq;exact .inl hq
 |p::L,q,hq=>by
  unfold LK at hq;split at hq
  ·simp at hq;rcases hq with h|h
   ·exact .inl h
   ·exact .inr (by simp[h])
  ·simp only[bj,bw]at hq;rcases hq with h|h
   ·exact .inr (by simp[h])
   ·rcases nU m b L q h with h|h
    ·exact .inl h
    ·exact .inr (by simp only[bj,bw];exact .inr h)
theorem vU{m:Mom}(b:Bool)(hm:m.ok):∀{L},vT L->vT (LK m b L)
 |[],_=>⟨by simp[LK,hm],by simp[LK]⟩
 |p::L,h=>by
  have ih:=vU b hm h.tail;unfold LK;split
  ·rename_i hp;refine⟨fun q hq=>?_,?_⟩
   ·simp only[bw]at hq;rcases hq with rfl|hq
    ·exact hm
    ·exact h.ok q (by simp[hq])
   ·have:=h.nd;simp only[bj,hp]at this|-;exact this
  ·rename_i hp;refine⟨fun q hq=>?_,?_⟩
   ·simp only[bw]at hq;rcases hq with rfl|hq
    ·exact h.ok q (by simp)
    ·exact ih.ok q hq
   ·simp only[bj,bx];refine⟨fun hh=>?_,ih.nd⟩;rcases nU m b L p.1 hh with hh|hh
    ·exact hp hh
    ·exact(bx.1 h.nd).1 hh
theorem S2(m:Mom):∀(L:List (Mom×Bool)) (j:Nat),m∉L.map (·.1)->aZ m L j=[]/\HW m L=none/\∀b,LK m b L=L++[(m,b)]
 |[],j,_=>⟨rfl,rfl,fun _=>rfl⟩
 |p::L,j,h=>by simp only[bj,bw,not_or]at h;obtain⟨i1,i2,i3⟩:=S2 m L (j+1) h.2;have hp:¬p.1=m:=fun hh=>h.1 hh.symm;exact⟨by simp[aZ,hp,i1],by simp[HW,hp,i2],fun b=>by simp[LK,hp,i3]⟩
theorem ZY(m:Mom):∀(L:List (Mom×Bool)) (j:Nat),m∈L.map (·.1)->(L.map (·.1)).Nodup->∃k,aZ m L j=[j+k]/\(∃b,L[k]? = some (m,b)/\HW m L=some b)/\∀b,LK m b L=L.set k (m,b)
 |p::L,j,h,hn=>by
  simp only[bj,bx]at hn;by_cases hp:p.1=m
  ·refine⟨0,?_,⟨p.2,?_,?_⟩,fun b=>?_⟩
   ·simp[aZ,hp,(S2 m L (j+1) (by rw[<-hp];exact hn.1)).1]
   ·simp[<-hp]
   ·simp[HW,hp]
   ·simp[LK,hp]
  ·simp only[bj,bw]at h;obtain⟨k,i1,⟨b,i2,i3⟩,i4⟩:=ZY m L (j+1) (h.resolve_left fun hh=>hp hh.symm) hn.2;refine⟨k+1,?_,⟨b,?_,?_⟩,fun b=>?_⟩
   ·simp[aZ,hp,i1];omega
   ·simpa using i2
   ·simp[HW,hp,i3]
   ·simp[LK,hp,i4]
theorem vV:QL br 4=some (.bool false):=by kernel_rfl
theorem AFW{s:St}{l q g:Nat}{L:List (Mom×Bool)}{m:Mom}(hs:s.get l q=some (g,.map (L.map NG)))(hL:vT L)(hm:m.ok) :
  CM br s 220 (.mp l q g) (.agg (PX m)) true=some (.tup [.bool ((HW m L).getD false),.bool (HW m L).isSome]):=by
 unfold CM
 simp only[vS,hs,vR,AFV m hm,gX m hm L 0 hL.ok,and_self,if_true]
 by_cases h:m∈L.map (·.1)
 ·obtain⟨k,i1,⟨b,i2,i3⟩,_⟩:=ZY m L 0 h hL.nd;simp[i1,i2,i3,NG]
 ·obtain⟨i1,i2,_⟩:=S2 m L 0 h;simp[i1,i2,vV]
theorem AJ4{s:St}{l q g:Nat}{L:List (Mom×Bool)}{m:Mom}{b:Bool}(hs:s.get l q=some (g,.map (L.map NG)))(hL:vT L)(hm:m.ok) :
  IE br s 220 (.mp l q g) (.agg (PX m)) (.bool b)=some (l,q,g,(LK m b L).map NG):=by
 unfold IE
 simp only[vS,hs,vR,AFV m hm,gX m hm L 0 hL.ok,and_self,if_true]
 by_cases h:m∈L.map (·.1)
 ·obtain⟨k,i1,_,i4⟩:=ZY m L 0 h hL.nd;simp[i1,i4,NG]
 ·obtain⟨i1,_,i4⟩:=S2 m L 0 h;simp[i1,i4,NG]
def endsP(b:AY):Nat->Nat->AW->Bool
 |0,k,s=>b.counts.all (countOne s.money k)
 | d+1,k,s=>b.counts.all (countOne s.money k)&&(match b.lines[k]? with
  |some l=>(readingsP b.chairs l).any fun x=>(B6 b.coin s k x).2&&endsP b d (k+1) (B6 b.coin s k x).1
  | none=>false)
structure vW(s s':AW):Prop where
 lc:s.ch.length=s'.ch.length
 lt:s.tk.length=s'.tk.length
 ch:∀j,s.ch.getD j 0=0↔s'.ch.getD j 0=0
 tk:∀j,s.tk.getD j 0=0↔s'.tk.getD j 0=0
 mo:s.money=s'.money
theorem PE{l l':List Int}(hl:l.length=l'.length)(h:∀j,l.getD j 0=0↔l'.getD j 0=0)(n:Nat)(v:Int):∀j,(l.set n v).getD j 0=0↔(l'.set n v).getD j 0=0:=by
 intro j;have:=h j;simp only[List.getD_eq_getElem?_getD,List.getElem?_set]at this|-;by_cases hn:n=j
 ·subst hn;simp only[if_true,hl]
 ·simp only[hn,if_false];exact this
theorem sL{coin:Int}{s s':AW}(h:vW s s')(k:Int)(l:AF):(B6 coin s k l).2=(B6 coin s' k l).2/\vW (B6 coin s k l).1 (B6 coin s' k l).1:=by
 have e1:decide (s.ch.getD l.c.toNat 0=0)=decide (s'.ch.getD l.c.toNat 0=0):=decide_eq_decide.2 (h.ch _);have e2:decide (s.tk.getD l.t.toNat 0=0)=decide (s'.tk.getD l.t.toNat 0=0):=decide_eq_decide.2 (h.tk _);unfold B6;simp only[e1,e2];split
 ·exact⟨rfl,h⟩
 ·split
  ·refine⟨rfl,⟨?_,?_,PE h.lc h.ch _ _,PE h.lt h.tk _ _,?_⟩⟩
   ·simpa using h.lc
   ·simpa using h.lt
   ·simp only[h.mo]
  ·refine⟨rfl,⟨?_,?_,PE h.lc h.ch _ _,PE h.lt h.tk _ _,?_⟩⟩
   ·simpa using h.lc
   ·simpa using h.lt
   ·simp only[h.mo]
theorem ZZ(b:AY):∀(d k:Nat) {s s':AW},vW s s'->endsP b d k s=endsP b d k s'
 |0,k,s,s',h=>by simp only[endsP,h.mo]
 |d+1,k,s,s',h=>by
  simp only[endsP,h.mo];cases b.lines[k]? with
  |none=>rfl
  |some l=>
   simp only
   congr 2
   funext x
   obtain⟨h1,h2⟩:=sL (coin:=b.coin) h (k:Int) x
   rw[h1,ZZ b d (k+1) h2]
def bA(l:List Int):Int:=((l.filter fun x=>!decide (x=0)).length:Int)
structure zX(b:AY)(k:Nat)(s:AW):Prop where
 ok:s.ok
 ch:∀x∈s.ch,0<=x/\x<=k
 tk:∀x∈s.tk,0<=x/\x<=k
 mo:s.money=b.box+b.coin*bA s.ch
def F7(k:Nat)(s:AW):Mom:=⟨k,Q3 s.ch,Q3 s.tk⟩
theorem dM{x:Int}(_h:0<=x):J1 x=0↔x=0:=by unfold J1;split<;>omega
theorem Z0{x:Int}(h:0<=x):0<=J1 x/\J1 x<=1:=by unfold J1;split<;>omega
theorem AFX{b:AY}{k:Nat}{s:AW}(h:zX b k s)(hk:k<=1000):(F7 k s).ok where
 ch:=by simp[F7,Q3,h.ok.ch]
 tk:=by simp[F7,Q3,h.ok.tk]
 wk:=ON (by simp only[F7];omega) (by simp only[F7];omega)
 wc:=by intro x hx;simp only[F7,Q3,bn]at hx;obtain⟨y,hy,rfl⟩:=hx;have:=Z0 (h.ch y hy).1;exact ON (by omega) (by omega)
 wt:=by intro x hx;simp only[F7,Q3,bn]at hx;obtain⟨y,hy,rfl⟩:=hx;have:=Z0 (h.tk y hy).1;exact ON (by omega) (by omega)
theorem UG:∀{l l':List Int},(∀x∈l,0<=x)->(∀x∈l',0<=x)->Q3 l=Q3 l'->(∀j,l.getD j 0=0↔l'.getD j 0=0)/\bA l=bA l'/\l.length=l'.length
 |[],[],_,_,_=>⟨fun _=>Iff.rfl,rfl,rfl⟩
 |[],_::_,_,_,h=>by simp[Q3]at h
 |_::_,[],_,_,h=>by simp[Q3]at h
 |a::l,a'::l',h1,h2,h=>by
  simp only[Q3,bj,List.cons.injEq]at h;obtain⟨i1,i2,i3⟩:=UG (l:=l) (l':=l') (fun x hx=>h1 x (by simp[hx])) (fun x hx=>h2 x (by simp[hx])) h.2;have e1:=dM (h1 a (by simp));have e2:=dM (h2 a' (by simp));have e:a=0↔a'=0:=by rw[<-e1,<-e2,h.1]
  refine⟨fun j=>?_,?_,by simp[i3]⟩
  ·cases j with
   |zero=>simpa using e
   |succ j=>simpa using i1 j
  ·unfold bA at i2|-;by_cases ha:a=0
   ·have ha':=e.1 ha;simp only[List.filter_cons,ha,ha',decide_true,Bool.not_true,Bool.false_eq_true,if_false];exact i2
   ·have ha':¬a'=0:=fun hh=>ha (e.2 hh);simp only[List.filter_cons,ha,ha',decide_false,Bool.not_false,if_true,List.length_cons];omega
theorem zY{b:AY}{k k':Nat}{s s':AW}(h:zX b k s)(h':zX b k' s')(e:F7 k s=F7 k' s'):k=k'/\vW s s':=by simp only[F7,Mom.mk.injEq]at e;obtain⟨e0,e1,e2⟩:=e;obtain⟨i1,i2,i3⟩:=UG (fun x hx=>(h.ch x hx).1) (fun x hx=>(h'.ch x hx).1) e1;obtain⟨j1,j2,j3⟩:=UG (fun x hx=>(h.tk x hx).1) (fun x hx=>(h'.tk x hx).1) e2;exact⟨by omega,⟨i3,j3,i1,j1,by rw[h.mo,h'.mo,i2]⟩⟩
def VB(b:AY)(L:List (Mom×Bool)):Prop:=∀(k:Nat) (s:AW) (v:Bool),k<=b.lines.length->zX b k s->HW (F7 k s) L=some v->v=endsP b (b.lines.length-k) k s
theorem zZ{b:AY}{L:List (Mom×Bool)}(h:VB b L){k:Nat}{s:AW}(hm:zX b k s):VB b (LK (F7 k s) (endsP b (b.lines.length-k) k s) L):=by
 intro k' s' v hk' hm' hv;rw[nT]at hv;split at hv
 ·rename_i e;obtain⟨rfl,ha⟩:=zY hm hm' e;rw[<-ZZ b _ _ ha];exact(Option.some.inj hv).symm
 ·exact h k' s' v hk' hm' hv
def Z1(x:Int):Int:=if x=0 then 0 else 1
theorem dN(a:Int)(l:List Int):bA (a::l)=Z1 a+bA l:=by
 unfold bA Z1;by_cases ha:a=0
 ·simp[ha]
 ·simp[ha];omega
theorem Z2:∀(l:List Int) (n:Nat) (v:Int),n<l.length->bA (l.set n v)=bA l-Z1 (l.getD n 0)+Z1 v
 |a::l,0,v,_=>by simp only[List.set_cons_zero,dN,List.getD_cons_zero];omega
 |a::l,n+1,v,h=>by have:=Z2 l n v (by simpa using h);simp only[List.set_cons_succ,dN,List.getD_cons_succ,this];omega
theorem dO(b:AY):zX b 0 (BI b) where
 ok:=⟨rfl,rfl⟩
 ch:=by intro x hx;simp[BI]at hx;omega
 tk:=by intro x hx;simp[BI]at hx;omega
 mo:=by simp[BI,bA]
theorem PF{l:List Int}{k:Nat}{n:Nat}{v:Int}(h:∀x∈l,0<=x/\x<=k)(h0:0<=v)(h1:v<=(k+1:Nat)):∀x∈l.set n v,0<=x/\x<=(k+1:Nat):=by
 intro x hx;rcases List.mem_or_eq_of_mem_set hx with hx|rfl
 ·have:=h x hx;omega
 ·exact⟨h0,h1⟩
theorem nV{b:AY}{k:Nat}{s:AW}{l:AF}(h:zX b k s)(hc0:0<=l.c)(hc:l.c<4)(h2:(B6 b.coin s k l).2=true):zX b (k+1) (B6 b.coin s k l).1:=by
 have hlen:l.c.toNat<s.ch.length:=by rw[h.ok.ch];omega
 have e1:=Z2 s.ch l.c.toNat 0 hlen;have e2:=Z2 s.ch l.c.toNat ((k:Int)+1) hlen;have hz:Z1 0=0:=rfl;have hk:Z1 ((k:Int)+1)=1:=by unfold Z1;rw[if_neg (by omega)]
 have hm:=h.mo;unfold B6 at h2|-;simp only at h2|-;by_cases ho:l.k=2
 ·simp only[ho,decide_true]at h2|-;split at h2
  ·cases h2
  ·rename_i hn;simp only[Bool.bne_true,Bool.not_not,Bool.or_eq_true,decide_eq_true_eq,not_or]at hn;rw[if_neg (by simpa using hn)];simp only[if_true];refine⟨⟨by simp[h.ok.ch],by simp[h.ok.tk]⟩,PF h.ch (by omega) (by omega),PF h.tk (by omega) (by omega),?_⟩;simp only;have h1:Z1 (s.ch.getD l.c.toNat 0)=1:=by unfold Z1;rw[if_neg hn.1]
   rw[e1,hm,h1,hz,Int.mul_add,Int.mul_sub];omega
 ·simp only[ho,decide_false]at h2|-;split at h2
  ·cases h2
  ·rename_i hn;simp only[Bool.bne_false,Bool.or_eq_true,Bool.not_eq_true',decide_eq_false_iff_not,not_or,Decidable.not_not]at hn;rw[if_neg (by simpa using hn)];simp only[Bool.false_eq_true,if_false];refine⟨⟨by simp[h.ok.ch],by simp[h.ok.tk]⟩,PF h.ch (by omega) (by omega),PF h.tk (by omega) (by omega),?_⟩;simp only;have h1:Z1 (s.ch.getD l.c.toNat 0)=0:=by unfold Z1;rw[if_pos hn.1]
   rw[e2,hm,h1,hk,Int.mul_add,Int.mul_sub];omega
theorem Z3(s:St)(f:Nat):∀l:List Int,(l.map i).mapM (AX s (f+1))=some (l.map i)
 |[]=>rfl
 |a::l=>by have e:AX s (f+1) (i a)=some (i a):=rfl;simp only[bj,bc,e,Z3 s f l];rfl
theorem AJ5(s:St)(m:Mom):BT s (.agg (PX m))=some (.agg (PX m)):=by have:=Z3 s 2 (m.k::(m.ch++m.tk));simp only[bj,bz]at this;show((i m.k::(m.ch.map i++m.tk.map i)).mapM (AX s 3)).map V.agg=_;rw[this];rfl
@[simp] theorem AAA(s:St)(L:List (Mom×Bool)):BN s (.map (L.map NG))=.map (L.map NG):=by
 have:BO s (.map (L.map NG))=some (.map (L.map NG)):=by unfold BO;simp only;rw[H4];intro x hx;simp only[bn]at hx;obtain⟨p,_,rfl⟩:=hx;simp only[NG,AJ5];rfl
 unfold BN;rw[this]
@[simp] theorem AYV(ps:List (Nat×V)):CO br 222 ps=if (ps.all fun p=>A9 p.2)=true then hU .agg (CX (fun i=>[(0,5),(5,1)][i]?) [V.int .i64 0,.int .i64 0,.int .i64 0,.nil,.nil,.raw (.map none)] ps) else none:=EA (by kernel_rfl) Tryz.underlying222 (by kernel_rfl) (by kernel_rfl) ps
@[simp] theorem A91{P:Program}(r:Operand->Option V):F5 P (.mkM none) r=[]:=rfl
def Z4(b:AY):List (List (Mom×Bool))->AA
 |[]=>[(6,2,.box [i b.chairs,i b.coin,i b.box,V.list false (b.lines.map AB),V.list false (b.counts.map AN),.mp 0 4 1]),(4,1,.map []),(1,0,.box [i b.chairs,i b.coin,i b.box,V.list false (b.lines.map AB),V.list false (b.counts.map AN)])]
 |L::Hs=>(4,1,.map (L.map NG))::Z4 b Hs
def J2:List (List (Mom×Bool))->List (Mom×Bool)
 |[]=>[]
 |L::_=>L
@[simp] theorem A6Z(b:AY):∀Hs,(Z4 b Hs).get 6=some (2,.box [i b.chairs,i b.coin,i b.box,V.list false (b.lines.map AB),V.list false (b.counts.map AN),.mp 0 4 1])
 |[]=>rfl
 |L::Hs=>by have:=A6Z b Hs;simpa [Z4]using this
@[simp] theorem BHT(b:AY):∀Hs,(Z4 b Hs).get 4=some (1,.map ((J2 Hs).map NG))
 |[]=>rfl
 |L::Hs=>by simp[Z4,J2]
@[simp] theorem A92(b:AY)(L:List (Mom×Bool))(Hs:List (List (Mom×Bool))):AA.put (Z4 b Hs) 4 1 (.map (L.map NG))=Z4 b (L::Hs):=rfl
theorem J3(b:AY)(t:St)(ht:1<=t.up.length):∀Hs,AO t (Z4 b Hs)=Z4 b Hs
 |[]=>by
  have h0:¬0=t.up.length:=by omega
  obtain⟨up,loc⟩:=t;simp[Z4,h0,AB,AN];exact AAA _ []
 |L::Hs=>by have:=J3 b t ht Hs;simp[Z4,this]
def QD(rs:List AA):Prop:=∀s:St,rs.length+1<=s.up.length->rs.map (AO s)=rs
def UY(b:AY)(N k:Nat):Prop:=∀(rest:List AA) (loc:AA) (s:AW) (L:List (List (Mom×Bool))) (c dd:Nat) (fr:Fr),2<=c->QD (rest++[loc])->zX b k s->s.bd k->vT (J2 L)->VB b (J2 L) ->
 ∃L' c',vT (J2 L')/\VB b (J2 L')/\c<=c'/\MU (BS br ann kn N) (some dd) ⟨c,fr,⟨Z4 b L::rest,loc⟩⟩ 167 [.ptr 0 6 2 0,.agg (AU s),i k] =
  some ⟨c',(dd,true,.bool (endsP b (b.lines.length-k) k s))::fr,⟨Z4 b L'::rest,loc⟩⟩
def M2(b:AY)(k:Nat)(s:AW)(x:AF):Bool:=(B6 b.coin s k x).2&&endsP b (b.lines.length-(k+1)) (k+1) (B6 b.coin s k x).1
theorem ATO(n:Nat)(b:AY)(k:Nat)(s:AW)(rs:List AA)(c0 c1:Nat)(mom:List V)(hst:QD rs)(hmom:∀t,BN t (.box mom)=.box mom)(xs:List AF)(hxs:∀x∈xs,(0<=x.c/\x.c<4)/\(0<=x.t/\x.t<4))(hlen:xs.length<=100)(hk:k<=100)(hco:1<=b.coin/\b.coin<=99)(hm:zX b k s)(hbd:s.bd k)(hrec:UY b (n+692) (k+1)) :
  ∀(e j:Nat) (L:List (List (Mom×Bool))) (c m:Nat),j+e=xs.length->e<m->vT (J2 L)->VB b (J2 L) ->
  ∃L' c',vT (J2 L')/\VB b (J2 L')/\c<=c'/\BR (AG br ann kn (n+700) 94) RH (some ([0,2,4,7,8,61,62,63],[4,7,61])) m
   ⟨c,[(0,true,.ptr 0 6 2 0),(2,true,i k),(4,true,.ptr (rs.length+1) 4 c0 0),(7,true,.ptr (rs.length+1) 7 c1 0),(8,true,.bool false),(61,true,sl (xs.map AB)),(62,true,i xs.length),(63,true,i j)],⟨Z4 b L::rs,[(4,c0,.box (AU s)),(7,c1,.box mom)]⟩⟩ =
   bif (xs.drop j).any (M2 b k s) then some (.exit 0,⟨c',[(8,true,.bool true),(0,true,.ptr 0 6 2 0),(7,true,.ptr (rs.length+1) 7 c1 0)],⟨Z4 b L'::rs,[(7,c1,.box mom)]⟩⟩)
   else some (.exit 0,⟨c',[(64,true,.bool false),(0,true,.ptr 0 6 2 0),(2,true,i k),(4,true,.ptr (rs.length+1) 4 c0 0),(7,true,.ptr (rs.length+1) 7 c1 0),(8,true,.bool false),(61,true,sl (xs.map AB)),(62,true,i xs.length),(63,true,i xs.length)],⟨Z4 b L'::rs,[(4,c0,.box (AU s)),(7,c1,.box mom)]⟩⟩)
 |0,j,L,c,m+1,hd,hmm,hL,hS=>by
  have:j=xs.length:=by omega
  subst this;refine⟨L,c,hL,hS,Nat.le_refl _,?_⟩;simp[AE]
 |e+1,j,L,c,m+1,hd,hmm,hL,hS=>by
  have hj:j<xs.length:=by omega
  have hw:IntKind.i64.wrap ((j:Int)+1)=(j:Int)+1:=AV (by omega) (by omega);have hwk:IntKind.i64.wrap ((k:Int)+1)=(k:Int)+1:=AV (by omega) (by omega);obtain⟨⟨x1,x2⟩,x3,x4⟩:=hxs _ (List.getElem_mem hj);obtain⟨m0,m1,y0,y1⟩:=hbd;have q104:=fun n=>ATD n b s k xs[j] hm.ok x1 x2 x3 x4 (by omega) (by omega) (by omega) (by omega) (by omega) (by omega) (by omega) (by omega);obtain⟨a0,a1,a2,a3,b0,b1,b2,b3,hcs⟩:=D4 hm.ok;obtain⟨A0,A1,A2,A3,B0,B1,B2,B3,hcn⟩:=D4 (SY b.coin s k xs[j] hm.ok);simp only[AC,AB,hcs,hcn]at q104;cases hn:(B6 b.coin s k xs[j]).2 with
  |false=>
   obtain⟨L',c',i1,i2,i3,ih⟩:=ATO n b k s rs c0 c1 mom hst hmom xs hxs hlen hk hco hm ⟨m0,m1,y0,y1⟩ hrec e (j+1) L (c+2) m (by omega) (by omega) hL hS
   refine⟨L',c',i1,i2,by omega,?_⟩
   rw[AE,bq hj]
   simp only[hn]at q104
   have hz:M2 b k s xs[j]=false:=by simp[M2,hn]
   simp only[bg,hz,Bool.false_or]
   simp only[hcs]at ih|-
   try simp at ih
   simp[hj,hw,hwk,AB,AN,q104,ih]
  |true=>
   have hmn:zX b (k+1) (B6 b.coin s k xs[j]).1:=nV hm x1 x2 hn
   have hbn:=gU (j:=(k:Int)) (l:=xs[j]) (show s.bd k from⟨m0,m1,y0,y1⟩) hco.1 hco.2
   obtain⟨L1,C1,g1,g2,g3,gq⟩:=hrec rs [(4,c0,.box (AU s)),(7,c1,.box mom),(12,c+1,.box (AU (B6 b.coin s k xs[j]).1))] (B6 b.coin s k xs[j]).1 L (c+1+1) 84
    [(83,true,.int .i64 ((k:Int)+1)),(82,true,i k),(81,true,.agg (AU (B6 b.coin s k xs[j]).1)),(80,true,.ptr 0 6 2 0),(79,true,.bool true),(78,true,.bool true),(0,true,.ptr 0 6 2 0),(2,true,i k),(4,true,.ptr (rs.length+1) 4 c0 0),
     (7,true,.ptr (rs.length+1) 7 c1 0),(8,true,.bool false),(12,true,.ptr (rs.length+1) 12 (c+1) 0),(13,true,.bool true),(61,true,sl (xs.map AB)),(62,true,i xs.length),(63,true,i j)]
    (by omega) (fun t ht=>by
     have h0:=hst t (by simp at ht; omega);simp only[bz,bj,bp,h0,hcs,hcn];simp[hmom]) hmn hbn hL hS
   have hz:M2 b k s xs[j]=endsP b (b.lines.length-(k+1)) (k+1) (B6 b.coin s k xs[j]).1:=by simp[M2,hn]
   rw[<-hz]at gq
   simp only[hn]at q104
   cases hv:M2 b k s xs[j]with
   |true=>
    refine⟨L1,C1,g1,g2,by omega,?_⟩
    rw[AE,bq hj]
    simp only[bg,hv,Bool.true_or]
    rw[hv]at gq
    simp only[hcs,hcn]at gq|-
    try simp at gq
    simp[hj,hw,hwk,AB,AN,q104,gq]
   |false=>
    obtain⟨L',c',i1,i2,i3,ih⟩:=ATO n b k s rs c0 c1 mom hst hmom xs hxs hlen hk hco hm ⟨m0,m1,y0,y1⟩ hrec e (j+1) L1 C1 m (by omega) (by omega) g1 g2
    refine⟨L',c',i1,i2,by omega,?_⟩
    rw[AE,bq hj]
    simp only[bg,hv,Bool.false_or]
    rw[hv]at gq
    simp only[hcs,hcn]at gq ih|-
    try simp at gq ih
    simp[hj,hw,hwk,AB,AN,q104,gq,ih]
structure Q4(b:AY):Prop where
 ch1:1<=b.chairs
 ch4:b.chairs<=4
 ln:b.lines.length<=8
 cn:b.counts.length<=4
 co1:1<=b.coin
 co2:b.coin<=99
 bx1:0<=b.box
 bx2:b.box<=999
 lok:b.lines.all (CG b.chairs)=true
theorem WP{b:AY}(h:EX b=0):Q4 b:=by obtain⟨h1,h4,hl8,hc4,hc1,hc2,hx1,hx2,hok,_,_⟩:=UF h;exact⟨h1,h4,hl8,hc4,hc1,hc2,hx1,hx2,hok⟩
theorem OQ{s:AW}(h:s.ok):∃a0 a1 a2 a3 b0 b1 b2 b3,s.ch=[a0,a1,a2,a3]/\s.tk=[b0,b1,b2,b3]/\AU s=[i a0,i a1,i a2,i a3,i b0,i b1,i b2,i b3,i s.money,i s.mixed]:=by obtain⟨a0,a1,a2,a3,e1⟩:=ZM h.ch;obtain⟨b0,b1,b2,b3,e2⟩:=ZM h.tk;exact⟨a0,a1,a2,a3,b0,b1,b2,b3,e1,e2,by simp[AU,e1,e2]⟩
def A60(b:AY)(N k:Nat):Prop:=∀(rs:List AA) (s:AW) (L:List (List (Mom×Bool))) (c dd:Nat) (fr:Fr),2<=c->QD rs->zX b k s->s.bd k->vT (J2 L)->VB b (J2 L) ->
 ∃L' c',vT (J2 L')/\VB b (J2 L')/\c<=c'/\gK br (some dd) fr bt.results.toList (AG br ann kn N bt.ntmps iT ⟨c,AH 0 [.ptr 0 6 2 0,.agg (AU s),i k],⟨Z4 b L::rs,[]⟩⟩) =
  mX (some dd) fr c' (.bool (endsP b (b.lines.length-k) k s)) (CV (Z4 b L'::rs))
theorem ATP{b:AY}{N k:Nat}(h:A60 b N k):UY b N k:=by intro rest loc s L c dd fr hc hst hm hbd hL hS;obtain⟨L',c',h1,h2,h3,h4⟩:=h (rest++[loc]) s L c dd fr hc hst hm hbd hL hS;refine⟨L',c',h1,h2,h3,?_⟩;rw[BQ Tryz.func167 b167 rfl (by simp),List.cons_append,h4,<-List.cons_append,unsnoc_snoc];rfl
theorem BEV(b:AY)(hb:Q4 b)(hrd:∀l∈b.lines,∀x∈readingsP b.chairs l,(0<=x.c/\x.c<4)/\(0<=x.t/\x.t<4))(hrl:∀l∈b.lines,(readingsP b.chairs l).length<=100) :
  ∀(d k:Nat),k+d=b.lines.length->∀n,A60 b (n+18*d+1000) k:=by
 obtain⟨h1,h4,hl8,hc4,hc1,hc2,hx1,hx2,hok⟩:=hb
 intro d
 induction d with
 |zero=>
  intro k hk n rs s L c dd fr hc2' hst hm hbd hL hS
  have hs1:=fun t:St=>fun h=>hst t h
  obtain⟨a0,a1,a2,a3,b0,b1,b2,b3,hch,htk,hcs⟩:=OQ hm.ok
  have q93:=fun n=>k93 n b s k hm.ok (by omega)
  simp only[AC,hcs]at q93
  refine⟨L,c+1,hL,hS,by omega,?_⟩
  simp only[show bt.ntmps=94 from rfl]
  have hkl:k=b.lines.length:=by omega
  have he:decide ((k:Int)=b.lines.length)=true:=by simp[hkl]
  rw[show b.lines.length-k=0 by omega]
  simp only[endsP,hcs]
  generalize hc:b.counts.all (countOne s.money k)=cc at q93|-
  cases cc
  ·simp[iT,AH,J3,hs1,AB,AN,q93]
  ·simp[iT,AH,J3,hs1,AB,AN,q93,he]
 |succ d ih=>
  intro k hk n rs s L c dd fr hc2' hst hm hbd hL hS
  have hs1:=fun t:St=>fun h=>hst t h
  have hkl:k<b.lines.length:=by omega
  have hmo:=AFX hm (by omega)
  have ql:∀(r:List AA) (lo:AA),CM br ⟨Z4 b L::r,lo⟩ 220 (.mp 0 4 1) (.agg (PX (F7 k s))) true=some (.tup [.bool ((HW (F7 k s) (J2 L)).getD false),.bool (HW (F7 k s) (J2 L)).isSome]):=fun r lo=>AFW (by simp) hL hmo
  have qu:∀(r:List AA) (lo:AA) (L':List (List (Mom×Bool))) (v:Bool),vT (J2 L')->IE br ⟨Z4 b L'::r,lo⟩ 220 (.mp 0 4 1) (.agg (PX (F7 k s))) (.bool v)=some (0,4,1,(LK (F7 k s) v (J2 L')).map NG):=fun r lo L' v h=>AJ4 (by simp) h hmo
  obtain⟨a0,a1,a2,a3,b0,b1,b2,b3,hch,htk,hcs⟩:=OQ hm.ok
  have q93:=fun n=>k93 n b s k hm.ok (by omega)
  have qa:=fun n=>A6U n [a0,a1,a2,a3] rfl
  have qb:=fun n=>A6U n [b0,b1,b2,b3] rfl
  have q81:=fun n=>k81 n b b.lines[k] h1 h4
  have he:decide ((k:Int)=b.lines.length)=false:=by rw[decide_eq_false_iff_not];omega
  have hen:PX (F7 k s)=[.int .i64 k,i (J1 a0),i (J1 a1),i (J1 a2),i (J1 a3),i (J1 b0),i (J1 b1),i (J1 b2),i (J1 b3)]:=by simp only[PX,F7,hch,htk,Q3,bj,bp];rfl
  rw[hen]at ql qu
  simp only[AC,hcs,bj,bp,Q3,AB]at q93 qa qb q81
  have hmem:b.lines[k]∈b.lines:=List.getElem_mem hkl
  have hr:UY b (n+18*(d+1)+290+692) (k+1):=by have:=ATP (ih (k+1) (by omega) n);rwa [show n+18*(d+1)+290+692=n+18*d+1000 by omega]
  have hl:=ATO (n+18*(d+1)+290) b k s rs c (c+1) [.int .i64 k,i (J1 a0),i (J1 a1),i (J1 a2),i (J1 a3),i (J1 b0),i (J1 b1),i (J1 b2),i (J1 b3)] hst (by intro t;simp) (readingsP b.chairs b.lines[k]) (hrd _ hmem) (hrl _ hmem) (by omega) ⟨hc1,hc2⟩ hm hbd hr
  generalize n+18*(d+1)=n2 at hl|-
  have hend:endsP b (b.lines.length-k) k s=(b.counts.all (countOne s.money k)&&(readingsP b.chairs b.lines[k]).any (M2 b k s)):=by rw[show b.lines.length-k=d+1 by omega];simp only[endsP,List.getElem?_eq_getElem hkl];congr 2;funext x;simp only[M2];rw[show b.lines.length-(k+1)=d by omega]
  rw[hend]
  generalize hc:b.counts.all (countOne s.money k)=cc at q93 hend|-
  cases cc
  ·refine⟨L,c+1,hL,hS,by omega,?_⟩;simp only[show bt.ntmps=94 from rfl];simp only[hcs];simp[iT,AH,J3,hs1,AB,AN,q93]
  ·simp only[Bool.true_and]at hend|-;cases hlk:HW (F7 k s) (J2 L)with
   |some v=>
    have:=hS k s v (by omega) hm hlk
    rw[hend]at this
    rw[<-this]
    rw[hlk]at ql
    refine⟨L,c+2,hL,hS,by omega,?_⟩
    simp only[show bt.ntmps=94 from rfl]
    simp only[hcs]
    simp[iT,AH,J3,ql,qa,qb,hs1,AB,AN,q93,he]
   |none=>
    rw[hlk]at ql
    obtain⟨L1,C1,g1,g2,g3,gq⟩:=hl (readingsP b.chairs b.lines[k]).length 0 L (c+1+1) (n2+990) (by omega) (by have:=hrl _ hmem;omega) hL hS
    simp only[List.drop_zero]at gq
    have hsu:=zZ g2 hm
    rw[hend]at hsu
    generalize hv:(readingsP b.chairs b.lines[k]).any (M2 b k s)=v at gq hsu|-
    have qu1:=fun r lo v=>qu r lo L1 v g1
    have hu1:=fun fr s es=>Y8 (c:=C1) (fr:=fr) (s:=s) 0 4 1 es (by omega)
    refine⟨LK (F7 k s) v (J2 L1)::L1,C1,vU v hmo g1,hsu,by omega,?_⟩
    simp only[show bt.ntmps=94 from rfl]
    simp only[hcs]at gq|-
    try simp at gq
    cases v
    ·simp at gq;simp[iT,AH,ql,qa,qb,hs1,AB,AN,q93,he,q81,hkl,gq,qu1,hu1,J3]
    ·simp at gq;simp[iT,AH,ql,qa,qb,hs1,AB,AN,q93,he,q81,hkl,gq,qu1,hu1,J3]
def OR(b:AY):Bool:=endsP b b.lines.length 0 (BI b)
theorem nW{b:AY}(h:Q4 b):(BI b).bd 0:=by have h1:=h.bx1;have h2:=h.bx2;exact⟨by simp[BI];omega,by simp[BI];omega,by simp[BI],by simp[BI]⟩
theorem AFY{b:AY}(h:Q4 b):∀l∈b.lines,∀x∈readingsP b.chairs l,(0<=x.c/\x.c<4)/\(0<=x.t/\x.t<4):=by intro l hl x hx;have h4:=h.ch4;obtain⟨_,h2,h3⟩:=JG h.ch4 (List.all_eq_true.1 h.lok l hl) hx;omega
theorem A61(n:Nat)(b:AY)(hb:Q4 b)(fr:Fr)(dd:Nat):∃L c',3<=c'/\MU (BS br ann kn (n+1200)) (some dd) ⟨3,fr,⟨[],Z4 b []⟩⟩ 167 [.ptr 0 6 2 0,.agg (AU (BI b)),i 0]=some ⟨c',(dd,true,.bool (OR b))::fr,⟨[],Z4 b L⟩⟩:=by
 have hl:=hb.ln;have hr:∀l∈b.lines,(readingsP b.chairs l).length<=100:=fun l _=>by have:=EI b.chairs l hb.ch4;omega
 obtain⟨L',c',h1,h2,h3,h4⟩:=BEV b hb (AFY hb) hr b.lines.length 0 (by omega) (n+200-18*b.lines.length) [] (BI b) [] 3 dd fr (by omega) (by intro t _;rfl) (dO b) (nW hb) ⟨by simp[J2],by simp[J2]⟩ (by intro k s v _ _ h;simp[J2,HW]at h);rw[show n+200-18*b.lines.length+18*b.lines.length+1000=n+1200 by omega]at h4;refine⟨L',c',by omega,?_⟩;rw[BQ Tryz.func167 b167 rfl (by simp)];simp only[List.nil_append];simp only[Int.natCast_zero]at h4;rw[h4];rfl
theorem k84(n:Nat)(b:AY)(hb:Q4 b):A4 br kn (AG br ann kn (n+1300)) 138 [.agg (AC b)]=some (.bool (OR b)):=by rw[AP rfl,AQ Tryz.func138 BAY rfl (by simp[AC,AB,AN])];have q105:=fun n=>AJY n b;have q108:=fun fr=>A61 (n+97) b hb fr 9;obtain⟨a0,a1,a2,a3,b0,b1,b2,b3,hch,htk,hcs⟩:=OQ (F6 b);simp only[AC,hcs,Z4]at q105 q108;simp[A0J,AH,AC,q105,K9,lV];obtain⟨L,c',h1,h2⟩:=q108 [(6,true,V.ptr 0 6 2 0),(5,true,V.agg [i b.chairs,i b.coin,i b.box,V.list false (bh AB b.lines),V.list false (bh AN b.counts),V.mp 0 4 1]),(4,true,V.mp 0 4 1),(8,true,V.agg [i a0,i a1,i a2,i a3,i b0,i b1,i b2,i b3,i (BI b).money,i (BI b).mixed]),(7,true,V.agg [i b.chairs,i b.coin,i b.box,V.list false (bh AB b.lines),V.list false (bh AN b.counts)]),(3,true,V.agg [i b.chairs,i b.coin,i b.box,V.list false (bh AB b.lines),V.list false (bh AN b.counts)]),(1,true,V.ptr 0 1 0 0)];simp[h2];done
def D8(b:AY)(fine:Bool):Int:=if EX b=0 then(if fine=true then(if OR b=true then 0 else 11) else 2) else EX b
theorem k68(n:Nat)(b:AY)(fine:Bool):A4 br kn (AG br ann kn (n+1400)) 105 [.agg (AC b),.bool fine]=some (i (D8 b fine)):=by
 rw[AP rfl,AQ Tryz.func105 BAZ rfl (by simp[AC,AB,AN])];have q55:=fun n=>k55 n b;unfold D8;by_cases he:EX b=0
 ·have q84:=fun n=>k84 n b (WP he);rw[he]at q55;rw[if_pos he];simp only[AC]at q55 q84;cases fine
  ·simp[ABV,AH,AC,q55,AB,AN,q84];done
  ·generalize OR b=p at q84;cases p
   ·simp[ABV,AH,AC,q55,AB,AN,q84];done
   ·simp[ABV,AH,AC,q55,AB,AN,q84];done
 ·have e:decide (EX b=0)=false:=by simpa using he
  rw[if_neg he];simp only[AC]at q55;simp[ABV,AH,AC,q55,AB,AN,e];done
end Go.Proofs.Tryz.Op
