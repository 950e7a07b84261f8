/- Reading a list of rows of three ints out of the start's heap: what is read is what the open walk is handed. No program in sight. -/
import Derived.Test.YtmnlpgjklibndaaGreatQb
import Derived.Carry
import Derived.WalkKit
import Derived.ProofKit
import Derived.OpenShut
open Go renaming Value->bx,TypeId->bz
open List renaming getElem?_eq_getElem->bj
open Option renaming bind_some->bq,getD_some->bw
namespace Go.Pg
open Go.RowKit
theorem pick{α:Type}{n:Nat}{p:Nat->α->Prop}(h:∀i,i<n->∃x,p i x):∃L:List α,L.length=n/\∀i (hi:i<L.length),p i L[i]:=by
 induction n with
 |zero=>exact⟨[],rfl,fun i hi=>by simp at hi⟩
 |succ n ih=>
  obtain⟨L,hl,hL⟩:=ih fun i hi=>h i (by omega)
  obtain⟨x,hx⟩:=h n (by omega)
  refine⟨L++[x],by simp[hl],fun i hi=>?_⟩
  by_cases he:i<L.length
  ·rw[List.getElem_append_left he];exact hL i he
  ·have:i=n:=by simp at hi;omega
   subst this;simp[<-hl]at hx|-;exact hx
theorem ABO(a:Addr)(m:Nat):(a.add m).block=a.block:=by unfold Addr.add;split<;>rfl
theorem AMN(a:Addr)(m:Nat):(a.add m).off=a.off+m:=by unfold Addr.add;split<;>simp_all
theorem AMO(a:Addr)(m k:Nat):(a.add m).add k=a.add (m+k):=by unfold Addr.add;by_cases h1:m=0<;>by_cases h2:k=0<;>simp[h1,h2,Nat.add_assoc]
theorem AMP{W:World}{a:Addr}{m:Nat}{v:bx}{arr:Array bx}{T:bz}{fz:Nat×Nat}(h:W.cell? (a.add m)=some v)(hh:W.heap[a.block]? = some (.cells arr T fz)):arr[a.off+m]? = some v:=by
 unfold World.cell? at h;rw[ABO,hh,AMN]at h;simp only at h;split at h
 ·cases h
 ·exact h
section
variable {H:Type}{enc:bz×bx->H}{P:Program}{W:World}{base:Nat}{sp:Nat->Bool}{held:Bool}{fuel:Nat}
structure pU{α:Type}(enc:bz×bx->H)(P:Program)(W:World)(base:Nat)(sp:Nat->Bool)(held:Bool)(e:bz)(k:Nat)(encA:α->List V)(ok:α->Prop):Prop where
 c:P.cellsOf e=k
 k0:0<k
 len:∀x,(encA x).length=k
 cell:∀x,∀v∈encA x,v.isCell=true
 r:∀{fuel:Nat} {cs:List bx} {x:DataW H×List MemPlace},DataW.trod enc P W base sp held fuel e cs=some x->∃l,ok l/\cs.length=k/\∀j,j<k->∃v w,(encA l)[j]? = some v/\cs[j]? = some w/\RepV (IM W) v w
theorem FV{t:bz}{fs:Array Field}{cs:List bx}{x:DataW H×List MemPlace}(hu:P.underlying t=some (.struct fs))(h:DataW.trod enc P W base sp held fuel t cs=some x)(i:Nat)(f:Field)(hf:fs[i]? = some f) :
  ∃n y,DataW.trod enc P W base sp held n f.type ((cs.drop f.offset).take (P.cellsOf f.type))=some y:=by
 obtain⟨xs,n,rfl,rfl,hl,hx,hh⟩:=DataW.trod_struct hu h
 have hi:i<fs.size:=(Array.getElem?_eq_some_iff.1 hf).1
 exact⟨n,xs[i],by rw[hh i f hf,bj]⟩
theorem MD{t:bz}{fs:Array Field}{cs:List bx}{x:DataW H×List MemPlace}(hu:P.underlying t=some (.struct fs))(h:DataW.trod enc P W base sp held fuel t cs=some x):cs.length=P.cellsOf t:=by obtain⟨_,_,_,_,hl,_⟩:=DataW.trod_struct hu h;exact hl
theorem pV{α:Type}{k:Nat}{encA:α->List V}{ok:α->Prop}{t e:bz}(ht:P.underlying t=some (.slice e))(he:pU enc P W base sp held e k encA ok){cs:List bx}{x:DataW H×List MemPlace}(h:DataW.trod enc P W base sp held fuel t cs=some x) :
  ∃(L:List α) (v:bx),cs=[v]/\(∀l∈L,ok l)/\RepV (IM W) (.list false (L.map encA)) v:=by
 rcases DataW.trod_slice ht h with⟨rfl,_⟩|⟨a,len,cap,elems,rest,n,rfl,rfl,_,hb,hlc,hcm,hel,hr,_,_⟩
 ·refine⟨[],.slice none 0 0,rfl,by simp,?_⟩;exact RepV.list false [] none 0 0 0 0 #[] 0 (0,0) (fun _ _=>undef) (by simp) (by simp) (by simp) (by simp) (by simp) (by simp)
 ·rw[he.c]at hr;have hk0:=he.k0;obtain⟨M,hM,hp⟩:=pick (n:=len) (p:=fun i (l:α×List bx)=>ok l.1/\W.cells? base (a.add (i*k)) k=some l.2/\l.2.length=k/\∀j,j<k->∃v w,(encA l.1)[j]? = some v/\l.2[j]? = some w/\RepV (IM W) v w) (fun i hi=>by
   have q:=hr i hi;rw[bj (by omega)]at q;obtain⟨cs',h1,h2⟩:=Option.bind_eq_some_iff.1 q;obtain⟨l,k1,k2,k3⟩:=he.r h2;exact⟨(l,cs'),k1,h1,k2,k3⟩)
  have hcell:∀i (hi:i<M.length) j,j<k->W.cell? (a.add (i*k+j))=M[i].2[j]?:=fun i hi j hj=>by have:=(World.cells?_some (hp i hi).2.1).2.2 j hj;rwa [AMO]at this
  refine⟨M.map (·.1),_,rfl,fun l hl=>by
   obtain⟨y,hy,rfl⟩:=List.mem_map.1 hl;obtain⟨i,hi,rfl⟩:=List.getElem_of_mem hy;exact(hp i hi).1,?_⟩
  have hlen:len=((M.map (·.1)).map encA).length:=by simp[hM]
  rw[hlen];by_cases h0:M=[]
  ·subst h0;exact RepV.list false [] (some a) cap 0 0 0 #[] 0 (0,0) (fun _ _=>undef) (by simp) (by simp) (by simp) (by simp) (by simp) (by simp)
  ·have hpos:0<M.length:=List.length_pos_iff.2 h0;have hc0:=hcell 0 hpos 0 (by omega);have hsome:∃w0,M[0].2[0]? = some w0:=by obtain⟨_,w,_,hw,_⟩:=(hp 0 hpos).2.2.2 0 hk0;exact⟨w,hw⟩
   obtain⟨w0,hw0⟩:=hsome;rw[hw0]at hc0;obtain⟨arr,T,fz,hheap,hspot⟩:∃arr T fz,W.heap[a.block]? = some (.cells arr T fz)/\a.spot=none:=by
    unfold World.cell? at hc0;simp only[Addr.add,Nat.zero_mul,Nat.add_zero,if_true]at hc0;split at hc0
    ·rename_i c T fz hh;refine⟨c,T,fz,hh,?_⟩;cases hs:a.spot with
     |none=>rfl
     |some _=>simp[hs]at hc0
    ·simp at hc0
   refine RepV.list false ((M.map (·.1)).map encA) (some a) cap a.block a.off k arr T fz (fun i j=>((M[i]?.bind fun l=>l.2[j]?)).getD undef) (by simpa [hM]using hlc) (by simp) ?_ ?_ ?_ ?_
   ·intro _;refine⟨?_,hheap⟩;rw[<-hspot]
   ·intro i hi;simp[he.len]
   ·intro i hi j hj;simp at hi;simp[he.len]at hj;obtain⟨v,w,e1,e2,e3⟩:=(hp i hi).2.2.2 j hj;have hq:=hcell i hi j hj;rw[e2]at hq;refine⟨?_,?_⟩
    ·simp only[bj hi,bq,e2,bw];rw[Nat.add_assoc];exact AMP hq hheap
    ·refine he.cell M[i].1 _ ?_;simp only[List.getElem_map];exact List.getElem_mem _
   ·intro i hi j hj;simp at hi;simp[he.len]at hj;obtain⟨v,w,e1,e2,e3⟩:=(hp i hi).2.2.2 j hj;simp only[bj hi,bq,e2,bw];have hj2:j<(encA M[i].1).length:=by rw[he.len];exact hj
    rw[bj hj2]at e1;cases e1;simpa using e3
end
end Go.Pg
