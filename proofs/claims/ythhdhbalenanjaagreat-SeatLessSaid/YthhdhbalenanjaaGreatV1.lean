/- Contracts of the reference: IsPlan, IsListed, IsTruth. No condition but a valid beach. -/
import Derived.Test.YthhdhbalenanjaaGreatW4
open Go.Proofs.Tryz renaming prog->bz
open List renaming drop_eq_getElem_cons->bj,drop_length->bk,drop_zero->bw
open Bool renaming false_and->bq,true_and->bx
set_option maxRecDepth 100000
set_option linter.unusedSimpArgs false
open Go Go.Pg Go.Proofs Go.Wind
namespace Go.Proofs.Tryz.Op
theorem oB(b:AN)(hb:Valid b)(pl:List (List Int))(hl:pl.length<=100):∀(d k:Nat),k+d=pl.length->∃fr,(BS fr 1=some (true,KC pl)/\BS fr 2=some (true,.ptr 0 2 0 0))/\∀n m,d<m->BT (AF bz ann kn (n+400) 34) SW (ann 34 (CA SW)) m ⟨1,[(1,true,KC pl),(2,true,.ptr 0 2 0 0),(5,true,i k)],⟨[],[(2,0,.box (AC b))]⟩⟩ =
  if (pl.drop k).all (fun l=>decide ((l.length:Int)=b.rows)&&EO l 0)=true then some (.exit 0,⟨1,fr,⟨[],[(2,0,.box (AC b))]⟩⟩) else some (.ret,⟨1,[(4,true,.bool false)],⟨[],[]⟩⟩)
 |0,k,hk=>by
  have:k=pl.length:=by omega
  subst this;refine⟨?fr,?g1,fun n m hm=>?g3⟩;case g3=>
   obtain⟨m,rfl⟩:=qNz m (by omega)
   rw[bk,AB]
   simp[AC]
   rfl
  case g1=>simp
 |d+1,k,hk=>by
  have hk':k<pl.length:=by omega
  have hw:=CB (k:=k) (by omega);have hro:=hb.ro;obtain⟨fr,e1,ih⟩:=oB b hb pl hl d (k+1) (by omega);rw[bj hk',List.all_cons];by_cases h:(pl[k].length:Int)=b.rows
  ·have q:=fun n=>wE n pl[k] 0 (by omega);cases hz:EO pl[k] 0 with
   |true=>
    rw[hz]at q
    simp only[h,decide_true,bx]
    refine⟨fr,e1,fun n m hm=>?_⟩
    obtain⟨m,rfl⟩:=qNz m (by omega)
    have ih:=ih n m (by omega)
    rw[AB]
    simp only[AC]at ih|-
    simp at ih
    simp[hk',hw,AH,AM,h,q,DJ,ih]
   |false=>
    rw[hz]at q
    simp only[h,decide_true,bx,bq]
    refine⟨fr,e1,fun n m hm=>?_⟩
    obtain⟨m,rfl⟩:=qNz m (by omega)
    rw[AB]
    simp[AC,hk',hw,AH,AM,h,q,DJ]
  ·simp only[h,decide_false,bq];refine⟨fr,e1,fun n m hm=>?_⟩;obtain⟨m,rfl⟩:=qNz m (by omega);rw[AB];simp[AC,hk',hw,AH,AM,h,DJ]
theorem AGS(n:Nat)(b:AN)(hb:Valid b)(pl:List (List Int))(hl:pl.length<=100):BA bz kn (AF bz ann kn (n+600)) 116 [.agg (AC b),KC pl]=some (.bool (EP b pl)):=by rw[AR rfl,AS Tryz.func116 BCZ rfl (by simp[AC,AH,AM,AL])];have hla:=hb.la;have hwl:IntKind.i64.wrap (b.last+1)=b.last+1:=AY (by omega) (by omega);obtain⟨fr,⟨e1,e2⟩,q⟩:=oB b hb pl hl pl.length 0 (by omega);have q:=fun n m=>q n (m+110) (by omega);rw[bw]at q;unfold EP;generalize (pl.all fun l=>decide ((l.length:Int)=b.rows)&&EO l 0)=z at q|-;simp only[AC]at q|-;cases z<;>(simp at q;simp[A14,AD,q,e1,e2,hwl])
theorem oC(b:AN)(t:List Int)(hl:t.length=b.winds.length)(h100:t.length<=100)(h4:∀l∈b.winds,l.length<=100):∀(d k:Nat),k+d=t.length->∃fr,∀n m,d<m->BT (AF bz ann kn (n+400) 29) YP (ann 29 (CA YP)) m ⟨1,[(1,true,li t),(2,true,.ptr 0 2 0 0),(5,true,i k)],⟨[],[(2,0,.box (AC b))]⟩⟩ =
  if A9 (t.drop k) (b.winds.drop k)=true then some (.exit 0,⟨1,fr,⟨[],[(2,0,.box (AC b))]⟩⟩) else some (.ret,⟨1,[(4,true,.bool false)],⟨[],[]⟩⟩)
 |0,k,hk=>by
  have:k=t.length:=by omega
  subst this;refine⟨?fr,fun n m hm=>?g3⟩;case g3=>
   obtain⟨m,rfl⟩:=qNz m (by omega)
   have:b.winds.drop t.length=[]:=by rw[hl];exact bk
   rw[bk,this,AB]
   simp[A9,AC]
   rfl
 |d+1,k,hk=>by
  have hk':k<t.length:=by omega
  have hk2:k<b.winds.length:=by omega
  have hw:=CB (k:=k) (by omega);obtain⟨fr,ih⟩:=oC b t hl h100 h4 d (k+1) (by omega);have q:=fun n=>BFY n b.winds[k] t[k] (h4 _ (List.getElem_mem hk2));rw[bj hk',bj hk2];simp only[A9];by_cases h:t[k]∈b.winds[k]
  ·simp only[h,decide_true,bx]at q|-;refine⟨fr,fun n m hm=>?_⟩;obtain⟨m,rfl⟩:=qNz m (by omega);have ih:=ih n m (by omega);rw[AB];simp only[AC]at ih|-;simp at ih;simp[hk',hk2,hw,AH,AM,q,DJ,ih]
  ·simp only[h,decide_false,bq]at q|-;refine⟨[],fun n m hm=>?_⟩;obtain⟨m,rfl⟩:=qNz m (by omega);rw[AB];simp[AC,hk',hk2,hw,AH,AM,DJ,q]
theorem AGT(n:Nat)(b:AN)(hb:Valid b)(t:List Int):BA bz kn (AF bz ann kn (n+600)) 27 [.agg (AC b),li t]=some (.bool (A9 t b.winds)):=by
 rw[AR rfl,AS Tryz.func27 b27 rfl (by simp[AC,AH,AM,AL])];have hla:=hb.la;have hwi:=hb.wi;by_cases h:t.length=b.winds.length
 ·obtain⟨fr,q⟩:=oC b t h (by omega) (fun l hl=>by have:=hb.wl l hl;omega) t.length 0 (by omega);have q:=fun n m=>q n (m+110) (by omega);rw[bw,bw]at q;generalize A9 t b.winds=z at q|-;simp only[AC]at q|-;cases z<;>(simp at q;simp[c27,AD,h,q])
 ·rw[AAO h];have h':¬(t.length:Int)=(b.winds.length:Int):=by omega
  simp[c27,AD,AC,h']
theorem wD(b:AN)(t:List Int)(hn:∀x∈b.notes,0<=x.1/\x.1<t.length)(hl:b.notes.length<=100):∀(d k:Nat),k+d=b.notes.length->∃fr,∀n m,d<m->BT (AF bz ann kn (n+400) 33) SY (ann 33 (CA SY)) m ⟨1,[(1,true,li t),(2,true,.ptr 0 2 0 0),(5,true,i k)],⟨[],[(2,0,.box (AC b))]⟩⟩ =
  if (b.notes.drop k).all (KN t)=true then some (.exit 0,⟨1,fr,⟨[],[(2,0,.box (AC b))]⟩⟩) else some (.ret,⟨1,[(4,true,.bool false)],⟨[],[]⟩⟩)
 |0,k,hk=>by
  have:k=b.notes.length:=by omega
  subst this;refine⟨?fr,fun n m hm=>?g3⟩;case g3=>
   obtain⟨m,rfl⟩:=qNz m (by omega)
   rw[bk,AB]
   simp[AC]
   rfl
 |d+1,k,hk=>by
  have hk':k<b.notes.length:=by omega
  have hw:=CB (k:=k) (by omega);obtain⟨fr,ih⟩:=wD b t hn hl d (k+1) (by omega);obtain⟨h0,h1⟩:=hn _ (List.getElem_mem hk');rw[bj hk'];have h1':b.notes[k].1.toNat<t.length:=by omega
  have ha:atI t b.notes[k].1=t[b.notes[k].1.toNat]:=by unfold atI;rw[List.getD_eq_getElem?_getD,List.getElem?_eq_getElem (by omega)];rfl
  have hr:KN t b.notes[k]=decide (t[b.notes[k].1.toNat]=b.notes[k].2):=by unfold KN;rw[ha]
  simp only[List.all_cons,hr];by_cases h2:t[b.notes[k].1.toNat]=b.notes[k].2
  ·simp only[h2,decide_true,bx];refine⟨fr,fun n m hm=>?_⟩;obtain⟨m,rfl⟩:=qNz m (by omega);have ih:=ih n m (by omega);rw[AB];simp only[AC]at ih|-;simp at ih;simp[hk',hw,AH,AL,DJ,h0,h1,h1',h2,ih]
  ·simp only[h2,decide_false,bq];refine⟨[],fun n m hm=>?_⟩;obtain⟨m,rfl⟩:=qNz m (by omega);rw[AB];simp[AC,hk',hw,AH,AL,DJ,h0,h1,h1',h2]
theorem ALP(n:Nat)(b:AN)(hb:Valid b)(t:List Int):BA bz kn (AF bz ann kn (n+800)) 102 [.agg (AC b),li t]=some (.bool (DB b t)):=by
 rw[AR rfl,AS Tryz.func102 BC1 rfl (by simp[AC,AH,AM,AL])];have q1:=fun n=>AGT n b hb t;have hno:=hb.no;unfold DB;by_cases h:A9 t b.winds=true
 ·rw[h]at q1;obtain⟨fr,q⟩:=wD b t (Valid.notes' hb (DM h)) (by have:=hb.no;omega) b.notes.length 0 (by omega);have q:=fun n m=>q n (m+110) (by omega);rw[bw]at q;rw[h];generalize b.notes.all (KN t)=z at q|-;simp only[AC]at q q1|-;cases z<;>(simp at q;simp[APW,AD,AH,AM,AL,q1,q])
 ·have h:A9 t b.winds=false:=by simpa using h
  rw[h]at q1;simp only[AC]at q1|-;simp[APW,AD,AH,AM,AL,q1,h]
end Go.Proofs.Tryz.Op
namespace Go.Wind
end Go.Wind
namespace Go.Proofs.Tryz.Op
end Go.Proofs.Tryz.Op
namespace Go.Wind
end Go.Wind
namespace Go.Proofs.Tryz.Op
end Go.Proofs.Tryz.Op
