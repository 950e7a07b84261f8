/- Contracts of the reference: IsPlan, IsListed, IsTruth. No condition but a valid beach. -/
import Derived.Test.YtanlhbmliegjeaaGreatW4
open Go.Proofs.Tryz renaming prog->bz
open List renaming drop_eq_getElem_cons->bj,drop_length->bk,drop_zero->bw
open Bool renaming false_and->bq,true_and->bx
set_option maxRecDepth 100000
set_option linter.unusedSimpArgs false
open Go Go.Pg Go.Proofs Go.Wind
namespace Go.Proofs.Tryz.Op
theorem oB(b:AL)(hb:Valid b)(pl:List (List Int))(hl:pl.length<=100):∀(d k:Nat),k+d=pl.length->∃fr,(BQ fr 1=some (true,H6 pl)/\BQ fr 2=some (true,.ptr 0 2 0 0))/\∀n m,d<m->BG (AE bz ann kn (n+400) 34) YA (ann 34 (BX YA)) m ⟨1,[(1,true,H6 pl),(2,true,.ptr 0 2 0 0),(5,true,i k)],⟨[],[(2,0,.box (AB b))]⟩⟩ =
  if (pl.drop k).all (fun l=>decide ((l.length:Int)=b.rows)&&EH l 0)=true then some (.exit 0,⟨1,fr,⟨[],[(2,0,.box (AB b))]⟩⟩) else some (.ret,⟨1,[(4,true,.bool false)],⟨[],[]⟩⟩)
 |0,k,hk=>by
  have:k=pl.length:=by omega
  subst this;refine⟨?fr,?g1,fun n m hm=>?g3⟩;case g3=>
   obtain⟨m,rfl⟩:=qNz m (by omega)
   rw[bk,AC]
   simp[AB]
   rfl
  case g1=>simp
 |d+1,k,hk=>by
  have hk':k<pl.length:=by omega
  have hw:=BS (k:=k) (by omega);have hro:=hb.ro;obtain⟨fr,e1,ih⟩:=oB b hb pl hl d (k+1) (by omega);rw[bj hk',List.all_cons];by_cases h:(pl[k].length:Int)=b.rows
  ·have q:=fun n=>wI n pl[k] 0 (by omega);cases hz:EH pl[k] 0 with
   |true=>
    rw[hz]at q
    simp only[h,decide_true,bx]
    refine⟨fr,e1,fun n m hm=>?_⟩
    obtain⟨m,rfl⟩:=qNz m (by omega)
    have ih:=ih n m (by omega)
    rw[AC]
    simp only[AB]at ih|-
    simp at ih
    simp[hk',hw,AH,AN,h,q,ED,ih]
   |false=>
    rw[hz]at q
    simp only[h,decide_true,bx,bq]
    refine⟨fr,e1,fun n m hm=>?_⟩
    obtain⟨m,rfl⟩:=qNz m (by omega)
    rw[AC]
    simp[AB,hk',hw,AH,AN,h,q,ED]
  ·simp only[h,decide_false,bq];refine⟨fr,e1,fun n m hm=>?_⟩;obtain⟨m,rfl⟩:=qNz m (by omega);rw[AC];simp[AB,hk',hw,AH,AN,h,ED]
theorem AFX(n:Nat)(b:AL)(hb:Valid b)(pl:List (List Int))(hl:pl.length<=100):AZ bz kn (AE bz ann kn (n+600)) 16 [.agg (AB b),H6 pl]=some (.bool (C5 b pl)):=by rw[AP rfl,AQ Tryz.func16 b16 rfl (by simp[AB,AH,AN,AM])];have hla:=hb.la;have hwl:IntKind.i64.wrap (b.last+1)=b.last+1:=AW (by omega) (by omega);obtain⟨fr,⟨e1,e2⟩,q⟩:=oB b hb pl hl pl.length 0 (by omega);have q:=fun n m=>q n (m+110) (by omega);rw[bw]at q;unfold C5;generalize (pl.all fun l=>decide ((l.length:Int)=b.rows)&&EH l 0)=z at q|-;simp only[AB]at q|-;cases z<;>(simp at q;simp[c16,AD,q,e1,e2,hwl])
theorem oC(b:AL)(t:List Int)(hl:t.length=b.winds.length)(h100:t.length<=100)(h4:∀l∈b.winds,l.length<=100):∀(d k:Nat),k+d=t.length->∃fr,∀n m,d<m->BG (AE bz ann kn (n+400) 29) YB (ann 29 (BX YB)) m ⟨1,[(1,true,li t),(2,true,.ptr 0 2 0 0),(5,true,i k)],⟨[],[(2,0,.box (AB b))]⟩⟩ =
  if AV (t.drop k) (b.winds.drop k)=true then some (.exit 0,⟨1,fr,⟨[],[(2,0,.box (AB b))]⟩⟩) else some (.ret,⟨1,[(4,true,.bool false)],⟨[],[]⟩⟩)
 |0,k,hk=>by
  have:k=t.length:=by omega
  subst this;refine⟨?fr,fun n m hm=>?g3⟩;case g3=>
   obtain⟨m,rfl⟩:=qNz m (by omega)
   have:b.winds.drop t.length=[]:=by rw[hl];exact bk
   rw[bk,this,AC]
   simp[AV,AB]
   rfl
 |d+1,k,hk=>by
  have hk':k<t.length:=by omega
  have hk2:k<b.winds.length:=by omega
  have hw:=BS (k:=k) (by omega);obtain⟨fr,ih⟩:=oC b t hl h100 h4 d (k+1) (by omega);have q:=fun n=>BEQ n b.winds[k] t[k] (h4 _ (List.getElem_mem hk2));rw[bj hk',bj hk2];simp only[AV];by_cases h:t[k]∈b.winds[k]
  ·simp only[h,decide_true,bx]at q|-;refine⟨fr,fun n m hm=>?_⟩;obtain⟨m,rfl⟩:=qNz m (by omega);have ih:=ih n m (by omega);rw[AC];simp only[AB]at ih|-;simp at ih;simp[hk',hk2,hw,AH,AN,q,ED,ih]
  ·simp only[h,decide_false,bq]at q|-;refine⟨[],fun n m hm=>?_⟩;obtain⟨m,rfl⟩:=qNz m (by omega);rw[AC];simp[AB,hk',hk2,hw,AH,AN,ED,q]
theorem AFY(n:Nat)(b:AL)(hb:Valid b)(t:List Int):AZ bz kn (AE bz ann kn (n+600)) 48 [.agg (AB b),li t]=some (.bool (AV t b.winds)):=by
 rw[AP rfl,AQ Tryz.func48 b48 rfl (by simp[AB,AH,AN,AM])];have hla:=hb.la;have hwi:=hb.wi;by_cases h:t.length=b.winds.length
 ·obtain⟨fr,q⟩:=oC b t h (by omega) (fun l hl=>by have:=hb.wl l hl;omega) t.length 0 (by omega);have q:=fun n m=>q n (m+110) (by omega);rw[bw,bw]at q;generalize AV t b.winds=z at q|-;simp only[AB]at q|-;cases z<;>(simp at q;simp[c48,AD,h,q])
 ·rw[eZ h];have h':¬(t.length:Int)=(b.winds.length:Int):=by omega
  simp[c48,AD,AB,h']
theorem wH(b:AL)(t:List Int)(hn:∀x∈b.notes,0<=x.1/\x.1<t.length)(hl:b.notes.length<=100):∀(d k:Nat),k+d=b.notes.length->∃fr,∀n m,d<m->BG (AE bz ann kn (n+400) 33) YC (ann 33 (BX YC)) m ⟨1,[(1,true,li t),(2,true,.ptr 0 2 0 0),(5,true,i k)],⟨[],[(2,0,.box (AB b))]⟩⟩ =
  if (b.notes.drop k).all (J2 t)=true then some (.exit 0,⟨1,fr,⟨[],[(2,0,.box (AB b))]⟩⟩) else some (.ret,⟨1,[(4,true,.bool false)],⟨[],[]⟩⟩)
 |0,k,hk=>by
  have:k=b.notes.length:=by omega
  subst this;refine⟨?fr,fun n m hm=>?g3⟩;case g3=>
   obtain⟨m,rfl⟩:=qNz m (by omega)
   rw[bk,AC]
   simp[AB]
   rfl
 |d+1,k,hk=>by
  have hk':k<b.notes.length:=by omega
  have hw:=BS (k:=k) (by omega);obtain⟨fr,ih⟩:=wH b t hn hl d (k+1) (by omega);obtain⟨h0,h1⟩:=hn _ (List.getElem_mem hk');rw[bj hk'];have h1':b.notes[k].1.toNat<t.length:=by omega
  have ha:atI t b.notes[k].1=t[b.notes[k].1.toNat]:=by unfold atI;rw[List.getD_eq_getElem?_getD,List.getElem?_eq_getElem (by omega)];rfl
  have hr:J2 t b.notes[k]=decide (t[b.notes[k].1.toNat]=b.notes[k].2):=by unfold J2;rw[ha]
  simp only[List.all_cons,hr];by_cases h2:t[b.notes[k].1.toNat]=b.notes[k].2
  ·simp only[h2,decide_true,bx];refine⟨fr,fun n m hm=>?_⟩;obtain⟨m,rfl⟩:=qNz m (by omega);have ih:=ih n m (by omega);rw[AC];simp only[AB]at ih|-;simp at ih;simp[hk',hw,AH,AM,ED,h0,h1,h1',h2,ih]
  ·simp only[h2,decide_false,bq];refine⟨[],fun n m hm=>?_⟩;obtain⟨m,rfl⟩:=qNz m (by omega);rw[AC];simp[AB,hk',hw,AH,AM,ED,h0,h1,h1',h2]
theorem AJ9(n:Nat)(b:AL)(hb:Valid b)(t:List Int):AZ bz kn (AE bz ann kn (n+800)) 23 [.agg (AB b),li t]=some (.bool (DE b t)):=by
 rw[AP rfl,AQ Tryz.func23 b23 rfl (by simp[AB,AH,AN,AM])];have q1:=fun n=>AFY n b hb t;have hno:=hb.no;unfold DE;by_cases h:AV t b.winds=true
 ·rw[h]at q1;obtain⟨fr,q⟩:=wH b t (Valid.notes' hb (CK h)) (by have:=hb.no;omega) b.notes.length 0 (by omega);have q:=fun n m=>q n (m+110) (by omega);rw[bw]at q;rw[h];generalize b.notes.all (J2 t)=z at q|-;simp only[AB]at q q1|-;cases z<;>(simp at q;simp[c23,AD,AH,AN,AM,q1,q])
 ·have h:AV t b.winds=false:=by simpa using h
  rw[h]at q1;simp only[AB]at q1|-;simp[c23,AD,AH,AN,AM,q1,h]
end Go.Proofs.Tryz.Op
namespace Go.Wind
end Go.Wind
namespace Go.Proofs.Tryz.Op
end Go.Proofs.Tryz.Op
namespace Go.Wind
end Go.Wind
namespace Go.Proofs.Tryz.Op
end Go.Proofs.Tryz.Op
