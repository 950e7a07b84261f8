/- Contracts of the reference: IsPlan, IsListed, IsTruth. No condition but a valid beach. -/
import Derived.Test.YthhdhbalenanjaaGreatW3
import Derived.Test.YthhdhbalenanjaaGreatFz
import Derived.Test.YthhdhbalenanjaaGreatW4
open Go Go.Pg Go.Proofs Go.Wind
namespace Go.Proofs.Tryz.Op
set_option maxRecDepth 100000
set_option linter.unusedSimpArgs false
theorem lA(b:AJ)(hb:Valid b)(pl:List (List Int))(hl:pl.length≤100):∀(d k:Nat),k+d=pl.length→∃fr,(BT fr 1=some (true,HB pl)∧BT fr 2=some (true,.ptr 0 2 0 0))∧∀n m,d<m→A9 (AE Tryz.prog ann kn (n+400) 34) RV (ann 34 (BN RV)) m ⟨1,[(1,true,HB pl),(2,true,.ptr 0 2 0 0),(5,true,i k)],⟨[],[(2,0,.box (AA b))]⟩⟩ =
  if (pl.drop k).all (fun l=>decide ((l.length:Int)=b.rows)&&D2 l 0)=true then some (.exit 0,⟨1,fr,⟨[],[(2,0,.box (AA b))]⟩⟩) else some (.ret,⟨1,[(4,true,.bool false)],⟨[],[]⟩⟩)
 | 0,k,hk=>by
  have:k=pl.length:=by omega
  subst this
  refine⟨?fr,?g1,fun n m hm=>?g3⟩
  case g3 =>
   obtain⟨m,rfl⟩:∃m',m=m'+1:=⟨m-1,by omega⟩
   rw[List.drop_length,AC]
   simp[AA]
   rfl
  case g1=>simp
 | d+1,k,hk=>by
  have hk':k<pl.length:=by omega
  have hw:=BH (k:=k) (by omega)
  have hro:=hb.ro
  obtain⟨fr,e1,ih⟩:=lA b hb pl hl d (k+1) (by omega)
  rw[List.drop_eq_getElem_cons hk',List.all_cons]
  by_cases h:(pl[k].length:Int)=b.rows
  ·have q:=fun n=>sM n pl[k] 0 (by omega)
   cases hz:D2 pl[k] 0 with
   | true =>
    rw[hz]at q
    simp only[h,decide_true,Bool.true_and]
    refine⟨fr,e1,fun n m hm=>?_⟩
    obtain⟨m,rfl⟩:∃m',m=m'+1:=⟨m-1,by omega⟩
    have ih:=ih n m (by omega)
    rw[AC]
    simp only[AA]at ih ⊢
    simp at ih
    simp[hk',hw,AH,AN,h,q,EZ,ih]
   | false =>
    rw[hz]at q
    simp only[h,decide_true,Bool.true_and,Bool.false_and]
    refine⟨fr,e1,fun n m hm=>?_⟩
    obtain⟨m,rfl⟩:∃m',m=m'+1:=⟨m-1,by omega⟩
    rw[AC]
    simp[AA,hk',hw,AH,AN,h,q,EZ]
  ·simp only[h,decide_false,Bool.false_and]
   refine⟨fr,e1,fun n m hm=>?_⟩
   obtain⟨m,rfl⟩:∃m',m=m'+1:=⟨m-1,by omega⟩
   rw[AC]
   simp[AA,hk',hw,AH,AN,h,EZ]
theorem AC5(n:Nat)(b:AJ)(hb:Valid b)(pl:List (List Int))(hl:pl.length≤100):AY Tryz.prog kn (AE Tryz.prog ann kn (n+600)) 116 [.agg (AA b),HB pl]=some (.bool (CV b pl)):=by
 rw[AP rfl,AO Tryz.func116 BAJ rfl (by simp[AA,AH,AN,AG])]
 have hla:=hb.la
 have hwl:IntKind.i64.wrap (b.last+1)=b.last+1:=AW (by omega) (by omega)
 obtain⟨fr,⟨e1,e2⟩,q⟩:=lA b hb pl hl pl.length 0 (by omega)
 have q:=fun n m=>q n (m+110) (by omega)
 rw[List.drop_zero]at q
 unfold CV
 generalize (pl.all fun l=>decide ((l.length:Int)=b.rows)&&D2 l 0)=z at q ⊢
 simp only[AA]at q ⊢
 cases z <;> (simp at q; simp[AY8,AF,q,e1,e2,hwl])
theorem lB(b:AJ)(t:List Int)(hl:t.length=b.winds.length)(h100:t.length≤100)(h4:∀l∈b.winds,l.length≤100):∀(d k:Nat),k+d=t.length→∃fr,∀n m,d<m→A9 (AE Tryz.prog ann kn (n+400) 29) W8 (ann 29 (BN W8)) m ⟨1,[(1,true,li t),(2,true,.ptr 0 2 0 0),(5,true,i k)],⟨[],[(2,0,.box (AA b))]⟩⟩ =
  if AV (t.drop k) (b.winds.drop k)=true then some (.exit 0,⟨1,fr,⟨[],[(2,0,.box (AA b))]⟩⟩) else some (.ret,⟨1,[(4,true,.bool false)],⟨[],[]⟩⟩)
 | 0,k,hk=>by
  have:k=t.length:=by omega
  subst this
  refine⟨?fr,fun n m hm=>?g3⟩
  case g3 =>
   obtain⟨m,rfl⟩:∃m',m=m'+1:=⟨m-1,by omega⟩
   have:b.winds.drop t.length=[]:=by rw[hl]; exact List.drop_length
   rw[List.drop_length,this,AC]
   simp[AV,AA]
   rfl
 | d+1,k,hk=>by
  have hk':k<t.length:=by omega
  have hk2:k<b.winds.length:=by omega
  have hw:=BH (k:=k) (by omega)
  obtain⟨fr,ih⟩:=lB b t hl h100 h4 d (k+1) (by omega)
  have q:=fun n=>BDR n b.winds[k] t[k] (h4 _ (List.getElem_mem hk2))
  rw[List.drop_eq_getElem_cons hk',List.drop_eq_getElem_cons hk2]
  simp only[AV]
  by_cases h:t[k]∈b.winds[k]
  ·simp only[h,decide_true,Bool.true_and]at q ⊢
   refine⟨fr,fun n m hm=>?_⟩
   obtain⟨m,rfl⟩:∃m',m=m'+1:=⟨m-1,by omega⟩
   have ih:=ih n m (by omega)
   rw[AC]
   simp only[AA]at ih ⊢
   simp at ih
   simp[hk',hk2,hw,AH,AN,q,EZ,ih]
  ·simp only[h,decide_false,Bool.false_and]at q ⊢
   refine⟨[],fun n m hm=>?_⟩
   obtain⟨m,rfl⟩:∃m',m=m'+1:=⟨m-1,by omega⟩
   rw[AC]
   simp[AA,hk',hk2,hw,AH,AN,EZ,q]
theorem lC(n:Nat)(b:AJ)(hb:Valid b)(t:List Int):AY Tryz.prog kn (AE Tryz.prog ann kn (n+600)) 27 [.agg (AA b),li t]=some (.bool (AV t b.winds)):=by
 rw[AP rfl,AO Tryz.func27 b27 rfl (by simp[AA,AH,AN,AG])]
 have hla:=hb.la
 have hwi:=hb.wi
 by_cases h:t.length=b.winds.length
 ·obtain⟨fr,q⟩:=lB b t h (by omega) (fun l hl=>by have:=hb.wl l hl; omega) t.length 0 (by omega)
  have q:=fun n m=>q n (m+110) (by omega)
  rw[List.drop_zero,List.drop_zero]at q
  generalize AV t b.winds=z at q ⊢
  simp only[AA]at q ⊢
  cases z <;> (simp at q; simp[c27,AF,h,q])
 ·rw[cY h]
  have h':¬(t.length:Int)=(b.winds.length:Int):=by omega
  simp[c27,AF,AA,h']
theorem sH(b:AJ)(t:List Int)(hn:∀x∈b.notes,0≤x.1∧x.1<t.length)(hl:b.notes.length≤100):∀(d k:Nat),k+d=b.notes.length→∃fr,∀n m,d<m→A9 (AE Tryz.prog ann kn (n+400) 33) RW (ann 33 (BN RW)) m ⟨1,[(1,true,li t),(2,true,.ptr 0 2 0 0),(5,true,i k)],⟨[],[(2,0,.box (AA b))]⟩⟩ =
  if (b.notes.drop k).all (LH t)=true then some (.exit 0,⟨1,fr,⟨[],[(2,0,.box (AA b))]⟩⟩) else some (.ret,⟨1,[(4,true,.bool false)],⟨[],[]⟩⟩)
 | 0,k,hk=>by
  have:k=b.notes.length:=by omega
  subst this
  refine⟨?fr,fun n m hm=>?g3⟩
  case g3 =>
   obtain⟨m,rfl⟩:∃m',m=m'+1:=⟨m-1,by omega⟩
   rw[List.drop_length,AC]
   simp[AA]
   rfl
 | d+1,k,hk=>by
  have hk':k<b.notes.length:=by omega
  have hw:=BH (k:=k) (by omega)
  obtain⟨fr,ih⟩:=sH b t hn hl d (k+1) (by omega)
  obtain⟨h0,h1⟩:=hn _ (List.getElem_mem hk')
  rw[List.drop_eq_getElem_cons hk']
  have h1':b.notes[k].1.toNat<t.length:=by omega
  have ha:atI t b.notes[k].1=t[b.notes[k].1.toNat]:=by
   unfold atI
   rw[List.getD_eq_getElem?_getD,List.getElem?_eq_getElem (by omega)]; rfl
  have hr:LH t b.notes[k]=decide (t[b.notes[k].1.toNat]=b.notes[k].2):=by unfold LH; rw[ha]
  simp only[List.all_cons,hr]
  by_cases h2:t[b.notes[k].1.toNat]=b.notes[k].2
  ·simp only[h2,decide_true,Bool.true_and]
   refine⟨fr,fun n m hm=>?_⟩
   obtain⟨m,rfl⟩:∃m',m=m'+1:=⟨m-1,by omega⟩
   have ih:=ih n m (by omega)
   rw[AC]
   simp only[AA]at ih ⊢
   simp at ih
   simp[hk',hw,AH,AG,EZ,h0,h1,h1',h2,ih]
  ·simp only[h2,decide_false,Bool.false_and]
   refine⟨[],fun n m hm=>?_⟩
   obtain⟨m,rfl⟩:∃m',m=m'+1:=⟨m-1,by omega⟩
   rw[AC]
   simp[AA,hk',hw,AH,AG,EZ,h0,h1,h1',h2]
theorem AH5(n:Nat)(b:AJ)(hb:Valid b)(t:List Int):AY Tryz.prog kn (AE Tryz.prog ann kn (n+800)) 102 [.agg (AA b),li t]=some (.bool (ED b t)):=by
 rw[AP rfl,AO Tryz.func102 BAL rfl (by simp[AA,AH,AN,AG])]
 have q1:=fun n=>lC n b hb t
 have hno:=hb.no
 unfold ED
 by_cases h:AV t b.winds=true
 ·rw[h]at q1
  obtain⟨fr,q⟩:=sH b t (Valid.notes' hb (CE h)) (by have:=hb.no; omega) b.notes.length 0 (by omega)
  have q:=fun n m=>q n (m+110) (by omega)
  rw[List.drop_zero]at q
  rw[h]
  generalize b.notes.all (LH t)=z at q ⊢
  simp only[AA]at q q1 ⊢
  cases z <;> (simp at q; simp[AMR,AF,AH,AN,AG,q1,q])
 ·have h:AV t b.winds=false:=by simpa using h
  rw[h]at q1
  simp only[AA]at q1 ⊢
  simp[AMR,AF,AH,AN,AG,q1,h]
end Go.Proofs.Tryz.Op
open Go Go.Pg Go.Proofs Go.Wind
namespace Go.Wind
def fE(b:AJ)(s:Int×Int)(w:Int):Nat→Nat→Bool
 | 0,_=>false
 | d+1,j=>(b.breaks.any fun k=>decide (k=DD s w ((j:Int)+1)))||fE b s w d (j+1)
theorem sI(b:AJ)(s:Int×Int)(w:Int):∀(d j:Nat),fE b s w d j=(List.range d).any fun i=>b.breaks.any fun k=>decide (k=DD s w (((j+i:Nat):Int)+1))
 | 0,_=>rfl
 | d+1,j=>by
  rw[fE,sI b s w d (j+1),List.range_succ_eq_map,List.any_cons,List.any_map]
  congr 1
  congr 1
  funext i
  simp only[Function.comp]
  rw[show j+1+i=j+(i+1) by omega]
theorem A4W(b:AJ)(s:Int×Int)(f w:Int):qK b s f w=(decide ((f+2) % 4=w)||fE b s w b.reach.toNat 0):=by
 unfold qK
 rw[sI]
 simp
end Go.Wind
namespace Go.Proofs.Tryz.Op
set_option maxRecDepth 100000
set_option linter.unusedSimpArgs false
theorem sJ(L:AB)(k γ:Nat)(r:AX):AB.put L k γ r=(k,γ,r) :: L:=rfl
theorem eqS(a1 a2 b1 b2:Int)(h1:MY a1)(h2:MY a2)(g1:MY b1)(g2:MY b2):P7 Tryz.prog 59 [i a1,i a2] [i b1,i b2]=some (decide (a1=b1)&&decide (a2=b2)):=by
 have kl:∀a b:Int,MY a→MY b→Program.keyLits Tryz.prog 16 59 [.int .i64 a,.int .i64 b]=some [.int .i64 a,.int .i64 b]:=fun a b ha hb=>by
  unfold Program.keyLits
  simp[Tryz.underlying59,k3I (wfI ha),k3I (wfI hb)]
 have kt:(AAC Tryz.prog 59&&Program.keyTypeAt Tryz.prog 16 59&&!(Tryz.prog.eqGuardType Tryz.prog.depth 59))=true:=by kernel_rfl
 unfold P7
 simp[DT,kl _ _ h1 h2,kl _ _ g1 g2]
 refine⟨⟨by simpa using kt,by simp[CQ]⟩,?_⟩
 simp only[KF,Bool.and_true]
 congr 1
theorem lD(b:AJ)(hbr:∀k∈b.breaks,0≤k.1∧k.1≤100∧0≤k.2∧k.2≤100)(hl:b.breaks.length≤100)(x:Int×Int)(hx:-1000≤x.1∧x.1≤1000∧-1000≤x.2∧x.2≤1000)(w:Int)(j γ c:Nat):∀(d k:Nat),k+d=b.breaks.length→∀n m,d<m→A9 (AE Tryz.prog ann kn (n+100) 63) RY (ann 63 (BN RY)) m ⟨c,[(3,true,i w),(4,true,.ptr 0 4 0 0),(9,true,.ptr 0 9 γ 0),(10,true,i j),(11,true,i k)],⟨[],[(4,0,.box (AA b)),(9,γ,.box (AG x))]⟩⟩ =
  if ((b.breaks.drop k).any fun q=>decide (q=x))=true then some (.ret,⟨c,[(8,true,.bool true)],⟨[],[]⟩⟩)
  else some (.exit 3,⟨c,[(53,true,.bool false),(52,true,i b.breaks.length),(51,true,.list false (b.breaks.map AG)),(50,true,.ptr 0 4 0 7),(49,true,i b.breaks.length),(3,true,i w),(4,true,.ptr 0 4 0 0),(9,true,.ptr 0 9 γ 0),(10,true,i j),(11,true,i b.breaks.length)],⟨[],[(4,0,.box (AA b)),(9,γ,.box (AG x))]⟩⟩)
 | 0,k,hk,n,m+1,hm=>by
  have:k=b.breaks.length:=by omega
  subst this
  rw[List.drop_length,AC]
  simp[AA,AG]
 | d+1,k,hk,n,m+1,hm=>by
  have hk':k<b.breaks.length:=by omega
  have hw:=BH (k:=k) (by omega)
  have ih:=lD b hbr hl x hx w j γ c d (k+1) (by omega) n m (by omega)
  obtain⟨g1,g2,g3,g4⟩:=hbr _ (List.getElem_mem hk')
  obtain⟨x1,x2,x3,x4⟩:=hx
  have he:=eqS b.breaks[k].1 b.breaks[k].2 x.1 x.2 ⟨by omega,by omega⟩ ⟨by omega,by omega⟩ ⟨by omega,by omega⟩ ⟨by omega,by omega⟩
  rw[List.drop_eq_getElem_cons hk',List.any_cons]
  have hq:decide (b.breaks[k]=x)=(decide (b.breaks[k].1=x.1)&&decide (b.breaks[k].2=x.2)):=by
   rw[Bool.eq_iff_iff]; simp[Prod.ext_iff]
  rw[← hq]at he
  generalize decide (b.breaks[k]=x)=z at he ⊢
  rw[AC]
  simp only[AA,AG]at ih he ⊢
  cases z with
  | true=>simp[hk',hw,AG,EZ,he]
  | false =>
   simp only[Bool.false_or]
   simp at ih
   simp[hk',hw,AG,EZ,he,ih]
theorem wC(s:Int×Int)(w:Int)(hw:0≤w∧w≤3)(j:Nat):DD s w ((j:Int)+1)=if w=0 then((DD s w j).1-1,(DD s w j).2) else if w=1 then((DD s w j).1,(DD s w j).2+1) else if w=2 then((DD s w j).1+1,(DD s w j).2) else((DD s w j).1,(DD s w j).2-1):=by
 have:w=0∨w=1∨w=2∨w=3:=by omega
 unfold DD
 rcases this with rfl | rfl | rfl | rfl <;> simp <;> omega
theorem sK(s:Int×Int)(hs:0≤s.1∧s.1≤100∧0≤s.2∧s.2≤100)(w:Int)(j:Int)(hj:0≤j∧j≤100):-1000≤(DD s w j).1∧(DD s w j).1≤1000∧-1000≤(DD s w j).2∧(DD s w j).2≤1000:=by
 unfold DD
 split <;> (try split) <;> (try split) <;> (try split) <;> (try simp only) <;> omega
theorem sL(b:AJ)(hb:Valid b)(hbr:∀k∈b.breaks,0≤k.1∧k.1≤100∧0≤k.2∧k.2≤100)(s:Int×Int)(hs:0≤s.1∧s.1≤100∧0≤s.2∧s.2≤100)(w:Int)(hw:0≤w∧w≤3)(γ c:Nat)(hγ:γ<c):∀(d j:Nat),j+d=b.reach.toNat→∃fr,∀n m,d<m→A9 (AE Tryz.prog ann kn (n+300) 63) W9 (ann 63 (BN W9)) m ⟨c,[(3,true,i w),(4,true,.ptr 0 4 0 0),(9,true,.ptr 0 9 γ 0),(10,true,i j)],⟨[],[(4,0,.box (AA b)),(9,γ,.box (AG (DD s w j)))]⟩⟩ =
  if fE b s w d j=true then some (.ret,⟨c,[(8,true,.bool true)],⟨[],[]⟩⟩) else some (.exit 0,⟨c,fr,⟨[],[(4,0,.box (AA b)),(9,γ,.box (AG (DD s w b.reach.toNat)))]⟩⟩)
 | 0,j,hd=>by
  have hre:=hb.re
  have h1:j=b.reach.toNat:=by omega
  have h2:b.reach=(j:Int):=by omega
  rw[← h1]
  refine⟨?fr,fun n m hm=>?g2⟩
  case g2 =>
   obtain⟨m,rfl⟩:∃m',m=m'+1:=⟨m-1,by omega⟩
   rw[AC]
   simp[AA,AG,h2,fE]
   rfl
 | d+1,j,hd=>by
  have hre:=hb.re
  have hbk:=hb.br
  have hj:(j:Int)<b.reach:=by omega
  have hw1:=BH (k:=j) (by omega)
  have x0:=sK s hs w j (by omega)
  have x1:=sK s hs w ((j:Int)+1) (by omega)
  have q:=lD b hbr (by omega) (DD s w ((j:Int)+1)) x1 w j γ c b.breaks.length 0 (by omega)
  have q:=fun n m=>q n (m+150) (by omega)
  rw[List.drop_zero]at q
  obtain⟨fr,ih⟩:=sL b hb hbr s hs w hw γ c hγ d (j+1) (by omega)
  have e:DD s w ((j+1:Nat):Int)=DD s w ((j:Int)+1):=by rw[Int.natCast_succ]
  rw[e]at ih
  have hn:=wC s w hw j
  refine⟨fr,fun n m hm=>?_⟩
  obtain⟨m,rfl⟩:∃m',m=m'+1:=⟨m-1,by omega⟩
  have ih:=ih n m (by omega)
  rw[show fE b s w (d+1) j=((b.breaks.any fun k=>decide (k=DD s w ((j:Int)+1)))||fE b s w d (j+1)) from rfl]
  generalize DD s w ((j:Int)+1)=X' at *
  generalize DD s w (j:Int)=X at *
  generalize DD s w (b.reach.toNat:Int)=X2 at *
  generalize (b.breaks.any fun k=>decide (k=X'))=z at q ⊢
  have wa:IntKind.i64.wrap (X.1-1)=X.1-1:=AW (by omega) (by omega)
  have wb:IntKind.i64.wrap (X.1+1)=X.1+1:=AW (by omega) (by omega)
  have wc:IntKind.i64.wrap (X.2-1)=X.2-1:=AW (by omega) (by omega)
  have wd:IntKind.i64.wrap (X.2+1)=X.2+1:=AW (by omega) (by omega)
  have hw4:w=0∨w=1∨w=2∨w=3:=by omega
  rw[AC]
  simp only[AA]at q ih ⊢
  rcases hw4 with rfl | rfl | rfl | rfl <;> (simp at hn; subst hn; cases z <;> (simp[AG]at q ih; simp[hj,hw1,hγ,AG,sJ,wa,wb,wc,wd,q,ih]))
theorem AQ8(n:Nat)(b:AJ)(hb:Valid b)(s:Int×Int)(hs:0≤s.1∧s.1≤100∧0≤s.2∧s.2≤100)(f w:Int)(hf:0≤f∧f≤3)(hw:0≤w∧w≤3):AY Tryz.prog kn (AE Tryz.prog ann kn (n+500)) 76 [.agg (AA b),.agg (AG s),i f,i w]=some (.bool (qK b s f w)):=by
 rw[AP rfl,AO Tryz.func76 b76 rfl (by simp[AA,AH,AN,AG])]
 have hre:=hb.re
 obtain⟨fr,q⟩:=sL b hb (Valid.br' hb) s hs w hw 2 3 (by omega) b.reach.toNat 0 (by omega)
 have q:=fun n m=>q n (m+150) (by omega)
 have e0:DD s w ((0:Nat):Int)=s:=by
  unfold DD
  split <;> (try split) <;> (try split) <;> (try split) <;> simp
 rw[e0]at q
 have hwf:IntKind.i64.wrap (f+2)=f+2:=AW (by omega) (by omega)
 have hm:(f+2).tmod 4=(f+2) % 4:=Int.tmod_eq_emod_of_nonneg (by omega)
 rw[A4W]
 generalize fE b s w b.reach.toNat 0=z at q ⊢
 generalize DD s w (b.reach.toNat:Int)=X2 at q
 simp only[AA]at q ⊢
 by_cases h:(f+2) % 4=w
 ·simp[c76,AF,hwf,hm,h]
 ·cases z <;> (simp[AG]at q; simp[c76,AF,AG,hwf,hm,h,q,sJ])
end Go.Proofs.Tryz.Op
open Go Go.Pg Go.Proofs Go.Wind
namespace Go.Wind
def IC(b:AJ)(p:List (List Int))(t:List Int)(r q h:Nat):GD:=E3 (fun h=>qK b (r,q) (BW p h r) (t.getD h 0)) (H4 b p r) h
def DZ(b:AJ)(p:List (List Int))(t:List Int)(r n:Nat):List GD:=(List.range n).map fun q=>IC b p t r q t.length
def MX(b:AJ)(p:List (List Int))(t:List Int)(n:Nat):List (List GD):=(List.range n).map fun r=>DZ b p t r b.places.toNat
theorem lE(b:AJ)(p:List (List Int))(t:List Int)(r n:Nat):DZ b p t r (n+1)=DZ b p t r n++[IC b p t r n t.length]:=by simp[DZ,List.range_succ]
theorem wD(b:AJ)(p:List (List Int))(t:List Int)(n:Nat):MX b p t (n+1)=MX b p t n++[DZ b p t n b.places.toNat]:=by simp[MX,List.range_succ]
end Go.Wind
namespace Go.Proofs.Tryz.Op
set_option maxRecDepth 100000
set_option linter.unusedSimpArgs false
theorem AC6(b:AJ)(hb:Valid b)(p:List (List Int))(hp:EV b p)(t:List Int)(ht:AV t b.winds=true)(r q:Nat)(hr:(r:Int)<b.rows)(hq:(q:Int)<b.places)(γ7 γ9 γ:Nat)(A B:List (List V)):∀(d h c:Nat),h+d=t.length→γ<c→∀n m,d<m→A9 (AE Tryz.prog ann kn (n+800) 89) RZ (ann 89 (BN RZ)) m ⟨c,[(1,true,HB p),(2,true,li t),(3,true,.ptr 0 3 0 0),(7,true,pv 87 γ7 A),(8,true,i r),(9,true,pv 83 γ9 B),(10,true,i q),(11,true,.ptr 0 11 γ 0),(12,true,i h)],⟨[],(3,0,.box (AA b)) :: (11,γ,.box (B7 (IC b p t r q h))) :: (pl 83 γ9 139 B++pl 87 γ7 137 A)⟩⟩ =
  some (.exit 4,⟨c,[(30,true,.bool false),(29,true,i t.length),(28,true,li t),(27,true,i t.length),(1,true,HB p),(2,true,li t),(3,true,.ptr 0 3 0 0),(7,true,pv 87 γ7 A),(8,true,i r),(9,true,pv 83 γ9 B),(10,true,i q),(11,true,.ptr 0 11 γ 0),(12,true,i t.length)],⟨[],(3,0,.box (AA b)) :: (11,γ,.box (B7 (IC b p t r q t.length))) :: (pl 83 γ9 139 B++pl 87 γ7 137 A)⟩⟩)
 | 0,h,c,hd,hγ,n,m+1,hm=>by
  have:h=t.length:=by omega
  rw[← this,AC]
  simp[AA,this,B7,OA,OB,OC,IZ,I0,KC]
 | d+1,h,c,hd,hγ,n,m+1,hm=>by
  have hla:=hb.la
  have hro:=hb.ro
  have hpc:=hb.pl
  have hlw:=CE ht
  have hwi:=hb.wi
  have hsu:=hb.su
  have hpn:=hp.len
  have hw:=BH (k:=h) (by omega)
  have hh:h<p.length:=by omega
  have ht':h<t.length:=by omega
  have hs':h<b.sun.length:=by omega
  have hpe:p.getD h []=p[h]:=by rw[List.getD_eq_getElem?_getD,List.getElem?_eq_getElem hh]; rfl
  have aX:r<p[h].length:=by have:=hp.row h hh; rw[hpe]at this; omega
  have hx:BW p h r=p[h][r]:=by unfold BW; rw[hpe,List.getD_eq_getElem?_getD,List.getElem?_eq_getElem aX]; rfl
  have htd:t.getD h 0=t[h]:=by rw[List.getD_eq_getElem?_getD,List.getElem?_eq_getElem ht']; rfl
  have hsd:b.sun.getD h 0=b.sun[h]:=by rw[List.getD_eq_getElem?_getD,List.getElem?_eq_getElem hs']; rfl
  have hdir:=hp.dir h r hh (by rw[hpe]; exact aX)
  have htdir:=LI hb ht ht'
  rw[hx,DM]at hdir
  rw[htd,DM]at htdir
  have qs:=fun n=>AQ8 n b hb (r,q) (by simp only; omega) p[h][r] t[h] hdir htdir
  have ih:=AC6 b hb p hp t ht r q hr hq γ7 γ9 γ A B d (h+1) c (by omega) hγ n m (by omega)
  have b1:=ZX (fun h=>qK b (r,q) (BW p h r) (t.getD h 0)) (H4 b p r) h
  have hlit:H4 b p r h=decide (p[h][r]=b.sun[h]):=by unfold H4; rw[hx,hsd]
  have hdue:IC b p t r q (h+1)=⟨(IC b p t r q h).sun+(if H4 b p r h=true then 1 else 0),(IC b p t r q h).calm+(if qK b (r,q) p[h][r] t[h]=true then 1 else 0),(IC b p t r q h).good+(if (H4 b p r h&&qK b (r,q) p[h][r] t[h])=true then 1 else 0)⟩:=by
   simp only[IC,E3,dM]
   have g:∀(f:Nat→Bool),((dM f h+if f h=true then 1 else 0:Nat):Int)=((dM f h:Nat):Int)+(if f h=true then 1 else 0):=fun f=>by
    split <;> simp
   rw[g,g (fun h=>qK b (r,q) (BW p h r) (t.getD h 0)),g (fun h=>H4 b p r h&&qK b (r,q) (BW p h r) (t.getD h 0)),hx,htd]
  change 0≤(IC b p t r q h).sun∧(IC b p t r q h).sun≤h∧0≤(IC b p t r q h).calm∧(IC b p t r q h).calm≤h∧0≤(IC b p t r q h).good∧(IC b p t r q h).good≤h at b1
  have w1:IntKind.i64.wrap ((IC b p t r q h).sun+1)=(IC b p t r q h).sun+1:=AW (by omega) (by omega)
  have w2:IntKind.i64.wrap ((IC b p t r q h).calm+1)=(IC b p t r q h).calm+1:=AW (by omega) (by omega)
  have w3:IntKind.i64.wrap ((IC b p t r q h).good+1)=(IC b p t r q h).good+1:=AW (by omega) (by omega)
  rw[hdue,hlit]at ih
  generalize IC b p t r q t.length=FF at ih ⊢
  generalize IC b p t r q h=D at *
  generalize e1:decide (p[h][r]=b.sun[h])=z1 at ih
  generalize qK b (r,q) p[h][r] t[h]=z2 at ih qs
  rw[AC]
  simp only[AA,AG]at ih qs ⊢
  cases z1 <;> cases z2 <;> (simp[B7]at ih; simp[hw,hh,ht',hs',aX,AN,AH,AG,B7,e1,qs,w1,w2,w3,hγ,UW,EZ,OA,OB,OC,IZ,I0,KC,ih])
theorem A4X{k:Nat}{x:GD}(h:k≤10000):B4 Tryz.prog 139 k [B7 x]=true:=by
 rw[CO (by simp[B7]) (by simp)]
 simp[maxLen,B7]; omega
theorem AQ9{k:Nat}{v:V}(h:k≤10000):B4 Tryz.prog 137 k [[v]]=true:=by
 rw[CO (by simp) (by simp)]
 simp[maxLen]; omega
theorem ALK(b:AJ)(hb:Valid b)(p:List (List Int))(hp:EV b p)(t:List Int)(ht:AV t b.winds=true)(r:Nat)(hr:(r:Int)<b.rows)(γ7:Nat)(A:List (List V)):∀(d q c γ:Nat),q+d=b.places.toNat→∃c' γ',∀n m,d<m→A9 (AE Tryz.prog ann kn (n+1000) 89) XA (ann 89 (BN XA)) m ⟨c,[(1,true,HB p),(2,true,li t),(3,true,.ptr 0 3 0 0),(7,true,pv 87 γ7 A),(8,true,i r),(9,true,pv 83 γ ((DZ b p t r q).map B7)),(10,true,i q)],⟨[],(3,0,.box (AA b)) :: (pl 83 γ 139 ((DZ b p t r q).map B7)++pl 87 γ7 137 A)⟩⟩ =
  some (.exit 2,⟨c',[(24,true,.bool false),(23,true,i b.places),(22,true,.ptr 0 3 0 2),(21,true,i b.places),(1,true,HB p),(2,true,li t),(3,true,.ptr 0 3 0 0),(7,true,pv 87 γ7 A),(8,true,i r),(9,true,pv 83 γ' ((DZ b p t r b.places.toNat).map B7)),(10,true,i b.places)],⟨[],(3,0,.box (AA b)) :: (pl 83 γ' 139 ((DZ b p t r b.places.toNat).map B7)++pl 87 γ7 137 A)⟩⟩)
 | 0,q,c,γ,hd=>by
  have hpc:=hb.pl
  have h1:q=b.places.toNat:=by omega
  have h2:b.places=(q:Int):=by omega
  rw[← h1]
  refine⟨c,γ,fun n m hm=>?_⟩
  obtain⟨m,rfl⟩:∃m',m=m'+1:=⟨m-1,by omega⟩
  rw[AC]
  simp[AA,h2,OA,OB,OC,IZ,I0,KC]
 | d+1,q,c,γ,hd=>by
  have hpc:=hb.pl
  have hla:=hb.la
  have hlw:=CE ht
  have hwi:=hb.wi
  have hq:(q:Int)<b.places:=by omega
  have hw:=BH (k:=q) (by omega)
  have qq:=AC6 b hb p hp t ht r q hr hq γ7 γ c A ((DZ b p t r q).map B7) t.length 0 (c+1) (by omega) (by omega)
  have qq:=fun n m=>qq n (m+100) (by omega)
  have h0:IC b p t r q 0=⟨0,0,0⟩:=rfl
  rw[h0]at qq
  obtain⟨c',γ',ih⟩:=ALK b hb p hp t ht r hr γ7 A d (q+1) (c+2) (c+1) (by omega)
  rw[lE]at ih
  have happ:=A4X (k:=(DZ b p t r q).length) (x:=IC b p t r q t.length) (by simp[DZ]; omega)
  refine⟨c',γ',fun n m hm=>?_⟩
  obtain⟨m,rfl⟩:∃m',m=m'+1:=⟨m-1,by omega⟩
  have ih:=ih n m (by omega)
  generalize IC b p t r q t.length=Y at *
  generalize DZ b p t r b.places.toNat=RR at *
  generalize DZ b p t r q=R at *
  rw[AC]
  simp only[AA]at qq ih ⊢
  simp[B7]at qq ih happ
  simp[hq,hw,B7,qq,happ,UW,OA,OB,OC,IZ,I0,KC,rY,ACE,ih]
theorem ALL(b:AJ)(hb:Valid b)(p:List (List Int))(hp:EV b p)(t:List Int)(ht:AV t b.winds=true):∀(d r c γ:Nat),r+d=b.rows.toNat→∃fr c' γ',BT fr 7=some (true,pv 87 γ' ((MX b p t b.rows.toNat).map BO))∧∀n m,d<m→A9 (AE Tryz.prog ann kn (n+1200) 89) XB (ann 89 (BN XB)) m ⟨c,[(1,true,HB p),(2,true,li t),(3,true,.ptr 0 3 0 0),(7,true,pv 87 γ ((MX b p t r).map BO)),(8,true,i r)],⟨[],(3,0,.box (AA b)) :: pl 87 γ 137 ((MX b p t r).map BO)⟩⟩ =
  some (.exit 0,⟨c',fr,⟨[],(3,0,.box (AA b)) :: pl 87 γ' 137 ((MX b p t b.rows.toNat).map BO)⟩⟩)
 | 0,r,c,γ,hd=>by
  have hro:=hb.ro
  have h1:r=b.rows.toNat:=by omega
  have h2:b.rows=(r:Int):=by omega
  rw[← h1]
  refine⟨?fr,c,γ,?g1,fun n m hm=>?g2⟩
  case g2 =>
   obtain⟨m,rfl⟩:∃m',m=m'+1:=⟨m-1,by omega⟩
   rw[AC]
   simp[AA,h2]
   rfl
  case g1=>simp
 | d+1,r,c,γ,hd=>by
  have hro:=hb.ro
  have hpc:=hb.pl
  have hr:(r:Int)<b.rows:=by omega
  have hw:=BH (k:=r) (by omega)
  obtain⟨c1,γ1,q⟩:=ALK b hb p hp t ht r hr γ ((MX b p t r).map BO) b.places.toNat 0 c 0 (by omega)
  have q:=fun n m=>q n (m+100) (by omega)
  have h0:DZ b p t r 0=[]:=rfl
  rw[h0]at q
  obtain⟨fr,c',γ',e1,ih⟩:=ALL b hb p hp t ht d (r+1) (c1+1) c1 (by omega)
  rw[wD]at ih
  have happ:=AQ9 (k:=(MX b p t r).length) (v:=.list false ((DZ b p t r b.places.toNat).map B7)) (by simp[MX]; omega)
  have hne:DZ b p t r b.places.toNat≠[]:=by
   intro e
   have:=congrArg List.length e
   simp[DZ]at this
   omega
  have hsl:sl ((DZ b p t r b.places.toNat).map B7)=.list false ((DZ b p t r b.places.toNat).map B7):=by
   obtain⟨x,L,e⟩:=List.exists_cons_of_ne_nil hne
   rw[e]; rfl
  refine⟨fr,c',γ',e1,fun n m hm=>?_⟩
  obtain⟨m,rfl⟩:∃m',m=m'+1:=⟨m-1,by omega⟩
  have ih:=ih n m (by omega)
  generalize MX b p t b.rows.toNat=FF at ih ⊢
  generalize DZ b p t r b.places.toNat=RR at ih q happ hsl
  have htl:∀o,EJ 0 83 o (pl 87 γ 137 ((MX b p t r).map BO))=pl 87 γ 137 ((MX b p t r).map BO):=fun o=>UP (by decide) _ _ _ (by simp[BO,B7])
  rw[AC]
  simp only[AA]at ih q ⊢
  simp[BO]at ih q happ
  simp[hr,hw,BO,q,ih,happ,htl,hsl,OA,OB,OC,IZ,I0,KC]
theorem AC7(n:Nat)(b:AJ)(hb:Valid b)(p:List (List Int))(hp:EV b p)(t:List Int)(ht:AV t b.winds=true):AY Tryz.prog kn (AE Tryz.prog ann kn (n+1400)) 28 [.agg (AA b),HB p,li t]=some (sl ((MX b p t b.rows.toNat).map BO)):=by
 rw[AP rfl,AO Tryz.func28 b28 rfl (by simp[AA,AH,AN,AG])]
 have hro:=hb.ro
 obtain⟨fr,c',γ',e1,q⟩:=ALL b hb p hp t ht b.rows.toNat 0 1 0 (by omega)
 have q:=fun n m=>q n (m+100) (by omega)
 have h0:MX b p t 0=[]:=rfl
 rw[h0]at q
 generalize MX b p t b.rows.toNat=FF at *
 simp only[AA]at q ⊢
 simp at q
 simp[c28,AF,q,e1]
 simp[BO,B7]
theorem AH6{b:AJ}(hb:Valid b){p:List (List Int)}(hp:EV b p){t:List Int}(ht:AV t b.winds=true):MX b p t b.rows.toNat=DP b p t b.rows.toNat:=by
 unfold MX DP
 apply List.map_congr_left
 intro r hr
 have hr:=List.mem_range.1 hr
 unfold DZ TG
 apply List.map_congr_left
 intro q _
 exact(zY hb hp ht (by omega) q).symm
end Go.Proofs.Tryz.Op
