/- Contracts of the reference: Quarters, Work. No condition but a valid beach. -/
import Derived.Test.YtkemmiljbaneoaaGreatX1
import Derived.Test.YtkemmiljbaneoaaGreatFz
import Derived.Test.YtkemmiljbaneoaaGreatE1
open Go Go.Pg Go.Proofs Go.Wind
namespace Go.Proofs.Tryz.Op
set_option maxRecDepth 100000
set_option linter.unusedSimpArgs false
theorem kQuarters (n:Nat) (x y:Int) (hx:0≤x∧x≤3) (hy:0≤y∧y≤3):callK Tryz.prog kn (execA Tryz.prog ann kn (n+50)) 83 [i x,i y] = some (i (quarI x y)):=by
 rw [callK_of rfl,call0_eq Tryz.func83 b83 rfl (by simp)]
 have w1:IntKind.i64.wrap (y - x) = y - x:=wrap_i64 (by omega) (by omega)
 have w2:IntKind.i64.wrap (y - x + 4) = y - x + 4:=wrap_i64 (by omega) (by omega)
 have w3:IntKind.i64.wrap (x - y) = x - y:=wrap_i64 (by omega) (by omega)
 have w4:IntKind.i64.wrap (x - y + 4) = x - y + 4:=wrap_i64 (by omega) (by omega)
 have m1:(y - x + 4).tmod 4 = (y - x + 4) % 4:=Int.tmod_eq_emod_of_nonneg (by omega)
 have m2:(x - y + 4).tmod 4 = (x - y + 4) % 4:=Int.tmod_eq_emod_of_nonneg (by omega)
 have w5:IntKind.i64.wrap ((y - x + 4) % 4) = (y - x + 4) % 4:=wrap_i64 (by omega) (by omega)
 have w6:IntKind.i64.wrap ((x - y + 4) % 4) = (x - y + 4) % 4:=wrap_i64 (by omega) (by omega)
 unfold quarI
 simp [c83,argFr,w1,w2,w3,w4,m1,m2,w5,w6]
 omega
def workQ (b:Beach) (P:List (List Int)) (h r:Nat):Int:=sumU (fun h=>sumU (fun r=>quarI (facesAt b P h r) (planAt P h r) * b.places) b.rows.toNat) h + sumU (fun r=>quarI (facesAt b P h r) (planAt P h r) * b.places) r
section
variable {b:Beach} {P:List (List Int)}
theorem quar_le (x y:Int):0≤quarI x y∧quarI x y≤3:=by
 unfold quarI
 omega
theorem quarP_le (hb:Valid b) (h r:Nat):0≤quarI (facesAt b P h r) (planAt P h r) * b.places∧quarI (facesAt b P h r) (planAt P h r) * b.places≤15:=by
 have h1:=quar_le (facesAt b P h r) (planAt P h r)
 have hpl:=hb.pl
 generalize quarI (facesAt b P h r) (planAt P h r) = q at *
 have h2:q * b.places≤3 * b.places:=Int.mul_le_mul_of_nonneg_right h1.2 (by omega)
 have h3:=Int.mul_nonneg h1.1 (by omega:0≤b.places)
 omega
theorem workQ_le (hb:Valid b) (hp:PlanOf b P) {h r:Nat} (hh:h < P.length) (hr:r≤b.rows.toNat):0≤workQ b P h r∧workQ b P h r≤1000:=by
 have hro:=hb.ro
 have hla:=hb.la
 have hlen:=hp.len
 have h1:∀ g n,g < P.length→n≤b.rows.toNat→0≤sumU (fun r=>quarI (facesAt b P g r) (planAt P g r) * b.places) n∧sumU (fun r=>quarI (facesAt b P g r) (planAt P g r) * b.places) n≤45:=fun g n hg hn=>by
  have:=sumU_le (n:=n) (c:=15) fun i _=>quarP_le (P:=P) hb g i
  omega
 have h2:=sumU_le (n:=h) (c:=45) fun i hi=>h1 i b.rows.toNat (by omega) (Nat.le_refl _)
 have h3:=h1 h r hh hr
 unfold workQ
 omega
theorem lWorkR6 (hb:Valid b) (hp:PlanOf b P) (h:Nat) (hh:h < P.length):∀ (d r:Nat),r + d = b.rows.toNat→∀ n k,d < k→loopA (execA Tryz.prog ann kn (n+300) 51) lb23_6 (ann 51 (fstR lb23_6)) k ⟨1,[(1,true,lli P),(2,true,.ptr 0 2 0 0),(5,true,i (workQ b P h r)),(6,true,i h),(7,true,i r)],⟨[],[(2,0,.box (cellsB b))]⟩⟩ =
  some (.exit 2,⟨1,[(18,true,.bool false),(17,true,i b.rows),(16,true,.ptr 0 2 0 1),(15,true,i b.rows.toNat),(1,true,lli P),(2,true,.ptr 0 2 0 0),(5,true,i (workQ b P h b.rows.toNat)),(6,true,i h),(7,true,i b.rows.toNat)],⟨[],[(2,0,.box (cellsB b))]⟩⟩)
 | 0,r,hd,n,k,hk=>by
  have hro:=hb.ro
  have hlt:¬ (r:Int) < b.rows:=by omega
  obtain ⟨k,rfl⟩:∃ k',k = k' + 1:=⟨k - 1,by omega⟩
  rw [loopA_succ,show b.rows.toNat = r by omega]
  simp only [cellsB]
  simp [hlt]
 | d + 1,r,hd,n,k,hk=>by
  have hro:=hb.ro
  have hpl:=hb.pl
  have hla:=hb.la
  have hfa:=hb.fa
  have hlen:=hp.len
  have hr:(r:Int) < b.rows:=by omega
  have hw:=wrapS (k:=r) (by omega)
  have hf:=facesAt_dir hb hp (h:=h) (by omega) (r:=r) (by omega)
  have hd2:=plan_dir hp hh (r:=r) (by omega)
  have qq:=fun n=>kQuarters n (facesAt b P h r) (planAt P h r) hf hd2
  have hle:=quarP_le (P:=P) hb h r
  have hwq:=workQ_le hb hp hh (r:=r) (by omega)
  have e1:workQ b P h (r + 1) = workQ b P h r + quarI (facesAt b P h r) (planAt P h r) * b.places:=(Int.add_assoc _ _ _).symm
  have w1:IntKind.i64.wrap (quarI (facesAt b P h r) (planAt P h r) * b.places) = quarI (facesAt b P h r) (planAt P h r) * b.places:=wrap_i64 (by omega) (by omega)
  have w2:IntKind.i64.wrap (workQ b P h r + quarI (facesAt b P h r) (planAt P h r) * b.places) = workQ b P h r + quarI (facesAt b P h r) (planAt P h r) * b.places:=wrap_i64 (by omega) (by omega)
  have hro2:(P[h].length:Int) = b.rows:=(row_inX hb hp hh).2.1
  have l1:r < P[h].length:=by omega
  have g1:P[h][r] = planAt P h r:=by
   unfold planAt
   simp [List.getD_eq_getElem?_getD,List.getElem?_eq_getElem hh,List.getElem?_eq_getElem l1]
  have l0:r < b.face.length:=by omega
  have ih:=lWorkR6 hb hp h hh d (r + 1) (by omega) n (k - 1) (by omega)
  obtain ⟨k,rfl⟩:∃ k',k = k' + 1:=⟨k - 1,by omega⟩
  rw [Nat.add_sub_cancel] at ih
  rw [e1] at ih
  rw [loopA_succ]
  rcases Nat.eq_zero_or_pos h with h0 | h0
  ·subst h0
   have g0:b.face[r] = facesAt b P 0 r:=by
    show _ = b.face.getD r 0
    rw [List.getD_eq_getElem?_getD,List.getElem?_eq_getElem l0,Option.getD_some]
   generalize facesAt b P 0 r = f at *
   generalize planAt P 0 r = g at *
   simp only [cellsB] at ih ⊢
   simp at ih
   simp [hr,hw,l0,l1,hh,g0,g1,qq,w1,w2,encI,encL,plK,ih]
  ·obtain ⟨p,rfl⟩:∃ p,h = p + 1:=⟨h - 1,by omega⟩
   have hh2:p < P.length:=by omega
   have hro3:(P[p].length:Int) = b.rows:=(row_inX hb hp hh2).2.1
   have l2:r < P[p].length:=by omega
   have g0:P[p][r] = facesAt b P (p + 1) r:=by
    show _ = planAt P p r
    unfold planAt
    simp [List.getD_eq_getElem?_getD,List.getElem?_eq_getElem hh2,List.getElem?_eq_getElem l2]
   have hp0:(0:Int) < (p:Int) + 1:=by omega
   have wp:IntKind.i64.wrap (p:Int) = (p:Int):=wrap_i64 (by omega) (by omega)
   have hp1:(0:Int)≤(p:Int) + 1:=by omega
   have hjI:(p:Int) + 1 < (P.length:Int):=by omega
   generalize facesAt b P (p + 1) r = f at *
   generalize planAt P (p + 1) r = g at *
   simp only [cellsB] at ih ⊢
   simp at ih
   simp [hr,hw,l0,l1,l2,hh,hh2,g0,g1,hp0,hp1,hjI,wp,qq,w1,w2,encI,encL,plK,ih]
theorem workQ_row (b:Beach) (P:List (List Int)) (h:Nat):workQ b P h b.rows.toNat = workQ b P (h + 1) 0:=by
 show _ = sumU (fun h=>sumU (fun r=>quarI (facesAt b P h r) (planAt P h r) * b.places) b.rows.toNat) (h + 1) + 0
 rw [Int.add_zero]
 rfl
theorem lWorkR3 (hb:Valid b) (hp:PlanOf b P):∀ (d h:Nat),h + d = P.length→∀ n k,d < k→loopA (execA Tryz.prog ann kn (n+500) 51) lb23_3 (ann 51 (fstR lb23_3)) k ⟨1,[(1,true,lli P),(2,true,.ptr 0 2 0 0),(5,true,i (workQ b P h 0)),(6,true,i h)],⟨[],[(2,0,.box (cellsB b))]⟩⟩ =
  some (.exit 0,⟨1,[(12,true,.bool false),(11,true,i P.length),(10,true,lli P),(9,true,i P.length),(1,true,lli P),(2,true,.ptr 0 2 0 0),(5,true,i (workQ b P P.length 0)),(6,true,i P.length)],⟨[],[(2,0,.box (cellsB b))]⟩⟩)
 | 0,h,hd,n,k,hk=>by
  have hh:h = P.length:=by omega
  subst hh
  obtain ⟨k,rfl⟩:∃ k',k = k' + 1:=⟨k - 1,by omega⟩
  rw [loopA_succ]
  simp only [cellsB]
  simp
 | d + 1,h,hd,n,k,hk=>by
  have hla:=hb.la
  have hro:=hb.ro
  have hlen:=hp.len
  have hh:h < P.length:=by omega
  have hw:=wrapS (k:=h) (by omega)
  have q6:=fun n k=>lWorkR6 hb hp h hh b.rows.toNat 0 (by omega) n (k + 10) (by omega)
  rw [workQ_row] at q6
  have ih:=lWorkR3 hb hp d (h + 1) (by omega) n (k - 1) (by omega)
  obtain ⟨k,rfl⟩:∃ k',k = k' + 1:=⟨k - 1,by omega⟩
  rw [Nat.add_sub_cancel] at ih
  rw [loopA_succ]
  generalize workQ b P (h + 1) 0 = T1 at *
  generalize workQ b P h 0 = T0 at *
  simp only [cellsB] at q6 ih ⊢
  simp at q6 ih
  simp [hh,hw,q6,ih]
theorem kWorkR (n:Nat) (hb:Valid b) (hp:PlanOf b P):callK Tryz.prog kn (execA Tryz.prog ann kn (n+700)) 23 [.agg (cellsB b),lli P] = some (i (workR b P)):=by
 rw [callK_of rfl,call0_eq Tryz.func23 b23 rfl (by simp [cellsB,encI,encL,encP])]
 have hla:=hb.la
 have hlen:=hp.len
 have q:=fun n k=>lWorkR3 hb hp P.length 0 (by omega) n (k + 10) (by omega)
 have e1:workQ b P P.length 0 = workR b P:=Int.add_zero _
 have e0:workQ b P 0 0 = 0:=rfl
 rw [e1,e0] at q
 simp only [cellsB] at q ⊢
 simp at q
 simp [c23,argFr,encI,encL,encP,q]
end
end Go.Proofs.Tryz.Op
/- Contract of the reference: Bounds. No condition but a valid beach. -/
open Go Go.Pg Go.Proofs Go.Wind
namespace Go.Proofs.Tryz.Op
set_option maxRecDepth 100000
set_option linter.unusedSimpArgs false
section
variable {b:Beach} {P:List (List Int)}
theorem rng_snoc {α:Type} (f:α→Int) {T:List α} {j:Nat} (hj:j < T.length) (z:Int × Int):rngF z ((T.take (j + 1)).map f) = (min (rngF z ((T.take j).map f)).1 (f T[j]),max (rngF z ((T.take j).map f)).2 (f T[j])):=by
 rw [List.take_succ_eq_append_getElem hj,List.map_append,List.map_cons,List.map_nil]
 unfold rngF
 rw [List.foldl_append]
 rfl
theorem lBdR3 (hb:Valid b) (hp:PlanOf b P) (s1 s2:Nat) (h1:s1 < b.rows.toNat) (h2:s2 < b.places.toNat) (T:List (List Int)) (hT:∀ t ∈ T,listedGo t b.winds = true) (hTl:T.length≤5000) (X8 X9:Res):∀ (d j c:Nat),j + d = T.length→7 < c→∃ c',7 < c'∧∀ n k,d < k→loopA (execA Tryz.prog ann kn (n+1800) 47) lb24_3 (ann 47 (fstR lb24_3)) k ⟨c,[(1,true,.list false (T.map encL)),(2,true,lli P),(4,true,.ptr 0 4 0 0),(7,true,.ptr 0 7 1 0),(8,true,.ptr 0 8 2 0),(9,true,.ptr 0 9 3 0),(10,true,.ptr 0 10 6 0),(11,true,.ptr 0 11 7 0),(12,true,i j)],⟨[],[(4,0,.box (cellsB b)),(7,1,.box [i s1,i s2]),(8,2,X8),(9,3,X9),(10,6,.box (encR (rngF emptyR ((T.take j).map fun t=>(hoursP b P t s1 s2).calm)))),(11,7,.box (encR (rngF emptyR ((T.take j).map fun t=>(hoursP b P t s1 s2).good))))]⟩⟩ =
  some (.exit 0,⟨c',[(19,true,.bool false),(18,true,i T.length),(17,true,.list false (T.map encL)),(16,true,i T.length),(1,true,.list false (T.map encL)),(2,true,lli P),(4,true,.ptr 0 4 0 0),(7,true,.ptr 0 7 1 0),(8,true,.ptr 0 8 2 0),(9,true,.ptr 0 9 3 0),(10,true,.ptr 0 10 6 0),(11,true,.ptr 0 11 7 0),(12,true,i T.length)],⟨[],[(4,0,.box (cellsB b)),(7,1,.box [i s1,i s2]),(8,2,X8),(9,3,X9),(10,6,.box (encR (rngF emptyR (T.map fun t=>(hoursP b P t s1 s2).calm)))),(11,7,.box (encR (rngF emptyR (T.map fun t=>(hoursP b P t s1 s2).good))))]⟩⟩)
 | 0,j,c,hd,hc=>by
  have:j = T.length:=by omega
  subst this
  refine ⟨c,hc,fun n k hk=>?_⟩
  obtain ⟨k,rfl⟩:∃ k',k = k' + 1:=⟨k - 1,by omega⟩
  rw [loopA_succ,List.take_length]
  simp [cellsB,encR]
 | d + 1,j,c,hd,hc=>by
  have hro:=hb.ro
  have hj:j < T.length:=by omega
  have hw:=wrapS (k:=j) (by omega)
  have ht:=hT T[j] (List.getElem_mem hj)
  have qR:=fun n=>kRefPlay n b hb P hp T[j] ht
  rw [refP_eq hb hp ht] at qR
  have hpl:(playP b P T[j] b.rows.toNat).length = b.rows.toNat:=by simp [playP]
  have hpne:playP b P T[j] b.rows.toNat ≠ []:=fun h=>by
   rw [h] at hpl
   simp at hpl
   omega
  rw [slX hpne] at qR
  have hrl:(rowP b P T[j] s1).length = b.places.toNat:=by simp [rowP]
  have l1:s1 < (playP b P T[j] b.rows.toNat).length:=by omega
  have l2:s2 < (rowP b P T[j] s1).length:=by omega
  have hpg:(playP b P T[j] b.rows.toNat)[s1] = rowP b P T[j] s1:=by simp [playP]
  have hrg:(rowP b P T[j] s1)[s2] = hoursP b P T[j] s1 s2:=by simp [rowP]
  have qw1:=fun n=>kWiderR n (rngF emptyR ((T.take j).map fun t=>(hoursP b P t s1 s2).calm)) (hoursP b P T[j] s1 s2).calm
  have qw2:=fun n=>kWiderR n (rngF emptyR ((T.take j).map fun t=>(hoursP b P t s1 s2).good)) (hoursP b P T[j] s1 s2).good
  obtain ⟨c',hc',ih⟩:=lBdR3 hb hp s1 s2 h1 h2 T hT hTl X8 X9 d (j + 1) (c + 1 + 1 + 1) (by omega) (by omega)
  rw [rng_snoc (fun t=>(hoursP b P t s1 s2).calm) hj,rng_snoc (fun t=>(hoursP b P t s1 s2).good) hj] at ih
  generalize rngF emptyR (T.map fun t=>(hoursP b P t s1 s2).calm) = RC at ih ⊢
  generalize rngF emptyR (T.map fun t=>(hoursP b P t s1 s2).good) = RG at ih ⊢
  generalize rngF emptyR ((T.take j).map fun t=>(hoursP b P t s1 s2).calm) = C at ih qw1 ⊢
  generalize rngF emptyR ((T.take j).map fun t=>(hoursP b P t s1 s2).good) = G at ih qw2 ⊢
  generalize playP b P T[j] b.rows.toNat = A at *
  generalize rowP b P T[j] s1 = B at *
  generalize hoursP b P T[j] s1 s2 = x at *
  refine ⟨c',hc',fun n k hk=>?_⟩
  obtain ⟨k,rfl⟩:∃ k',k = k' + 1:=⟨k - 1,by omega⟩
  have ih:=ih n k (by omega)
  have g1:6 < c + 1 + 1 + 1:=by omega
  have g2:7 < c + 1 + 1 + 1:=by omega
  rw [loopA_succ]
  simp only [cellsB,encR] at qR qw1 qw2 ih ⊢
  simp at ih
  simp [hj,hw,encI,encL,encP,encHs,encH,plK,qR,qw1,qw2,l1,l2,hpg,hrg,g1,g2,put_eqX,ih]
theorem kBoundsR (n:Nat) (hb:Valid b) (hp:PlanOf b P) (s1 s2:Nat) (h1:s1 < b.rows.toNat) (h2:s2 < b.places.toNat) (T:List (List Int)) (hT:∀ t ∈ T,listedGo t b.winds = true) (hTl:T.length≤1100):callK Tryz.prog kn (execA Tryz.prog ann kn (n+3300)) 24 [.agg (cellsB b),.list false (T.map encL),lli P,.agg [i s1,i s2]] = some (.tup [.agg (encR (rngF emptyR (T.map fun t=>(hoursP b P t s1 s2).calm))),.agg (encR (rngF emptyR (T.map fun t=>(hoursP b P t s1 s2).good)))]):=by
 rw [callK_of rfl,call0_eq Tryz.func24 b24 rfl (by simp [cellsB,encI,encL,encP])]
 have qE:=fun n=>kEmpty n
 obtain ⟨c',hc',q⟩:=lBdR3 hb hp s1 s2 h1 h2 T hT (by omega) (.box [i 0,i 0]) (.box [i 0,i 0]) T.length 0 8 (by omega) (by omega)
 have q:=fun n k=>q n (k + 1200) (by omega)
 rw [List.take_zero,List.map_nil,List.map_nil] at q
 have e0:rngF emptyR [] = emptyR:=rfl
 rw [e0] at q
 generalize rngF emptyR (T.map fun t=>(hoursP b P t s1 s2).calm) = RC at q ⊢
 generalize rngF emptyR (T.map fun t=>(hoursP b P t s1 s2).good) = RG at q ⊢
 simp only [cellsB,encR] at q qE ⊢
 simp at q
 have g1:2 < c':=by omega
 have g2:3 < c':=by omega
 simp [c24,argFr,encI,encL,encP,qE,q,g1,g2,plK,apK,anyK,celK,placeS,placeL,placeOf,show Nat.beq 2 1 = false from rfl,put_eqX]
end
end Go.Proofs.Tryz.Op
/- Bounds are equal if their numbers are. No condition. -/
open Go Go.Pg Go.Proofs Go.Wind
namespace Go.Proofs.Tryz.Op
set_option maxRecDepth 100000
set_option linter.unusedSimpArgs false
theorem k2R (a b:Int) (ha:okI a) (hb:okI b):Program.keyLits Tryz.prog 15 55 [.int .i64 a,.int .i64 b] = some [.int .i64 a,.int .i64 b]:=by
 have hk:∀ a,okI a→Program.keyLits Tryz.prog 14 3 [.int .i64 a] = some [.int .i64 a]:=fun a ha=>by
  unfold Program.keyLits
  simp [Tryz.underlying3,wfI ha]
 unfold Program.keyLits
 simp [Tryz.underlying55,hk _ ha,hk _ hb]
theorem eqBd (a1 a2 a3 a4 a5:Int) (h1:okI a1) (h2:okI a2) (h3:okI a3) (h4:okI a4) (h5:okI a5):evEq Tryz.prog 57 [i a1,i a2,i a3,i a4,i a5] [i a1,i a2,i a3,i a4,i a5] = some true:=by
 have kl:∀ a b c d e:Int,okI a→okI b→okI c→okI d→okI e→Program.keyLits Tryz.prog 16 57 [.int .i64 a,.int .i64 b,.int .i64 c,.int .i64 d,.int .i64 e] = some [.int .i64 a,.int .i64 b,.int .i64 c,.int .i64 d,.int .i64 e]:=fun a b c d e ha hb hc hd he=>by
  unfold Program.keyLits
  simp [Tryz.underlying57,k3I (wfI ha),k2R _ _ hb hc,k2R _ _ hd he]
 have kt:(aggT Tryz.prog 57 && Program.keyTypeAt Tryz.prog 16 57 && !(Tryz.prog.eqGuardType Tryz.prog.depth 57)) = true:=by kernel_rfl
 unfold evEq
 simp [plainC,kl _ _ _ _ _ h1 h2 h3 h4 h5]
 refine ⟨⟨by simpa using kt,by simp [flatLits]⟩,?_⟩
 simp [eqLits]
end Go.Proofs.Tryz.Op
/- The walk of WindBounds. No condition. -/
open Go Go.Pg Go.Proofs Go.Wind
namespace Go.Proofs.Tryz.Op
set_option maxRecDepth 100000
set_option linter.unusedSimpArgs false
theorem thin_lensZ {b:Beach} (h:thinB b = true):b.face.length≤100∧b.sun.length≤100∧b.winds.length≤100∧(∀ l ∈ b.winds,l.length≤40)∧b.breaks.length≤100∧b.notes.length≤100:=by
 simp only [thinB,Bool.and_eq_true,Bool.not_eq_true',Bool.or_eq_false_iff,Bool.not_eq_false',decide_eq_false_iff_not] at h
 obtain ⟨⟨⟨⟨⟨h1,h2⟩,h3⟩,h4⟩,h5⟩,_⟩:=h
 obtain ⟨h6,h7⟩:=brief_len h3
 exact ⟨by omega,by omega,by omega,fun l hl=>by have:=h7 l hl; omega,by omega,by omega⟩
theorem truths_nilZ {b:Beach}:truthsR b = [] ↔ dfsW b [] b.winds [] = []:=by
 constructor
 ·intro h
  refine List.eq_nil_iff_forall_not_mem.2 fun t ht=>?_
  have:=mem_truths.2 ((mem_dfs b t).1 ht)
  rw [h] at this
  cases this
 ·intro h
  refine List.eq_nil_iff_forall_not_mem.2 fun t ht=>?_
  have:=(mem_dfs b t).2 (mem_truths.1 ht)
  rw [h] at this
  cases this
theorem truthsR_lenZ {b:Beach} (hb:Valid b):(truthsR b).length≤1100:=by
 have h1:=hb.many
 have h2:(truthsR b).length≤((List.range (manyN b.winds)).map (nthGo b.winds)).length:=List.length_filter_le _ _
 rw [List.length_map,List.length_range] at h2
 omega
section
variable {b:Beach} {P:List (List Int)}
theorem lWB21 (hb:Valid b) (hp:PlanOf b P) (hT0:truthsR b ≠ []) (r:Nat) (hr:r < b.rows.toNat):∀ (d q c:Nat),q + d = b.places.toNat→1≤c→∃ c',1≤c'∧∀ n k,d < k→loopA (execA Tryz.prog ann kn (n+5000) 155) lb3_21 (ann 155 (fstR lb3_21)) k ⟨c,[(1,true,lli P),(2,true,.ptr 0 2 0 0),(7,true,.list false ((bndsP b (windsA b) P b.rows.toNat).map encBs)),(9,true,.list false ((truthsR b).map encL)),(12,true,i r),(13,true,i q)],⟨[],[(2,0,.box (cellsB b))]⟩⟩ =
  some (.exit 2,⟨c',[(114,true,.bool false),(113,true,i b.places),(112,true,.ptr 0 2 0 2),(111,true,i b.places.toNat),(1,true,lli P),(2,true,.ptr 0 2 0 0),(7,true,.list false ((bndsP b (windsA b) P b.rows.toNat).map encBs)),(9,true,.list false ((truthsR b).map encL)),(12,true,i r),(13,true,i b.places.toNat)],⟨[],[(2,0,.box (cellsB b))]⟩⟩)
 | 0,q,c,hd,hc=>by
  have hpl:=hb.pl
  have hlt:¬ (q:Int) < b.places:=by omega
  refine ⟨c,hc,fun n k hk=>?_⟩
  obtain ⟨k,rfl⟩:∃ k',k = k' + 1:=⟨k - 1,by omega⟩
  rw [loopA_succ,show b.places.toNat = q by omega]
  simp only [cellsB]
  simp [hlt]
 | d + 1,q,c,hd,hc=>by
  have hla:=hb.la
  have hro:=hb.ro
  have hpl:=hb.pl
  have hlen:=hp.len
  have hq:(q:Int) < b.places:=by omega
  have hw:=wrapS (k:=q) (by omega)
  have ha:=asked_dfs hb (fun e=>hT0 (truths_nilZ.2 e))
  obtain ⟨g1,g2⟩:=calmB_is hb ha P r q
  obtain ⟨g3,g4⟩:=goodB_is hb ha P r q
  have hTl:=truthsR_lenZ hb
  have qR:=fun n=>kBoundsR n hb hp r q hr (by omega) (truthsR b) (fun t ht=>truth_listed ht) hTl
  have eC:rngF emptyR ((truthsR b).map fun t=>(hoursP b P t r q).calm) = calmB b (windsA b) P r q:=refCalm_eq hb ha P r q
  have eG:rngF emptyR ((truthsR b).map fun t=>(hoursP b P t r q).good) = goodB b (windsA b) P r q:=refGood_eq hb ha P r q
  rw [eC,eG] at qR
  have lT:0 < (truthsR b).length:=List.length_pos_iff.2 hT0
  have hm0:(truthsR b)[0] ∈ truthsR b:=List.getElem_mem lT
  have h0l:=truth_listed hm0
  have qP:=fun n=>kRefPlay n b hb P hp (truthsR b)[0] h0l
  rw [refP_eq hb hp h0l] at qP
  have hl0:=listed_len h0l
  have hwi:=hb.wi
  have hple:(playP b P (truthsR b)[0] b.rows.toNat).length = b.rows.toNat:=by simp [playP]
  have hpne:playP b P (truthsR b)[0] b.rows.toNat ≠ []:=fun h=>by
   rw [h] at hple
   simp at hple
   omega
  rw [slX hpne] at qP
  have hrl:(rowP b P (truthsR b)[0] r).length = b.places.toNat:=by simp [rowP]
  have l1:r < (playP b P (truthsR b)[0] b.rows.toNat).length:=by omega
  have l2:q < (rowP b P (truthsR b)[0] r).length:=by omega
  have hpg:(playP b P (truthsR b)[0] b.rows.toNat)[r] = rowP b P (truthsR b)[0] r:=by simp [playP]
  have hrg:(rowP b P (truthsR b)[0] r)[q] = hoursP b P (truthsR b)[0] r q:=by simp [rowP]
  have l3:r < (bndsP b (windsA b) P b.rows.toNat).length:=by simp [bndsP]; omega
  have g5:(bndsP b (windsA b) P b.rows.toNat)[r] = rowB b (windsA b) P r:=by simp [bndsP]
  have l4:q < (rowB b (windsA b) P r).length:=by simp [rowB]; omega
  have g6:(rowB b (windsA b) P r)[q] = bndP b (windsA b) P r q:=by simp [rowB]
  have es:(hoursP b P (truthsR b)[0] r q).sun = (bndP b (windsA b) P r q).sun:=by
   show ((cnt (litB b P r) (truthsR b)[0].length:Nat):Int) = ((cnt (litB b P r) P.length:Nat):Int)
   rw [show (truthsR b)[0].length = P.length by omega]
  have e1:calmB b (windsA b) P r q = (bndP b (windsA b) P r q).calm:=rfl
  have e2:goodB b (windsA b) P r q = (bndP b (windsA b) P r q).good:=rfl
  have hs:=hoursP_le b P (truthsR b)[0] r q
  have h5:=truth_len hb hm0
  have bc1:0≤(bndP b (windsA b) P r q).calm.1∧(bndP b (windsA b) P r q).calm.1≤5:=by
   obtain ⟨t,t1,t2⟩:=g1.at'
   rw [← e1,← t2]; have:=hoursP_le b P t r q; have:=truth_len hb t1; omega
  have bc2:0≤(bndP b (windsA b) P r q).calm.2∧(bndP b (windsA b) P r q).calm.2≤5:=by
   obtain ⟨t,t1,t2⟩:=g2.at'
   rw [← e1,← t2]; have:=hoursP_le b P t r q; have:=truth_len hb t1; omega
  have bc3:0≤(bndP b (windsA b) P r q).good.1∧(bndP b (windsA b) P r q).good.1≤5:=by
   obtain ⟨t,t1,t2⟩:=g3.at'
   rw [← e2,← t2]; have:=hoursP_le b P t r q; have:=truth_len hb t1; omega
  have bc4:0≤(bndP b (windsA b) P r q).good.2∧(bndP b (windsA b) P r q).good.2≤5:=by
   obtain ⟨t,t1,t2⟩:=g4.at'
   rw [← e2,← t2]; have:=hoursP_le b P t r q; have:=truth_len hb t1; omega
  have hq1:=eqBd (bndP b (windsA b) P r q).sun (bndP b (windsA b) P r q).calm.1 (bndP b (windsA b) P r q).calm.2 (bndP b (windsA b) P r q).good.1 (bndP b (windsA b) P r q).good.2 (okI_small (by omega)) (okI_small (by omega)) (okI_small (by omega)) (okI_small (by omega)) (okI_small (by omega))
  rw [e1,e2] at qR
  have qt1:=fun n=>kTo n (bndP b (windsA b) P r q).calm
  have qt2:=fun n=>kTo n (bndP b (windsA b) P r q).good
  obtain ⟨c',hc',ih⟩:=lWB21 hb hp hT0 r hr d (q + 1) (c + 1 + 1 + 1) (by omega) (by omega)
  refine ⟨c',hc',fun n k hk=>?_⟩
  obtain ⟨k,rfl⟩:∃ k',k = k' + 1:=⟨k - 1,by omega⟩
  have ih:=ih n k (by omega)
  have ht0:li (truthsR b)[0] = .list false ((truthsR b)[0].map encI):=rfl
  clear g1 g2 g3 g4 eC eG e1 e2 hm0 h0l hl0 hple hpne hrl
  generalize playP b P (truthsR b)[0] b.rows.toNat = K at *
  generalize rowP b P (truthsR b)[0] r = Kr at *
  generalize hoursP b P (truthsR b)[0] r q = x at *
  generalize bndsP b (windsA b) P b.rows.toNat = A at *
  generalize rowB b (windsA b) P r = Ar at *
  generalize bndP b (windsA b) P r q = D at *
  rw [loopA_succ]
  simp only [cellsB,encR] at qR qP qt1 qt2 ih ⊢
  simp at ih
  simp [hq,hw,encI,encL,encP,encHs,encH,encBs,encB,plK,qR,qP,qt1,qt2,lT,l1,l2,l3,l4,hpg,hrg,g5,g6,es,hq1,put_eqX,ih]
theorem lWB16 (hb:Valid b) (hp:PlanOf b P) (hT0:truthsR b ≠ []):∀ (d r c:Nat),r + d = b.rows.toNat→1≤c→∃ c',1≤c'∧∀ n k,d < k→loopA (execA Tryz.prog ann kn (n+5200) 155) lb3_16 (ann 155 (fstR lb3_16)) k ⟨c,[(1,true,lli P),(2,true,.ptr 0 2 0 0),(7,true,.list false ((bndsP b (windsA b) P b.rows.toNat).map encBs)),(9,true,.list false ((truthsR b).map encL)),(12,true,i r)],⟨[],[(2,0,.box (cellsB b))]⟩⟩ =
  some (.exit 0,⟨c',[(100,true,.bool false),(99,true,i b.rows),(98,true,.ptr 0 2 0 1),(97,true,i b.rows.toNat),(1,true,lli P),(2,true,.ptr 0 2 0 0),(7,true,.list false ((bndsP b (windsA b) P b.rows.toNat).map encBs)),(9,true,.list false ((truthsR b).map encL)),(12,true,i b.rows.toNat)],⟨[],[(2,0,.box (cellsB b))]⟩⟩)
 | 0,r,c,hd,hc=>by
  have hro:=hb.ro
  have hlt:¬ (r:Int) < b.rows:=by omega
  refine ⟨c,hc,fun n k hk=>?_⟩
  obtain ⟨k,rfl⟩:∃ k',k = k' + 1:=⟨k - 1,by omega⟩
  rw [loopA_succ]
  generalize bndsP b (windsA b) P b.rows.toNat = A
  rw [show b.rows.toNat = r by omega]
  simp only [cellsB]
  simp [hlt]
 | d + 1,r,c,hd,hc=>by
  have hro:=hb.ro
  have hpl:=hb.pl
  have hr:(r:Int) < b.rows:=by omega
  have hw:=wrapS (k:=r) (by omega)
  have l3:r < (bndsP b (windsA b) P b.rows.toNat).length:=by simp [bndsP]; omega
  have g5:(bndsP b (windsA b) P b.rows.toNat)[r] = rowB b (windsA b) P r:=by simp [bndsP]
  have hrl:((rowB b (windsA b) P r).length:Int) = b.places:=by simp [rowB]; omega
  obtain ⟨c1,hc1,q21⟩:=lWB21 hb hp hT0 r (by omega) b.places.toNat 0 c (by omega) hc
  have q21:=fun n k=>q21 n (k + 10) (by omega)
  obtain ⟨c',hc',ih⟩:=lWB16 hb hp hT0 d (r + 1) c1 (by omega) hc1
  refine ⟨c',hc',fun n k hk=>?_⟩
  obtain ⟨k,rfl⟩:∃ k',k = k' + 1:=⟨k - 1,by omega⟩
  have ih:=ih n k (by omega)
  generalize bndsP b (windsA b) P b.rows.toNat = A at *
  generalize rowB b (windsA b) P r = Ar at *
  rw [loopA_succ]
  simp only [cellsB] at q21 ih ⊢
  simp at q21 ih
  simp [hr,hw,l3,g5,hrl,encBs,encB,plK,q21,ih]
end
set_option maxHeartbeats 4000000 in
theorem kBoundsL (n:Nat) (b:Beach) (_:okB b) (pl:List (List Int)) (_:∀ x ∈ pl,∀ n ∈ x,okI n):call0 Tryz.prog (execA Tryz.prog ann kn (n+7000)) 3 [.agg (cellsB b),lli pl] = some (.bool true):=by
 rw [call0_eq Tryz.func3 b3 rfl (by simp [cellsB,encI,encL,encP])]
 have qT:=fun n=>kThin n b
 have qb:=fun n=>kBrief n pl
 cases hT:thinB b with
 | false =>
  rw [hT] at qT
  simp only [cellsB] at qT ⊢
  simp [c3,argFr,qT,encI,encL,encP,plK,kAwakeX]
 | true =>
 rw [hT] at qT
 cases hP:briefB pl with
 | false =>
  rw [hP] at qb
  simp only [cellsB] at qT ⊢
  simp [c3,argFr,qT,qb,encI,encL,encP,plK,kAwakeX]
 | true =>
 rw [hP] at qb
 obtain ⟨l1,l2,l3,l4,l5,l6⟩:=thin_lensZ hT
 obtain ⟨p1,p2⟩:=brief_len hP
 have l100:∀ l ∈ b.winds,l.length≤100:=fun l hl=>by have:=l4 l hl; omega
 have qB:=fun n=>kBeach n b l1 l2 l3 l100 l5 l6
 have qL:=fun n=>kLists n pl (by omega) fun l hl=>by have:=p2 l hl; omega
 have qW:=fun n=>kWork (b:=b) (plan:=pl) n l4
 have qBo:=fun n=>kBoundsV n b l4 pl
 have qsu:=fun n=>kSure n b l100
 have qf:=fun n=>kfault n b l100
 have slnil:sl ([]:List (List V)) = .nil:=rfl
 unfold workV at qW
 unfold boundsV at qBo
 unfold sureV at qsu
 by_cases h0:faultB b = 0
 ·have hb:=valid_of h0
  have hla:=hb.la
  have hro:=hb.ro
  have hpl:=hb.pl
  rw [if_pos h0] at qW qBo qsu
  rw [h0] at qf
  have qp:=fun n=>kIsPlanR n b hb pl (by omega)
  cases hz1:isPlanB b pl with
  | false =>
   rw [if_neg (by rw [hz1]; decide)] at qW qBo
   rw [hz1] at qp
   by_cases hT0:truthsR b = []
   ·rw [if_pos hT0,hT0] at qsu
    simp only [cellsB,cellsR,List.map_nil,slnil] at qT qB qW qBo qsu qf qp ⊢
    simp [c3,argFr,qT,qb,qB,qL,qW,qBo,qsu,qf,qp,encI,encL,encP,plK,kAwakeX]
   ·rw [if_neg hT0] at qsu
    simp only at qsu
    rw [slX hT0] at qsu
    generalize truthsR b = T at qsu
    simp only [cellsB,cellsR,List.map_nil,slnil] at qT qB qW qBo qsu qf qp ⊢
    simp [c3,argFr,qT,qb,qB,qL,qW,qBo,qsu,qf,qp,encI,encL,encP,plK,kAwakeX]
  | true =>
   have hp:=plan_of hz1
   have hlen:=hp.len
   have hwi:=hb.wi
   rw [if_pos hz1] at qW qBo
   rw [hz1] at qp
   have qR:=fun n=>kWorkR n hb hp
   rw [work_eq hb hp] at qW
   by_cases hT0:truthsR b = []
   ·rw [if_pos hT0,hT0] at qsu
    rw [if_pos (by rw [truths_nilZ.1 hT0]; rfl)] at qBo
    generalize workR b pl = W at *
    simp only [cellsB,cellsR,List.map_nil,slnil] at qT qB qW qBo qsu qf qp qR ⊢
    simp [c3,argFr,qT,qb,qB,qL,qW,qBo,qsu,qf,qp,qR,encI,encL,encP,plK,kAwakeX]
   ·have hd0:dfsW b [] b.winds [] ≠ []:=fun e=>hT0 (truths_nilZ.2 e)
    have ha:=asked_dfs hb hd0
    rw [if_neg hT0] at qsu
    rw [if_neg (by simpa using hd0)] at qBo
    simp only at qsu
    rw [slX hT0] at qsu
    have hbl:(bndsP b (windsA b) pl b.rows.toNat).length = b.rows.toNat:=by simp [bndsP]
    have hbr:((bndsP b (windsA b) pl b.rows.toNat).length:Int) = b.rows:=by omega
    have hbne:bndsP b (windsA b) pl b.rows.toNat ≠ []:=fun h=>by
     rw [h] at hbl
     simp at hbl
     omega
    rw [slX hbne] at qBo
    obtain ⟨c',hc',q16⟩:=lWB16 hb hp hT0 b.rows.toNat 0 1 (by omega) (by omega)
    have q16:=fun n k=>q16 n (k + 10) (by omega)
    generalize workR b pl = W at *
    generalize truthsR b = T at *
    generalize bndsP b (windsA b) pl b.rows.toNat = A at *
    simp only [cellsB,cellsR,List.map_nil,slnil] at qT qB qW qBo qsu qf qp qR q16 ⊢
    simp at q16
    simp [c3,argFr,qT,qb,qB,qL,qW,qBo,qsu,qf,qp,qR,q16,hbr,encI,encL,encP,encBs,encB,plK,kAwakeX]
 ·rw [if_neg h0] at qW qBo qsu
  simp only [cellsB,cellsR,List.map_nil,slnil] at qT qB qW qBo qsu qf ⊢
  simp [c3,argFr,qT,qb,qB,qL,qW,qBo,qsu,qf,h0,encI,encL,encP,plK,kAwakeX]
end Go.Proofs.Tryz.Op
