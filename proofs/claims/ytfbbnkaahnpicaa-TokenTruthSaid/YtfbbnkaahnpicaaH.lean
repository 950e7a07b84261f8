/- A word of a list; the next lines that are possible. No condition. -/
import Derived.Test.YtfbbnkaahnpicaaW
import Derived.Test.YtfbbnkaahnpicaaT3
import Derived.Test.YtfbbnkaahnpicaaFz
import Derived.Test.YtfbbnkaahnpicaaUz
open Go Go.Pg Go.Proofs
namespace Go.Proofs.Try.Op
set_option maxRecDepth 100000
set_option linter.unusedSimpArgs false
def encU (w:Nat):List V:=[.int .u16 w]
theorem takeI_row {t c l q γ n:Nat} {fr:Fr} {s:St} {U:TypeId} {es:List (List V)} (h:getF fr t = some (true,.vec l q γ n)) (hg:s.get l q = some (γ,.vec U es)) (hn:n≤es.length) (hc:γ < c):takeI (some t) ⟨c,fr,s⟩ = ⟨c,(t,true,.list false (es.take n)) :: fr,s.put l q γ .dead⟩:=by
  have hb:(Nat.beq γ γ && Nat.ble n es.length && Nat.blt γ c) = true:=by simp [Nat.blt_eq,hn,hc,Nat.beq_eq]
  unfold takeI
  simp only [h,hg,hb]
def wordB (ws:List Nat) (k:Nat):Nat:=ws.getD (k % ws.length) 0
theorem word_le {ws:List Nat} (hw:∀ w ∈ ws,w≤65535) (k:Nat):wordB ws k≤65535:=by
  unfold wordB
  rcases Nat.lt_or_ge (k % ws.length) ws.length with h | h
  · rw [List.getD_eq_getElem?_getD,List.getElem?_eq_getElem h]
    exact hw _ (List.getElem_mem h)
  · rw [List.getD_eq_getElem?_getD,List.getElem?_eq_none h]
    exact Nat.zero_le _
theorem convU (k:IntKind) (n:Int):evConv Try.prog 73 3 (.int k n) = some (.int .i64 (IntKind.i64.wrap n)):=by
  unfold evConv
  rw [Try.underlying73,Try.underlying3]
theorem k100 (n:Nat) (ws:List Nat) (k:Nat) (hw:∀ w ∈ ws,w≤65535):callK Try.prog kn (execA Try.prog ann kn (n+100)) 100 [.list false (ws.map encU),i k] = some (i (wordB ws k:Nat)):=by
  rw [callK_of rfl,call0_eq Try.func100 b100 rfl (by simp [encU])]
  cases ws with
  | nil =>
    have h0:wordB [] k = 0:=by simp [wordB]
    rw [h0]
    simp [c100,argFr]
    done
  | cons w0 r =>
    have hp:0 < (w0 :: r).length:=by simp
    have hmod:(k:Int).tmod ((w0 :: r).length:Int) = ((k % (w0 :: r).length:Nat):Int):=(Int.ofNat_tmod _ _).symm
    have hlt:=Nat.mod_lt k hp
    have hv:wordB (w0 :: r) k = (w0 :: r)[k % (w0 :: r).length]:=by
      unfold wordB
      rw [List.getD_eq_getElem?_getD,List.getElem?_eq_getElem hlt]
      rfl
    have hle:=word_le hw k
    have wv:IntKind.i64.wrap ((wordB (w0 :: r) k:Nat):Int) = ((wordB (w0 :: r) k:Nat):Int):=wrap_i64 (by omega) (by omega)
    have hz:¬ ((w0 :: r).length:Int) = 0:=by omega
    generalize w0 :: r = l at *
    generalize wordB l k = W at *
    generalize k % l.length = j at *
    have hz2:¬ l = []:=by intro h; rw [h] at hp; simp at hp
    subst hv
    simp [c100,argFr,hmod,hlt,hz,hz2,encU,convU,wv]
    done
def lineJ (C e j:Nat):Line:=⟨e,(j % C:Nat),(j / C:Nat)⟩
def canJ (C e:Nat) (ts:List Line):Nat→Nat→List Line→List Line
  | 0,_,out=>out
  | d + 1,j,out=>canJ C e ts d (j + 1) (if isPossB (ts ++ [lineJ C e j]) = true then out ++ [lineJ C e j] else out)
theorem l61a (b:Book) (C e:Nat) (hC:b.chairs = C) (h1:1≤C) (h4:C≤4) (ts:List Line) (hts:ts.length≤20) (ws:List Nat) (Z X:List V) (r w g6 γ7:Nat):∀ (d j:Nat) (out:List Line) (c γ:Nat),j + d = C * C→out.length + d≤100→γ < c→γ7 < c→g6 < c→1 < c→∃ (c' γ':Nat),c≤c'∧γ' < c'∧∀ n m,d < m →
    loopA (execA Try.prog ann kn (n+500) 175) lb61_13 (some ([1,2,4,6,7,8,9,10,11,12],[2,4,6,67,81,171])) m ⟨c,[(1,true,.list false (ws.map encU)),(2,true,.ptr 0 2 0 0),(4,true,.ptr 0 4 1 0),(6,true,.ptr 0 6 g6 0),(7,true,pv 81 γ7 (ts.map encL)),(8,true,i r),(9,true,i w),(10,true,pv 67 γ (out.map encL)),(11,true,i e),(12,true,i j)],
      ⟨[],(2,0,.box (cellsB b)) :: (4,1,.box Z) :: (6,g6,.box X) :: (pl 67 γ 75 (out.map encL) ++ pl 81 γ7 75 (ts.map encL))⟩⟩ =
      some (.exit 4,⟨c',[(44,true,.bool false),(43,true,i (C * C:Nat)),(42,true,i C),(41,true,.ptr 0 2 0 0),(40,true,i C),(39,true,.ptr 0 2 0 0),(38,true,i (C * C:Nat)),(1,true,.list false (ws.map encU)),(2,true,.ptr 0 2 0 0),(4,true,.ptr 0 4 1 0),(6,true,.ptr 0 6 g6 0),(7,true,pv 81 γ7 (ts.map encL)),(8,true,i r),(9,true,i w),(10,true,pv 67 γ' ((canJ C e ts d j out).map encL)),(11,true,i e),(12,true,i (C * C:Nat))],
      ⟨[],(2,0,.box (cellsB b)) :: (4,1,.box Z) :: (6,g6,.box X) :: (pl 67 γ' 75 ((canJ C e ts d j out).map encL) ++ pl 81 γ7 75 (ts.map encL))⟩⟩)
  | 0,j,out,c,γ,hd,ho,h5,h6,h7,h8=>by
    have hj:j = C * C:=by omega
    subst hj
    have hCC:C * C≤4 * 4:=Nat.mul_le_mul h4 h4
    have hw:IntKind.i64.wrap ((C:Int) * (C:Int)) = ((C * C:Nat):Int):=by
      rw [show (C:Int) * (C:Int) = ((C * C:Nat):Int) by simp]
      exact wrap_i64 (by omega) (by omega)
    refine ⟨c,γ,Nat.le_refl _,h5,fun n m hm=>?_⟩
    obtain ⟨m,rfl⟩:∃ m',m = m' + 1:=⟨m - 1,by omega⟩
    unfold canJ
    simp only [cellsB,hC]
    generalize C * C = K at *
    simp [loopA_succ,hw,kl_pl2,kl_pl3,kl_pl7,get_pl2,get_pl5,get_pl6]
    done
  | d + 1,j,out,c,γ,hd,ho,h5,h6,h7,h8=>by
    have hCC:C * C≤4 * 4:=Nat.mul_le_mul h4 h4
    have hjK:j < C * C:=by omega
    have hw:IntKind.i64.wrap ((C:Int) * (C:Int)) = ((C * C:Nat):Int):=by
      rw [show (C:Int) * (C:Int) = ((C * C:Nat):Int) by simp]
      exact wrap_i64 (by omega) (by omega)
    have hw1:IntKind.i64.wrap ((j:Int) + 1) = (j:Int) + 1:=wrap_i64 (by omega) (by omega)
    have m1:(j:Int).tmod (C:Int) = ((j % C:Nat):Int):=(Int.ofNat_tmod j C).symm
    have m2:(j:Int).tdiv (C:Int) = ((j / C:Nat):Int):=(Int.ofNat_tdiv j C).symm
    have hdl:j / C≤j:=Nat.div_le_self j C
    have hdx:∀ q:Nat,q≤16→IntKind.i64.wrap (q:Int) = (q:Int):=fun q hq=>wrap_i64 (by omega) (by omega)
    have hdw:=hdx (j / C) (Nat.le_trans hdl (by omega))
    have hz:¬ C = 0:=by omega
    have hQ:placeV (some (pv 81 γ7 (ts.map encL))) = []∨placeV (some (pv 81 γ7 (ts.map encL))) = [(0,81)]:=by
      cases ts with
      | nil=>exact .inl rfl
      | cons t r=>exact .inr rfl
    have hel:=fun loc h=>elemsOf_pv (k:=81) (γ:=γ7) (e:=75) (loc:=loc) (es:=ts.map encL) h
    have a1:appOK Try.prog 75 0 (ts.map encL) = true:=by
      rw [appOK_iff (by simp) (by simp)]
      simp [maxLen,encL]
      omega
    have a2:appOK Try.prog 75 ts.length [[.int .i64 e,.int .i64 (j % C:Nat),.int .i64 (j / C:Nat)]] = true:=by
      rw [appOK_iff (by simp) (by simp)]
      simp [maxLen]
      omega
    have hti:=fun fr s h hg=>takeI_row (t:=62) (c:=c + 1 + 1 + 1) (l:=0) (q:=59) (γ:=c + 1 + 1) (n:=ts.length + 1) (fr:=fr) (s:=s) (U:=75) (es:=(ts ++ [lineJ C e j]).map encL) h hg (by simp) (by omega)
    have htk:((ts ++ [lineJ C e j]).map encL).take (ts.length + 1) = (ts ++ [lineJ C e j]).map encL:=List.take_of_length_le (by simp)
    have q58:=fun n=>k58 n (ts ++ [lineJ C e j]) (by simp; omega)
    unfold canJ
    cases hp:isPossB (ts ++ [lineJ C e j]) with
    | false =>
      rw [hp] at q58
      obtain ⟨c',γ',i0,i1,ih⟩:=l61a b C e hC h1 h4 ts hts ws Z X r w g6 γ7 d (j + 1) out (c + 1 + 1 + 1) γ (by omega) (by omega) (by omega) (by omega) (by omega) (by omega)
      refine ⟨c',γ',by omega,i1,fun n m hm=>?_⟩
      obtain ⟨m,rfl⟩:∃ m',m = m' + 1:=⟨m - 1,by omega⟩
      have ih:=ih n m (by omega)
      rw [loopA_succ]
      simp only [Bool.false_eq_true,if_false] at ih ⊢
      generalize canJ C e ts d (j + 1) out = R at *
      simp only [cellsB,hC] at ih ⊢
      simp only [lineJ,List.map_append,List.map_cons,List.map_nil,encL] at q58 hti htk
      generalize C * C = K at *
      generalize j % C = J1 at *
      generalize j / C = J2 at *
      simp at ih
      rcases hQ with hQ | hQ <;> simp [hjK,hw,hw1,m1,m2,hdw,hz,q58,hQ,hel,a1,a2,hti,htk,plK,apK,encL,kl_pl2,kl_pl3,kl_pl7,get_pl2,get_pl5,get_pl6,ih]
      done
    | true =>
      rw [hp] at q58
      obtain ⟨c',γ',i0,i1,ih⟩:=l61a b C e hC h1 h4 ts hts ws Z X r w g6 γ7 d (j + 1) (out ++ [lineJ C e j]) (c + 1 + 1 + 1 + 1) (c + 1 + 1 + 1) (by omega) (by simp; omega) (by omega) (by omega) (by omega) (by omega)
      refine ⟨c',γ',by omega,i1,fun n m hm=>?_⟩
      obtain ⟨m,rfl⟩:∃ m',m = m' + 1:=⟨m - 1,by omega⟩
      have ih:=ih n m (by omega)
      rw [loopA_succ]
      simp only [if_true] at ih ⊢
      have a3:appOK Try.prog 75 out.length [[.int .i64 e,.int .i64 (j % C:Nat),.int .i64 (j / C:Nat)]] = true:=by
        rw [appOK_iff (by simp) (by simp)]
        simp [maxLen]
        omega
      generalize canJ C e ts d (j + 1) (out ++ [lineJ C e j]) = R at *
      simp only [lineJ,List.map_append,List.map_cons,List.map_nil,encL] at ih
      simp only [cellsB,hC] at ih ⊢
      simp only [lineJ,List.map_append,List.map_cons,List.map_nil,encL] at q58 hti htk
      generalize C * C = K at *
      generalize j % C = J1 at *
      generalize j / C = J2 at *
      simp at ih
      rcases hQ with hQ | hQ <;> simp [hjK,hw,hw1,m1,m2,hdw,hz,q58,hQ,hel,a1,a2,a3,hti,htk,plK,apK,encL,kl_pl2,kl_pl3,kl_pl7,get_pl2,get_pl5,get_pl6,ih]
      done

theorem canJ_len (C e:Nat) (ts:List Line):∀ (d j:Nat) (out:List Line),(canJ C e ts d j out).length≤out.length + d
  | 0,_,out=>Nat.le_refl _
  | d + 1,j,out=>by
    unfold canJ
    refine Nat.le_trans (canJ_len C e ts d (j + 1) _) ?_
    by_cases h:isPossB (ts ++ [lineJ C e j]) = true
    · rw [if_pos h]; simp; omega
    · rw [if_neg h]; omega
def canE (C:Nat) (ts:List Line):Nat→Nat→List Line→List Line
  | 0,_,out=>out
  | d + 1,e,out=>canE C ts d (e + 1) (canJ C e ts (C * C) 0 out)
theorem canE_len (C:Nat) (ts:List Line):∀ (d e:Nat) (out:List Line),(canE C ts d e out).length≤out.length + d * (C * C)
  | 0,_,out=>by simp [canE]
  | d + 1,e,out=>by
    unfold canE
    have h1:=canE_len C ts d (e + 1) (canJ C e ts (C * C) 0 out)
    have h2:=canJ_len C e ts (C * C) 0 out
    rw [Nat.add_mul]
    omega
theorem l61b (b:Book) (C:Nat) (hC:b.chairs = C) (h1:1≤C) (h4:C≤4) (ts:List Line) (hts:ts.length≤20) (ws:List Nat) (Z X:List V) (r w g6 γ7:Nat):∀ (d e:Nat) (out:List Line) (c γ:Nat),e + d = 3→out.length + 16 * d≤100→γ < c→γ7 < c→g6 < c→1 < c→∃ (c' γ':Nat),c≤c'∧γ' < c'∧∀ n m,d < m →
    loopA (execA Try.prog ann kn (n+600) 175) lb61_10 (some ([1,2,4,6,7,8,9,10,11],[2,4,6,67,81,171])) m ⟨c,[(1,true,.list false (ws.map encU)),(2,true,.ptr 0 2 0 0),(4,true,.ptr 0 4 1 0),(6,true,.ptr 0 6 g6 0),(7,true,pv 81 γ7 (ts.map encL)),(8,true,i r),(9,true,i w),(10,true,pv 67 γ (out.map encL)),(11,true,i e)],
      ⟨[],(2,0,.box (cellsB b)) :: (4,1,.box Z) :: (6,g6,.box X) :: (pl 67 γ 75 (out.map encL) ++ pl 81 γ7 75 (ts.map encL))⟩⟩ =
      some (.exit 2,⟨c',[(35,true,.bool false),(34,true,i 3),(1,true,.list false (ws.map encU)),(2,true,.ptr 0 2 0 0),(4,true,.ptr 0 4 1 0),(6,true,.ptr 0 6 g6 0),(7,true,pv 81 γ7 (ts.map encL)),(8,true,i r),(9,true,i w),(10,true,pv 67 γ' ((canE C ts d e out).map encL)),(11,true,i 3)],
      ⟨[],(2,0,.box (cellsB b)) :: (4,1,.box Z) :: (6,g6,.box X) :: (pl 67 γ' 75 ((canE C ts d e out).map encL) ++ pl 81 γ7 75 (ts.map encL))⟩⟩)
  | 0,e,out,c,γ,hd,ho,h5,h6,h7,h8=>by
    have hj:e = 3:=by omega
    subst hj
    refine ⟨c,γ,Nat.le_refl _,h5,fun n m hm=>?_⟩
    obtain ⟨m,rfl⟩:∃ m',m = m' + 1:=⟨m - 1,by omega⟩
    unfold canE
    simp only [cellsB,hC]
    simp [loopA_succ,kl_pl2,kl_pl3,kl_pl7,get_pl2,get_pl5,get_pl6]
    done
  | d + 1,e,out,c,γ,hd,ho,h5,h6,h7,h8=>by
    have hCC:C * C≤4 * 4:=Nat.mul_le_mul h4 h4
    have he:e≤2:=by omega
    have hw1:IntKind.i64.wrap ((e:Int) + 1) = (e:Int) + 1:=wrap_i64 (by omega) (by omega)
    obtain ⟨c1,γ1,i0,i1,q⟩:=l61a b C e hC h1 h4 ts hts ws Z X r w g6 γ7 (C * C) 0 out c γ (by omega) (by omega) h5 h6 h7 h8
    have hl:=canJ_len C e ts (C * C) 0 out
    obtain ⟨c',γ',i2,i3,ih⟩:=l61b b C hC h1 h4 ts hts ws Z X r w g6 γ7 d (e + 1) (canJ C e ts (C * C) 0 out) c1 γ1 (by omega) (by omega) i1 (by omega) (by omega) (by omega)
    refine ⟨c',γ',by omega,i3,fun n m hm=>?_⟩
    obtain ⟨m,rfl⟩:∃ m',m = m' + 1:=⟨m - 1,by omega⟩
    have ih:=ih n m (by omega)
    have q:=q (n + 94) (n + 594) (by omega)
    rw [show n + 94 + 500 = n + 594 from rfl] at q
    rw [loopA_succ]
    unfold canE
    generalize canE C ts d (e + 1) (canJ C e ts (C * C) 0 out) = R at *
    generalize canJ C e ts (C * C) 0 out = R1 at *
    generalize C * C = K at *
    simp only [cellsB,hC] at ih q ⊢
    simp at ih q
    have hle:(e:Int)≤2:=by omega
    simp [he,hle,hw1,q,kl_pl2,kl_pl3,kl_pl7,get_pl2,get_pl5,get_pl6,ih]
    done
end Go.Proofs.Try.Op
/- The lines that Hired lays: the outer loop. No condition. -/
open Go Go.Pg Go.Proofs
namespace Go.Pg
noncomputable def tkU (z:Option XS) (d:Option Tmp) (st:XS):Option V→Option XS
  | some r=>Bool.rec z (valI d st (some r)) (flatR r)
  | none=>z
@[simp] theorem tkU_int (z:Option XS) (d:Option Tmp) (st:XS) (k:IntKind) (n:Int):tkU z d st (some (.int k n)) = valI d st (some (.int k n)):=rfl
@[simp] theorem tkU_bool (z:Option XS) (d:Option Tmp) (st:XS) (b:Bool):tkU z d st (some (.bool b)) = valI d st (some (.bool b)):=rfl
@[simp] theorem weakC_vec (l k g n:Nat):weakC (.vec l k g n) = .vec l k g n:=rfl
@[simp] theorem rowsV_nil (st:XS) (v:V):rowsV st [] v = v:=rfl
@[simp] theorem rowsV_cons (k:Nat) (ks:List Nat) (c:Nat) (fr:Fr) (up:List Level) (loc:Level) (v:V):rowsV ⟨c,fr,⟨up,loc⟩⟩ (k :: ks) v = rowsV ⟨c,fr,⟨up,loc⟩⟩ ks (toldV up.length k (loc.get k) 3 v):=rfl
@[simp] theorem ca2_cfU {P:Program} {A:Ann} {kn:CF0} {n k:Nat} {us:List Nat} (d:Option Tmp) (st:XS) (f:FuncId) (args:List V):ca2 (cfU (k :: us) (envA P A kn n)) d st f args = tkU (ca2 (envA P A kn n) d st f args) d st (callW P kn (execA P A kn n) f (args.map (rowsV st (k :: us)))):=by
  show (match callU (envA P A kn n).cf (envA P A kn n).c0 (k :: us) f args st with
    | some (r,st')=>some (⟨st'.c,putD st'.fr d true r,st'.s⟩:XS)
    | none=>none) = _
  unfold callU
  have e:(envA P A kn n).c0 = callW P kn (execA P A kn n):=rfl
  rw [e]
  cases callW P kn (execA P A kn n) f (args.map (rowsV st (k :: us))) with
  | none=>rfl
  | some r=>cases r <;> rfl
end Go.Pg
namespace Go.Proofs.Try.Op
set_option maxRecDepth 100000
set_option linter.unusedSimpArgs false
def canB (C:Nat) (ts:List Line):List Line:=canE C ts 2 1 []
def hireL (C w:Nat) (ts:List Line):Line:=(canB C ts).getD (w % (canB C ts).length) ⟨0,0,0⟩
def maskH (w:Nat) (l:Line):Line:=⟨if w / 4096 % 5 = 0 then 0 else l.k,if w / 64 % 5 = 0 then -1 else l.c,if w / 512 % 5 = 0 then -1 else l.t⟩
def nextH (C w:Nat) (ls:List Line) (l:Line):List Line:=if 100 < manyGo C 1 (ls ++ [maskH w l]) then ls ++ [l] else ls ++ [maskH w l]
def hireG (C:Nat) (ws:List Nat):Nat→Nat→List Line→List Line→List Line × List Line
  | 0,_,ts,ls=>(ts,ls)
  | d + 1,r,ts,ls=>if canB C ts = [] then (ts,ls) else hireG C ws d (r + 1) (ts ++ [hireL C (wordB ws (r + 1)) ts]) (nextH C (wordB ws (r + 1)) ls (hireL C (wordB ws (r + 1)) ts))
theorem canB_len {C:Nat} (h4:C≤4) (ts:List Line):(canB C ts).length≤32:=by
  have h:=canE_len C ts 2 1 []
  have hCC:C * C≤4 * 4:=Nat.mul_le_mul h4 h4
  unfold canB
  simp at h
  omega
def FrE (ws:List Nat) (g6 γ7:Nat) (ts:List Line) (N0:Nat) (fr:Fr):Prop :=
  (∃ wz,fr = [(27,true,.bool false),(26,true,i N0),(25,true,wz),(24,true,.list false (ws.map encU)),(23,true,i N0),(1,true,.list false (ws.map encU)),(2,true,.ptr 0 2 0 0),(4,true,.ptr 0 4 1 0),(6,true,.ptr 0 6 g6 0),(7,true,pv 81 γ7 (ts.map encL)),(8,true,i N0)]) ∨
  ∃ r w,fr = [(70,true,.bool true),(69,true,i 0),(68,true,.nil),(1,true,.list false (ws.map encU)),(2,true,.ptr 0 2 0 0),(4,true,.ptr 0 4 1 0),(6,true,.ptr 0 6 g6 0),(7,true,pv 81 γ7 (ts.map encL)),(8,true,i r),(9,true,w),(10,true,.nil)]
set_option maxHeartbeats 8000000 in
theorem l61c (b:Book) (C:Nat) (hC:b.chairs = C) (h1:1≤C) (h4:C≤4) (ws:List Nat) (hws:∀ w ∈ ws,w≤65535) (g6:Nat):∀ (d r:Nat) (ts ls:List Line) (c γ7:Nat),r + d = wordB ws 0 % 9→ts.length = r→ls.length = r→γ7 < c→g6 < c→1 < c→∃ (c' γ':Nat) (fr:Fr),c≤c'∧γ' < c'∧FrE ws g6 γ' (hireG C ws d r ts ls).1 (wordB ws 0 % 9) fr∧∀ n m,d < m →
    loopA (execA Try.prog ann kn (n+700) 175) lb61_5 (some ([1,2,4,6,7,8],[2,4,6,81,171])) m ⟨c,[(1,true,.list false (ws.map encU)),(2,true,.ptr 0 2 0 0),(4,true,.ptr 0 4 1 0),(6,true,.ptr 0 6 g6 0),(7,true,pv 81 γ7 (ts.map encL)),(8,true,i r)],
      ⟨[],(2,0,.box (cellsB b)) :: (4,1,.box [i 0,i 0,i 0,.nil,.nil]) :: (6,g6,.box [i b.chairs,i b.coin,i b.box,sl (ls.map encL),.nil]) :: pl 81 γ7 75 (ts.map encL)⟩⟩ =
      some (.exit 0,⟨c',fr,⟨[],(2,0,.box (cellsB b)) :: (4,1,.box [i 0,i 0,i 0,.nil,.nil]) :: (6,g6,.box [i b.chairs,i b.coin,i b.box,sl ((hireG C ws d r ts ls).2.map encL),.nil]) :: pl 81 γ' 75 ((hireG C ws d r ts ls).1.map encL)⟩⟩)
  | 0,r,ts,ls,c,γ7,hd,ht,hl,h5,h6,h7=>by
    have hr:r = wordB ws 0 % 9:=by omega
    have q100:=fun n=>k100 n ws 0 hws
    have m9:((wordB ws 0:Nat):Int).tmod 9 = ((wordB ws 0 % 9:Nat):Int):=(Int.ofNat_tmod _ 9).symm
    refine ⟨c,γ7,_,Nat.le_refl _,h5,.inl ⟨i (wordB ws 0:Nat),rfl⟩,fun n m hm=>?_⟩
    obtain ⟨m,rfl⟩:∃ m',m = m' + 1:=⟨m - 1,by omega⟩
    rw [← hr] at m9 ⊢
    unfold hireG
    generalize wordB ws 0 = W at *
    simp only [cellsB,hC,Int.natCast_zero] at q100 ⊢
    simp [loopA_succ,q100,m9,encU,kl_pl7]
    done
  | d + 1,r,ts,ls,c,γ7,hd,ht,hl,h5,h6,h7=>by
    have hN9:wordB ws 0 % 9 < 9:=Nat.mod_lt _ (by omega)
    have hr:r < wordB ws 0 % 9:=by omega
    have q100:=fun n=>k100 n ws 0 hws
    have q101:=fun n=>k100 n ws (r + 1) hws
    have m9:((wordB ws 0:Nat):Int).tmod 9 = ((wordB ws 0 % 9:Nat):Int):=(Int.ofNat_tmod _ 9).symm
    have hw1:IntKind.i64.wrap ((r:Int) + 1) = (r:Int) + 1:=wrap_i64 (by omega) (by omega)
    rw [show ((r + 1:Nat):Int) = (r:Int) + 1 by simp] at q101
    obtain ⟨c1,γ1,i0,i1,q⟩:=l61b b C hC h1 h4 ts (by omega) ws [i 0,i 0,i 0,.nil,.nil] [i b.chairs,i b.coin,i b.box,sl (ls.map encL),.nil] r (wordB ws (r + 1)) g6 γ7 2 1 [] c 0 (by omega) (by simp) (by omega) h5 h6 h7
    have hcb:canE C ts 2 1 [] = canB C ts:=rfl
    rw [hcb] at q
    by_cases hcs:canB C ts = []
    · have hG:hireG C ws (d + 1) r ts ls = (ts,ls):=by
        show (if canB C ts = [] then _ else _) = _
        rw [if_pos hcs]
      rw [hG]
      rw [hcs] at q
      refine ⟨c1,γ7,_,i0,by omega,.inr ⟨r,i (wordB ws (r + 1):Nat),rfl⟩,fun n m hm=>?_⟩
      obtain ⟨m,rfl⟩:∃ m',m = m' + 1:=⟨m - 1,by omega⟩
      have q:=q (n + 91) (n + 691) (by omega)
      rw [show n + 91 + 600 = n + 691 from rfl] at q
      rw [loopA_succ]
      generalize wordB ws 0 = W at *
      generalize wordB ws (r + 1) = W1 at *
      generalize W % 9 = N0 at *
      simp only [cellsB,hC,Int.natCast_zero] at q q100 ⊢
      simp at q
      simp [hr,q100,q101,m9,hw1,q,encU,kl_pl2,kl_pl3,kl_pl7,get_pl2,get_pl5,get_pl6]
      done
    · have hcl:=canB_len h4 ts
      have hcp:0 < (canB C ts).length:=(by cases hx:canB C ts with | nil=>exact absurd hx hcs | cons x y=>simp)
      have hG:hireG C ws (d + 1) r ts ls = hireG C ws d (r + 1) (ts ++ [hireL C (wordB ws (r + 1)) ts]) (nextH C (wordB ws (r + 1)) ls (hireL C (wordB ws (r + 1)) ts)):=by
        show (if canB C ts = [] then _ else _) = _
        rw [if_neg hcs]
      rw [hG]
      have hpv:pv 67 γ1 ((canB C ts).map encL) = .vec 0 67 γ1 (canB C ts).length:=by
        cases hx:canB C ts with
        | nil=>exact absurd hx hcs
        | cons x y=>simp [pv]
      have hpl:pl 67 γ1 75 ((canB C ts).map encL) = [(67,γ1,.vec 75 ((canB C ts).map encL))]:=by
        cases hx:canB C ts with
        | nil=>exact absurd hx hcs
        | cons x y=>rfl
      rw [hpv,hpl] at q
      have mk:=(Int.ofNat_tmod (wordB ws (r + 1)) (canB C ts).length).symm
      have hk:=Nat.mod_lt (wordB ws (r + 1)) hcp
      have hL:hireL C (wordB ws (r + 1)) ts = (canB C ts)[wordB ws (r + 1) % (canB C ts).length]:=by
        unfold hireL
        rw [List.getD_eq_getElem?_getD,List.getElem?_eq_getElem hk]
        rfl
      have hW:=word_le hws (r + 1)
      generalize hLL:hireL C (wordB ws (r + 1)) ts = L at *
      have hM:maskH (wordB ws (r + 1)) L = ⟨if wordB ws (r + 1) / 4096 % 5 = 0 then 0 else L.k,if wordB ws (r + 1) / 64 % 5 = 0 then -1 else L.c,if wordB ws (r + 1) / 512 % 5 = 0 then -1 else L.t⟩:=rfl
      have hnl:(nextH C (wordB ws (r + 1)) ls L).length = r + 1:=by
        unfold nextH
        by_cases hm:100 < manyGo C 1 (ls ++ [maskH (wordB ws (r + 1)) L])
        · rw [if_pos hm]; simp [hl]
        · rw [if_neg hm]; simp [hl]
      obtain ⟨c',γ',fr,i2,i3,i4,ih⟩:=l61c b C hC h1 h4 ws hws g6 d (r + 1) (ts ++ [L]) (nextH C (wordB ws (r + 1)) ls L) (c1 + 1 + 1 + 1 + 1 + 1) (c1 + 1) (by omega) (by simp [ht]) hnl (by omega) (by omega) (by omega)
      refine ⟨c',γ',fr,by omega,i3,i4,fun n m hm=>?_⟩
      obtain ⟨m,rfl⟩:∃ m',m = m' + 1:=⟨m - 1,by omega⟩
      replace q:=q (n + 91) (n + 691) (by omega)
      rw [show n + 91 + 600 = n + 691 from rfl] at q
      replace ih:=ih n m (by omega)
      rw [loopA_succ]
      have q52:=fun n=>k52 n ⟨C,b.coin,b.box,ls ++ [maskH (wordB ws (r + 1)) L],[]⟩ (by show (1:Int)≤C; omega) (by show (C:Int)≤4; omega) (by simp; omega)
      generalize hireG C ws d (r + 1) (ts ++ [L]) (nextH C (wordB ws (r + 1)) ls L) = G at ih ⊢
      unfold nextH at ih
      have t1:((wordB ws (r + 1):Nat):Int).tdiv 64 = ((wordB ws (r + 1) / 64:Nat):Int):=(Int.ofNat_tdiv _ 64).symm
      have t2:((wordB ws (r + 1):Nat):Int).tdiv 512 = ((wordB ws (r + 1) / 512:Nat):Int):=(Int.ofNat_tdiv _ 512).symm
      have t3:((wordB ws (r + 1):Nat):Int).tdiv 4096 = ((wordB ws (r + 1) / 4096:Nat):Int):=(Int.ofNat_tdiv _ 4096).symm
      have u1:IntKind.i64.wrap ((wordB ws (r + 1) / 64:Nat):Int) = ((wordB ws (r + 1) / 64:Nat):Int):=wrap_i64 (by omega) (by omega)
      have u2:IntKind.i64.wrap ((wordB ws (r + 1) / 512:Nat):Int) = ((wordB ws (r + 1) / 512:Nat):Int):=wrap_i64 (by omega) (by omega)
      have u3:IntKind.i64.wrap ((wordB ws (r + 1) / 4096:Nat):Int) = ((wordB ws (r + 1) / 4096:Nat):Int):=wrap_i64 (by omega) (by omega)
      have v1:((wordB ws (r + 1) / 64:Nat):Int).tmod 5 = ((wordB ws (r + 1) / 64 % 5:Nat):Int):=(Int.ofNat_tmod _ 5).symm
      have v2:((wordB ws (r + 1) / 512:Nat):Int).tmod 5 = ((wordB ws (r + 1) / 512 % 5:Nat):Int):=(Int.ofNat_tmod _ 5).symm
      have v3:((wordB ws (r + 1) / 4096:Nat):Int).tmod 5 = ((wordB ws (r + 1) / 4096 % 5:Nat):Int):=(Int.ofNat_tmod _ 5).symm
      have z1:appOK Try.prog 75 ts.length [[.int .i64 L.k,.int .i64 L.c,.int .i64 L.t]] = true:=by
        rw [appOK_iff (by simp) (by simp)]
        simp [maxLen]
        omega
      have z2:appOK Try.prog 75 0 (ls.map encL) = true:=by
        rw [appOK_iff (by simp) (by simp)]
        simp [maxLen,encL]
        omega
      have z3:∀ x y z:Int,appOK Try.prog 75 ls.length [[.int .i64 x,.int .i64 y,.int .i64 z]] = true:=fun x y z=>by
        rw [appOK_iff (by simp) (by simp)]
        simp [maxLen]
        omega
      have hL2:((canB C ts).map encL)[wordB ws (r + 1) % (canB C ts).length]? = some (encL L):=by
        rw [List.getElem?_map,List.getElem?_eq_getElem hk,hL]
        rfl
      generalize maskH (wordB ws (r + 1)) L = M at *
      generalize canB C ts = cs at *
      generalize wordB ws 0 = W at *
      generalize wordB ws (r + 1) = W1 at *
      generalize W % 9 = N0 at *
      generalize W1 % cs.length = k at *
      generalize W1 / 64 = A1 at *
      generalize W1 / 512 = A2 at *
      generalize W1 / 4096 = A3 at *
      generalize A1 % 5 = B1 at *
      generalize A2 % 5 = B2 at *
      generalize A3 % 5 = B3 at *
      have hcn:¬ cs.length = 0:=by omega
      have hp81:pv 81 (c1 + 1) (ts.map encL ++ [[i L.k,i L.c,i L.t]]) = .vec 0 81 (c1 + 1) (ts.length + 1):=by
        cases ts with
        | nil=>rfl
        | cons x y=>simp [pv]
      have hte:∀ o,(List.map (toldV 0 101 o 3) ∘ encL) = encL:=fun o=>by
        funext x
        simp [encL]
      have hsl:∀ x:List V,sl (ls.map encL ++ [x]) = .list false (ls.map encL ++ [x]):=fun x=>by
        cases ls <;> rfl
      have lt1:(ts.length:Int) < (ts.length:Int) + 1:=by omega
      have lt2:(ls.length:Int) < (ls.length:Int) + 1:=by omega
      have wt:IntKind.i64.wrap (ts.length:Int) = (ts.length:Int):=wrap_i64 (by omega) (by omega)
      have wl:IntKind.i64.wrap (ls.length:Int) = (ls.length:Int):=wrap_i64 (by omega) (by omega)
      have hcls:ls.all ((fun e=>e.all (closedV 7)) ∘ encL) = true:=by simp [encL]
      have n1:c1 < c1 + 1 + 1 + 1:=by omega
      have n2:c1 + 1 + 1 < c1 + 1 + 1 + 1 + 1 + 1:=by omega
      have n3:g6 < c1 + 1 + 1 + 1 + 1 + 1:=by omega
      have n4:c1 + 1 + 1 + 1 + 1 < c1 + 1 + 1 + 1 + 1 + 1:=by omega
      simp only [cellsB,hC,Int.natCast_zero] at q q100 q52 ih ⊢
      simp at q
      by_cases hm:100 < manyGo C 1 (ls ++ [M])
      · rw [if_pos hm] at ih
        by_cases b1:B1 = 0 <;> by_cases b2:B2 = 0 <;> by_cases b3:B3 = 0 <;>
          (simp only [b1,b2,b3,if_true,if_false] at hM
           subst hM
           simp only [List.map_append,List.map_cons,List.map_nil,encL] at q52 ih
           simp [hp81,hsl] at ih
           simp [hr,q100,q101,m9,hw1,q,hcn,mk,hk,hL.symm,t1,t2,t3,u1,u2,u3,v1,v2,v3,z1,z2,z3,b1,b2,b3,n1,n2,n3,n4,hcls,hp81,hsl,hte,lt1,lt2,wt,wl,q52,hm,encU,encL,plK,apK,kl_pl2,kl_pl3,kl_pl7,get_pl2,get_pl5,get_pl6,ih])
      · rw [if_neg hm] at ih
        by_cases b1:B1 = 0 <;> by_cases b2:B2 = 0 <;> by_cases b3:B3 = 0 <;>
          (simp only [b1,b2,b3,if_true,if_false] at hM
           subst hM
           simp only [List.map_append,List.map_cons,List.map_nil,encL] at q52 ih
           simp [hp81,hsl] at ih
           simp [hr,q100,q101,m9,hw1,q,hcn,mk,hk,hL.symm,t1,t2,t3,u1,u2,u3,v1,v2,v3,z1,z2,z3,b1,b2,b3,n1,n2,n3,n4,hcls,hp81,hsl,hte,lt1,lt2,wt,wl,q52,hm,encU,encL,plK,apK,kl_pl2,kl_pl3,kl_pl7,get_pl2,get_pl5,get_pl6,ih])
theorem money_bd {coin:Int} (h0:0≤coin) (h1:coin≤100):∀ (l:List Line) (v:Int),v - 100 * l.length≤moneyGo coin v l∧moneyGo coin v l≤v + 100 * l.length
  | [],v=>by simp [moneyGo]
  | t :: r,v=>by
    unfold moneyGo
    by_cases h:t.k = 1
    · rw [if_pos h]
      have:=money_bd h0 h1 r (v + coin)
      simp only [List.length_cons]
      omega
    · rw [if_neg h]
      have:=money_bd h0 h1 r (v - coin)
      simp only [List.length_cons]
      omega
theorem moneyB_bd {b:Book} (hc1:1≤b.coin) (hc2:b.coin≤99) (hx1:0≤b.box) (hx2:b.box≤999) {ts:List Line} (hts:ts.length≤20) (a:Nat):-5000≤moneyB b ts a∧moneyB b ts a≤5000:=by
  have h:=money_bd (coin:=b.coin) (by omega) (by omega) (ts.take a) b.box
  have hl:(ts.take a).length≤20:=by simp; omega
  unfold moneyB
  omega
def maxZ (n:Int):Int:=if n > 0 then n else 0
def cntH (b:Book) (ts:List Line) (w:Nat):Count:=⟨(w % (ts.length + 1):Nat),maxZ (moneyB b ts (w % (ts.length + 1)) - (w / 16 % 8:Nat)),maxZ (moneyB b ts (w % (ts.length + 1)) + (w / 128 % 8:Nat))⟩
def cntG (b:Book) (ts:List Line) (ws:List Nat):Nat→Nat→List Count→List Count
  | 0,_,cs=>cs
  | d + 1,r,cs=>cntG b ts ws d (r + 1) (if 0≤moneyB b ts (wordB ws (r + 11) % (ts.length + 1))∧(cntH b ts (wordB ws (r + 11))).hi≤2000 then cs ++ [cntH b ts (wordB ws (r + 11))] else cs)
theorem l61d (b:Book) (C:Nat) (hC:b.chairs = C) (hc1:1≤b.coin) (hc2:b.coin≤99) (hx1:0≤b.box) (hx2:b.box≤999) (ws:List Nat) (hws:∀ w ∈ ws,w≤65535) (g6:Nat) (ts ls:List Line) (hts:ts.length≤20):∀ (d r:Nat) (cs:List Count) (c γ:Nat),r + d = wordB ws 10 % 4→cs.length≤r→γ < c→g6 < c→∃ (c' γ':Nat),c≤c'∧γ' < c'∧∀ n m,d < m →
    loopA (execA Try.prog ann kn (n+300) 175) lb61_33 (some ([1,2,4,6,7,16],[2,4,6,81,171])) m ⟨c,[(1,true,.list false (ws.map encU)),(2,true,.ptr 0 2 0 0),(4,true,.ptr 0 4 1 0),(6,true,.ptr 0 6 g6 0),(7,true,sl (ts.map encL)),(16,true,i r)],
      ⟨[],(2,0,.box (cellsB b)) :: (4,1,.box [i 0,i 0,i 0,.nil,.nil]) :: (6,g6,.box [i b.chairs,i b.coin,i b.box,sl (ls.map encL),pv 171 γ (cs.map encC)]) :: pl 171 γ 78 (cs.map encC)⟩⟩ =
      some (.exit 6,⟨c',[(127,true,.bool false),(126,true,i (wordB ws 10 % 4:Nat)),(125,true,i (wordB ws 10:Nat)),(124,true,.list false (ws.map encU)),(123,true,i (wordB ws 10 % 4:Nat)),(1,true,.list false (ws.map encU)),(2,true,.ptr 0 2 0 0),(4,true,.ptr 0 4 1 0),(6,true,.ptr 0 6 g6 0),(7,true,sl (ts.map encL)),(16,true,i (wordB ws 10 % 4:Nat))],
      ⟨[],(2,0,.box (cellsB b)) :: (4,1,.box [i 0,i 0,i 0,.nil,.nil]) :: (6,g6,.box [i b.chairs,i b.coin,i b.box,sl (ls.map encL),pv 171 γ' ((cntG b ts ws d r cs).map encC)]) :: pl 171 γ' 78 ((cntG b ts ws d r cs).map encC)⟩⟩)
  | 0,r,cs,c,γ,hd,hl,h5,h6=>by
    have hr:r = wordB ws 10 % 4:=by omega
    have q100:=fun n=>k100 n ws 10 hws
    have m4:((wordB ws 10:Nat):Int).tmod 4 = ((wordB ws 10 % 4:Nat):Int):=(Int.ofNat_tmod _ 4).symm
    refine ⟨c,γ,Nat.le_refl _,h5,fun n m hm=>?_⟩
    obtain ⟨m,rfl⟩:∃ m',m = m' + 1:=⟨m - 1,by omega⟩
    rw [← hr] at m4 ⊢
    unfold cntG
    generalize wordB ws 10 = W at *
    simp only [cellsB,hC] at q100 ⊢
    rw [show ((10:Nat):Int) = 10 from rfl] at q100
    simp [loopA_succ,q100,m4,encU,kl_pl7]
    done
  | d + 1,r,cs,c,γ,hd,hl,h5,h6=>by
    have hN4:wordB ws 10 % 4 < 4:=Nat.mod_lt _ (by omega)
    have hr:r < wordB ws 10 % 4:=by omega
    have q100:=fun n=>k100 n ws 10 hws
    have q101:=fun n=>k100 n ws (r + 11) hws
    have m4:((wordB ws 10:Nat):Int).tmod 4 = ((wordB ws 10 % 4:Nat):Int):=(Int.ofNat_tmod _ 4).symm
    have hw1:IntKind.i64.wrap ((r:Int) + 1) = (r:Int) + 1:=wrap_i64 (by omega) (by omega)
    have hw11:IntKind.i64.wrap ((r:Int) + 11) = (r:Int) + 11:=wrap_i64 (by omega) (by omega)
    have hwt:IntKind.i64.wrap ((ts.length:Int) + 1) = (ts.length:Int) + 1:=wrap_i64 (by omega) (by omega)
    rw [show ((10:Nat):Int) = 10 from rfl] at q100
    rw [show ((r + 11:Nat):Int) = (r:Int) + 11 by simp] at q101
    have hW:=word_le hws (r + 11)
    have mt:((wordB ws (r + 11):Nat):Int).tmod ((ts.length:Int) + 1) = ((wordB ws (r + 11) % (ts.length + 1):Nat):Int):=(Int.ofNat_tmod _ (ts.length + 1)).symm
    have hk:wordB ws (r + 11) % (ts.length + 1)≤ts.length:=by have:=Nat.mod_lt (wordB ws (r + 11)) (show 0 < ts.length + 1 by omega); omega
    have q44:=fun n=>k44 n b hc1 hc2 hx1 hx2 ts (wordB ws (r + 11) % (ts.length + 1)) hk (by omega)
    have hb:=moneyB_bd hc1 hc2 hx1 hx2 hts (wordB ws (r + 11) % (ts.length + 1))
    have t1:((wordB ws (r + 11):Nat):Int).tdiv 16 = ((wordB ws (r + 11) / 16:Nat):Int):=(Int.ofNat_tdiv _ 16).symm
    have t2:((wordB ws (r + 11):Nat):Int).tdiv 128 = ((wordB ws (r + 11) / 128:Nat):Int):=(Int.ofNat_tdiv _ 128).symm
    have u1:IntKind.i64.wrap ((wordB ws (r + 11) / 16:Nat):Int) = ((wordB ws (r + 11) / 16:Nat):Int):=wrap_i64 (by omega) (by omega)
    have u2:IntKind.i64.wrap ((wordB ws (r + 11) / 128:Nat):Int) = ((wordB ws (r + 11) / 128:Nat):Int):=wrap_i64 (by omega) (by omega)
    have v1:((wordB ws (r + 11) / 16:Nat):Int).tmod 8 = ((wordB ws (r + 11) / 16 % 8:Nat):Int):=(Int.ofNat_tmod _ 8).symm
    have v2:((wordB ws (r + 11) / 128:Nat):Int).tmod 8 = ((wordB ws (r + 11) / 128 % 8:Nat):Int):=(Int.ofNat_tmod _ 8).symm
    have x1:=Nat.mod_lt (wordB ws (r + 11) / 16) (show 0 < 8 by omega)
    have x2:=Nat.mod_lt (wordB ws (r + 11) / 128) (show 0 < 8 by omega)
    have z3:∀ x y z:Int,appOK Try.prog 78 cs.length [[.int .i64 x,.int .i64 y,.int .i64 z]] = true:=fun x y z=>by
      rw [appOK_iff (by simp) (by simp)]
      simp [maxLen]
      omega
    have hG:cntG b ts ws (d + 1) r cs = cntG b ts ws d (r + 1) (if 0≤moneyB b ts (wordB ws (r + 11) % (ts.length + 1))∧(cntH b ts (wordB ws (r + 11))).hi≤2000 then cs ++ [cntH b ts (wordB ws (r + 11))] else cs):=rfl
    rw [hG]
    have hx:cntH b ts (wordB ws (r + 11)) = ⟨(wordB ws (r + 11) % (ts.length + 1):Nat),maxZ (moneyB b ts (wordB ws (r + 11) % (ts.length + 1)) - (wordB ws (r + 11) / 16 % 8:Nat)),maxZ (moneyB b ts (wordB ws (r + 11) % (ts.length + 1)) + (wordB ws (r + 11) / 128 % 8:Nat))⟩:=rfl
    have hci:((cntH b ts (wordB ws (r + 11))).hi) = maxZ (moneyB b ts (wordB ws (r + 11) % (ts.length + 1)) + (wordB ws (r + 11) / 128 % 8:Nat)):=rfl
    have n1:g6 < c + 1 + 1:=by omega
    have hne:¬ (ts.length:Int) + 1 = 0:=by omega
    have em:∀ n:Int,evMax (.int .i64 0) (.int .i64 n) = some (.int .i64 (maxZ n)):=fun n=>by
      rw [evMax_int,if_pos rfl]
      rfl
    have wd:IntKind.i64.wrap (moneyB b ts (wordB ws (r + 11) % (ts.length + 1)) - (wordB ws (r + 11) / 16 % 8:Nat)) = moneyB b ts (wordB ws (r + 11) % (ts.length + 1)) - (wordB ws (r + 11) / 16 % 8:Nat):=wrap_i64 (by omega) (by omega)
    have wa:IntKind.i64.wrap (moneyB b ts (wordB ws (r + 11) % (ts.length + 1)) + (wordB ws (r + 11) / 128 % 8:Nat)) = moneyB b ts (wordB ws (r + 11) % (ts.length + 1)) + (wordB ws (r + 11) / 128 % 8:Nat):=wrap_i64 (by omega) (by omega)
    by_cases hcond:0≤moneyB b ts (wordB ws (r + 11) % (ts.length + 1))∧(cntH b ts (wordB ws (r + 11))).hi≤2000
    · rw [if_pos hcond]
      rw [hci] at hcond
      obtain ⟨c',γ',i0,i1,ih⟩:=l61d b C hC hc1 hc2 hx1 hx2 ws hws g6 ts ls hts d (r + 1) (cs ++ [cntH b ts (wordB ws (r + 11))]) (c + 1 + 1) (c + 1) (by omega) (by simp; omega) (by omega) (by omega)
      refine ⟨c',γ',by omega,i1,fun n m hm=>?_⟩
      obtain ⟨m,rfl⟩:∃ m',m = m' + 1:=⟨m - 1,by omega⟩
      replace ih:=ih n m (by omega)
      rw [loopA_succ]
      obtain ⟨hp1,hp2⟩:=hcond
      generalize cntG b ts ws d (r + 1) (cs ++ [cntH b ts (wordB ws (r + 11))]) = G at ih ⊢
      rw [hx] at ih
      generalize moneyB b ts (wordB ws (r + 11) % (ts.length + 1)) = M at *
      generalize wordB ws 10 = W at *
      generalize wordB ws (r + 11) = W1 at *
      generalize W % 4 = N0 at *
      generalize W1 % (ts.length + 1) = k at *
      generalize W1 / 16 = A1 at *
      generalize W1 / 128 = A2 at *
      generalize A1 % 8 = B1 at *
      generalize A2 % 8 = B2 at *
      simp only [cellsB,hC,List.map_append,List.map_cons,List.map_nil,encC] at q44 ih ⊢
      simp at ih
      simp [hr,q100,q101,q44,m4,mt,hw1,hw11,hwt,t1,t2,u1,u2,v1,v2,z3,n1,hne,-evMax_int,em,wd,wa,hp1,hp2,encU,encL,encC,kl_pl7,ih]
      done
    · rw [if_neg hcond]
      rw [hci] at hcond
      obtain ⟨c',γ',i0,i1,ih⟩:=l61d b C hC hc1 hc2 hx1 hx2 ws hws g6 ts ls hts d (r + 1) cs (c + 1) γ (by omega) (by omega) (by omega) (by omega)
      refine ⟨c',γ',by omega,i1,fun n m hm=>?_⟩
      obtain ⟨m,rfl⟩:∃ m',m = m' + 1:=⟨m - 1,by omega⟩
      replace ih:=ih n m (by omega)
      rw [loopA_succ]
      generalize cntG b ts ws d (r + 1) cs = G at ih ⊢
      generalize moneyB b ts (wordB ws (r + 11) % (ts.length + 1)) = M at *
      generalize wordB ws 10 = W at *
      generalize wordB ws (r + 11) = W1 at *
      generalize W % 4 = N0 at *
      generalize W1 % (ts.length + 1) = k at *
      generalize W1 / 16 = A1 at *
      generalize W1 / 128 = A2 at *
      generalize A1 % 8 = B1 at *
      generalize A2 % 8 = B2 at *
      simp only [cellsB,hC,List.map_append,List.map_cons,List.map_nil,encC] at q44 ih ⊢
      simp at ih
      by_cases hp1:0≤M
      · have hp2:¬ maxZ (M + (B2:Int))≤2000:=fun h=>hcond ⟨hp1,h⟩
        simp [hr,q100,q101,q44,m4,mt,hw1,hw11,hwt,t1,t2,u1,u2,v1,v2,z3,n1,hne,-evMax_int,em,wd,wa,hp1,hp2,encU,encL,encC,kl_pl7,ih]
        done
      · simp [hr,q100,q101,q44,m4,mt,hw1,hw11,hwt,t1,t2,u1,u2,v1,v2,z3,n1,hne,-evMax_int,em,wd,wa,hp1,encU,encL,encC,kl_pl7,ih]
        done
theorem cl_line (f:Nat) (x:Line) (y:V) (h:y ∈ encL x):closedV f.succ y = true:=by
  simp only [encL,List.mem_cons,List.not_mem_nil,or_false] at h
  rcases h with rfl | rfl | rfl <;> rfl
theorem cl_count (f:Nat) (x:Count) (y:V) (h:y ∈ encC x):closedV f.succ y = true:=by
  simp only [encC,List.mem_cons,List.not_mem_nil,or_false] at h
  rcases h with rfl | rfl | rfl <;> rfl
theorem hireG_len (C:Nat) (ws:List Nat):∀ (d r:Nat) (ts ls:List Line),(hireG C ws d r ts ls).1.length≤ts.length + d
  | 0,_,ts,_=>Nat.le_refl _
  | d + 1,r,ts,ls=>by
    unfold hireG
    by_cases h:canB C ts = []
    · rw [if_pos h]
      exact Nat.le_add_right _ _
    · rw [if_neg h]
      have:=hireG_len C ws d (r + 1) (ts ++ [hireL C (wordB ws (r + 1)) ts]) (nextH C (wordB ws (r + 1)) ls (hireL C (wordB ws (r + 1)) ts))
      simp at this
      omega
def hireP (b:Book) (ws:List Nat):List Line × List Line:=hireG b.chairs.toNat ws (wordB ws 0 % 9) 0 [] []
def hiredB (b:Book) (ws:List Nat):Book:=⟨b.chairs,b.coin,b.box,(hireP b ws).2,cntG b (hireP b ws).1 ws (wordB ws 10 % 4) 0 []⟩
theorem hireP_len (b:Book) (ws:List Nat):(hireP b ws).1.length≤8:=by
  have h:=hireG_len b.chairs.toNat ws (wordB ws 0 % 9) 0 [] []
  have:=Nat.mod_lt (wordB ws 0) (show 0 < 9 by omega)
  unfold hireP
  simp at h
  omega
theorem k61 (n:Nat) (b:Book) (ws:List Nat) (h1:1≤b.chairs) (h4:b.chairs≤4) (hc1:1≤b.coin) (hc2:b.coin≤99) (hx1:0≤b.box) (hx2:b.box≤999) (hws:∀ w ∈ ws,w≤65535):callK Try.prog kn (execA Try.prog ann kn (n+900)) 61 [.agg (cellsB b),.list false (ws.map encU)] = some (.tup [.agg (cellsR (hiredB b ws)),sl ((hireP b ws).1.map encL)]):=by
  rw [callK_of rfl,call0_eq Try.func61 b61 rfl (by simp [cellsB,encL,encC,encU])]
  obtain ⟨C,hC⟩:∃ C:Nat,b.chairs = C:=⟨b.chairs.toNat,by omega⟩
  have hCt:b.chairs.toNat = C:=by omega
  have hN9:=Nat.mod_lt (wordB ws 0) (show 0 < 9 by omega)
  have hN4:=Nat.mod_lt (wordB ws 10) (show 0 < 4 by omega)
  obtain ⟨c1,γ1,fr,i0,i1,hfr,q1⟩:=l61c b C hC (by omega) (by omega) ws hws 2 (wordB ws 0 % 9) 0 [] [] 3 0 (by omega) rfl rfl (by omega) (by omega) (by omega)
  have hlen:=hireP_len b ws
  have hP:hireP b ws = hireG C ws (wordB ws 0 % 9) 0 [] []:=by unfold hireP; rw [hCt]
  unfold hiredB
  rw [hP] at hlen ⊢
  generalize hireG C ws (wordB ws 0 % 9) 0 [] [] = TL at *
  obtain ⟨T,L⟩:=TL
  obtain ⟨c2,γ2,j0,j1,q2⟩:=l61d b C hC hc1 hc2 hx1 hx2 ws hws 2 T L (by simp at hlen; omega) (wordB ws 10 % 4) 0 [] c1 0 (by omega) (by simp) (by omega) (by omega)
  have slnil:sl ([]:List (List V)) = .nil:=rfl
  replace q1:=q1 (n + 192) (n + 892) (by omega)
  replace q2:=q2 (n + 591) (n + 891) (by omega)
  rw [show n + 192 + 700 = n + 892 from rfl] at q1
  rw [show n + 591 + 300 = n + 891 from rfl] at q2
  generalize cntG b T ws (wordB ws 10 % 4) 0 [] = K at *
  generalize wordB ws 0 % 9 = N0 at *
  generalize wordB ws 10 % 4 = N4 at *
  simp only [cellsB,cellsR] at q1 q2 ⊢
  simp [slnil] at q1 q2
  have g1:1 < c2:=by omega
  have hcp:=fun loc h=>closeX_pv (T:=78) 1 loc 171 γ2 (K.map encC) h
  rcases hfr with ⟨wz,rfl⟩ | ⟨r,w,rfl⟩
  · simp [c61,argFr,q1,q2,g1,hcp,kl_pl7] <;> exact ⟨fun x _ y hy=>cl_line 5 x y hy,fun x _ y hy=>cl_count 5 x y hy,fun x _ y hy=>cl_line 6 x y hy⟩
  · simp [c61,argFr,q1,q2,g1,hcp,kl_pl7] <;> exact ⟨fun x _ y hy=>cl_line 5 x y hy,fun x _ y hy=>cl_count 5 x y hy,fun x _ y hy=>cl_line 6 x y hy⟩
end Go.Proofs.Try.Op
