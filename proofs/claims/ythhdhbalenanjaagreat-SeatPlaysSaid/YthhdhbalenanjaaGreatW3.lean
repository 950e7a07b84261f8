/- Contracts: within, direction, sun, winds, hour, spot, note. No condition. -/
import Derived.Test.YthhdhbalenanjaaGreatW1
import Derived.Test.YthhdhbalenanjaaGreatW2
import Derived.Test.YthhdhbalenanjaaGreatFz
import Derived.Test.YthhdhbalenanjaaGreatL
open Go Go.Pg Go.Proofs Go.Wind
namespace Go.Wind
theorem cW{σ α:Type}(p:σ→α→Bool)(nx:σ→α→σ):∀(l:List α) (s:σ) (h:List σ),(BE (fun (s:σ×List σ) x=>p s.1 x) (fun s x=>(nx s.1 x,s.1 :: s.2)) (s,h) l).1=(BE p nx s l).1
 | [],_,_=>rfl
 | x :: l,s,h=>by
  simp only[BE]
  cases p s x with
  | true=>rfl
  | false=>exact cW p nx l (nx s x) (s :: h)
theorem sT:∀(l:List Int) (s:Int),(BE (fun s x=>!FB x (s+1) 3) (fun _ x=>x) s l).1=!((match l with | []=>true | x :: _=>decide (s<x))&&(l.all (fun n=>decide (n≤3))&&JB l))
 | [],s=>rfl
 | [x],s=>by
  simp only[BE,FB,JB,List.all_cons,List.all_nil]
  have e:decide (s+1≤x)=decide (s<x):=by congr 1
  rw[e]
  cases decide (s<x) <;> cases decide (x≤3) <;> rfl
 | x :: y :: l,s=>by
  have ih:=sT (y :: l) x
  have e:decide (s+1≤x)=decide (s<x):=by congr 1
  rw[BE]
  cases h:FB x (s+1) 3 with
  | false =>
   unfold FB at h
   rw[e]at h
   simp only[Bool.not_false,cond_true,JB,List.all_cons]
   revert h
   generalize List.all l (fun n=>decide (n≤3))=a
   generalize JB (y :: l)=b
   cases decide (s<x) <;> cases decide (x≤3) <;> cases decide (x<y) <;> cases decide (y≤3) <;> cases a <;> cases b <;> simp
  | true =>
  unfold FB at h
  rw[e]at h
  simp only[Bool.not_true,cond_false,ih,JB,List.all_cons]
  revert h
  generalize List.all l (fun n=>decide (n≤3))=a
  generalize JB (y :: l)=b
  cases decide (s<x) <;> cases decide (x≤3) <;> cases decide (x<y) <;> cases decide (y≤3) <;> cases a <;> cases b <;> simp
theorem sU:∀(l:List Int) (s:Int),(match l with | []=>true | x :: _=>decide (s<x))=true→JB l=true→l.all (fun n=>decide (s<n))=true
 | [],_,_,_=>rfl
 | [x],s,h,_=>by simpa using h
 | x :: y :: l,s,h,h2=>by
  simp only[JB,Bool.and_eq_true,decide_eq_true_eq]at h h2
  have:=sU (y :: l) s (by simp; omega) h2.2
  rw[List.all_cons,this]
  simp[h]
theorem wG(l:List Int):(!(BE (fun s x=>!FB x (s+1) 3) (fun _ x=>x) (-1) l).1)=(D2 l 0&&JB l):=by
 rw[sT,Bool.not_not]
 have hd:D2 l 0=(l.all (fun n=>decide (-1<n))&&l.all (fun n=>decide (n≤3))):=by
  unfold D2 FB
  induction l with
  | nil=>rfl
  | cons x l ih =>
   simp only[List.all_cons,ih]
   have e:decide ((0:Int)≤x)=decide (-1<x):=by congr 1
   rw[e]
   cases decide (-1<x) <;> cases decide (x≤3) <;> simp
 rw[hd]
 cases h:JB l with
 | false=>simp
 | true =>
  cases h2:(match l with | []=>true | x :: _=>decide (-1<x))with
  | true=>rw[sU l (-1) h2 h]; simp
  | false =>
   cases l with
   | nil=>cases h2
   | cons x l=>simp only at h2; simp[h2]
end Go.Wind
namespace Go.Proofs.Tryz.Op
set_option maxRecDepth 100000
set_option linter.unusedSimpArgs false
theorem KD(n:Nat)(x lo hi:Int):AY Tryz.prog kn (AE Tryz.prog ann kn (n+50)) 143 [i x,i lo,i hi]=some (.bool (FB x lo hi)):=by
 rw[AP rfl,AO Tryz.func143 A9A rfl rfl]
 unfold FB
 generalize e1:decide (lo≤x)=b1
 simp[e1,AXS,AF]
 cases b1 <;> simp
theorem QQ(n:Nat)(x:Int):AY Tryz.prog kn (AE Tryz.prog ann kn (n+100)) 145 [i x]=some (.bool (FB x 0 3)):=by
 rw[AP rfl,AO Tryz.func145 A9B rfl rfl]
 have q:=fun n=>KD n x 0 3
 simp[AXT,AF,q]
theorem BDV(n:Nat)(x:Int):AY Tryz.prog kn (AE Tryz.prog ann kn (n+100)) 146 [i x]=some (.bool (FB x (-1) 3)):=by
 rw[AP rfl,AO Tryz.func146 A9C rfl rfl]
 have q:=fun n=>KD n x (-1) 3
 simp[AXU,AF,q]
def lH(s:Int×List Int):AB:=(3,0,.box [i s.1]) :: s.2.map fun x=>(3,0,.box [i x])
theorem cX(t:St)(s:Int×List Int):AQ t (lH s)=lH s:=by
 unfold lH
 rw[CI]
 have:∀h:List Int,AQ t (h.map fun x=>(3,0,AX.box [i x]))=h.map fun x=>(3,0,AX.box [i x]):=by
  intro h
  induction h with
  | nil=>rfl
  | cons x h ih=>rw[List.map_cons,CI,ih]; simp
 rw[this]
 simp
theorem ADF(s:Int×List Int):AB.get (lH s) 3=some (0,.box [i s.1]):=rfl
theorem ADG(s:Int×List Int)(x:Int):AB.put (lH s) 3 0 (.box [i x])=lH (x,s.1 :: s.2):=rfl
theorem ARH(n:Nat)(l:List Int)(hl:l.length≤40):AY Tryz.prog kn (AE Tryz.prog ann kn (n+600)) 148 [li l]=some (.bool (FL l)):=by
 rw[AP rfl,AO Tryz.func148 A9D rfl (by simp[AH])]
 obtain⟨c',h1,q⟩:=ARF (n+196) 100 0 (fun _=>[]) lH (by simp) (fun s=>-1≤s.1∧s.1≤3) 179 [.ptr 0 3 0 0] (by simp) (by simp) (fun s x=>FB x (s.1+1) 3) (fun s x=>(x,s.1 :: s.2)) l hl (by simp[cX]) (by
   intro t γ ht
   obtain⟨up,loc⟩:=t
   have h0:¬0=up.length:=by simp at ht; omega
   simp[h0]) 1 (by
   intro n c1 fr s x hc hs hx
   refine⟨fun h=>?_,c1,Nat.le_refl _,?_⟩
   ·have:=DM.1 h; omega
   ·have q:=fun n=>KD n x (s.1+1) 3
    have hw:IntKind.i64.wrap (s.1+1)=s.1+1:=AW (by omega) (by omega)
    simp only[List.nil_append,List.cons_append]
    rw[BK Tryz.func179 b179 rfl (by simp)]
    have hc':0<c1:=by omega
    simp[AXV,AF,q,hw,hc',ADF,ADG,cX]) 10 [(9,true,.fn 179 [] [.ptr 0 3 0 0]),(8,true,li l),(7,true,.bool (decide (0<(l.length:Int)))),(6,true,.bool (decide (0<(l.length:Int)))),(5,true,i l.length),(4,true,li l),(0,true,li l),(3,true,.ptr 0 3 0 0)] (-1,[]) (by simp)
 rw[cW (fun s x=>!FB x (s+1) 3) (fun _ x=>x),wG]at q
 have e:n+196+100+300=n+596:=by omega
 rw[e]at q
 unfold FL
 cases l with
 | nil=>simp[AMG,AF]
 | cons x l =>
  have hp:(0:Int)<((x :: l).length:Int):=by simp
  simp only[hp,decide_true]at q
  generalize BE (fun (s:Int×List Int) x=>!FB x (s.1+1) 3) _ (-1,[]) (x :: l)=A at q
  have he:(x :: l).isEmpty=false:=rfl
  rw[he]
  have hp2:0<(x :: l).length:=by simp
  generalize x :: l=L at *
  simp[lH]at q
  simp[AMG,AF,hp2,q]
theorem A48(n:Nat)(b:AJ)(x:Int):AY Tryz.prog kn (AE Tryz.prog ann kn (n+100)) 174 [.agg (AA b),i x]=some (.bool (FB x 0 b.last)):=by
 rw[AP rfl,AO Tryz.func174 A9E rfl (by simp[AA,AH,AN,AG])]
 have q:=fun n=>KD n x 0 b.last
 simp[AXW,AF,AA,q]
theorem A49(n:Nat)(b:AJ)(s:Int×Int)(h1:0≤b.rows∧b.rows≤1000)(h2:0≤b.places∧b.places≤1000):AY Tryz.prog kn (AE Tryz.prog ann kn (n+100)) 141 [.agg (AA b),.agg (AG s)]=some (.bool (FC b s)):=by
 rw[AP rfl,AO Tryz.func141 A9F rfl (by simp[AA,AH,AN,AG])]
 have w1:IntKind.i64.wrap (b.rows-1)=b.rows-1:=AW (by omega) (by omega)
 have w2:IntKind.i64.wrap (b.places-1)=b.places-1:=AW (by omega) (by omega)
 have q1:=fun n=>KD n s.1 0 (b.rows-1)
 have q2:=fun n=>KD n s.2 0 (b.places-1)
 unfold FC
 generalize FB s.1 0 (b.rows-1)=z at q1 ⊢
 cases z <;> simp[AXX,AF,AA,AG,q1,q2,w1,w2]
theorem A5A(n:Nat)(b:AJ)(x:Int×Int):AY Tryz.prog kn (AE Tryz.prog ann kn (n+200)) 142 [.agg (AA b),.agg (AG x)]=some (.bool (JC b x)):=by
 rw[AP rfl,AO Tryz.func142 A9G rfl (by simp[AA,AH,AN,AG])]
 have q1:=fun n=>A48 n b x.1
 have q2:=fun n=>QQ n x.2
 unfold JC
 generalize FB x.1 0 b.last=z at q1 ⊢
 simp only[AA]at q1 ⊢
 cases z <;> simp[AXY,AF,AH,AN,AG,q1,q2]
end Go.Proofs.Tryz.Op
open Go Go.Pg Go.Proofs Go.Wind
namespace Go.Proofs.Tryz.Op
set_option maxRecDepth 100000
set_option linter.unusedSimpArgs false
set_option maxHeartbeats 2000000 in
theorem ZW(n:Nat)(b:AJ)(h40:∀l∈b.winds,l.length≤40):AY Tryz.prog kn (AE Tryz.prog ann kn (n+1500)) 110 [.agg (AA b)]=some (i (CD b)):=by
 rw[AP rfl,AO Tryz.func110 A9J rfl (by simp[AA,AH,AN,AG])]
 unfold CD
 by_cases g1:(decide (4<b.last)||decide (3<b.rows)||decide (5<b.places)||decide (4<b.breaks.length)||decide (5<b.notes.length))=true
 ·rw[if_pos g1]
  have e4:decide ((4:Int)<(b.breaks.length:Int))=decide (4<b.breaks.length):=by congr 1; exact propext (by omega)
  have e5:decide ((5:Int)<(b.notes.length:Int))=decide (5<b.notes.length):=by congr 1; exact propext (by omega)
  generalize h1:decide (4<b.last)=z1 at g1
  generalize h2:decide (3<b.rows)=z2 at g1
  generalize h3:decide (5<b.places)=z3 at g1
  generalize h4:decide (4<b.breaks.length)=z4 at g1 e4
  generalize h5:decide (5<b.notes.length)=z5 at g1 e5
  cases z1
  ·cases z2
   ·cases z3
    ·cases z4
     ·cases z5
      ·cases g1
      ·simp[MU,AF,AA,AH,AN,AG,h1,h2,h3,e4,e5]
     ·simp[MU,AF,AA,AH,AN,AG,h1,h2,h3,e4]
    ·simp[MU,AF,AA,AH,AN,AG,h1,h2,h3]
   ·simp[MU,AF,AA,AH,AN,AG,h1,h2]
  ·simp[MU,AF,AA,AH,AN,AG,h1]
 ·rw[if_neg g1]
  simp only[Bool.or_eq_true,decide_eq_true_eq,not_or]at g1
  obtain⟨⟨⟨⟨g1,g2⟩,g3⟩,g4⟩,g5⟩:=g1
  have e4:¬((4:Int)<(b.breaks.length:Int)):=by omega
  have e5:¬((5:Int)<(b.notes.length:Int)):=by omega
  by_cases a1:b.last<0
  ·simp[MU,AF,AA,AH,AN,AG,g1,g2,g3,e4,e5,a1]
  by_cases a2:b.rows<1
  ·simp[MU,AF,AA,AH,AN,AG,g1,g2,g3,e4,e5,a1,a2]
  by_cases a3:b.places<1
  ·simp[MU,AF,AA,AH,AN,AG,g1,g2,g3,e4,e5,a1,a2,a3]
  have qr:=fun n=>KD n b.reach 0 4
  have hwl:IntKind.i64.wrap (b.last+1)=b.last+1:=AW (by omega) (by omega)
  cases a4:FB b.reach 0 4 with
  | false =>
   rw[a4]at qr
   simp[MU,AF,AA,AH,AN,AG,g1,g2,g3,e4,e5,a1,a2,a3,qr]
  | true =>
  rw[a4]at qr
  by_cases a5:(b.face.length:Int)=b.rows
  ·by_cases a6:(b.sun.length:Int)=b.last+1
   ·by_cases a7:(b.winds.length:Int)=b.last+1
    ·have qf:=fun n=>ADE n 100 145 (fun x=>FB x 0 3) b.face (by omega) (fun n x _=>QQ n x)
     have qs:=fun n=>ADE n 100 146 (fun x=>FB x (-1) 3) b.sun (by omega) (fun n x _=>BDV n x)
     have qw:=fun n=>A44 n 600 148 FL b.winds (by omega) (fun n x hx=>ARH n x (h40 x hx))
     have qb:=fun n=>A45 n 100 b 141 (FC b) b.breaks (by omega) (fun n x _=>A49 n b x (by omega) (by omega))
     have qn:=fun n=>A47 n 200 b 142 (JC b) b.notes (by omega) (fun n x _=>A5A n b x)
     change ∀n,_=some (V.bool (D2 b.face 0))at qf
     change ∀n,_=some (V.bool (D2 b.sun (-1)))at qs
     simp only[Nat.add_assoc,Nat.reduceAdd,AA]at qf qs qw qb qn ⊢
     generalize D2 b.face 0=z1 at qf ⊢
     generalize D2 b.sun (-1)=z2 at qs ⊢
     generalize b.winds.all FL=z3 at qw ⊢
     generalize b.breaks.all (FC b)=z4 at qb ⊢
     generalize b.notes.all (JC b)=z5 at qn ⊢
     have a5':=a5
     cases z1 with
     | false=>simp[MU,AF,AH,AN,AG,g1,g2,g3,e4,e5,a1,a2,a3,qr,a5,a6,a7,hwl,qf]
     | true =>
     cases z2 with
     | false=>simp[MU,AF,AH,AN,AG,g1,g2,g3,e4,e5,a1,a2,a3,qr,a5,a6,a7,hwl,qf,qs]
     | true =>
     cases z3 with
     | false=>simp[MU,AF,AH,AN,AG,g1,g2,g3,e4,e5,a1,a2,a3,qr,a5,a6,a7,hwl,qf,qs,qw]
     | true =>
     cases z4 with
     | false=>simp[MU,AF,AH,AN,AG,g1,g2,g3,e4,e5,a1,a2,a3,qr,a5,a6,a7,hwl,qf,qs,qw,qb]
     | true =>
     cases z5 <;> simp[MU,AF,AH,AN,AG,g1,g2,g3,e4,e5,a1,a2,a3,qr,a5,a6,a7,hwl,qf,qs,qw,qb,qn]
    ·simp[MU,AF,AA,AH,AN,AG,g1,g2,g3,e4,e5,a1,a2,a3,qr,a5,a6,a7,hwl]
   ·simp[MU,AF,AA,AH,AN,AG,g1,g2,g3,e4,e5,a1,a2,a3,qr,a5,a6,hwl]
  ·simp[MU,AF,AA,AH,AN,AG,g1,g2,g3,e4,e5,a1,a2,a3,qr,a5]
end Go.Proofs.Tryz.Op
open Go Go.Pg Go.Proofs Go.Wind
namespace Go.Proofs.Tryz.Op
set_option maxRecDepth 100000
set_option linter.unusedSimpArgs false
theorem sV(n:Nat)(b:AJ)(hb:Valid b)(plan:List (List Int)):AY Tryz.prog kn (AE Tryz.prog ann kn (n+1000)) 111 [.agg (AA b),HB plan]=some (.bool (CV b plan)):=by
 rw[AP rfl,AO Tryz.func111 A9K rfl (by simp[AA,AH,AN,AG])]
 have hla:=hb.la
 have hro:=hb.ro
 have hwl:IntKind.i64.wrap (b.last+1)=b.last+1:=AW (by omega) (by omega)
 unfold CV
 by_cases hlen:(plan.length:Int)=b.last+1
 ·obtain⟨c',h1,q⟩:=ARG (n+197) 500 0 (fun _=>[]) (fun _=>[(2,0,.box (AA b))]) (by simp) (fun _=>True) 151 [.ptr 0 2 0 0] (by simp) (by simp) (fun (_:Unit) l=>decide ((l.length:Int)=b.rows)&&D2 l 0) (fun _ _=>()) plan (by omega) (by simp[AA,AH,AN,AG]) (by
    intro t γ ht
    obtain⟨up,loc⟩:=t
    have h0:¬0=up.length:=by simp at ht; omega
    simp[h0]) 1 (by
    intro n c1 fr s l hc hs hx
    refine⟨fun h=>trivial,c1,Nat.le_refl _,?_⟩
    simp only[List.nil_append,List.cons_append]
    rw[BK Tryz.func151 b151 rfl (by simp)]
    by_cases hl:(l.length:Int)=b.rows
    ·have q:=fun n=>ADE n 100 145 (fun x=>FB x 0 3) l (by omega) (fun n x _=>QQ n x)
     change ∀n,_=some (V.bool (D2 l 0))at q
     simp only[Nat.add_assoc,Nat.reduceAdd]at q
     simp[AMK,AF,AA,AH,AN,AG,hl,q]
    ·simp[AMK,AF,AA,AH,AN,AG,hl]) 14 [(13,true,.fn 151 [] [.ptr 0 2 0 0]),(12,true,HB plan),(11,true,.bool true),(10,true,.bool true),(9,true,i (b.last+1)),(8,true,i b.last),(7,true,.ptr 0 2 0 0),(6,true,i (b.last+1)),(5,true,HB plan),(1,true,HB plan),(2,true,.ptr 0 2 0 0)] () trivial
  rw[ET]at q
  have hn:=I1 (fun l:List Int=>decide ((l.length:Int)=b.rows)&&D2 l 0) plan
  have e:n+197+500+300=n+997:=by omega
  rw[e]at q
  simp only[hn]at q
  generalize plan.all (fun l=>decide ((l.length:Int)=b.rows)&&D2 l 0)=z at q ⊢
  simp only[AA]at q ⊢
  simp[AMJ,AF,hwl,hlen,q]
 ·simp[AMJ,AF,AA,hwl,hlen]
theorem wH(n:Nat)(w:Int)(h0:0≤w)(h1:w≤100):AY Tryz.prog kn (AE Tryz.prog ann kn (n+100)) 194 [i w]=some (i ((w+2) % 4)):=by
 rw[AP rfl,AO Tryz.func194 A9L rfl rfl]
 have hw:IntKind.i64.wrap (w+2)=w+2:=AW (by omega) (by omega)
 have hm:(w+2).tmod 4=(w+2) % 4:=Int.tmod_eq_emod_of_nonneg (by omega)
 simp[AX5,AF,hw,hm]
set_option maxHeartbeats 1000000 in
theorem AIC(n:Nat)(b:AJ)(hb:∀k∈b.breaks,0≤k.1∧k.1≤100∧0≤k.2∧k.2≤100)(hl:b.breaks.length≤40)(s:Int×Int)(hs:0≤s.1∧s.1≤100∧0≤s.2∧s.2≤100)(w:Int)(hw:0≤w∧w≤3) :
  AY Tryz.prog kn (AE Tryz.prog ann kn (n+600)) 195 [.agg (AA b),.agg (AG s),i w]=some (.bool (R7 b s w)):=by
 rw[AP rfl,AO Tryz.func195 A9M rfl (by simp[AA,AH,AN,AG])]
 obtain⟨c',h1,q⟩:=ALR (n+197) 200 (fun _=>[]) (fun _=>[(3,0,.box (AA b)),(4,1,.box (AG s)),(5,2,.box [i w])]) (fun _=>True) 199 [.ptr 0 5 2 0,.ptr 0 4 1 0,.ptr 0 3 0 0] (by simp) (by simp) (fun (_:Unit) k=>FB (dL s k w) 1 b.reach) (fun _ _=>()) b.breaks 0 (by
   intro n c1 fr u k hc _ hk
   obtain⟨hk1,hk2,hk3,hk4⟩:=hb k hk
   obtain⟨hs1,hs2,hs3,hs4⟩:=hs
   refine⟨fun _=>trivial,c1+1,by omega,?_⟩
   have q:=fun n x=>KD n x 1 b.reach
   have w1:IntKind.i64.wrap (s.1-k.1)=s.1-k.1:=AW (by omega) (by omega)
   have w2:IntKind.i64.wrap (k.1-s.1)=k.1-s.1:=AW (by omega) (by omega)
   have w3:IntKind.i64.wrap (s.2-k.2)=s.2-k.2:=AW (by omega) (by omega)
   have w4:IntKind.i64.wrap (k.2-s.2)=k.2-s.2:=AW (by omega) (by omega)
   simp only[List.nil_append,List.cons_append]
   rw[BK Tryz.func199 b199 rfl (by simp)]
   unfold dL
   have hw4:w=0∨w=1∨w=2∨w=3:=by omega
   rcases hw4 with rfl | rfl | rfl | rfl
   ·by_cases h:k.2=s.2 <;> simp[xT,AF,AA,AH,AN,AG,h,q,w1,w2,w3,w4]
   ·by_cases h:k.1=s.1 <;> simp[xT,AF,AA,AH,AN,AG,h,q,w1,w2,w3,w4]
   ·by_cases h:k.2=s.2 <;> simp[xT,AF,AA,AH,AN,AG,h,q,w1,w2,w3,w4]
   ·by_cases h:k.1=s.1 <;> simp[xT,AF,AA,AH,AN,AG,h,q,w1,w2,w3,w4]) hl (by simp[AA,AH,AN,AG]) 3 10 [(9,true,.fn 199 [] [.ptr 0 5 2 0,.ptr 0 4 1 0,.ptr 0 3 0 0]),(8,true,.list false (b.breaks.map AG)),(7,true,.ptr 0 3 0 7),(3,true,.ptr 0 3 0 0),(4,true,.ptr 0 4 1 0),(5,true,.ptr 0 5 2 0)] () (Nat.zero_le _) trivial
 rw[ET]at q
 have e:n+197+200+200=n+597:=by omega
 rw[e]at q
 unfold R7
 generalize b.breaks.any (fun k=>FB (dL s k w) 1 b.reach)=z at q ⊢
 simp only[AA,AG]at q ⊢
 simp[AX6,AF,q]
theorem Valid.br'{b:AJ}(hb:Valid b):∀k∈b.breaks,0≤k.1∧k.1≤100∧0≤k.2∧k.2≤100:=fun k hk=>by
 have:=List.all_eq_true.1 hb.bo k hk
 simp only[FC,Bool.and_eq_true,DM]at this
 have:=hb.ro
 have:=hb.pl
 omega
theorem A5B(n:Nat)(b:AJ)(hb:Valid b)(s:Int×Int)(hs:0≤s.1∧s.1≤100∧0≤s.2∧s.2≤100)(f w:Int)(hw:0≤w∧w≤3) :
  AY Tryz.prog kn (AE Tryz.prog ann kn (n+800)) 184 [.agg (AA b),.agg (AG s),i f,i w]=some (.bool (NH b s f w)):=by
 rw[AP rfl,AO Tryz.func184 A9N rfl (by simp[AA,AH,AN,AG])]
 have q1:=fun n=>wH n w hw.1 (by omega)
 have q2:=fun n=>AIC n b (Valid.br' hb) (by have:=hb.br; omega) s hs w hw
 unfold NH
 simp only[AA,AG]at q2 ⊢
 by_cases h:f=(w+2) % 4 <;> simp[AX7,AF,AH,AN,AG,q1,q2,h]
def B7(h:GD):List V:=[i h.sun,i h.calm,i h.good]
def Z5(b:AJ)(s:Int×Int)(h:Nat)(f w:Int):GD :=
 let lit:=decide (b.sun.getD h 0=f)
 let calm:=NH b s f w
 ⟨if lit=true then 1 else 0,if calm=true then 1 else 0,if (lit&&calm)=true then 1 else 0⟩
theorem kOf(n:Nat)(b:AJ)(hb:Valid b)(s:Int×Int)(hs:0≤s.1∧s.1≤100∧0≤s.2∧s.2≤100)(h:Nat)(hh:h<b.sun.length)(f w:Int)(hw:0≤w∧w≤3) :
  AY Tryz.prog kn (AE Tryz.prog ann kn (n+1000)) 153 [.agg (AA b),.agg (AG s),i h,i f,i w]=some (.agg (B7 (Z5 b s h f w))):=by
 rw[AP rfl,AO Tryz.func153 A9O rfl (by simp[AA,AH,AN,AG])]
 have q2:=fun n=>A5B n b hb s hs f w hw
 unfold Z5
 have hx:b.sun.getD h 0=b.sun[h]:=by
  rw[List.getD_eq_getElem?_getD,List.getElem?_eq_getElem hh]; rfl
 rw[hx]
 simp only[AA,AG]at q2 ⊢
 generalize NH b s f w=z at q2 ⊢
 generalize e1:decide (b.sun[h]=f)=z1
 have w0:IntKind.i64.wrap 0=0:=by decide
 have w1:IntKind.i64.wrap 1=1:=by decide
 cases z1 <;> cases z <;> simp[AX8,AF,AH,AN,AG,B7,q2,hh,e1,w0,w1]
end Go.Proofs.Tryz.Op
open Go Go.Pg Go.Proofs Go.Wind
namespace Go.Proofs.Tryz.Op
set_option maxRecDepth 100000
set_option linter.unusedSimpArgs false
def MY(n:Int):Prop:=-9223372036854775808≤n∧n<9223372036854775808
theorem wfI{n:Int}(h:MY n):(Lit.int .i64 n).wf=true:=by
 obtain⟨h1,h2⟩:=h
 simp only[Lit.wf,Bool.and_eq_true,decide_eq_true_eq]
 exact⟨h1,by have:IntKind.i64.max=9223372036854775807:=rfl; omega⟩
theorem k3I{n:Int}(h:(Lit.int .i64 n).wf=true):Program.keyLits Tryz.prog 15 3 [.int .i64 n]=some [.int .i64 n]:=by
 unfold Program.keyLits
 simp[Tryz.underlying3,h]
structure okB(b:AJ):Prop where
 la:MY b.last
 ro:MY b.rows
 pl:MY b.places
 re:MY b.reach
 fa:∀n∈b.face,MY n
 su:∀n∈b.sun,MY n
 wi:∀l∈b.winds,∀n∈l,MY n
 br:∀p∈b.breaks,MY p.1∧MY p.2
 no:∀p∈b.notes,MY p.1∧MY p.2
end Go.Proofs.Tryz.Op
open Go Go.Pg Go.Proofs Go.Wind
namespace Go.Wind
def G9(t out:List Int):List (Int×Int)→Nat→Bool
 | [],_=>true
 | x :: r,k=>(decide ((k:Int)∈out)||LH t x)&&G9 t out r (k+1)
theorem VN(t:List Int):∀(l:List (Int×Int)) (k:Nat),G9 t [] l k=l.all (LH t)
 | [],_=>rfl
 | x :: r,k=>by simp[G9,VN t r]
end Go.Wind
namespace Go.Proofs.Tryz.Op
set_option maxRecDepth 100000
set_option linter.unusedSimpArgs false
theorem ADH(l:List Int)(x:Int)(hl:l.length≤1000):∀(d k:Nat),k+d=l.length→∃(j:Int) (fr:Fr),0≤j∧∀n m,d<m→A9 (AE Tryz.prog ann kn (n+100) 19) Q9 (ann 19 (BN Q9)) m ⟨0,[(0,true,li l),(1,true,i x),(7,true,i l.length),(8,true,i k)],⟨[],[]⟩⟩ =
  if x∈l.drop k then some (.ret,⟨0,[(4,true,i j),(17,true,i j),(5,true,i j)],⟨[],[]⟩⟩) else some (.exit 0,⟨0,fr,⟨[],[]⟩⟩)
 | 0,k,hk=>by
  have:k=l.length:=by omega
  subst this
  refine⟨0,?fr,by omega,fun n m hm=>?_⟩
  rotate_left
  ·obtain⟨m,rfl⟩:∃m',m=m'+1:=⟨m-1,by omega⟩
   rw[List.drop_length,if_neg (by simp),AC]
   simp
   rfl
 | d+1,k,hk=>by
  have hk':k<l.length:=by omega
  have hw:=BH (k:=k) (by omega)
  obtain⟨j,fr,hj,ih⟩:=ADH l x hl d (k+1) (by omega)
  rw[List.drop_eq_getElem_cons hk']
  by_cases h:x=l[k]
  ·refine⟨k,[],by omega,fun n m hm=>?_⟩
   obtain⟨m,rfl⟩:∃m',m=m'+1:=⟨m-1,by omega⟩
   rw[if_pos (List.mem_cons.2 (.inl h)),AC]
   simp[hk',hw,AH,h]
  ·refine⟨j,fr,hj,fun n m hm=>?_⟩
   obtain⟨m,rfl⟩:∃m',m=m'+1:=⟨m-1,by omega⟩
   have ih:=ih n m (by omega)
   have e:(x∈l[k] :: l.drop (k+1))=(x∈l.drop (k+1)):=propext ⟨fun hh=>(List.mem_cons.1 hh).resolve_left h,fun hh=>List.mem_cons.2 (.inr hh)⟩
   rw[AC]
   simp only[e]
   simp at ih
   simp[hk',hw,AH,h,ih]
theorem O6(n:Nat)(l:List Int)(x:Int)(hl:l.length≤1000):AY Tryz.prog kn (AE Tryz.prog ann kn (n+1300)) 132 [li l,i x]=some (.bool (decide (x∈l))):=by
 have q:∃j:Int,(0≤j↔x∈l)∧∀n,AY Tryz.prog kn (AE Tryz.prog ann kn (n+1200)) 170 [li l,i x]=some (i j):=by
  obtain⟨j,fr,hj,q⟩:=ADH l x hl l.length 0 (by omega)
  have q:=fun n m=>q n (m+1100) (by omega)
  rw[List.drop_zero]at q
  by_cases h:x∈l
  ·refine⟨j,by simp[h,hj],fun n=>?_⟩
   rw[AP rfl,AO Tryz.func170 AYA rfl (by simp[AH])]
   rw[if_pos h]at q
   simp at q
   simp[AML,AF,q,h]
  ·refine⟨-1,by simp[h],fun n=>?_⟩
   rw[AP rfl,AO Tryz.func170 AYA rfl (by simp[AH])]
   rw[if_neg h]at q
   simp at q
   simp[AML,AF,q,h]
 obtain⟨j,hj,q⟩:=q
 rw[AP rfl,AO Tryz.func132 A9Q rfl (by simp[AH])]
 simp[AYB,AF,AH,q,hj]
theorem sW(b:AJ)(t:List Int)(hl:t.length=b.winds.length)(h100:t.length≤100)(h4:∀l∈b.winds,l.length≤100):∀(d k:Nat),k+d=t.length→∃fr,∀n m,d<m→A9 (AE Tryz.prog ann kn (n+1400) 29) RA (ann 29 (BN RA)) m ⟨1,[(2,true,.ptr 0 2 0 0),(13,true,li t),(14,true,i t.length),(15,true,i k)],⟨[],[(2,0,.box (AA b))]⟩⟩ =
  if AV (t.drop k) (b.winds.drop k)=true then some (.exit 0,⟨1,fr,⟨[],[(2,0,.box (AA b))]⟩⟩) else some (.ret,⟨1,[(4,true,.bool false)],⟨[],[]⟩⟩)
 | 0,k,hk=>by
  have:k=t.length:=by omega
  subst this
  refine⟨?fr,fun n m hm=>?_⟩
  rotate_left
  ·obtain⟨m,rfl⟩:∃m',m=m'+1:=⟨m-1,by omega⟩
   have:b.winds.drop t.length=[]:=by rw[hl]; exact List.drop_length
   rw[List.drop_length,this,AC]
   simp[AV,AA]
   rfl
 | d+1,k,hk=>by
  have hk':k<t.length:=by omega
  have hk2:k<b.winds.length:=by omega
  have hw:=BH (k:=k) (by omega)
  obtain⟨fr,ih⟩:=sW b t hl h100 h4 d (k+1) (by omega)
  have q:=fun n=>O6 n b.winds[k] t[k] (by have:=h4 _ (List.getElem_mem hk2); omega)
  rw[List.drop_eq_getElem_cons hk',List.drop_eq_getElem_cons hk2]
  simp only[AV]
  by_cases h:t[k]∈b.winds[k]
  ·simp only[h,decide_true,Bool.true_and]at q ⊢
   refine⟨fr,fun n m hm=>?_⟩
   obtain⟨m,rfl⟩:∃m',m=m'+1:=⟨m-1,by omega⟩
   have ih:=ih n m (by omega)
   rw[AC]
   simp only[AA]at ih ⊢
   simp at ih
   simp[hk',hk2,hw,AH,AN,q,ih]
  ·simp only[h,decide_false,Bool.false_and]at q ⊢
   refine⟨[],fun n m hm=>?_⟩
   obtain⟨m,rfl⟩:∃m',m=m'+1:=⟨m-1,by omega⟩
   rw[AC]
   simp[AA,hk',hk2,hw,AH,AN,q]
theorem cY{t:List Int}{ws:List (List Int)}(h:¬t.length=ws.length):AV t ws=false:=by
 cases e:AV t ws with
 | false=>rfl
 | true=>exact absurd (CE e) h
theorem wI(n:Nat)(b:AJ)(hb:Valid b)(t:List Int):AY Tryz.prog kn (AE Tryz.prog ann kn (n+1600)) 112 [.agg (AA b),li t]=some (.bool (AV t b.winds)):=by
 rw[AP rfl,AO Tryz.func112 A9R rfl (by simp[AA,AH,AN,AG])]
 have hla:=hb.la
 have hwi:=hb.wi
 have hwl:IntKind.i64.wrap (b.last+1)=b.last+1:=AW (by omega) (by omega)
 by_cases h:(t.length:Int)=b.last+1
 ·obtain⟨fr,q⟩:=sW b t (by omega) (by omega) (fun l hl=>by have:=hb.wl l hl; omega) t.length 0 (by omega)
  have q:=fun n m=>q n (m+200) (by omega)
  rw[List.drop_zero,List.drop_zero]at q
  generalize AV t b.winds=z at q ⊢
  simp only[AA]at q ⊢
  cases z <;> (simp at q; simp[AMM,AF,hwl,h] ; simp[← h,q])
 ·rw[cY (by omega)]
  simp[AMM,AF,AA,hwl,h]
theorem ADI(b:AJ)(t out:List Int)(hn:∀x∈b.notes,0≤x.1∧x.1<t.length)(hl:b.notes.length≤100)(ho:out.length≤100):∀(d k:Nat) (c:Nat),k+d=b.notes.length→∃(fr:Fr) (c':Nat),∀n m,d<m→A9 (AE Tryz.prog ann kn (n+1400) 32) RB (ann 32 (BN RB)) m ⟨c,[(1,true,li t),(2,true,li out),(10,true,.list false (b.notes.map AG)),(11,true,i b.notes.length),(12,true,i k)],⟨[],[(3,0,.box (AA b))]⟩⟩ =
  if G9 t out (b.notes.drop k) k=true then some (.exit 0,⟨c',fr,⟨[],[(3,0,.box (AA b))]⟩⟩) else some (.ret,⟨c',[(6,true,.bool false)],⟨[],[]⟩⟩)
 | 0,k,c,hk=>by
  have:k=b.notes.length:=by omega
  subst this
  refine⟨?fr,c,fun n m hm=>?_⟩
  rotate_left
  ·obtain⟨m,rfl⟩:∃m',m=m'+1:=⟨m-1,by omega⟩
   rw[List.drop_length,AC]
   simp[G9,AA]
   rfl
 | d+1,k,c,hk=>by
  have hk':k<b.notes.length:=by omega
  have hw:=BH (k:=k) (by omega)
  obtain⟨fr,c',ih⟩:=ADI b t out hn hl ho d (k+1) (c+1) (by omega)
  have q:=fun n=>O6 n out k (by omega)
  obtain⟨h0,h1⟩:=hn _ (List.getElem_mem hk')
  rw[List.drop_eq_getElem_cons hk']
  have ha:atI t b.notes[k].1=t[b.notes[k].1.toNat]:=by
   unfold atI
   rw[List.getD_eq_getElem?_getD,List.getElem?_eq_getElem (by omega)]; rfl
  have hr:LH t b.notes[k]=decide (t[b.notes[k].1.toNat]=b.notes[k].2):=by unfold LH; rw[ha]
  simp only[G9,hr]
  have h1':b.notes[k].1.toNat<t.length:=by omega
  by_cases h:(k:Int)∈out
  ·simp only[h,decide_true,Bool.true_or,Bool.true_and]at q ⊢
   refine⟨fr,c',fun n m hm=>?_⟩
   obtain⟨m,rfl⟩:∃m',m=m'+1:=⟨m-1,by omega⟩
   have ih:=ih n m (by omega)
   rw[AC]
   simp only[AA]at ih ⊢
   simp at ih
   simp[hk',hw,AH,AN,AG,EZ,q,ih]
  ·by_cases h2:t[b.notes[k].1.toNat]=b.notes[k].2
   ·simp only[h,h2,decide_true,decide_false,Bool.false_or,Bool.true_and]at q ⊢
    refine⟨fr,c',fun n m hm=>?_⟩
    obtain⟨m,rfl⟩:∃m',m=m'+1:=⟨m-1,by omega⟩
    have ih:=ih n m (by omega)
    rw[AC]
    simp only[AA]at ih ⊢
    simp at ih
    simp[hk',hw,AH,AN,AG,EZ,q,h0,h1,h1',h2,ih]
   ·simp only[h,h2,decide_false,Bool.false_or,Bool.false_and]at q ⊢
    refine⟨[],c+1,fun n m hm=>?_⟩
    obtain⟨m,rfl⟩:∃m',m=m'+1:=⟨m-1,by omega⟩
    rw[AC]
    simp[AA,hk',hw,AH,AN,AG,EZ,q,h0,h1,h1',h2]
theorem ARI(n:Nat)(b:AJ)(t out:List Int)(hn:∀x∈b.notes,0≤x.1∧x.1<t.length)(hl:b.notes.length≤100)(ho:out.length≤100):AY Tryz.prog kn (AE Tryz.prog ann kn (n+1600)) 164 [.agg (AA b),li t,li out]=some (.bool (G9 t out b.notes 0)):=by
 rw[AP rfl,AO Tryz.func164 A9S rfl (by simp[AA,AH,AN,AG])]
 obtain⟨fr,c',q⟩:=ADI b t out hn hl ho b.notes.length 0 1 (by omega)
 have q:=fun n m=>q n (m+200) (by omega)
 rw[List.drop_zero]at q
 generalize G9 t out b.notes 0=z at q ⊢
 simp only[AA]at q ⊢
 cases z <;> (simp at q; simp[AYC,AF,q])
theorem Valid.notes'{b:AJ}(hb:Valid b){t:List Int}(ht:t.length=b.winds.length):∀x∈b.notes,0≤x.1∧x.1<t.length:=fun x hx=>by
 have:=List.all_eq_true.1 hb.nok x hx
 simp only[JC,Bool.and_eq_true,DM]at this
 have:=hb.wi
 omega
end Go.Proofs.Tryz.Op
