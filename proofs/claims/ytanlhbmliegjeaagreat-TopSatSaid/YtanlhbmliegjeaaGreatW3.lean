/- Contracts: within, direction, sun, winds, hour, spot, note. No condition. -/
import Derived.Test.YtanlhbmliegjeaaGreatW2
open Go.Proofs.Tryz renaming prog->bm
open List renaming drop_eq_getElem_cons->bj,drop_length->bq,getD_eq_getElem?_getD->bw,all_cons->bx,getElem?_eq_getElem->bz,drop_zero->bb,cons_append->bc,nil_append->bf,mem_cons->bg
open Bool renaming and_eq_true->bk,true_and->bh
set_option maxRecDepth 100000
set_option linter.unusedSimpArgs false
open Go Go.Pg Go.Proofs Go.Wind
namespace Go.Wind
theorem eX{σ α:Type}(p:σ->α->Bool)(nx:σ->α->σ):∀(l:List α) (s:σ) (h:List σ),(BI (fun (s:σ×List σ) x=>p s.1 x) (fun s x=>(nx s.1 x,s.1::s.2)) (s,h) l).1=(BI p nx s l).1
 |[],_,_=>rfl
 |x::l,s,h=>by
  simp only[BI];cases p s x with
  |true=>rfl
  |false=>exact eX p nx l (nx s x) (s::h)
theorem wP:∀(l:List Int) (s:Int),(BI (fun s x=>!HB x (s+1) 3) (fun _ x=>x) s l).1=!((match l with|[]=>true|x::_=>decide (s<x))&&(l.all (fun n=>decide (n<=3))&&J1 l))
 |[],s=>rfl
 |[x],s=>by
  simp only[BI,HB,J1,bx,List.all_nil];have e:decide (s+1<=x)=decide (s<x):=by congr 1
  rw[e];cases decide (s<x)<;>cases decide (x<=3)<;>rfl
 |x::y::l,s=>by
  have ih:=wP (y::l) x;have e:decide (s+1<=x)=decide (s<x):=by congr 1
  rw[BI];cases h:HB x (s+1) 3 with
  |false=>
   unfold HB at h
   rw[e]at h
   simp only[Bool.not_false,cond_true,J1,bx]
   revert h
   generalize List.all l (fun n=>decide (n<=3))=a
   generalize J1 (y::l)=b
   cases decide (s<x)<;>cases decide (x<=3)<;>cases decide (x<y)<;>cases decide (y<=3)<;>cases a<;>cases b<;>simp
  |true=>
  unfold HB at h;rw[e]at h;simp only[Bool.not_true,cond_false,ih,J1,bx];revert h;generalize List.all l (fun n=>decide (n<=3))=a;generalize J1 (y::l)=b;cases decide (s<x)<;>cases decide (x<=3)<;>cases decide (x<y)<;>cases decide (y<=3)<;>cases a<;>cases b<;>simp
theorem wQ:∀(l:List Int) (s:Int),(match l with|[]=>true|x::_=>decide (s<x))=true->J1 l=true->l.all (fun n=>decide (s<n))=true
 |[],_,_,_=>rfl
 |[x],s,h,_=>by simpa using h
 |x::y::l,s,h,h2=>by simp only[J1,bk,decide_eq_true_eq]at h h2;have:=wQ (y::l) s (by simp;omega) h2.2;rw[bx,this];simp[h]
theorem AAO(l:List Int):(!(BI (fun s x=>!HB x (s+1) 3) (fun _ x=>x) (-1) l).1)=(EH l 0&&J1 l):=by
 rw[wP,Bool.not_not];have hd:EH l 0=(l.all (fun n=>decide (-1<n))&&l.all (fun n=>decide (n<=3))):=by
  unfold EH HB;induction l with
  |nil=>rfl
  |cons x l ih=>
   simp only[bx,ih]
   have e:decide ((0:Int)<=x)=decide (-1<x):=by congr 1
   rw[e]
   cases decide (-1<x)<;>cases decide (x<=3)<;>simp
 rw[hd];cases h:J1 l with
 |false=>simp
 |true=>
  cases h2:(match l with|[]=>true|x::_=>decide (-1<x))with
  |true=>rw[wQ l (-1) h2 h];simp
  |false=>
   cases l with
   |nil=>cases h2
   |cons x l=>simp only at h2;simp[h2]
end Go.Wind
namespace Go.Proofs.Tryz.Op
theorem K2(n:Nat)(x lo hi:Int):AZ bm kn (AE bm ann kn (n+50)) 60 [i x,i lo,i hi]=some (.bool (HB x lo hi)):=by rw[AP rfl,AQ Tryz.func60 b60 rfl rfl];unfold HB;generalize e1:decide (lo<=x)=b1;simp[e1,c60,AD];cases b1<;>simp
theorem Q4(n:Nat)(x:Int):AZ bm kn (AE bm ann kn (n+100)) 54 [i x]=some (.bool (HB x 0 3)):=by rw[AP rfl,AQ Tryz.func54 b54 rfl rfl];have q:=fun n=>K2 n x 0 3;simp[c54,AD,q]
theorem BET(n:Nat)(x:Int):AZ bm kn (AE bm ann kn (n+100)) 61 [i x]=some (.bool (HB x (-1) 3)):=by rw[AP rfl,AQ Tryz.func61 b61 rfl rfl];have q:=fun n=>K2 n x (-1) 3;simp[c61,AD,q]
def oF(s:Int×List Int):AA:=(3,0,.box [i s.1])::s.2.map fun x=>(3,0,.box [i x])
theorem eY(t:St)(s:Int×List Int):AJ t (oF s)=oF s:=by
 unfold oF;rw[A6];have:∀h:List Int,AJ t (h.map fun x=>(3,0,AX.box [i x]))=h.map fun x=>(3,0,AX.box [i x]):=by
  intro h;induction h with
  |nil=>rfl
  |cons x h ih=>rw[List.map_cons,A6,ih];simp
 rw[this];simp
theorem AF5(s:Int×List Int):AA.get (oF s) 3=some (0,.box [i s.1]):=rfl
theorem AF6(s:Int×List Int)(x:Int):AA.put (oF s) 3 0 (.box [i x])=oF (x,s.1::s.2):=rfl
theorem AUE(n:Nat)(l:List Int)(hl:l.length<=40):AZ bm kn (AE bm ann kn (n+600)) 62 [li l]=some (.bool (F1 l)):=by
 rw[AP rfl,AQ Tryz.func62 b62 rfl (by simp[AH])];obtain⟨c',h1,q⟩:=AUC (n+196) 100 0 (fun _=>[]) oF (by simp) (fun s=>-1<=s.1/\s.1<=3) 96 [.ptr 0 3 0 0] (by simp) (by simp) (fun s x=>HB x (s.1+1) 3) (fun s x=>(x,s.1 :: s.2)) l hl (by simp[eY]) (by
   intro t γ ht;obtain⟨up,loc⟩:=t;have h0:¬0=up.length:=by simp at ht;omega
   simp[h0]) 1 (by
   intro n c1 fr s x hc hs hx;refine⟨fun h=>?_,c1,Nat.le_refl _,?_⟩
   ·have:=DV.1 h;omega
   ·have q:=fun n=>K2 n x (s.1+1) 3;have hw:IntKind.i64.wrap (s.1+1)=s.1+1:=AW (by omega) (by omega);simp only[bf,bc];rw[A3 Tryz.func96 b96 rfl (by simp)];have hc':0<c1:=by omega
    simp[c96,AD,q,hw,hc',AF5,AF6,eY]) 10 [(9,true,.fn 96 [] [.ptr 0 3 0 0]),(8,true,li l),(7,true,.bool (decide (0<(l.length:Int)))),(6,true,.bool (decide (0<(l.length:Int)))),(5,true,i l.length),(4,true,li l),(0,true,li l),(3,true,.ptr 0 3 0 0)] (-1,[]) (by simp)
 rw[eX (fun s x=>!HB x (s+1) 3) (fun _ x=>x),AAO]at q;have e:n+196+100+300=n+596:=by omega
 rw[e]at q;unfold F1;cases l with
 |nil=>simp[c62,AD]
 |cons x l=>
  have hp:(0:Int)<((x::l).length:Int):=by simp
  simp only[hp,decide_true]at q
  generalize BI (fun (s:Int×List Int) x=>!HB x (s.1+1) 3) _ (-1,[]) (x::l)=A at q
  have he:(x::l).isEmpty=false:=rfl
  rw[he]
  have hp2:0<(x::l).length:=by simp
  generalize x::l=L at *
  simp[oF]at q
  simp[c62,AD,hp2,q]
theorem A6S(n:Nat)(b:AL)(x:Int):AZ bm kn (AE bm ann kn (n+100)) 95 [.agg (AB b),i x]=some (.bool (HB x 0 b.last)):=by rw[AP rfl,AQ Tryz.func95 b95 rfl (by simp[AB,AH,AN,AM])];have q:=fun n=>K2 n x 0 b.last;simp[c95,AD,AB,q]
theorem A6T(n:Nat)(b:AL)(s:Int×Int)(h1:0<=b.rows/\b.rows<=1000)(h2:0<=b.places/\b.places<=1000):AZ bm kn (AE bm ann kn (n+100)) 58 [.agg (AB b),.agg (AM s)]=some (.bool (FS b s)):=by rw[AP rfl,AQ Tryz.func58 b58 rfl (by simp[AB,AH,AN,AM])];have w1:IntKind.i64.wrap (b.rows-1)=b.rows-1:=AW (by omega) (by omega);have w2:IntKind.i64.wrap (b.places-1)=b.places-1:=AW (by omega) (by omega);have q1:=fun n=>K2 n s.1 0 (b.rows-1);have q2:=fun n=>K2 n s.2 0 (b.places-1);unfold FS;generalize HB s.1 0 (b.rows-1)=z at q1|-;cases z<;>simp[c58,AD,AB,AM,q1,q2,w1,w2]
theorem A6U(n:Nat)(b:AL)(x:Int×Int):AZ bm kn (AE bm ann kn (n+200)) 59 [.agg (AB b),.agg (AM x)]=some (.bool (JB b x)):=by rw[AP rfl,AQ Tryz.func59 b59 rfl (by simp[AB,AH,AN,AM])];have q1:=fun n=>A6S n b x.1;have q2:=fun n=>Q4 n x.2;unfold JB;generalize HB x.1 0 b.last=z at q1|-;simp only[AB]at q1|-;cases z<;>simp[c59,AD,AH,AN,AM,q1,q2]
set_option maxHeartbeats 2000000 in
theorem bG(n:Nat)(b:AL)(h40:∀l∈b.winds,l.length<=40):AZ bm kn (AE bm ann kn (n+1500)) 34 [.agg (AB b)]=some (i (C6 b)):=by
 rw[AP rfl,AQ Tryz.func34 b34 rfl (by simp[AB,AH,AN,AM])];unfold C6;by_cases g1:(decide (4<b.last)||decide (3<b.rows)||decide (5<b.places)||decide (4<b.breaks.length)||decide (5<b.notes.length))=true
 ·rw[if_pos g1];have e4:decide ((4:Int)<(b.breaks.length:Int))=decide (4<b.breaks.length):=by congr 1;exact propext (by omega)
  have e5:decide ((5:Int)<(b.notes.length:Int))=decide (5<b.notes.length):=by congr 1;exact propext (by omega)
  generalize h1:decide (4<b.last)=z1 at g1;generalize h2:decide (3<b.rows)=z2 at g1;generalize h3:decide (5<b.places)=z3 at g1;generalize h4:decide (4<b.breaks.length)=z4 at g1 e4;generalize h5:decide (5<b.notes.length)=z5 at g1 e5;cases z1
  ·cases z2
   ·cases z3
    ·cases z4
     ·cases z5
      ·cases g1
      ·simp[iV,AD,AB,AH,AN,AM,h1,h2,h3,e4,e5]
     ·simp[iV,AD,AB,AH,AN,AM,h1,h2,h3,e4]
    ·simp[iV,AD,AB,AH,AN,AM,h1,h2,h3]
   ·simp[iV,AD,AB,AH,AN,AM,h1,h2]
  ·simp[iV,AD,AB,AH,AN,AM,h1]
 ·rw[if_neg g1];simp only[Bool.or_eq_true,decide_eq_true_eq,not_or]at g1;obtain⟨⟨⟨⟨g1,g2⟩,g3⟩,g4⟩,g5⟩:=g1;have e4:¬((4:Int)<(b.breaks.length:Int)):=by omega
  have e5:¬((5:Int)<(b.notes.length:Int)):=by omega
  by_cases a1:b.last<0
  ·simp[iV,AD,AB,AH,AN,AM,g1,g2,g3,e4,e5,a1]
  by_cases a2:b.rows<1
  ·simp[iV,AD,AB,AH,AN,AM,g1,g2,g3,e4,e5,a1,a2]
  by_cases a3:b.places<1
  ·simp[iV,AD,AB,AH,AN,AM,g1,g2,g3,e4,e5,a1,a2,a3]
  have qr:=fun n=>K2 n b.reach 0 4;have hwl:IntKind.i64.wrap (b.last+1)=b.last+1:=AW (by omega) (by omega);cases a4:HB b.reach 0 4 with
  |false=>
   rw[a4]at qr
   simp[iV,AD,AB,AH,AN,AM,g1,g2,g3,e4,e5,a1,a2,a3,qr]
  |true=>
  rw[a4]at qr;by_cases a5:(b.face.length:Int)=b.rows
  ·by_cases a6:(b.sun.length:Int)=b.last+1
   ·by_cases a7:(b.winds.length:Int)=b.last+1
    ·have qf:=fun n=>AF4 n 100 54 (fun x=>HB x 0 3) b.face (by omega) (fun n x _=>Q4 n x);have qs:=fun n=>AF4 n 100 61 (fun x=>HB x (-1) 3) b.sun (by omega) (fun n x _=>BET n x);have qw:=fun n=>A6O n 600 62 F1 b.winds (by omega) (fun n x hx=>AUE n x (h40 x hx));have qb:=fun n=>A6P n 100 b 58 (FS b) b.breaks (by omega) (fun n x _=>A6T n b x (by omega) (by omega));have qn:=fun n=>A6R n 200 b 59 (JB b) b.notes (by omega) (fun n x _=>A6U n b x);change ∀n,_=some (V.bool (EH b.face 0))at qf;change ∀n,_=some (V.bool (EH b.sun (-1)))at qs;simp only[Nat.add_assoc,Nat.reduceAdd,AB]at qf qs qw qb qn|-;generalize EH b.face 0=z1 at qf|-;generalize EH b.sun (-1)=z2 at qs|-;generalize b.winds.all F1=z3 at qw|-;generalize b.breaks.all (FS b)=z4 at qb|-;generalize b.notes.all (JB b)=z5 at qn|-;have a5':=a5;cases z1 with
     |false=>simp[iV,AD,AH,AN,AM,g1,g2,g3,e4,e5,a1,a2,a3,qr,a5,a6,a7,hwl,qf]
     |true=>
     cases z2 with
     |false=>simp[iV,AD,AH,AN,AM,g1,g2,g3,e4,e5,a1,a2,a3,qr,a5,a6,a7,hwl,qf,qs]
     |true=>
     cases z3 with
     |false=>simp[iV,AD,AH,AN,AM,g1,g2,g3,e4,e5,a1,a2,a3,qr,a5,a6,a7,hwl,qf,qs,qw]
     |true=>
     cases z4 with
     |false=>simp[iV,AD,AH,AN,AM,g1,g2,g3,e4,e5,a1,a2,a3,qr,a5,a6,a7,hwl,qf,qs,qw,qb]
     |true=>
     cases z5<;>simp[iV,AD,AH,AN,AM,g1,g2,g3,e4,e5,a1,a2,a3,qr,a5,a6,a7,hwl,qf,qs,qw,qb,qn]
    ·simp[iV,AD,AB,AH,AN,AM,g1,g2,g3,e4,e5,a1,a2,a3,qr,a5,a6,a7,hwl]
   ·simp[iV,AD,AB,AH,AN,AM,g1,g2,g3,e4,e5,a1,a2,a3,qr,a5,a6,hwl]
  ·simp[iV,AD,AB,AH,AN,AM,g1,g2,g3,e4,e5,a1,a2,a3,qr,a5]
theorem iM(n:Nat)(b:AL)(hb:Valid b)(plan:List (List Int)):AZ bm kn (AE bm ann kn (n+1000)) 26 [.agg (AB b),H6 plan]=some (.bool (C5 b plan)):=by
 rw[AP rfl,AQ Tryz.func26 b26 rfl (by simp[AB,AH,AN,AM])];have hla:=hb.la;have hro:=hb.ro;have hwl:IntKind.i64.wrap (b.last+1)=b.last+1:=AW (by omega) (by omega);unfold C5;by_cases hlen:(plan.length:Int)=b.last+1
 ·obtain⟨c',h1,q⟩:=AUD (n+197) 500 0 (fun _=>[]) (fun _=>[(2,0,.box (AB b))]) (by simp) (fun _=>True) 52 [.ptr 0 2 0 0] (by simp) (by simp) (fun (_:Unit) l=>decide ((l.length:Int)=b.rows)&&EH l 0) (fun _ _=>()) plan (by omega) (by simp[AB,AH,AN,AM]) (by
    intro t γ ht;obtain⟨up,loc⟩:=t;have h0:¬0=up.length:=by simp at ht;omega
    simp[h0]) 1 (by
    intro n c1 fr s l hc hs hx;refine⟨fun h=>trivial,c1,Nat.le_refl _,?_⟩;simp only[bf,bc];rw[A3 Tryz.func52 b52 rfl (by simp)];by_cases hl:(l.length:Int)=b.rows
    ·have q:=fun n=>AF4 n 100 54 (fun x=>HB x 0 3) l (by omega) (fun n x _=>Q4 n x);change ∀n,_=some (V.bool (EH l 0))at q;simp only[Nat.add_assoc,Nat.reduceAdd]at q;simp[c52,AD,AB,AH,AN,AM,hl,q]
    ·simp[c52,AD,AB,AH,AN,AM,hl]) 14 [(13,true,.fn 52 [] [.ptr 0 2 0 0]),(12,true,H6 plan),(11,true,.bool true),(10,true,.bool true),(9,true,i (b.last+1)),(8,true,i b.last),(7,true,.ptr 0 2 0 0),(6,true,i (b.last+1)),(5,true,H6 plan),(1,true,H6 plan),(2,true,.ptr 0 2 0 0)] () trivial
  rw[E9]at q;have hn:=JS (fun l:List Int=>decide ((l.length:Int)=b.rows)&&EH l 0) plan;have e:n+197+500+300=n+997:=by omega
  rw[e]at q;simp only[hn]at q;generalize plan.all (fun l=>decide ((l.length:Int)=b.rows)&&EH l 0)=z at q|-;simp only[AB]at q|-;simp[c26,AD,hwl,hlen,q]
 ·simp[c26,AD,AB,hwl,hlen]
theorem AAP(n:Nat)(w:Int)(h0:0<=w)(h1:w<=100):AZ bm kn (AE bm ann kn (n+100)) 112 [i w]=some (i ((w+2) % 4)):=by rw[AP rfl,AQ Tryz.func112 BBR rfl rfl];have hw:IntKind.i64.wrap (w+2)=w+2:=AW (by omega) (by omega);have hm:(w+2).tmod 4=(w+2) % 4:=Int.tmod_eq_emod_of_nonneg (by omega);simp[AZ6,AD,hw,hm]
set_option maxHeartbeats 1000000 in
theorem AKE(n:Nat)(b:AL)(hb:∀k∈b.breaks,0<=k.1/\k.1<=100/\0<=k.2/\k.2<=100)(hl:b.breaks.length<=40)(s:Int×Int)(hs:0<=s.1/\s.1<=100/\0<=s.2/\s.2<=100)(w:Int)(hw:0<=w/\w<=3) :
  AZ bm kn (AE bm ann kn (n+600)) 113 [.agg (AB b),.agg (AM s),i w]=some (.bool (fR b s w)):=by
 rw[AP rfl,AQ Tryz.func113 BBS rfl (by simp[AB,AH,AN,AM])]
 obtain⟨c',h1,q⟩:=AON (n+197) 200 (fun _=>[]) (fun _=>[(3,0,.box (AB b)),(4,1,.box (AM s)),(5,2,.box [i w])]) (fun _=>True) 116 [.ptr 0 5 2 0,.ptr 0 4 1 0,.ptr 0 3 0 0] (by simp) (by simp) (fun (_:Unit) k=>HB (AH0 s k w) 1 b.reach) (fun _ _=>()) b.breaks 0 (by
   intro n c1 fr u k hc _ hk;obtain⟨hk1,hk2,hk3,hk4⟩:=hb k hk;obtain⟨hs1,hs2,hs3,hs4⟩:=hs;refine⟨fun _=>trivial,c1+1,by omega,?_⟩;have q:=fun n x=>K2 n x 1 b.reach;have w1:IntKind.i64.wrap (s.1-k.1)=s.1-k.1:=AW (by omega) (by omega);have w2:IntKind.i64.wrap (k.1-s.1)=k.1-s.1:=AW (by omega) (by omega);have w3:IntKind.i64.wrap (s.2-k.2)=s.2-k.2:=AW (by omega) (by omega);have w4:IntKind.i64.wrap (k.2-s.2)=k.2-s.2:=AW (by omega) (by omega);simp only[bf,bc];rw[A3 Tryz.func116 b116 rfl (by simp)];unfold AH0;have hw4:w=0\/w=1\/w=2\/w=3:=by omega
   rcases hw4 with rfl|rfl|rfl|rfl
   ·by_cases h:k.2=s.2<;>simp[ABR,AD,AB,AH,AN,AM,h,q,w1,w2,w3,w4]
   ·by_cases h:k.1=s.1<;>simp[ABR,AD,AB,AH,AN,AM,h,q,w1,w2,w3,w4]
   ·by_cases h:k.2=s.2<;>simp[ABR,AD,AB,AH,AN,AM,h,q,w1,w2,w3,w4]
   ·by_cases h:k.1=s.1 <;> simp[ABR,AD,AB,AH,AN,AM,h,q,w1,w2,w3,w4]) hl (by simp[AB,AH,AN,AM]) 3 10 [(9,true,.fn 116 [] [.ptr 0 5 2 0,.ptr 0 4 1 0,.ptr 0 3 0 0]),(8,true,.list false (b.breaks.map AM)),(7,true,.ptr 0 3 0 7),(3,true,.ptr 0 3 0 0),(4,true,.ptr 0 4 1 0),(5,true,.ptr 0 5 2 0)] () (Nat.zero_le _) trivial
 rw[E9]at q
 have e:n+197+200+200=n+597:=by omega
 rw[e]at q
 unfold fR
 generalize b.breaks.any (fun k=>HB (AH0 s k w) 1 b.reach)=z at q|-
 simp only[AB,AM]at q|-
 simp[AZ7,AD,q]
theorem Valid.br'{b:AL}(hb:Valid b):∀k∈b.breaks,0<=k.1/\k.1<=100/\0<=k.2/\k.2<=100:=fun k hk=>by have:=List.all_eq_true.1 hb.bo k hk;simp only[FS,bk,DV]at this;have:=hb.ro;have:=hb.pl;omega
theorem A6V(n:Nat)(b:AL)(hb:Valid b)(s:Int×Int)(hs:0<=s.1/\s.1<=100/\0<=s.2/\s.2<=100)(f w:Int)(hw:0<=w/\w<=3) :
  AZ bm kn (AE bm ann kn (n+800)) 101 [.agg (AB b),.agg (AM s),i f,i w]=some (.bool (LR b s f w)):=by
 rw[AP rfl,AQ Tryz.func101 BBT rfl (by simp[AB,AH,AN,AM])]
 have q1:=fun n=>AAP n w hw.1 (by omega)
 have q2:=fun n=>AKE n b (Valid.br' hb) (by have:=hb.br;omega) s hs w hw
 unfold LR
 simp only[AB,AM]at q2|-
 by_cases h:f=(w+2) % 4<;>simp[AZ8,AD,AH,AN,AM,q1,q2,h]
def DS(h:IY):List V:=[i h.sun,i h.calm,i h.good]
def U3(b:AL)(s:Int×Int)(h:Nat)(f w:Int):IY :=
 let lit:=decide (b.sun.getD h 0=f)
 let calm:=LR b s f w
 ⟨if lit=true then 1 else 0,if calm=true then 1 else 0,if (lit&&calm)=true then 1 else 0⟩
theorem kOf(n:Nat)(b:AL)(hb:Valid b)(s:Int×Int)(hs:0<=s.1/\s.1<=100/\0<=s.2/\s.2<=100)(h:Nat)(hh:h<b.sun.length)(f w:Int)(hw:0<=w/\w<=3) :
  AZ bm kn (AE bm ann kn (n+1000)) 66 [.agg (AB b),.agg (AM s),i h,i f,i w]=some (.agg (DS (U3 b s h f w))):=by
 rw[AP rfl,AQ Tryz.func66 b66 rfl (by simp[AB,AH,AN,AM])]
 have q2:=fun n=>A6V n b hb s hs f w hw
 unfold U3
 have hx:b.sun.getD h 0=b.sun[h]:=by rw[bw,bz hh];rfl
 rw[hx]
 simp only[AB,AM]at q2|-
 generalize LR b s f w=z at q2|-
 generalize e1:decide (b.sun[h]=f)=z1
 have w0:IntKind.i64.wrap 0=0:=by decide
 have w1:IntKind.i64.wrap 1=1:=by decide
 cases z1<;>cases z<;>simp[c66,AD,AH,AN,AM,DS,q2,hh,e1,w0,w1]
def NB(n:Int):Prop:=-9223372036854775808<=n/\n<9223372036854775808
theorem wfI{n:Int}(h:NB n):(Lit.int .i64 n).wf=true:=by obtain⟨h1,h2⟩:=h;simp only[Lit.wf,bk,decide_eq_true_eq];exact⟨h1,by have:IntKind.i64.max=9223372036854775807:=rfl;omega⟩
structure okB(b:AL):Prop where
 la:NB b.last
 ro:NB b.rows
 pl:NB b.places
 re:NB b.reach
 fa:∀n∈b.face,NB n
 su:∀n∈b.sun,NB n
 wi:∀l∈b.winds,∀n∈l,NB n
 br:∀p∈b.breaks,NB p.1/\NB p.2
 no:∀p∈b.notes,NB p.1/\NB p.2
end Go.Proofs.Tryz.Op
namespace Go.Wind
def HU(t out:List Int):List (Int×Int)->Nat->Bool
 |[],_=>true
 |x::r,k=>(decide ((k:Int)∈out)||J2 t x)&&HU t out r (k+1)
theorem V0(t:List Int):∀(l:List (Int×Int)) (k:Nat),HU t [] l k=l.all (J2 t)
 |[],_=>rfl
 |x::r,k=>by simp[HU,V0 t r]
end Go.Wind
namespace Go.Proofs.Tryz.Op
theorem AF7(l:List Int)(x:Int)(hl:l.length<=1000):∀(d k:Nat),k+d=l.length->∃(j:Int) (fr:Fr),0<=j/\∀n m,d<m->BG (AE bm ann kn (n+100) 19) XF (ann 19 (BX XF)) m ⟨0,[(0,true,li l),(1,true,i x),(7,true,i l.length),(8,true,i k)],⟨[],[]⟩⟩ =
  if x∈l.drop k then some (.ret,⟨0,[(4,true,i j),(17,true,i j),(5,true,i j)],⟨[],[]⟩⟩) else some (.exit 0,⟨0,fr,⟨[],[]⟩⟩)
 |0,k,hk=>by
  have:k=l.length:=by omega
  subst this;refine⟨0,?fr,by omega,fun n m hm=>?_⟩;rotate_left
  ·obtain⟨m,rfl⟩:=qNz m (by omega);rw[bq,if_neg (by simp),AC];simp;rfl
 |d+1,k,hk=>by
  have hk':k<l.length:=by omega
  have hw:=BS (k:=k) (by omega);obtain⟨j,fr,hj,ih⟩:=AF7 l x hl d (k+1) (by omega);rw[bj hk'];by_cases h:x=l[k]
  ·refine⟨k,[],by omega,fun n m hm=>?_⟩;obtain⟨m,rfl⟩:=qNz m (by omega);rw[if_pos (bg.2 (.inl h)),AC];simp[hk',hw,AH,h]
  ·refine⟨j,fr,hj,fun n m hm=>?_⟩;obtain⟨m,rfl⟩:=qNz m (by omega);have ih:=ih n m (by omega);have e:(x∈l[k]::l.drop (k+1))=(x∈l.drop (k+1)):=propext ⟨fun hh=>(bg.1 hh).resolve_left h,fun hh=>bg.2 (.inr hh)⟩;rw[AC];simp only[e];simp at ih;simp[hk',hw,AH,h,ih]
theorem PN(n:Nat)(l:List Int)(x:Int)(hl:l.length<=1000):AZ bm kn (AE bm ann kn (n+1300)) 50 [li l,i x]=some (.bool (decide (x∈l))):=by
 have q:∃j:Int,(0<=j↔x∈l)/\∀n,AZ bm kn (AE bm ann kn (n+1200)) 87 [li l,i x]=some (i j):=by
  obtain⟨j,fr,hj,q⟩:=AF7 l x hl l.length 0 (by omega);have q:=fun n m=>q n (m+1100) (by omega);rw[bb]at q;by_cases h:x∈l
  ·refine⟨j,by simp[h,hj],fun n=>?_⟩;rw[AP rfl,AQ Tryz.func87 b87 rfl (by simp[AH])];rw[if_pos h]at q;simp at q;simp[c87,AD,q,h]
  ·refine⟨-1,by simp[h],fun n=>?_⟩;rw[AP rfl,AQ Tryz.func87 b87 rfl (by simp[AH])];rw[if_neg h]at q;simp at q;simp[c87,AD,q,h]
 obtain⟨j,hj,q⟩:=q;rw[AP rfl,AQ Tryz.func50 b50 rfl (by simp[AH])];simp[c50,AD,AH,q,hj]
theorem wR(b:AL)(t:List Int)(hl:t.length=b.winds.length)(h100:t.length<=100)(h4:∀l∈b.winds,l.length<=100):∀(d k:Nat),k+d=t.length->∃fr,∀n m,d<m->BG (AE bm ann kn (n+1400) 29) XG (ann 29 (BX XG)) m ⟨1,[(2,true,.ptr 0 2 0 0),(13,true,li t),(14,true,i t.length),(15,true,i k)],⟨[],[(2,0,.box (AB b))]⟩⟩ =
  if AV (t.drop k) (b.winds.drop k)=true then some (.exit 0,⟨1,fr,⟨[],[(2,0,.box (AB b))]⟩⟩) else some (.ret,⟨1,[(4,true,.bool false)],⟨[],[]⟩⟩)
 |0,k,hk=>by
  have:k=t.length:=by omega
  subst this;refine⟨?fr,fun n m hm=>?_⟩;rotate_left
  ·obtain⟨m,rfl⟩:=qNz m (by omega);have:b.winds.drop t.length=[]:=by rw[hl];exact bq
   rw[bq,this,AC];simp[AV,AB];rfl
 |d+1,k,hk=>by
  have hk':k<t.length:=by omega
  have hk2:k<b.winds.length:=by omega
  have hw:=BS (k:=k) (by omega);obtain⟨fr,ih⟩:=wR b t hl h100 h4 d (k+1) (by omega);have q:=fun n=>PN n b.winds[k] t[k] (by have:=h4 _ (List.getElem_mem hk2);omega);rw[bj hk',bj hk2];simp only[AV];by_cases h:t[k]∈b.winds[k]
  ·simp only[h,decide_true,bh]at q|-;refine⟨fr,fun n m hm=>?_⟩;obtain⟨m,rfl⟩:=qNz m (by omega);have ih:=ih n m (by omega);rw[AC];simp only[AB]at ih|-;simp at ih;simp[hk',hk2,hw,AH,AN,q,ih]
  ·simp only[h,decide_false,Bool.false_and]at q|-;refine⟨[],fun n m hm=>?_⟩;obtain⟨m,rfl⟩:=qNz m (by omega);rw[AC];simp[AB,hk',hk2,hw,AH,AN,q]
theorem eZ{t:List Int}{ws:List (List Int)}(h:¬t.length=ws.length):AV t ws=false:=by
 cases e:AV t ws with
 |false=>rfl
 |true=>exact absurd (CK e) h
theorem AAQ(n:Nat)(b:AL)(hb:Valid b)(t:List Int):AZ bm kn (AE bm ann kn (n+1600)) 35 [.agg (AB b),li t]=some (.bool (AV t b.winds)):=by
 rw[AP rfl,AQ Tryz.func35 b35 rfl (by simp[AB,AH,AN,AM])];have hla:=hb.la;have hwi:=hb.wi;have hwl:IntKind.i64.wrap (b.last+1)=b.last+1:=AW (by omega) (by omega);by_cases h:(t.length:Int)=b.last+1
 ·obtain⟨fr,q⟩:=wR b t (by omega) (by omega) (fun l hl=>by have:=hb.wl l hl;omega) t.length 0 (by omega);have q:=fun n m=>q n (m+200) (by omega);rw[bb,bb]at q;generalize AV t b.winds=z at q|-;simp only[AB]at q|-;cases z<;>(simp at q;simp[c35,AD,hwl,h] ;simp[<-h,q])
 ·rw[eZ (by omega)];simp[c35,AD,AB,hwl,h]
theorem AF8(b:AL)(t out:List Int)(hn:∀x∈b.notes,0<=x.1/\x.1<t.length)(hl:b.notes.length<=100)(ho:out.length<=100):∀(d k:Nat) (c:Nat),k+d=b.notes.length->∃(fr:Fr) (c':Nat),∀n m,d<m->BG (AE bm ann kn (n+1400) 32) XH (ann 32 (BX XH)) m ⟨c,[(1,true,li t),(2,true,li out),(10,true,.list false (b.notes.map AM)),(11,true,i b.notes.length),(12,true,i k)],⟨[],[(3,0,.box (AB b))]⟩⟩ =
  if HU t out (b.notes.drop k) k=true then some (.exit 0,⟨c',fr,⟨[],[(3,0,.box (AB b))]⟩⟩) else some (.ret,⟨c',[(6,true,.bool false)],⟨[],[]⟩⟩)
 |0,k,c,hk=>by
  have:k=b.notes.length:=by omega
  subst this;refine⟨?fr,c,fun n m hm=>?_⟩;rotate_left
  ·obtain⟨m,rfl⟩:=qNz m (by omega);rw[bq,AC];simp[HU,AB];rfl
 |d+1,k,c,hk=>by
  have hk':k<b.notes.length:=by omega
  have hw:=BS (k:=k) (by omega);obtain⟨fr,c',ih⟩:=AF8 b t out hn hl ho d (k+1) (c+1) (by omega);have q:=fun n=>PN n out k (by omega);obtain⟨h0,h1⟩:=hn _ (List.getElem_mem hk');rw[bj hk'];have ha:atI t b.notes[k].1=t[b.notes[k].1.toNat]:=by unfold atI;rw[bw,bz (by omega)];rfl
  have hr:J2 t b.notes[k]=decide (t[b.notes[k].1.toNat]=b.notes[k].2):=by unfold J2;rw[ha]
  simp only[HU,hr];have h1':b.notes[k].1.toNat<t.length:=by omega
  by_cases h:(k:Int)∈out
  ·simp only[h,decide_true,Bool.true_or,bh]at q|-;refine⟨fr,c',fun n m hm=>?_⟩;obtain⟨m,rfl⟩:=qNz m (by omega);have ih:=ih n m (by omega);rw[AC];simp only[AB]at ih|-;simp at ih;simp[hk',hw,AH,AN,AM,ED,q,ih]
  ·by_cases h2:t[b.notes[k].1.toNat]=b.notes[k].2
   ·simp only[h,h2,decide_true,decide_false,Bool.false_or,bh]at q|-;refine⟨fr,c',fun n m hm=>?_⟩;obtain⟨m,rfl⟩:=qNz m (by omega);have ih:=ih n m (by omega);rw[AC];simp only[AB]at ih|-;simp at ih;simp[hk',hw,AH,AN,AM,ED,q,h0,h1,h1',h2,ih]
   ·simp only[h,h2,decide_false,Bool.false_or,Bool.false_and]at q|-;refine⟨[],c+1,fun n m hm=>?_⟩;obtain⟨m,rfl⟩:=qNz m (by omega);rw[AC];simp[AB,hk',hw,AH,AN,AM,ED,q,h0,h1,h1',h2]
theorem AUF(n:Nat)(b:AL)(t out:List Int)(hn:∀x∈b.notes,0<=x.1/\x.1<t.length)(hl:b.notes.length<=100)(ho:out.length<=100):AZ bm kn (AE bm ann kn (n+1600)) 86 [.agg (AB b),li t,li out]=some (.bool (HU t out b.notes 0)):=by rw[AP rfl,AQ Tryz.func86 b86 rfl (by simp[AB,AH,AN,AM])];obtain⟨fr,c',q⟩:=AF8 b t out hn hl ho b.notes.length 0 1 (by omega);have q:=fun n m=>q n (m+200) (by omega);rw[bb]at q;generalize HU t out b.notes 0=z at q|-;simp only[AB]at q|-;cases z<;>(simp at q;simp[c86,AD,q])
theorem Valid.notes'{b:AL}(hb:Valid b){t:List Int}(ht:t.length=b.winds.length):∀x∈b.notes,0<=x.1/\x.1<t.length:=fun x hx=>by have:=List.all_eq_true.1 hb.nok x hx;simp only[JB,bk,DV]at this;have:=hb.wi;omega
end Go.Proofs.Tryz.Op
