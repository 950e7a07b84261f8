/- Contracts: within, direction, sun, winds, hour, spot, note. No condition. -/
import Derived.Test.YthhdhbalenanjaaGreatW2
open Go.Proofs.Tryz renaming prog->bf
open Bool renaming and_eq_true->bj
open List renaming getD_eq_getElem?_getD->bk,all_cons->bq,drop_eq_getElem_cons->bw,getElem?_eq_getElem->bx,cons_append->bz,nil_append->bb,mem_cons->bc
set_option maxRecDepth 100000
set_option linter.unusedSimpArgs false
open Go Go.Pg Go.Proofs Go.Wind
namespace Go.Wind
theorem gF{σ α:Type}(p:σ->α->Bool)(nx:σ->α->σ):∀(l:List α) (s:σ) (h:List σ),(BR (fun (s:σ×List σ) x=>p s.1 x) (fun s x=>(nx s.1 x,s.1::s.2)) (s,h) l).1=(BR p nx s l).1
 |[],_,_=>rfl
 |x::l,s,h=>by
  simp only[BR];cases p s x with
  |true=>rfl
  |false=>exact gF p nx l (nx s x) (s::h)
theorem xY:∀(l:List Int) (s:Int),(BR (fun s x=>!HH x (s+1) 3) (fun _ x=>x) s l).1=!((match l with|[]=>true|x::_=>decide (s<x))&&(l.all (fun n=>decide (n<=3))&&H7 l))
 |[],s=>rfl
 |[x],s=>by
  simp only[BR,HH,H7,bq,List.all_nil];have e:decide (s+1<=x)=decide (s<x):=by congr 1
  rw[e];cases decide (s<x)<;>cases decide (x<=3)<;>rfl
 |x::y::l,s=>by
  have ih:=xY (y::l) x;have e:decide (s+1<=x)=decide (s<x):=by congr 1
  rw[BR];cases h:HH x (s+1) 3 with
  |false=>
   unfold HH at h
   rw[e]at h
   simp only[Bool.not_false,cond_true,H7,bq]
   revert h
   generalize List.all l (fun n=>decide (n<=3))=a
   generalize H7 (y::l)=b
   cases decide (s<x)<;>cases decide (x<=3)<;>cases decide (x<y)<;>cases decide (y<=3)<;>cases a<;>cases b<;>simp
  |true=>
  unfold HH at h;rw[e]at h;simp only[Bool.not_true,cond_false,ih,H7,bq];revert h;generalize List.all l (fun n=>decide (n<=3))=a;generalize H7 (y::l)=b;cases decide (s<x)<;>cases decide (x<=3)<;>cases decide (x<y)<;>cases decide (y<=3)<;>cases a<;>cases b<;>simp
theorem xZ:∀(l:List Int) (s:Int),(match l with|[]=>true|x::_=>decide (s<x))=true->H7 l=true->l.all (fun n=>decide (s<n))=true
 |[],_,_,_=>rfl
 |[x],s,h,_=>by simpa using h
 |x::y::l,s,h,h2=>by simp only[H7,bj,decide_eq_true_eq]at h h2;have:=xZ (y::l) s (by simp;omega) h2.2;rw[bq,this];simp[h]
theorem ABQ(l:List Int):(!(BR (fun s x=>!HH x (s+1) 3) (fun _ x=>x) (-1) l).1)=(DF l 0&&H7 l):=by
 rw[xY,Bool.not_not];have hd:DF l 0=(l.all (fun n=>decide (-1<n))&&l.all (fun n=>decide (n<=3))):=by
  unfold DF HH;induction l with
  |nil=>rfl
  |cons x l ih=>
   simp only[bq,ih]
   have e:decide ((0:Int)<=x)=decide (-1<x):=by congr 1
   rw[e]
   cases decide (-1<x)<;>cases decide (x<=3)<;>simp
 rw[hd];cases h:H7 l with
 |false=>simp
 |true=>
  cases h2:(match l with|[]=>true|x::_=>decide (-1<x))with
  |true=>rw[xZ l (-1) h2 h];simp
  |false=>
   cases l with
   |nil=>cases h2
   |cons x l=>simp only at h2;simp[h2]
end Go.Wind
namespace Go.Proofs.Tryz.Op
theorem K6(n:Nat)(x lo hi:Int):A5 bf kn (AE bf ann kn (n+50)) 143 [i x,i lo,i hi]=some (.bool (HH x lo hi)):=by rw[AN rfl,AP Tryz.func143 BBD rfl rfl];unfold HH;generalize e1:decide (lo<=x)=b1;simp[e1,A0Z,AD];cases b1<;>simp
theorem RW(n:Nat)(x:Int):A5 bf kn (AE bf ann kn (n+100)) 145 [i x]=some (.bool (HH x 0 3)):=by rw[AN rfl,AP Tryz.func145 BBE rfl rfl];have q:=fun n=>K6 n x 0 3;simp[A00,AD,q]
theorem BFA(n:Nat)(x:Int):A5 bf kn (AE bf ann kn (n+100)) 146 [i x]=some (.bool (HH x (-1) 3)):=by rw[AN rfl,AP Tryz.func146 BBF rfl rfl];have q:=fun n=>K6 n x (-1) 3;simp[A01,AD,q]
def pK(s:Int×List Int):AA:=(3,0,.box [i s.1])::s.2.map fun x=>(3,0,.box [i x])
theorem gG(t:St)(s:Int×List Int):AH t (pK s)=pK s:=by
 unfold pK;rw[A0];have:∀h:List Int,AH t (h.map fun x=>(3,0,AX.box [i x]))=h.map fun x=>(3,0,AX.box [i x]):=by
  intro h;induction h with
  |nil=>rfl
  |cons x h ih=>rw[List.map_cons,A0,ih];simp
 rw[this];simp
theorem AIH(s:Int×List Int):AA.get (pK s) 3=some (0,.box [i s.1]):=rfl
theorem AII(s:Int×List Int)(x:Int):AA.put (pK s) 3 0 (.box [i x])=pK (x,s.1::s.2):=rfl
theorem AVL(n:Nat)(l:List Int)(hl:l.length<=40):A5 bf kn (AE bf ann kn (n+600)) 148 [li l]=some (.bool (DB l)):=by
 rw[AN rfl,AP Tryz.func148 BBG rfl (by simp[AJ])];obtain⟨c',h1,q⟩:=AVJ (n+196) 100 0 (fun _=>[]) pK (by simp) (fun s=>-1<=s.1/\s.1<=3) 179 [.ptr 0 3 0 0] (by simp) (by simp) (fun s x=>HH x (s.1+1) 3) (fun s x=>(x,s.1 :: s.2)) l hl (by simp[gG]) (by
   intro t γ ht;obtain⟨up,loc⟩:=t;have h0:¬0=up.length:=by simp at ht;omega
   simp[h0]) 1 (by
   intro n c1 fr s x hc hs hx;refine⟨fun h=>?_,c1,Nat.le_refl _,?_⟩
   ·have:=BU.1 h;omega
   ·have q:=fun n=>K6 n x (s.1+1) 3;have hw:IntKind.i64.wrap (s.1+1)=s.1+1:=AW (by omega) (by omega);simp only[bb,bz];rw[A3 Tryz.func179 b179 rfl (by simp)];have hc':0<c1:=by omega
    simp[A02,AD,q,hw,hc',AIH,AII,gG]) 10 [(9,true,.fn 179 [] [.ptr 0 3 0 0]),(8,true,li l),(7,true,.bool (decide (0<(l.length:Int)))),(6,true,.bool (decide (0<(l.length:Int)))),(5,true,i l.length),(4,true,li l),(0,true,li l),(3,true,.ptr 0 3 0 0)] (-1,[]) (by simp)
 rw[gF (fun s x=>!HH x (s+1) 3) (fun _ x=>x),ABQ]at q;have e:n+196+100+300=n+596:=by omega
 rw[e]at q;unfold DB;cases l with
 |nil=>simp[AQU,AD]
 |cons x l=>
  have hp:(0:Int)<((x::l).length:Int):=by simp
  simp only[hp,decide_true]at q
  generalize BR (fun (s:Int×List Int) x=>!HH x (s.1+1) 3) _ (-1,[]) (x::l)=A at q
  have he:(x::l).isEmpty=false:=rfl
  rw[he]
  have hp2:0<(x::l).length:=by simp
  generalize x::l=L at *
  simp[pK]at q
  simp[AQU,AD,hp2,q]
theorem A7O(n:Nat)(b:AL)(x:Int):A5 bf kn (AE bf ann kn (n+100)) 174 [.agg (AC b),i x]=some (.bool (HH x 0 b.last)):=by rw[AN rfl,AP Tryz.func174 BBH rfl (by simp[AC,AJ,AQ,AM])];have q:=fun n=>K6 n x 0 b.last;simp[A03,AD,AC,q]
theorem A7P(n:Nat)(b:AL)(s:Int×Int)(h1:0<=b.rows/\b.rows<=1000)(h2:0<=b.places/\b.places<=1000):A5 bf kn (AE bf ann kn (n+100)) 141 [.agg (AC b),.agg (AM s)]=some (.bool (E2 b s)):=by rw[AN rfl,AP Tryz.func141 BBI rfl (by simp[AC,AJ,AQ,AM])];have w1:IntKind.i64.wrap (b.rows-1)=b.rows-1:=AW (by omega) (by omega);have w2:IntKind.i64.wrap (b.places-1)=b.places-1:=AW (by omega) (by omega);have q1:=fun n=>K6 n s.1 0 (b.rows-1);have q2:=fun n=>K6 n s.2 0 (b.places-1);unfold E2;generalize HH s.1 0 (b.rows-1)=z at q1|-;cases z<;>simp[A04,AD,AC,AM,q1,q2,w1,w2]
theorem A7Q(n:Nat)(b:AL)(x:Int×Int):A5 bf kn (AE bf ann kn (n+200)) 142 [.agg (AC b),.agg (AM x)]=some (.bool (HI b x)):=by rw[AN rfl,AP Tryz.func142 BBJ rfl (by simp[AC,AJ,AQ,AM])];have q1:=fun n=>A7O n b x.1;have q2:=fun n=>RW n x.2;unfold HI;generalize HH x.1 0 b.last=z at q1|-;simp only[AC]at q1|-;cases z<;>simp[A05,AD,AJ,AQ,AM,q1,q2]
set_option maxHeartbeats 2000000 in
theorem jR(n:Nat)(b:AL)(h40:∀l∈b.winds,l.length<=40):A5 bf kn (AE bf ann kn (n+1500)) 110 [.agg (AC b)]=some (i (DH b)):=by
 rw[AN rfl,AP Tryz.func110 BBM rfl (by simp[AC,AJ,AQ,AM])];unfold DH;by_cases g1:(decide (4<b.last)||decide (3<b.rows)||decide (5<b.places)||decide (4<b.breaks.length)||decide (5<b.notes.length))=true
 ·rw[if_pos g1];have e4:decide ((4:Int)<(b.breaks.length:Int))=decide (4<b.breaks.length):=by congr 1;exact propext (by omega)
  have e5:decide ((5:Int)<(b.notes.length:Int))=decide (5<b.notes.length):=by congr 1;exact propext (by omega)
  generalize h1:decide (4<b.last)=z1 at g1;generalize h2:decide (3<b.rows)=z2 at g1;generalize h3:decide (5<b.places)=z3 at g1;generalize h4:decide (4<b.breaks.length)=z4 at g1 e4;generalize h5:decide (5<b.notes.length)=z5 at g1 e5;cases z1
  ·cases z2
   ·cases z3
    ·cases z4
     ·cases z5
      ·cases g1
      ·simp[N3,AD,AC,h1,h2,h3,e4,e5]
     ·simp[N3,AD,AC,h1,h2,h3,e4]
    ·simp[N3,AD,AC,h1,h2,h3]
   ·simp[N3,AD,AC,h1,h2]
  ·simp[N3,AD,AC,h1]
 ·rw[if_neg g1];simp only[Bool.or_eq_true,decide_eq_true_eq,not_or]at g1;obtain⟨⟨⟨⟨g1,g2⟩,g3⟩,g4⟩,g5⟩:=g1;have e4:¬((4:Int)<(b.breaks.length:Int)):=by omega
  have e5:¬((5:Int)<(b.notes.length:Int)):=by omega
  by_cases a1:b.last<0
  ·simp[N3,AD,AC,g1,g2,g3,e4,e5,a1]
  by_cases a2:b.rows<1
  ·simp[N3,AD,AC,g1,g2,g3,e4,e5,a1,a2]
  by_cases a3:b.places<1
  ·simp[N3,AD,AC,g1,g2,g3,e4,e5,a1,a2,a3]
  have qr:=fun n=>K6 n b.reach 0 4;have hwl:IntKind.i64.wrap (b.last+1)=b.last+1:=AW (by omega) (by omega);cases a4:HH b.reach 0 4 with
  |false=>
   rw[a4]at qr
   simp[N3,AD,AC,g1,g2,g3,e4,e5,a1,a2,a3,qr]
  |true=>
  rw[a4]at qr;by_cases a5:(b.face.length:Int)=b.rows
  ·by_cases a6:(b.sun.length:Int)=b.last+1
   ·by_cases a7:(b.winds.length:Int)=b.last+1
    ·have qf:=fun n=>AIG n 100 145 (fun x=>HH x 0 3) b.face (by omega) (fun n x _=>RW n x);have qs:=fun n=>AIG n 100 146 (fun x=>HH x (-1) 3) b.sun (by omega) (fun n x _=>BFA n x);have qw:=fun n=>A7K n 600 148 DB b.winds (by omega) (fun n x hx=>AVL n x (h40 x hx));have qb:=fun n=>A7L n 100 b 141 (E2 b) b.breaks (by omega) (fun n x _=>A7P n b x (by omega) (by omega));have qn:=fun n=>A7N n 200 b 142 (HI b) b.notes (by omega) (fun n x _=>A7Q n b x);change ∀n,_=some (V.bool (DF b.face 0))at qf;change ∀n,_=some (V.bool (DF b.sun (-1)))at qs;simp only[Nat.add_assoc,Nat.reduceAdd,AC]at qf qs qw qb qn|-;generalize DF b.face 0=z1 at qf|-;generalize DF b.sun (-1)=z2 at qs|-;generalize b.winds.all DB=z3 at qw|-;generalize b.breaks.all (E2 b)=z4 at qb|-;generalize b.notes.all (HI b)=z5 at qn|-;have a5':=a5;cases z1 with
     |false=>simp[N3,AD,AJ,g1,g2,g3,e4,e5,a1,a2,a3,qr,a5,a6,a7,hwl,qf]
     |true=>
     cases z2 with
     |false=>simp[N3,AD,AJ,g1,g2,g3,e4,e5,a1,a2,a3,qr,a5,a6,a7,hwl,qf,qs]
     |true=>
     cases z3 with
     |false=>simp[N3,AD,AJ,AQ,g1,g2,g3,e4,e5,a1,a2,a3,qr,a5,a6,a7,hwl,qf,qs,qw]
     |true=>
     cases z4 with
     |false=>simp[N3,AD,AJ,AQ,AM,g1,g2,g3,e4,e5,a1,a2,a3,qr,a5,a6,a7,hwl,qf,qs,qw,qb]
     |true=>
     cases z5<;>simp[N3,AD,AJ,AQ,AM,g1,g2,g3,e4,e5,a1,a2,a3,qr,a5,a6,a7,hwl,qf,qs,qw,qb,qn]
    ·simp[N3,AD,AC,g1,g2,g3,e4,e5,a1,a2,a3,qr,a5,a6,a7,hwl]
   ·simp[N3,AD,AC,g1,g2,g3,e4,e5,a1,a2,a3,qr,a5,a6,hwl]
  ·simp[N3,AD,AC,g1,g2,g3,e4,e5,a1,a2,a3,qr,a5]
theorem AM6(n:Nat)(b:AL)(hb:Valid b)(plan:List (List Int)):A5 bf kn (AE bf ann kn (n+1000)) 111 [.agg (AC b),J1 plan]=some (.bool (CP b plan)):=by
 rw[AN rfl,AP Tryz.func111 BBN rfl (by simp[AC,AJ,AQ,AM])];have hla:=hb.la;have hro:=hb.ro;have hwl:IntKind.i64.wrap (b.last+1)=b.last+1:=AW (by omega) (by omega);unfold CP;by_cases hlen:(plan.length:Int)=b.last+1
 ·obtain⟨c',h1,q⟩:=AVK (n+197) 500 0 (fun _=>[]) (fun _=>[(2,0,.box (AC b))]) (by simp) (fun _=>True) 151 [.ptr 0 2 0 0] (by simp) (by simp) (fun (_:Unit) l=>decide ((l.length:Int)=b.rows)&&DF l 0) (fun _ _=>()) plan (by omega) (by simp[AC]) (by
    intro t γ ht;obtain⟨up,loc⟩:=t;have h0:¬0=up.length:=by simp at ht;omega
    simp[h0]) 1 (by
    intro n c1 fr s l hc hs hx;refine⟨fun h=>trivial,c1,Nat.le_refl _,?_⟩;simp only[bb,bz];rw[A3 Tryz.func151 b151 rfl (by simp)];by_cases hl:(l.length:Int)=b.rows
    ·have q:=fun n=>AIG n 100 145 (fun x=>HH x 0 3) l (by omega) (fun n x _=>RW n x);change ∀n,_=some (V.bool (DF l 0))at q;simp only[Nat.add_assoc,Nat.reduceAdd]at q;simp[AQY,AD,AC,AJ,hl,q]
    ·simp[AQY,AD,AC,hl]) 14 [(13,true,.fn 151 [] [.ptr 0 2 0 0]),(12,true,J1 plan),(11,true,.bool true),(10,true,.bool true),(9,true,i (b.last+1)),(8,true,i b.last),(7,true,.ptr 0 2 0 0),(6,true,i (b.last+1)),(5,true,J1 plan),(1,true,J1 plan),(2,true,.ptr 0 2 0 0)] () trivial
  rw[F8]at q;have hn:=K5 (fun l:List Int=>decide ((l.length:Int)=b.rows)&&DF l 0) plan;have e:n+197+500+300=n+997:=by omega
  rw[e]at q;simp only[hn]at q;generalize plan.all (fun l=>decide ((l.length:Int)=b.rows)&&DF l 0)=z at q|-;simp only[AC]at q|-;simp[AQX,AD,hwl,hlen,q]
 ·simp[AQX,AD,AC,hwl,hlen]
theorem ABR(n:Nat)(w:Int)(h0:0<=w)(h1:w<=100):A5 bf kn (AE bf ann kn (n+100)) 194 [i w]=some (i ((w+2) % 4)):=by rw[AN rfl,AP Tryz.func194 BBO rfl rfl];have hw:IntKind.i64.wrap (w+2)=w+2:=AW (by omega) (by omega);have hm:(w+2).tmod 4=(w+2) % 4:=Int.tmod_eq_emod_of_nonneg (by omega);simp[A1C,AD,hw,hm]
set_option maxHeartbeats 1000000 in
theorem AM7(n:Nat)(b:AL)(hb:∀k∈b.breaks,0<=k.1/\k.1<=100/\0<=k.2/\k.2<=100)(hl:b.breaks.length<=40)(s:Int×Int)(hs:0<=s.1/\s.1<=100/\0<=s.2/\s.2<=100)(w:Int)(hw:0<=w/\w<=3) :
  A5 bf kn (AE bf ann kn (n+600)) 195 [.agg (AC b),.agg (AM s),i w]=some (.bool (PS b s w)):=by
 rw[AN rfl,AP Tryz.func195 BBP rfl (by simp[AC,AJ,AQ,AM])]
 obtain⟨c',h1,q⟩:=AP8 (n+197) 200 (fun _=>[]) (fun _=>[(3,0,.box (AC b)),(4,1,.box (AM s)),(5,2,.box [i w])]) (fun _=>True) 199 [.ptr 0 5 2 0,.ptr 0 4 1 0,.ptr 0 3 0 0] (by simp) (by simp) (fun (_:Unit) k=>HH (rC s k w) 1 b.reach) (fun _ _=>()) b.breaks 0 (by
   intro n c1 fr u k hc _ hk;obtain⟨hk1,hk2,hk3,hk4⟩:=hb k hk;obtain⟨hs1,hs2,hs3,hs4⟩:=hs;refine⟨fun _=>trivial,c1+1,by omega,?_⟩;have q:=fun n x=>K6 n x 1 b.reach;have w1:IntKind.i64.wrap (s.1-k.1)=s.1-k.1:=AW (by omega) (by omega);have w2:IntKind.i64.wrap (k.1-s.1)=k.1-s.1:=AW (by omega) (by omega);have w3:IntKind.i64.wrap (s.2-k.2)=s.2-k.2:=AW (by omega) (by omega);have w4:IntKind.i64.wrap (k.2-s.2)=k.2-s.2:=AW (by omega) (by omega);simp only[bb,bz];rw[A3 Tryz.func199 b199 rfl (by simp)];unfold rC;have hw4:w=0\/w=1\/w=2\/w=3:=by omega
   rcases hw4 with rfl|rfl|rfl|rfl
   ·by_cases h:k.2=s.2<;>simp[ADF,AD,AC,AM,h,q,w1]
   ·by_cases h:k.1=s.1<;>simp[ADF,AD,AC,AM,h,q,w4]
   ·by_cases h:k.2=s.2<;>simp[ADF,AD,AC,AM,h,q,w2]
   ·by_cases h:k.1=s.1 <;> simp[ADF,AD,AC,AM,h,q,w3]) hl (by simp[AC,AM]) 3 10 [(9,true,.fn 199 [] [.ptr 0 5 2 0,.ptr 0 4 1 0,.ptr 0 3 0 0]),(8,true,.list false (b.breaks.map AM)),(7,true,.ptr 0 3 0 7),(3,true,.ptr 0 3 0 0),(4,true,.ptr 0 4 1 0),(5,true,.ptr 0 5 2 0)] () (Nat.zero_le _) trivial
 rw[F8]at q
 have e:n+197+200+200=n+597:=by omega
 rw[e]at q
 unfold PS
 generalize b.breaks.any (fun k=>HH (rC s k w) 1 b.reach)=z at q|-
 simp only[AC,AM]at q|-
 simp[A1D,AD,q]
theorem Valid.br'{b:AL}(hb:Valid b):∀k∈b.breaks,0<=k.1/\k.1<=100/\0<=k.2/\k.2<=100:=fun k hk=>by have:=List.all_eq_true.1 hb.bo k hk;simp only[E2,bj,BU]at this;have:=hb.ro;have:=hb.pl;omega
theorem A7R(n:Nat)(b:AL)(hb:Valid b)(s:Int×Int)(hs:0<=s.1/\s.1<=100/\0<=s.2/\s.2<=100)(f w:Int)(hw:0<=w/\w<=3) :
  A5 bf kn (AE bf ann kn (n+800)) 184 [.agg (AC b),.agg (AM s),i f,i w]=some (.bool (QR b s f w)):=by
 rw[AN rfl,AP Tryz.func184 BBQ rfl (by simp[AC,AJ,AQ,AM])]
 have q1:=fun n=>ABR n w hw.1 (by omega)
 have q2:=fun n=>AM7 n b (Valid.br' hb) (by have:=hb.br;omega) s hs w hw
 unfold QR
 simp only[AC,AM]at q2|-
 by_cases h:f=(w+2) % 4<;>simp[A1E,AD,AJ,AQ,AM,q1,q2,h]
def WI(h:zE):List V:=[i h.sun,i h.calm,i h.good]
def ofB(b:AL)(s:Int×Int)(h:Nat)(f w:Int):zE :=
 let lit:=decide (b.sun.getD h 0=f)
 let calm:=QR b s f w
 ⟨if lit=true then 1 else 0,if calm=true then 1 else 0,if (lit&&calm)=true then 1 else 0⟩
theorem kOf(n:Nat)(b:AL)(hb:Valid b)(s:Int×Int)(hs:0<=s.1/\s.1<=100/\0<=s.2/\s.2<=100)(h:Nat)(hh:h<b.sun.length)(f w:Int)(hw:0<=w/\w<=3) :
  A5 bf kn (AE bf ann kn (n+1000)) 153 [.agg (AC b),.agg (AM s),i h,i f,i w]=some (.agg (WI (ofB b s h f w))):=by
 rw[AN rfl,AP Tryz.func153 BBR rfl (by simp[AC,AJ,AQ,AM])]
 have q2:=fun n=>A7R n b hb s hs f w hw
 unfold ofB
 have hx:b.sun.getD h 0=b.sun[h]:=by rw[bk,bx hh];rfl
 rw[hx]
 simp only[AC,AM]at q2|-
 generalize QR b s f w=z at q2|-
 generalize e1:decide (b.sun[h]=f)=z1
 have w0:IntKind.i64.wrap 0=0:=by decide
 have w1:IntKind.i64.wrap 1=1:=by decide
 cases z1<;>cases z<;>simp[A1F,AD,AJ,WI,q2,hh,e1,w0,w1]
def NJ(n:Int):Prop:=-9223372036854775808<=n/\n<9223372036854775808
theorem wfI{n:Int}(h:NJ n):(Lit.int .i64 n).wf=true:=by obtain⟨h1,h2⟩:=h;simp only[Lit.wf,bj,decide_eq_true_eq];exact⟨h1,by have:IntKind.i64.max=9223372036854775807:=rfl;omega⟩
structure okB(b:AL):Prop where
 la:NJ b.last
 ro:NJ b.rows
 pl:NJ b.places
 re:NJ b.reach
 fa:∀n∈b.face,NJ n
 su:∀n∈b.sun,NJ n
 wi:∀l∈b.winds,∀n∈l,NJ n
 br:∀p∈b.breaks,NJ p.1/\NJ p.2
 no:∀p∈b.notes,NJ p.1/\NJ p.2
end Go.Proofs.Tryz.Op
namespace Go.Wind
def H3(t out:List Int):List (Int×Int)->Nat->Bool
 |[],_=>true
 |x::r,k=>(decide ((k:Int)∈out)||HJ t x)&&H3 t out r (k+1)
theorem XH(t:List Int):∀(l:List (Int×Int)) (k:Nat),H3 t [] l k=l.all (HJ t)
 |[],_=>rfl
 |x::r,k=>by simp[H3,XH t r]
end Go.Wind
namespace Go.Proofs.Tryz.Op
theorem AIJ(l:List Int)(x:Int)(hl:l.length<=1000):∀(d k:Nat),k+d=l.length->∃(j:Int) (fr:Fr),0<=j/\∀n m,d<m->BJ (AE bf ann kn (n+100) 19) SQ (ann 19 (B9 SQ)) m ⟨0,[(0,true,li l),(1,true,i x),(7,true,i l.length),(8,true,i k)],⟨[],[]⟩⟩ =
  if x∈l.drop k then some (.ret,⟨0,[(4,true,i j),(17,true,i j),(5,true,i j)],⟨[],[]⟩⟩) else some (.exit 0,⟨0,fr,⟨[],[]⟩⟩)
 |0,k,hk=>by
  have:k=l.length:=by omega
  subst this;refine⟨0,?fr,by omega,fun n m hm=>?_⟩;rotate_left
  ·obtain⟨m,rfl⟩:=qNz m (by omega);rw[List.drop_length,if_neg (by simp),AB];simp;rfl
 |d+1,k,hk=>by
  have hk':k<l.length:=by omega
  have hw:=BW (k:=k) (by omega);obtain⟨j,fr,hj,ih⟩:=AIJ l x hl d (k+1) (by omega);rw[bw hk'];by_cases h:x=l[k]
  ·refine⟨k,[],by omega,fun n m hm=>?_⟩;obtain⟨m,rfl⟩:=qNz m (by omega);rw[if_pos (bc.2 (.inl h)),AB];simp[hk',AJ,h]
  ·refine⟨j,fr,hj,fun n m hm=>?_⟩;obtain⟨m,rfl⟩:=qNz m (by omega);have ih:=ih n m (by omega);have e:(x∈l[k]::l.drop (k+1))=(x∈l.drop (k+1)):=propext ⟨fun hh=>(bc.1 hh).resolve_left h,fun hh=>bc.2 (.inr hh)⟩;rw[AB];simp only[e];simp at ih;simp[hk',hw,AJ,h,ih]
theorem WJ(n:Nat)(l:List Int)(x:Int)(hl:l.length<=1000):A5 bf kn (AE bf ann kn (n+1300)) 132 [li l,i x]=some (.bool (decide (x∈l))):=by
 have q:∃j:Int,(0<=j↔x∈l)/\∀n,A5 bf kn (AE bf ann kn (n+1200)) 170 [li l,i x]=some (i j):=by
  obtain⟨j,fr,hj,q⟩:=AIJ l x hl l.length 0 (by omega);have q:=fun n m=>q n (m+1100) (by omega);rw[List.drop_zero]at q;by_cases h:x∈l
  ·refine⟨j,by simp[h,hj],fun n=>?_⟩;rw[AN rfl,AP Tryz.func170 A1H rfl (by simp[AJ])];rw[if_pos h]at q;simp at q;simp[AQZ,AD,q]
  ·refine⟨-1,by simp[h],fun n=>?_⟩;rw[AN rfl,AP Tryz.func170 A1H rfl (by simp[AJ])];rw[if_neg h]at q;simp at q;simp[AQZ,AD,q]
 obtain⟨j,hj,q⟩:=q;rw[AN rfl,AP Tryz.func132 BBT rfl (by simp[AJ])];simp[A1I,AD,AJ,q,hj]
theorem ABS{t:List Int}{ws:List (List Int)}(h:¬t.length=ws.length):AZ t ws=false:=by
 cases e:AZ t ws with
 |false=>rfl
 |true=>exact absurd (C6 e) h
theorem AIK(b:AL)(t out:List Int)(hn:∀x∈b.notes,0<=x.1/\x.1<t.length)(hl:b.notes.length<=100)(ho:out.length<=100):∀(d k:Nat) (c:Nat),k+d=b.notes.length->∃(fr:Fr) (c':Nat),∀n m,d<m->BJ (AE bf ann kn (n+1400) 32) SR (ann 32 (B9 SR)) m ⟨c,[(1,true,li t),(2,true,li out),(10,true,.list false (b.notes.map AM)),(11,true,i b.notes.length),(12,true,i k)],⟨[],[(3,0,.box (AC b))]⟩⟩ =
  if H3 t out (b.notes.drop k) k=true then some (.exit 0,⟨c',fr,⟨[],[(3,0,.box (AC b))]⟩⟩) else some (.ret,⟨c',[(6,true,.bool false)],⟨[],[]⟩⟩)
 |0,k,c,hk=>by
  have:k=b.notes.length:=by omega
  subst this;refine⟨?fr,c,fun n m hm=>?_⟩;rotate_left
  ·obtain⟨m,rfl⟩:=qNz m (by omega);rw[List.drop_length,AB];simp[H3,AC];rfl
 |d+1,k,c,hk=>by
  have hk':k<b.notes.length:=by omega
  have hw:=BW (k:=k) (by omega);obtain⟨fr,c',ih⟩:=AIK b t out hn hl ho d (k+1) (c+1) (by omega);have q:=fun n=>WJ n out k (by omega);obtain⟨h0,h1⟩:=hn _ (List.getElem_mem hk');rw[bw hk'];have ha:atI t b.notes[k].1=t[b.notes[k].1.toNat]:=by unfold atI;rw[bk,bx (by omega)];rfl
  have hr:HJ t b.notes[k]=decide (t[b.notes[k].1.toNat]=b.notes[k].2):=by unfold HJ;rw[ha]
  simp only[H3,hr];have h1':b.notes[k].1.toNat<t.length:=by omega
  by_cases h:(k:Int)∈out
  ·simp only[h,decide_true,Bool.true_or,Bool.true_and]at q|-;refine⟨fr,c',fun n m hm=>?_⟩;obtain⟨m,rfl⟩:=qNz m (by omega);have ih:=ih n m (by omega);rw[AB];simp only[AC]at ih|-;simp at ih;simp[hk',hw,AJ,AM,pX,q,ih]
  ·by_cases h2:t[b.notes[k].1.toNat]=b.notes[k].2
   ·simp only[h,h2,decide_true,decide_false,Bool.false_or,Bool.true_and]at q|-;refine⟨fr,c',fun n m hm=>?_⟩;obtain⟨m,rfl⟩:=qNz m (by omega);have ih:=ih n m (by omega);rw[AB];simp only[AC]at ih|-;simp at ih;simp[hk',hw,AJ,AM,q,h0,h1,h1',h2,ih]
   ·simp only[h,h2,decide_false,Bool.false_or,Bool.false_and]at q|-;refine⟨[],c+1,fun n m hm=>?_⟩;obtain⟨m,rfl⟩:=qNz m (by omega);rw[AB];simp[AC,hk',AJ,AM,q,h0,h1,h1',h2]
theorem AVM(n:Nat)(b:AL)(t out:List Int)(hn:∀x∈b.notes,0<=x.1/\x.1<t.length)(hl:b.notes.length<=100)(ho:out.length<=100):A5 bf kn (AE bf ann kn (n+1600)) 164 [.agg (AC b),li t,li out]=some (.bool (H3 t out b.notes 0)):=by rw[AN rfl,AP Tryz.func164 BBU rfl (by simp[AC,AJ,AQ,AM])];obtain⟨fr,c',q⟩:=AIK b t out hn hl ho b.notes.length 0 1 (by omega);have q:=fun n m=>q n (m+200) (by omega);rw[List.drop_zero]at q;generalize H3 t out b.notes 0=z at q|-;simp only[AC]at q|-;cases z<;>(simp at q;simp[A1J,AD,q])
theorem Valid.notes'{b:AL}(hb:Valid b){t:List Int}(ht:t.length=b.winds.length):∀x∈b.notes,0<=x.1/\x.1<t.length:=fun x hx=>by have:=List.all_eq_true.1 hb.nok x hx;simp only[HI,bj,BU]at this;have:=hb.wi;omega
end Go.Proofs.Tryz.Op
