/- Contracts: within, direction, sun, winds, hour, spot, note. No condition. -/
import Derived.Test.YthhdhbalenanjaaGreatW2
open Go.Proofs.Tryz renaming prog->bf
open Bool renaming and_eq_true->bj
open List renaming getD_eq_getElem?_getD->bk,all_cons->bq,drop_eq_getElem_cons->bw,getElem?_eq_getElem->bx,cons_append->bz,nil_append->bb,mem_cons->bc
set_option maxRecDepth 100000
set_option linter.unusedSimpArgs false
open Go Go.Pg Go.Proofs Go.Wind
namespace Go.Wind
theorem dT{σ α:Type}(p:σ->α->Bool)(nx:σ->α->σ):∀(l:List α) (s:σ) (h:List σ),(BQ (fun (s:σ×List σ) x=>p s.1 x) (fun s x=>(nx s.1 x,s.1::s.2)) (s,h) l).1=(BQ p nx s l).1
 |[],_,_=>rfl
 |x::l,s,h=>by
  simp only[BQ];cases p s x with
  |true=>rfl
  |false=>exact dT p nx l (nx s x) (s::h)
theorem uQ:∀(l:List Int) (s:Int),(BQ (fun s x=>!HQ x (s+1) 3) (fun _ x=>x) s l).1=!((match l with|[]=>true|x::_=>decide (s<x))&&(l.all (fun n=>decide (n<=3))&&JS l))
 |[],s=>rfl
 |[x],s=>by
  simp only[BQ,HQ,JS,bq,List.all_nil];have e:decide (s+1<=x)=decide (s<x):=by congr 1
  rw[e];cases decide (s<x)<;>cases decide (x<=3)<;>rfl
 |x::y::l,s=>by
  have ih:=uQ (y::l) x;have e:decide (s+1<=x)=decide (s<x):=by congr 1
  rw[BQ];cases h:HQ x (s+1) 3 with
  |false=>
   unfold HQ at h
   rw[e]at h
   simp only[Bool.not_false,cond_true,JS,bq]
   revert h
   generalize List.all l (fun n=>decide (n<=3))=a
   generalize JS (y::l)=b
   cases decide (s<x)<;>cases decide (x<=3)<;>cases decide (x<y)<;>cases decide (y<=3)<;>cases a<;>cases b<;>simp
  |true=>
  unfold HQ at h;rw[e]at h;simp only[Bool.not_true,cond_false,ih,JS,bq];revert h;generalize List.all l (fun n=>decide (n<=3))=a;generalize JS (y::l)=b;cases decide (s<x)<;>cases decide (x<=3)<;>cases decide (x<y)<;>cases decide (y<=3)<;>cases a<;>cases b<;>simp
theorem uR:∀(l:List Int) (s:Int),(match l with|[]=>true|x::_=>decide (s<x))=true->JS l=true->l.all (fun n=>decide (s<n))=true
 |[],_,_,_=>rfl
 |[x],s,h,_=>by simpa using h
 |x::y::l,s,h,h2=>by simp only[JS,bj,decide_eq_true_eq]at h h2;have:=uR (y::l) s (by simp;omega) h2.2;rw[bq,this];simp[h]
theorem yK(l:List Int):(!(BQ (fun s x=>!HQ x (s+1) 3) (fun _ x=>x) (-1) l).1)=(D9 l 0&&JS l):=by
 rw[uQ,Bool.not_not];have hd:D9 l 0=(l.all (fun n=>decide (-1<n))&&l.all (fun n=>decide (n<=3))):=by
  unfold D9 HQ;induction l with
  |nil=>rfl
  |cons x l ih=>
   simp only[bq,ih]
   have e:decide ((0:Int)<=x)=decide (-1<x):=by congr 1
   rw[e]
   cases decide (-1<x)<;>cases decide (x<=3)<;>simp
 rw[hd];cases h:JS l with
 |false=>simp
 |true=>
  cases h2:(match l with|[]=>true|x::_=>decide (-1<x))with
  |true=>rw[uR l (-1) h2 h];simp
  |false=>
   cases l with
   |nil=>cases h2
   |cons x l=>simp only at h2;simp[h2]
end Go.Wind
namespace Go.Proofs.Tryz.Op
theorem KP(n:Nat)(x lo hi:Int):A8 bf kn (AF bf ann kn (n+50)) 143 [i x,i lo,i hi]=some (.bool (HQ x lo hi)):=by rw[AP rfl,AQ Tryz.func143 A9Y rfl rfl];unfold HQ;generalize e1:decide (lo<=x)=b1;simp[e1,AY7,AD];cases b1<;>simp
theorem QV(n:Nat)(x:Int):A8 bf kn (AF bf ann kn (n+100)) 145 [i x]=some (.bool (HQ x 0 3)):=by rw[AP rfl,AQ Tryz.func145 A9Z rfl rfl];have q:=fun n=>KP n x 0 3;simp[AY8,AD,q]
theorem BDX(n:Nat)(x:Int):A8 bf kn (AF bf ann kn (n+100)) 146 [i x]=some (.bool (HQ x (-1) 3)):=by rw[AP rfl,AQ Tryz.func146 A90 rfl rfl];have q:=fun n=>KP n x (-1) 3;simp[AY9,AD,q]
def mQ(s:Int×List Int):AA:=(3,0,.box [i s.1])::s.2.map fun x=>(3,0,.box [i x])
theorem dU(t:St)(s:Int×List Int):AH t (mQ s)=mQ s:=by
 unfold mQ;rw[A2];have:∀h:List Int,AH t (h.map fun x=>(3,0,AX.box [i x]))=h.map fun x=>(3,0,AX.box [i x]):=by
  intro h;induction h with
  |nil=>rfl
  |cons x h ih=>rw[List.map_cons,A2,ih];simp
 rw[this];simp
theorem AFE(s:Int×List Int):AA.get (mQ s) 3=some (0,.box [i s.1]):=rfl
theorem AFF(s:Int×List Int)(x:Int):AA.put (mQ s) 3 0 (.box [i x])=mQ (x,s.1::s.2):=rfl
theorem AS7(n:Nat)(l:List Int)(hl:l.length<=40):A8 bf kn (AF bf ann kn (n+600)) 148 [li l]=some (.bool (FU l)):=by
 rw[AP rfl,AQ Tryz.func148 A91 rfl (by simp[AJ])];obtain⟨c',h1,q⟩:=AS5 (n+196) 100 0 (fun _=>[]) mQ (by simp) (fun s=>-1<=s.1/\s.1<=3) 179 [.ptr 0 3 0 0] (by simp) (by simp) (fun s x=>HQ x (s.1+1) 3) (fun s x=>(x,s.1 :: s.2)) l hl (by simp[dU]) (by
   intro t γ ht;obtain⟨up,loc⟩:=t;have h0:¬0=up.length:=by simp at ht;omega
   simp[h0]) 1 (by
   intro n c1 fr s x hc hs hx;refine⟨fun h=>?_,c1,Nat.le_refl _,?_⟩
   ·have:=EH.1 h;omega
   ·have q:=fun n=>KP n x (s.1+1) 3;have hw:IntKind.i64.wrap (s.1+1)=s.1+1:=AZ (by omega) (by omega);simp only[bb,bz];rw[A3 Tryz.func179 b179 rfl (by simp)];have hc':0<c1:=by omega
    simp[AZA,AD,q,hw,hc',AFE,AFF,dU]) 10 [(9,true,.fn 179 [] [.ptr 0 3 0 0]),(8,true,li l),(7,true,.bool (decide (0<(l.length:Int)))),(6,true,.bool (decide (0<(l.length:Int)))),(5,true,i l.length),(4,true,li l),(0,true,li l),(3,true,.ptr 0 3 0 0)] (-1,[]) (by simp)
 rw[dT (fun s x=>!HQ x (s+1) 3) (fun _ x=>x),yK]at q;have e:n+196+100+300=n+596:=by omega
 rw[e]at q;unfold FU;cases l with
 |nil=>simp[ANZ,AD]
 |cons x l=>
  have hp:(0:Int)<((x::l).length:Int):=by simp
  simp only[hp,decide_true]at q
  generalize BQ (fun (s:Int×List Int) x=>!HQ x (s.1+1) 3) _ (-1,[]) (x::l)=A at q
  have he:(x::l).isEmpty=false:=rfl
  rw[he]
  have hp2:0<(x::l).length:=by simp
  generalize x::l=L at *
  simp[mQ]at q
  simp[ANZ,AD,hp2,q]
theorem A58(n:Nat)(b:AN)(x:Int):A8 bf kn (AF bf ann kn (n+100)) 174 [.agg (AC b),i x]=some (.bool (HQ x 0 b.last)):=by rw[AP rfl,AQ Tryz.func174 A92 rfl (by simp[AC,AJ,AM,AL])];have q:=fun n=>KP n x 0 b.last;simp[AZB,AD,AC,q]
theorem A59(n:Nat)(b:AN)(s:Int×Int)(h1:0<=b.rows/\b.rows<=1000)(h2:0<=b.places/\b.places<=1000):A8 bf kn (AF bf ann kn (n+100)) 141 [.agg (AC b),.agg (AL s)]=some (.bool (FG b s)):=by rw[AP rfl,AQ Tryz.func141 A93 rfl (by simp[AC,AJ,AM,AL])];have w1:IntKind.i64.wrap (b.rows-1)=b.rows-1:=AZ (by omega) (by omega);have w2:IntKind.i64.wrap (b.places-1)=b.places-1:=AZ (by omega) (by omega);have q1:=fun n=>KP n s.1 0 (b.rows-1);have q2:=fun n=>KP n s.2 0 (b.places-1);unfold FG;generalize HQ s.1 0 (b.rows-1)=z at q1|-;cases z<;>simp[AZC,AD,AC,AL,q1,q2,w1,w2]
theorem A6A(n:Nat)(b:AN)(x:Int×Int):A8 bf kn (AF bf ann kn (n+200)) 142 [.agg (AC b),.agg (AL x)]=some (.bool (IY b x)):=by rw[AP rfl,AQ Tryz.func142 A94 rfl (by simp[AC,AJ,AM,AL])];have q1:=fun n=>A58 n b x.1;have q2:=fun n=>QV n x.2;unfold IY;generalize HQ x.1 0 b.last=z at q1|-;simp only[AC]at q1|-;cases z<;>simp[AZD,AD,AJ,AM,AL,q1,q2]
set_option maxHeartbeats 2000000 in
theorem gF(n:Nat)(b:AN)(h40:∀l∈b.winds,l.length<=40):A8 bf kn (AF bf ann kn (n+1500)) 110 [.agg (AC b)]=some (i (DJ b)):=by
 rw[AP rfl,AQ Tryz.func110 A97 rfl (by simp[AC,AJ,AM,AL])];unfold DJ;by_cases g1:(decide (4<b.last)||decide (3<b.rows)||decide (5<b.places)||decide (4<b.breaks.length)||decide (5<b.notes.length))=true
 ·rw[if_pos g1];have e4:decide ((4:Int)<(b.breaks.length:Int))=decide (4<b.breaks.length):=by congr 1;exact propext (by omega)
  have e5:decide ((5:Int)<(b.notes.length:Int))=decide (5<b.notes.length):=by congr 1;exact propext (by omega)
  generalize h1:decide (4<b.last)=z1 at g1;generalize h2:decide (3<b.rows)=z2 at g1;generalize h3:decide (5<b.places)=z3 at g1;generalize h4:decide (4<b.breaks.length)=z4 at g1 e4;generalize h5:decide (5<b.notes.length)=z5 at g1 e5;cases z1
  ·cases z2
   ·cases z3
    ·cases z4
     ·cases z5
      ·cases g1
      ·simp[NE,AD,AC,AJ,AM,AL,h1,h2,h3,e4,e5]
     ·simp[NE,AD,AC,AJ,AM,AL,h1,h2,h3,e4]
    ·simp[NE,AD,AC,AJ,AM,AL,h1,h2,h3]
   ·simp[NE,AD,AC,AJ,AM,AL,h1,h2]
  ·simp[NE,AD,AC,AJ,AM,AL,h1]
 ·rw[if_neg g1];simp only[Bool.or_eq_true,decide_eq_true_eq,not_or]at g1;obtain⟨⟨⟨⟨g1,g2⟩,g3⟩,g4⟩,g5⟩:=g1;have e4:¬((4:Int)<(b.breaks.length:Int)):=by omega
  have e5:¬((5:Int)<(b.notes.length:Int)):=by omega
  by_cases a1:b.last<0
  ·simp[NE,AD,AC,AJ,AM,AL,g1,g2,g3,e4,e5,a1]
  by_cases a2:b.rows<1
  ·simp[NE,AD,AC,AJ,AM,AL,g1,g2,g3,e4,e5,a1,a2]
  by_cases a3:b.places<1
  ·simp[NE,AD,AC,AJ,AM,AL,g1,g2,g3,e4,e5,a1,a2,a3]
  have qr:=fun n=>KP n b.reach 0 4;have hwl:IntKind.i64.wrap (b.last+1)=b.last+1:=AZ (by omega) (by omega);cases a4:HQ b.reach 0 4 with
  |false=>
   rw[a4]at qr
   simp[NE,AD,AC,AJ,AM,AL,g1,g2,g3,e4,e5,a1,a2,a3,qr]
  |true=>
  rw[a4]at qr;by_cases a5:(b.face.length:Int)=b.rows
  ·by_cases a6:(b.sun.length:Int)=b.last+1
   ·by_cases a7:(b.winds.length:Int)=b.last+1
    ·have qf:=fun n=>AFD n 100 145 (fun x=>HQ x 0 3) b.face (by omega) (fun n x _=>QV n x);have qs:=fun n=>AFD n 100 146 (fun x=>HQ x (-1) 3) b.sun (by omega) (fun n x _=>BDX n x);have qw:=fun n=>A54 n 600 148 FU b.winds (by omega) (fun n x hx=>AS7 n x (h40 x hx));have qb:=fun n=>A55 n 100 b 141 (FG b) b.breaks (by omega) (fun n x _=>A59 n b x (by omega) (by omega));have qn:=fun n=>A57 n 200 b 142 (IY b) b.notes (by omega) (fun n x _=>A6A n b x);change ∀n,_=some (V.bool (D9 b.face 0))at qf;change ∀n,_=some (V.bool (D9 b.sun (-1)))at qs;simp only[Nat.add_assoc,Nat.reduceAdd,AC]at qf qs qw qb qn|-;generalize D9 b.face 0=z1 at qf|-;generalize D9 b.sun (-1)=z2 at qs|-;generalize b.winds.all FU=z3 at qw|-;generalize b.breaks.all (FG b)=z4 at qb|-;generalize b.notes.all (IY b)=z5 at qn|-;have a5':=a5;cases z1 with
     |false=>simp[NE,AD,AJ,AM,AL,g1,g2,g3,e4,e5,a1,a2,a3,qr,a5,a6,a7,hwl,qf]
     |true=>
     cases z2 with
     |false=>simp[NE,AD,AJ,AM,AL,g1,g2,g3,e4,e5,a1,a2,a3,qr,a5,a6,a7,hwl,qf,qs]
     |true=>
     cases z3 with
     |false=>simp[NE,AD,AJ,AM,AL,g1,g2,g3,e4,e5,a1,a2,a3,qr,a5,a6,a7,hwl,qf,qs,qw]
     |true=>
     cases z4 with
     |false=>simp[NE,AD,AJ,AM,AL,g1,g2,g3,e4,e5,a1,a2,a3,qr,a5,a6,a7,hwl,qf,qs,qw,qb]
     |true=>
     cases z5<;>simp[NE,AD,AJ,AM,AL,g1,g2,g3,e4,e5,a1,a2,a3,qr,a5,a6,a7,hwl,qf,qs,qw,qb,qn]
    ·simp[NE,AD,AC,AJ,AM,AL,g1,g2,g3,e4,e5,a1,a2,a3,qr,a5,a6,a7,hwl]
   ·simp[NE,AD,AC,AJ,AM,AL,g1,g2,g3,e4,e5,a1,a2,a3,qr,a5,a6,hwl]
  ·simp[NE,AD,AC,AJ,AM,AL,g1,g2,g3,e4,e5,a1,a2,a3,qr,a5]
theorem AJ4(n:Nat)(b:AN)(hb:Valid b)(plan:List (List Int)):A8 bf kn (AF bf ann kn (n+1000)) 111 [.agg (AC b),JA plan]=some (.bool (DR b plan)):=by
 rw[AP rfl,AQ Tryz.func111 A98 rfl (by simp[AC,AJ,AM,AL])];have hla:=hb.la;have hro:=hb.ro;have hwl:IntKind.i64.wrap (b.last+1)=b.last+1:=AZ (by omega) (by omega);unfold DR;by_cases hlen:(plan.length:Int)=b.last+1
 ·obtain⟨c',h1,q⟩:=AS6 (n+197) 500 0 (fun _=>[]) (fun _=>[(2,0,.box (AC b))]) (by simp) (fun _=>True) 151 [.ptr 0 2 0 0] (by simp) (by simp) (fun (_:Unit) l=>decide ((l.length:Int)=b.rows)&&D9 l 0) (fun _ _=>()) plan (by omega) (by simp[AC,AJ,AM,AL]) (by
    intro t γ ht;obtain⟨up,loc⟩:=t;have h0:¬0=up.length:=by simp at ht;omega
    simp[h0]) 1 (by
    intro n c1 fr s l hc hs hx;refine⟨fun h=>trivial,c1,Nat.le_refl _,?_⟩;simp only[bb,bz];rw[A3 Tryz.func151 b151 rfl (by simp)];by_cases hl:(l.length:Int)=b.rows
    ·have q:=fun n=>AFD n 100 145 (fun x=>HQ x 0 3) l (by omega) (fun n x _=>QV n x);change ∀n,_=some (V.bool (D9 l 0))at q;simp only[Nat.add_assoc,Nat.reduceAdd]at q;simp[AN3,AD,AC,AJ,AM,AL,hl,q]
    ·simp[AN3,AD,AC,AJ,AM,AL,hl]) 14 [(13,true,.fn 151 [] [.ptr 0 2 0 0]),(12,true,JA plan),(11,true,.bool true),(10,true,.bool true),(9,true,i (b.last+1)),(8,true,i b.last),(7,true,.ptr 0 2 0 0),(6,true,i (b.last+1)),(5,true,JA plan),(1,true,JA plan),(2,true,.ptr 0 2 0 0)] () trivial
  rw[FN]at q;have hn:=KO (fun l:List Int=>decide ((l.length:Int)=b.rows)&&D9 l 0) plan;have e:n+197+500+300=n+997:=by omega
  rw[e]at q;simp only[hn]at q;generalize plan.all (fun l=>decide ((l.length:Int)=b.rows)&&D9 l 0)=z at q|-;simp only[AC]at q|-;simp[AN2,AD,hwl,hlen,q]
 ·simp[AN2,AD,AC,hwl,hlen]
theorem yL(n:Nat)(w:Int)(h0:0<=w)(h1:w<=100):A8 bf kn (AF bf ann kn (n+100)) 194 [i w]=some (i ((w+2) % 4)):=by rw[AP rfl,AQ Tryz.func194 A99 rfl rfl];have hw:IntKind.i64.wrap (w+2)=w+2:=AZ (by omega) (by omega);have hm:(w+2).tmod 4=(w+2) % 4:=Int.tmod_eq_emod_of_nonneg (by omega);simp[AZK,AD,hw,hm]
set_option maxHeartbeats 1000000 in
theorem AJ5(n:Nat)(b:AN)(hb:∀k∈b.breaks,0<=k.1/\k.1<=100/\0<=k.2/\k.2<=100)(hl:b.breaks.length<=40)(s:Int×Int)(hs:0<=s.1/\s.1<=100/\0<=s.2/\s.2<=100)(w:Int)(hw:0<=w/\w<=3) :
  A8 bf kn (AF bf ann kn (n+600)) 195 [.agg (AC b),.agg (AL s),i w]=some (.bool (eK b s w)):=by
 rw[AP rfl,AQ Tryz.func195 BAA rfl (by simp[AC,AJ,AM,AL])]
 obtain⟨c',h1,q⟩:=AND (n+197) 200 (fun _=>[]) (fun _=>[(3,0,.box (AC b)),(4,1,.box (AL s)),(5,2,.box [i w])]) (fun _=>True) 199 [.ptr 0 5 2 0,.ptr 0 4 1 0,.ptr 0 3 0 0] (by simp) (by simp) (fun (_:Unit) k=>HQ (AHO s k w) 1 b.reach) (fun _ _=>()) b.breaks 0 (by
   intro n c1 fr u k hc _ hk;obtain⟨hk1,hk2,hk3,hk4⟩:=hb k hk;obtain⟨hs1,hs2,hs3,hs4⟩:=hs;refine⟨fun _=>trivial,c1+1,by omega,?_⟩;have q:=fun n x=>KP n x 1 b.reach;have w1:IntKind.i64.wrap (s.1-k.1)=s.1-k.1:=AZ (by omega) (by omega);have w2:IntKind.i64.wrap (k.1-s.1)=k.1-s.1:=AZ (by omega) (by omega);have w3:IntKind.i64.wrap (s.2-k.2)=s.2-k.2:=AZ (by omega) (by omega);have w4:IntKind.i64.wrap (k.2-s.2)=k.2-s.2:=AZ (by omega) (by omega);simp only[bb,bz];rw[A3 Tryz.func199 b199 rfl (by simp)];unfold AHO;have hw4:w=0\/w=1\/w=2\/w=3:=by omega
   rcases hw4 with rfl|rfl|rfl|rfl
   ·by_cases h:k.2=s.2<;>simp[AAJ,AD,AC,AJ,AM,AL,h,q,w1,w2,w3,w4]
   ·by_cases h:k.1=s.1<;>simp[AAJ,AD,AC,AJ,AM,AL,h,q,w1,w2,w3,w4]
   ·by_cases h:k.2=s.2<;>simp[AAJ,AD,AC,AJ,AM,AL,h,q,w1,w2,w3,w4]
   ·by_cases h:k.1=s.1 <;> simp[AAJ,AD,AC,AJ,AM,AL,h,q,w1,w2,w3,w4]) hl (by simp[AC,AJ,AM,AL]) 3 10 [(9,true,.fn 199 [] [.ptr 0 5 2 0,.ptr 0 4 1 0,.ptr 0 3 0 0]),(8,true,.list false (b.breaks.map AL)),(7,true,.ptr 0 3 0 7),(3,true,.ptr 0 3 0 0),(4,true,.ptr 0 4 1 0),(5,true,.ptr 0 5 2 0)] () (Nat.zero_le _) trivial
 rw[FN]at q
 have e:n+197+200+200=n+597:=by omega
 rw[e]at q
 unfold eK
 generalize b.breaks.any (fun k=>HQ (AHO s k w) 1 b.reach)=z at q|-
 simp only[AC,AL]at q|-
 simp[AZL,AD,q]
theorem Valid.br'{b:AN}(hb:Valid b):∀k∈b.breaks,0<=k.1/\k.1<=100/\0<=k.2/\k.2<=100:=fun k hk=>by have:=List.all_eq_true.1 hb.bo k hk;simp only[FG,bj,EH]at this;have:=hb.ro;have:=hb.pl;omega
theorem A6B(n:Nat)(b:AN)(hb:Valid b)(s:Int×Int)(hs:0<=s.1/\s.1<=100/\0<=s.2/\s.2<=100)(f w:Int)(hw:0<=w/\w<=3) :
  A8 bf kn (AF bf ann kn (n+800)) 184 [.agg (AC b),.agg (AL s),i f,i w]=some (.bool (XZ b s f w)):=by
 rw[AP rfl,AQ Tryz.func184 BAB rfl (by simp[AC,AJ,AM,AL])]
 have q1:=fun n=>yL n w hw.1 (by omega)
 have q2:=fun n=>AJ5 n b (Valid.br' hb) (by have:=hb.br;omega) s hs w hw
 unfold XZ
 simp only[AC,AL]at q2|-
 by_cases h:f=(w+2) % 4<;>simp[AZM,AD,AJ,AM,AL,q1,q2,h]
def VF(h:vL):List V:=[i h.sun,i h.calm,i h.good]
def zA(b:AN)(s:Int×Int)(h:Nat)(f w:Int):vL :=
 let lit:=decide (b.sun.getD h 0=f)
 let calm:=XZ b s f w
 ⟨if lit=true then 1 else 0,if calm=true then 1 else 0,if (lit&&calm)=true then 1 else 0⟩
theorem kOf(n:Nat)(b:AN)(hb:Valid b)(s:Int×Int)(hs:0<=s.1/\s.1<=100/\0<=s.2/\s.2<=100)(h:Nat)(hh:h<b.sun.length)(f w:Int)(hw:0<=w/\w<=3) :
  A8 bf kn (AF bf ann kn (n+1000)) 153 [.agg (AC b),.agg (AL s),i h,i f,i w]=some (.agg (VF (zA b s h f w))):=by
 rw[AP rfl,AQ Tryz.func153 BAC rfl (by simp[AC,AJ,AM,AL])]
 have q2:=fun n=>A6B n b hb s hs f w hw
 unfold zA
 have hx:b.sun.getD h 0=b.sun[h]:=by rw[bk,bx hh];rfl
 rw[hx]
 simp only[AC,AL]at q2|-
 generalize XZ b s f w=z at q2|-
 generalize e1:decide (b.sun[h]=f)=z1
 have w0:IntKind.i64.wrap 0=0:=by decide
 have w1:IntKind.i64.wrap 1=1:=by decide
 cases z1<;>cases z<;>simp[AZN,AD,AJ,AM,AL,VF,q2,hh,e1,w0,w1]
def MZ(n:Int):Prop:=-9223372036854775808<=n/\n<9223372036854775808
theorem wfI{n:Int}(h:MZ n):(Lit.int .i64 n).wf=true:=by obtain⟨h1,h2⟩:=h;simp only[Lit.wf,bj,decide_eq_true_eq];exact⟨h1,by have:IntKind.i64.max=9223372036854775807:=rfl;omega⟩
structure okB(b:AN):Prop where
 la:MZ b.last
 ro:MZ b.rows
 pl:MZ b.places
 re:MZ b.reach
 fa:∀n∈b.face,MZ n
 su:∀n∈b.sun,MZ n
 wi:∀l∈b.winds,∀n∈l,MZ n
 br:∀p∈b.breaks,MZ p.1/\MZ p.2
 no:∀p∈b.notes,MZ p.1/\MZ p.2
end Go.Proofs.Tryz.Op
namespace Go.Wind
def HM(t out:List Int):List (Int×Int)->Nat->Bool
 |[],_=>true
 |x::r,k=>(decide ((k:Int)∈out)||JT t x)&&HM t out r (k+1)
theorem WA(t:List Int):∀(l:List (Int×Int)) (k:Nat),HM t [] l k=l.all (JT t)
 |[],_=>rfl
 |x::r,k=>by simp[HM,WA t r]
end Go.Wind
namespace Go.Proofs.Tryz.Op
theorem AFG(l:List Int)(x:Int)(hl:l.length<=1000):∀(d k:Nat),k+d=l.length->∃(j:Int) (fr:Fr),0<=j/\∀n m,d<m->BM (AF bf ann kn (n+100) 19) RK (ann 19 (B0 RK)) m ⟨0,[(0,true,li l),(1,true,i x),(7,true,i l.length),(8,true,i k)],⟨[],[]⟩⟩ =
  if x∈l.drop k then some (.ret,⟨0,[(4,true,i j),(17,true,i j),(5,true,i j)],⟨[],[]⟩⟩) else some (.exit 0,⟨0,fr,⟨[],[]⟩⟩)
 |0,k,hk=>by
  have:k=l.length:=by omega
  subst this;refine⟨0,?fr,by omega,fun n m hm=>?_⟩;rotate_left
  ·obtain⟨m,rfl⟩:=qNz m (by omega);rw[List.drop_length,if_neg (by simp),AB];simp;rfl
 |d+1,k,hk=>by
  have hk':k<l.length:=by omega
  have hw:=B5 (k:=k) (by omega);obtain⟨j,fr,hj,ih⟩:=AFG l x hl d (k+1) (by omega);rw[bw hk'];by_cases h:x=l[k]
  ·refine⟨k,[],by omega,fun n m hm=>?_⟩;obtain⟨m,rfl⟩:=qNz m (by omega);rw[if_pos (bc.2 (.inl h)),AB];simp[hk',hw,AJ,h]
  ·refine⟨j,fr,hj,fun n m hm=>?_⟩;obtain⟨m,rfl⟩:=qNz m (by omega);have ih:=ih n m (by omega);have e:(x∈l[k]::l.drop (k+1))=(x∈l.drop (k+1)):=propext ⟨fun hh=>(bc.1 hh).resolve_left h,fun hh=>bc.2 (.inr hh)⟩;rw[AB];simp only[e];simp at ih;simp[hk',hw,AJ,h,ih]
theorem VG(n:Nat)(l:List Int)(x:Int)(hl:l.length<=1000):A8 bf kn (AF bf ann kn (n+1300)) 132 [li l,i x]=some (.bool (decide (x∈l))):=by
 have q:∃j:Int,(0<=j↔x∈l)/\∀n,A8 bf kn (AF bf ann kn (n+1200)) 170 [li l,i x]=some (i j):=by
  obtain⟨j,fr,hj,q⟩:=AFG l x hl l.length 0 (by omega);have q:=fun n m=>q n (m+1100) (by omega);rw[List.drop_zero]at q;by_cases h:x∈l
  ·refine⟨j,by simp[h,hj],fun n=>?_⟩;rw[AP rfl,AQ Tryz.func170 AZP rfl (by simp[AJ])];rw[if_pos h]at q;simp at q;simp[AN4,AD,q,h]
  ·refine⟨-1,by simp[h],fun n=>?_⟩;rw[AP rfl,AQ Tryz.func170 AZP rfl (by simp[AJ])];rw[if_neg h]at q;simp at q;simp[AN4,AD,q,h]
 obtain⟨j,hj,q⟩:=q;rw[AP rfl,AQ Tryz.func132 BAE rfl (by simp[AJ])];simp[AZQ,AD,AJ,q,hj]
theorem yM{t:List Int}{ws:List (List Int)}(h:¬t.length=ws.length):A6 t ws=false:=by
 cases e:A6 t ws with
 |false=>rfl
 |true=>exact absurd (DE e) h
theorem AFH(b:AN)(t out:List Int)(hn:∀x∈b.notes,0<=x.1/\x.1<t.length)(hl:b.notes.length<=100)(ho:out.length<=100):∀(d k:Nat) (c:Nat),k+d=b.notes.length->∃(fr:Fr) (c':Nat),∀n m,d<m->BM (AF bf ann kn (n+1400) 32) RL (ann 32 (B0 RL)) m ⟨c,[(1,true,li t),(2,true,li out),(10,true,.list false (b.notes.map AL)),(11,true,i b.notes.length),(12,true,i k)],⟨[],[(3,0,.box (AC b))]⟩⟩ =
  if HM t out (b.notes.drop k) k=true then some (.exit 0,⟨c',fr,⟨[],[(3,0,.box (AC b))]⟩⟩) else some (.ret,⟨c',[(6,true,.bool false)],⟨[],[]⟩⟩)
 |0,k,c,hk=>by
  have:k=b.notes.length:=by omega
  subst this;refine⟨?fr,c,fun n m hm=>?_⟩;rotate_left
  ·obtain⟨m,rfl⟩:=qNz m (by omega);rw[List.drop_length,AB];simp[HM,AC];rfl
 |d+1,k,c,hk=>by
  have hk':k<b.notes.length:=by omega
  have hw:=B5 (k:=k) (by omega);obtain⟨fr,c',ih⟩:=AFH b t out hn hl ho d (k+1) (c+1) (by omega);have q:=fun n=>VG n out k (by omega);obtain⟨h0,h1⟩:=hn _ (List.getElem_mem hk');rw[bw hk'];have ha:atI t b.notes[k].1=t[b.notes[k].1.toNat]:=by unfold atI;rw[bk,bx (by omega)];rfl
  have hr:JT t b.notes[k]=decide (t[b.notes[k].1.toNat]=b.notes[k].2):=by unfold JT;rw[ha]
  simp only[HM,hr];have h1':b.notes[k].1.toNat<t.length:=by omega
  by_cases h:(k:Int)∈out
  ·simp only[h,decide_true,Bool.true_or,Bool.true_and]at q|-;refine⟨fr,c',fun n m hm=>?_⟩;obtain⟨m,rfl⟩:=qNz m (by omega);have ih:=ih n m (by omega);rw[AB];simp only[AC]at ih|-;simp at ih;simp[hk',hw,AJ,AM,AL,DV,q,ih]
  ·by_cases h2:t[b.notes[k].1.toNat]=b.notes[k].2
   ·simp only[h,h2,decide_true,decide_false,Bool.false_or,Bool.true_and]at q|-;refine⟨fr,c',fun n m hm=>?_⟩;obtain⟨m,rfl⟩:=qNz m (by omega);have ih:=ih n m (by omega);rw[AB];simp only[AC]at ih|-;simp at ih;simp[hk',hw,AJ,AM,AL,DV,q,h0,h1,h1',h2,ih]
   ·simp only[h,h2,decide_false,Bool.false_or,Bool.false_and]at q|-;refine⟨[],c+1,fun n m hm=>?_⟩;obtain⟨m,rfl⟩:=qNz m (by omega);rw[AB];simp[AC,hk',hw,AJ,AM,AL,DV,q,h0,h1,h1',h2]
theorem AS8(n:Nat)(b:AN)(t out:List Int)(hn:∀x∈b.notes,0<=x.1/\x.1<t.length)(hl:b.notes.length<=100)(ho:out.length<=100):A8 bf kn (AF bf ann kn (n+1600)) 164 [.agg (AC b),li t,li out]=some (.bool (HM t out b.notes 0)):=by rw[AP rfl,AQ Tryz.func164 BAF rfl (by simp[AC,AJ,AM,AL])];obtain⟨fr,c',q⟩:=AFH b t out hn hl ho b.notes.length 0 1 (by omega);have q:=fun n m=>q n (m+200) (by omega);rw[List.drop_zero]at q;generalize HM t out b.notes 0=z at q|-;simp only[AC]at q|-;cases z<;>(simp at q;simp[AZR,AD,q])
theorem Valid.notes'{b:AN}(hb:Valid b){t:List Int}(ht:t.length=b.winds.length):∀x∈b.notes,0<=x.1/\x.1<t.length:=fun x hx=>by have:=List.all_eq_true.1 hb.nok x hx;simp only[IY,bj,EH]at this;have:=hb.wi;omega
end Go.Proofs.Tryz.Op
