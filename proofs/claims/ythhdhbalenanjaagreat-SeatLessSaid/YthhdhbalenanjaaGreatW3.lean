/- Contracts: within, direction, sun, winds, hour, spot, note. No condition. -/
import Derived.Test.YthhdhbalenanjaaGreatW2
open Go.Proofs.Tryz renaming prog->bg
open Bool renaming and_eq_true->bj
open List renaming getD_eq_getElem?_getD->bk,all_cons->bq,drop_eq_getElem_cons->bw,getElem?_eq_getElem->bx,cons_append->bz,nil_append->bc,mem_cons->bf
set_option maxRecDepth 100000
set_option linter.unusedSimpArgs false
open Go Go.Pg Go.Proofs Go.Wind
namespace Go.Wind
theorem fI{σ α:Type}(p:σ->α->Bool)(nx:σ->α->σ):∀(l:List α) (s:σ) (h:List σ),(BR (fun (s:σ×List σ) x=>p s.1 x) (fun s x=>(nx s.1 x,s.1::s.2)) (s,h) l).1=(BR p nx s l).1
 |[],_,_=>rfl
 |x::l,s,h=>by
  simp only[BR];cases p s x with
  |true=>rfl
  |false=>exact fI p nx l (nx s x) (s::h)
theorem wL:∀(l:List Int) (s:Int),(BR (fun s x=>!IJ x (s+1) 3) (fun _ x=>x) s l).1=!((match l with|[]=>true|x::_=>decide (s<x))&&(l.all (fun n=>decide (n<=3))&&KM l))
 |[],s=>rfl
 |[x],s=>by
  simp only[BR,IJ,KM,bq,List.all_nil];have e:decide (s+1<=x)=decide (s<x):=by congr 1
  rw[e];cases decide (s<x)<;>cases decide (x<=3)<;>rfl
 |x::y::l,s=>by
  have ih:=wL (y::l) x;have e:decide (s+1<=x)=decide (s<x):=by congr 1
  rw[BR];cases h:IJ x (s+1) 3 with
  |false=>
   unfold IJ at h
   rw[e]at h
   simp only[Bool.not_false,cond_true,KM,bq]
   revert h
   generalize List.all l (fun n=>decide (n<=3))=a
   generalize KM (y::l)=b
   cases decide (s<x)<;>cases decide (x<=3)<;>cases decide (x<y)<;>cases decide (y<=3)<;>cases a<;>cases b<;>simp
  |true=>
  unfold IJ at h;rw[e]at h;simp only[Bool.not_true,cond_false,ih,KM,bq];revert h;generalize List.all l (fun n=>decide (n<=3))=a;generalize KM (y::l)=b;cases decide (s<x)<;>cases decide (x<=3)<;>cases decide (x<y)<;>cases decide (y<=3)<;>cases a<;>cases b<;>simp
theorem wN:∀(l:List Int) (s:Int),(match l with|[]=>true|x::_=>decide (s<x))=true->KM l=true->l.all (fun n=>decide (s<n))=true
 |[],_,_,_=>rfl
 |[x],s,h,_=>by simpa using h
 |x::y::l,s,h,h2=>by simp only[KM,bj,decide_eq_true_eq]at h h2;have:=wN (y::l) s (by simp;omega) h2.2;rw[bq,this];simp[h]
theorem AAM(l:List Int):(!(BR (fun s x=>!IJ x (s+1) 3) (fun _ x=>x) (-1) l).1)=(EO l 0&&KM l):=by
 rw[wL,Bool.not_not];have hd:EO l 0=(l.all (fun n=>decide (-1<n))&&l.all (fun n=>decide (n<=3))):=by
  unfold EO IJ;induction l with
  |nil=>rfl
  |cons x l ih=>
   simp only[bq,ih]
   have e:decide ((0:Int)<=x)=decide (-1<x):=by congr 1
   rw[e]
   cases decide (-1<x)<;>cases decide (x<=3)<;>simp
 rw[hd];cases h:KM l with
 |false=>simp
 |true=>
  cases h2:(match l with|[]=>true|x::_=>decide (-1<x))with
  |true=>rw[wN l (-1) h2 h];simp
  |false=>
   cases l with
   |nil=>cases h2
   |cons x l=>simp only at h2;simp[h2]
end Go.Wind
namespace Go.Proofs.Tryz.Op
theorem LM(n:Nat)(x lo hi:Int):BA bg kn (AF bg ann kn (n+50)) 143 [i x,i lo,i hi]=some (.bool (IJ x lo hi)):=by rw[AR rfl,AS Tryz.func143 BBX rfl rfl];unfold IJ;generalize e1:decide (lo<=x)=b1;simp[e1,A0X,AD];cases b1<;>simp
theorem RO(n:Nat)(x:Int):BA bg kn (AF bg ann kn (n+100)) 145 [i x]=some (.bool (IJ x 0 3)):=by rw[AR rfl,AS Tryz.func145 BBY rfl rfl];have q:=fun n=>LM n x 0 3;simp[A0Y,AD,q]
theorem BF1(n:Nat)(x:Int):BA bg kn (AF bg ann kn (n+100)) 146 [i x]=some (.bool (IJ x (-1) 3)):=by rw[AR rfl,AS Tryz.func146 BBZ rfl rfl];have q:=fun n=>LM n x (-1) 3;simp[A0Z,AD,q]
def oF(s:Int×List Int):AA:=(3,0,.box [i s.1])::s.2.map fun x=>(3,0,.box [i x])
theorem fJ(t:St)(s:Int×List Int):AJ t (oF s)=oF s:=by
 unfold oF;rw[A4];have:∀h:List Int,AJ t (h.map fun x=>(3,0,AX.box [i x]))=h.map fun x=>(3,0,AX.box [i x]):=by
  intro h;induction h with
  |nil=>rfl
  |cons x h ih=>rw[List.map_cons,A4,ih];simp
 rw[this];simp
theorem AG0(s:Int×List Int):AA.get (oF s) 3=some (0,.box [i s.1]):=rfl
theorem AG1(s:Int×List Int)(x:Int):AA.put (oF s) 3 0 (.box [i x])=oF (x,s.1::s.2):=rfl
theorem AUT(n:Nat)(l:List Int)(hl:l.length<=40):BA bg kn (AF bg ann kn (n+600)) 148 [li l]=some (.bool (GK l)):=by
 rw[AR rfl,AS Tryz.func148 BB0 rfl (by simp[AH])];obtain⟨c',h1,q⟩:=AUR (n+196) 100 0 (fun _=>[]) oF (by simp) (fun s=>-1<=s.1/\s.1<=3) 179 [.ptr 0 3 0 0] (by simp) (by simp) (fun s x=>IJ x (s.1+1) 3) (fun s x=>(x,s.1 :: s.2)) l hl (by simp[fJ]) (by
   intro t γ ht;obtain⟨up,loc⟩:=t;have h0:¬0=up.length:=by simp at ht;omega
   simp[h0]) 1 (by
   intro n c1 fr s x hc hs hx;refine⟨fun h=>?_,c1,Nat.le_refl _,?_⟩
   ·have:=D7.1 h;omega
   ·have q:=fun n=>LM n x (s.1+1) 3;have hw:IntKind.i64.wrap (s.1+1)=s.1+1:=AY (by omega) (by omega);simp only[bc,bz];rw[A5 Tryz.func179 b179 rfl (by simp)];have hc':0<c1:=by omega
    simp[A00,AD,q,hw,hc',AG0,AG1,fJ]) 10 [(9,true,.fn 179 [] [.ptr 0 3 0 0]),(8,true,li l),(7,true,.bool (decide (0<(l.length:Int)))),(6,true,.bool (decide (0<(l.length:Int)))),(5,true,i l.length),(4,true,li l),(0,true,li l),(3,true,.ptr 0 3 0 0)] (-1,[]) (by simp)
 rw[fI (fun s x=>!IJ x (s+1) 3) (fun _ x=>x),AAM]at q;have e:n+196+100+300=n+596:=by omega
 rw[e]at q;unfold GK;cases l with
 |nil=>simp[APM,AD]
 |cons x l=>
  have hp:(0:Int)<((x::l).length:Int):=by simp
  simp only[hp,decide_true]at q
  generalize BR (fun (s:Int×List Int) x=>!IJ x (s.1+1) 3) _ (-1,[]) (x::l)=A at q
  have he:(x::l).isEmpty=false:=rfl
  rw[he]
  have hp2:0<(x::l).length:=by simp
  generalize x::l=L at *
  simp[oF]at q
  simp[APM,AD,hp2,q]
theorem A75(n:Nat)(b:AN)(x:Int):BA bg kn (AF bg ann kn (n+100)) 174 [.agg (AC b),i x]=some (.bool (IJ x 0 b.last)):=by rw[AR rfl,AS Tryz.func174 BB1 rfl (by simp[AC,AH,AM,AL])];have q:=fun n=>LM n x 0 b.last;simp[A01,AD,AC,q]
theorem A76(n:Nat)(b:AN)(s:Int×Int)(h1:0<=b.rows/\b.rows<=1000)(h2:0<=b.places/\b.places<=1000):BA bg kn (AF bg ann kn (n+100)) 141 [.agg (AC b),.agg (AL s)]=some (.bool (F7 b s)):=by rw[AR rfl,AS Tryz.func141 BB2 rfl (by simp[AC,AH,AM,AL])];have w1:IntKind.i64.wrap (b.rows-1)=b.rows-1:=AY (by omega) (by omega);have w2:IntKind.i64.wrap (b.places-1)=b.places-1:=AY (by omega) (by omega);have q1:=fun n=>LM n s.1 0 (b.rows-1);have q2:=fun n=>LM n s.2 0 (b.places-1);unfold F7;generalize IJ s.1 0 (b.rows-1)=z at q1|-;cases z<;>simp[A02,AD,AC,AL,q1,q2,w1,w2]
theorem A77(n:Nat)(b:AN)(x:Int×Int):BA bg kn (AF bg ann kn (n+200)) 142 [.agg (AC b),.agg (AL x)]=some (.bool (JR b x)):=by rw[AR rfl,AS Tryz.func142 BB3 rfl (by simp[AC,AH,AM,AL])];have q1:=fun n=>A75 n b x.1;have q2:=fun n=>RO n x.2;unfold JR;generalize IJ x.1 0 b.last=z at q1|-;simp only[AC]at q1|-;cases z<;>simp[A03,AD,AH,AM,AL,q1,q2]
set_option maxHeartbeats 2000000 in
theorem iZ(n:Nat)(b:AN)(h40:∀l∈b.winds,l.length<=40):BA bg kn (AF bg ann kn (n+1500)) 110 [.agg (AC b)]=some (i (DZ b)):=by
 rw[AR rfl,AS Tryz.func110 BB6 rfl (by simp[AC,AH,AM,AL])];unfold DZ;by_cases g1:(decide (4<b.last)||decide (3<b.rows)||decide (5<b.places)||decide (4<b.breaks.length)||decide (5<b.notes.length))=true
 ·rw[if_pos g1];have e4:decide ((4:Int)<(b.breaks.length:Int))=decide (4<b.breaks.length):=by congr 1;exact propext (by omega)
  have e5:decide ((5:Int)<(b.notes.length:Int))=decide (5<b.notes.length):=by congr 1;exact propext (by omega)
  generalize h1:decide (4<b.last)=z1 at g1;generalize h2:decide (3<b.rows)=z2 at g1;generalize h3:decide (5<b.places)=z3 at g1;generalize h4:decide (4<b.breaks.length)=z4 at g1 e4;generalize h5:decide (5<b.notes.length)=z5 at g1 e5;cases z1
  ·cases z2
   ·cases z3
    ·cases z4
     ·cases z5
      ·cases g1
      ·simp[N5,AD,AC,AH,AM,AL,h1,h2,h3,e4,e5]
     ·simp[N5,AD,AC,AH,AM,AL,h1,h2,h3,e4]
    ·simp[N5,AD,AC,AH,AM,AL,h1,h2,h3]
   ·simp[N5,AD,AC,AH,AM,AL,h1,h2]
  ·simp[N5,AD,AC,AH,AM,AL,h1]
 ·rw[if_neg g1];simp only[Bool.or_eq_true,decide_eq_true_eq,not_or]at g1;obtain⟨⟨⟨⟨g1,g2⟩,g3⟩,g4⟩,g5⟩:=g1;have e4:¬((4:Int)<(b.breaks.length:Int)):=by omega
  have e5:¬((5:Int)<(b.notes.length:Int)):=by omega
  by_cases a1:b.last<0
  ·simp[N5,AD,AC,AH,AM,AL,g1,g2,g3,e4,e5,a1]
  by_cases a2:b.rows<1
  ·simp[N5,AD,AC,AH,AM,AL,g1,g2,g3,e4,e5,a1,a2]
  by_cases a3:b.places<1
  ·simp[N5,AD,AC,AH,AM,AL,g1,g2,g3,e4,e5,a1,a2,a3]
  have qr:=fun n=>LM n b.reach 0 4;have hwl:IntKind.i64.wrap (b.last+1)=b.last+1:=AY (by omega) (by omega);cases a4:IJ b.reach 0 4 with
  |false=>
   rw[a4]at qr
   simp[N5,AD,AC,AH,AM,AL,g1,g2,g3,e4,e5,a1,a2,a3,qr]
  |true=>
  rw[a4]at qr;by_cases a5:(b.face.length:Int)=b.rows
  ·by_cases a6:(b.sun.length:Int)=b.last+1
   ·by_cases a7:(b.winds.length:Int)=b.last+1
    ·have qf:=fun n=>AGZ n 100 145 (fun x=>IJ x 0 3) b.face (by omega) (fun n x _=>RO n x);have qs:=fun n=>AGZ n 100 146 (fun x=>IJ x (-1) 3) b.sun (by omega) (fun n x _=>BF1 n x);have qw:=fun n=>A71 n 600 148 GK b.winds (by omega) (fun n x hx=>AUT n x (h40 x hx));have qb:=fun n=>A72 n 100 b 141 (F7 b) b.breaks (by omega) (fun n x _=>A76 n b x (by omega) (by omega));have qn:=fun n=>A74 n 200 b 142 (JR b) b.notes (by omega) (fun n x _=>A77 n b x);change ∀n,_=some (V.bool (EO b.face 0))at qf;change ∀n,_=some (V.bool (EO b.sun (-1)))at qs;simp only[Nat.add_assoc,Nat.reduceAdd,AC]at qf qs qw qb qn|-;generalize EO b.face 0=z1 at qf|-;generalize EO b.sun (-1)=z2 at qs|-;generalize b.winds.all GK=z3 at qw|-;generalize b.breaks.all (F7 b)=z4 at qb|-;generalize b.notes.all (JR b)=z5 at qn|-;have a5':=a5;cases z1 with
     |false=>simp[N5,AD,AH,AM,AL,g1,g2,g3,e4,e5,a1,a2,a3,qr,a5,a6,a7,hwl,qf]
     |true=>
     cases z2 with
     |false=>simp[N5,AD,AH,AM,AL,g1,g2,g3,e4,e5,a1,a2,a3,qr,a5,a6,a7,hwl,qf,qs]
     |true=>
     cases z3 with
     |false=>simp[N5,AD,AH,AM,AL,g1,g2,g3,e4,e5,a1,a2,a3,qr,a5,a6,a7,hwl,qf,qs,qw]
     |true=>
     cases z4 with
     |false=>simp[N5,AD,AH,AM,AL,g1,g2,g3,e4,e5,a1,a2,a3,qr,a5,a6,a7,hwl,qf,qs,qw,qb]
     |true=>
     cases z5<;>simp[N5,AD,AH,AM,AL,g1,g2,g3,e4,e5,a1,a2,a3,qr,a5,a6,a7,hwl,qf,qs,qw,qb,qn]
    ·simp[N5,AD,AC,AH,AM,AL,g1,g2,g3,e4,e5,a1,a2,a3,qr,a5,a6,a7,hwl]
   ·simp[N5,AD,AC,AH,AM,AL,g1,g2,g3,e4,e5,a1,a2,a3,qr,a5,a6,hwl]
  ·simp[N5,AD,AC,AH,AM,AL,g1,g2,g3,e4,e5,a1,a2,a3,qr,a5]
theorem ALU(n:Nat)(b:AN)(hb:Valid b)(plan:List (List Int)):BA bg kn (AF bg ann kn (n+1000)) 111 [.agg (AC b),KC plan]=some (.bool (EP b plan)):=by
 rw[AR rfl,AS Tryz.func111 BB7 rfl (by simp[AC,AH,AM,AL])];have hla:=hb.la;have hro:=hb.ro;have hwl:IntKind.i64.wrap (b.last+1)=b.last+1:=AY (by omega) (by omega);unfold EP;by_cases hlen:(plan.length:Int)=b.last+1
 ·obtain⟨c',h1,q⟩:=AUS (n+197) 500 0 (fun _=>[]) (fun _=>[(2,0,.box (AC b))]) (by simp) (fun _=>True) 151 [.ptr 0 2 0 0] (by simp) (by simp) (fun (_:Unit) l=>decide ((l.length:Int)=b.rows)&&EO l 0) (fun _ _=>()) plan (by omega) (by simp[AC,AH,AM,AL]) (by
    intro t γ ht;obtain⟨up,loc⟩:=t;have h0:¬0=up.length:=by simp at ht;omega
    simp[h0]) 1 (by
    intro n c1 fr s l hc hs hx;refine⟨fun h=>trivial,c1,Nat.le_refl _,?_⟩;simp only[bc,bz];rw[A5 Tryz.func151 b151 rfl (by simp)];by_cases hl:(l.length:Int)=b.rows
    ·have q:=fun n=>AGZ n 100 145 (fun x=>IJ x 0 3) l (by omega) (fun n x _=>RO n x);change ∀n,_=some (V.bool (EO l 0))at q;simp only[Nat.add_assoc,Nat.reduceAdd]at q;simp[APQ,AD,AC,AH,AM,AL,hl,q]
    ·simp[APQ,AD,AC,AH,AM,AL,hl]) 14 [(13,true,.fn 151 [] [.ptr 0 2 0 0]),(12,true,KC plan),(11,true,.bool true),(10,true,.bool true),(9,true,i (b.last+1)),(8,true,i b.last),(7,true,.ptr 0 2 0 0),(6,true,i (b.last+1)),(5,true,KC plan),(1,true,KC plan),(2,true,.ptr 0 2 0 0)] () trivial
  rw[GF]at q;have hn:=LL (fun l:List Int=>decide ((l.length:Int)=b.rows)&&EO l 0) plan;have e:n+197+500+300=n+997:=by omega
  rw[e]at q;simp only[hn]at q;generalize plan.all (fun l=>decide ((l.length:Int)=b.rows)&&EO l 0)=z at q|-;simp only[AC]at q|-;simp[APP,AD,hwl,hlen,q]
 ·simp[APP,AD,AC,hwl,hlen]
theorem AAN(n:Nat)(w:Int)(h0:0<=w)(h1:w<=100):BA bg kn (AF bg ann kn (n+100)) 194 [i w]=some (i ((w+2) % 4)):=by rw[AR rfl,AS Tryz.func194 BB8 rfl rfl];have hw:IntKind.i64.wrap (w+2)=w+2:=AY (by omega) (by omega);have hm:(w+2).tmod 4=(w+2) % 4:=Int.tmod_eq_emod_of_nonneg (by omega);simp[A1A,AD,hw,hm]
set_option maxHeartbeats 1000000 in
theorem ALV(n:Nat)(b:AN)(hb:∀k∈b.breaks,0<=k.1/\k.1<=100/\0<=k.2/\k.2<=100)(hl:b.breaks.length<=40)(s:Int×Int)(hs:0<=s.1/\s.1<=100/\0<=s.2/\s.2<=100)(w:Int)(hw:0<=w/\w<=3) :
  BA bg kn (AF bg ann kn (n+600)) 195 [.agg (AC b),.agg (AL s),i w]=some (.bool (gG b s w)):=by
 rw[AR rfl,AS Tryz.func195 BB9 rfl (by simp[AC,AH,AM,AL])]
 obtain⟨c',h1,q⟩:=AO1 (n+197) 200 (fun _=>[]) (fun _=>[(3,0,.box (AC b)),(4,1,.box (AL s)),(5,2,.box [i w])]) (fun _=>True) 199 [.ptr 0 5 2 0,.ptr 0 4 1 0,.ptr 0 3 0 0] (by simp) (by simp) (fun (_:Unit) k=>IJ (AJF s k w) 1 b.reach) (fun _ _=>()) b.breaks 0 (by
   intro n c1 fr u k hc _ hk;obtain⟨hk1,hk2,hk3,hk4⟩:=hb k hk;obtain⟨hs1,hs2,hs3,hs4⟩:=hs;refine⟨fun _=>trivial,c1+1,by omega,?_⟩;have q:=fun n x=>LM n x 1 b.reach;have w1:IntKind.i64.wrap (s.1-k.1)=s.1-k.1:=AY (by omega) (by omega);have w2:IntKind.i64.wrap (k.1-s.1)=k.1-s.1:=AY (by omega) (by omega);have w3:IntKind.i64.wrap (s.2-k.2)=s.2-k.2:=AY (by omega) (by omega);have w4:IntKind.i64.wrap (k.2-s.2)=k.2-s.2:=AY (by omega) (by omega);simp only[bc,bz];rw[A5 Tryz.func199 b199 rfl (by simp)];unfold AJF;have hw4:w=0\/w=1\/w=2\/w=3:=by omega
   rcases hw4 with rfl|rfl|rfl|rfl
   ·by_cases h:k.2=s.2<;>simp[AB5,AD,AC,AH,AM,AL,h,q,w1,w2,w3,w4]
   ·by_cases h:k.1=s.1<;>simp[AB5,AD,AC,AH,AM,AL,h,q,w1,w2,w3,w4]
   ·by_cases h:k.2=s.2<;>simp[AB5,AD,AC,AH,AM,AL,h,q,w1,w2,w3,w4]
   ·by_cases h:k.1=s.1 <;> simp[AB5,AD,AC,AH,AM,AL,h,q,w1,w2,w3,w4]) hl (by simp[AC,AH,AM,AL]) 3 10 [(9,true,.fn 199 [] [.ptr 0 5 2 0,.ptr 0 4 1 0,.ptr 0 3 0 0]),(8,true,.list false (b.breaks.map AL)),(7,true,.ptr 0 3 0 7),(3,true,.ptr 0 3 0 0),(4,true,.ptr 0 4 1 0),(5,true,.ptr 0 5 2 0)] () (Nat.zero_le _) trivial
 rw[GF]at q
 have e:n+197+200+200=n+597:=by omega
 rw[e]at q
 unfold gG
 generalize b.breaks.any (fun k=>IJ (AJF s k w) 1 b.reach)=z at q|-
 simp only[AC,AL]at q|-
 simp[A1B,AD,q]
theorem Valid.br'{b:AN}(hb:Valid b):∀k∈b.breaks,0<=k.1/\k.1<=100/\0<=k.2/\k.2<=100:=fun k hk=>by have:=List.all_eq_true.1 hb.bo k hk;simp only[F7,bj,D7]at this;have:=hb.ro;have:=hb.pl;omega
theorem A78(n:Nat)(b:AN)(hb:Valid b)(s:Int×Int)(hs:0<=s.1/\s.1<=100/\0<=s.2/\s.2<=100)(f w:Int)(hw:0<=w/\w<=3) :
  BA bg kn (AF bg ann kn (n+800)) 184 [.agg (AC b),.agg (AL s),i f,i w]=some (.bool (Y0 b s f w)):=by
 rw[AR rfl,AS Tryz.func184 BCA rfl (by simp[AC,AH,AM,AL])]
 have q1:=fun n=>AAN n w hw.1 (by omega)
 have q2:=fun n=>ALV n b (Valid.br' hb) (by have:=hb.br;omega) s hs w hw
 unfold Y0
 simp only[AC,AL]at q2|-
 by_cases h:f=(w+2) % 4<;>simp[A1C,AD,AH,AM,AL,q1,q2,h]
def V3(h:xM):List V:=[i h.sun,i h.calm,i h.good]
def ofB(b:AN)(s:Int×Int)(h:Nat)(f w:Int):xM :=
 let lit:=decide (b.sun.getD h 0=f)
 let calm:=Y0 b s f w
 ⟨if lit=true then 1 else 0,if calm=true then 1 else 0,if (lit&&calm)=true then 1 else 0⟩
theorem kOf(n:Nat)(b:AN)(hb:Valid b)(s:Int×Int)(hs:0<=s.1/\s.1<=100/\0<=s.2/\s.2<=100)(h:Nat)(hh:h<b.sun.length)(f w:Int)(hw:0<=w/\w<=3) :
  BA bg kn (AF bg ann kn (n+1000)) 153 [.agg (AC b),.agg (AL s),i h,i f,i w]=some (.agg (V3 (ofB b s h f w))):=by
 rw[AR rfl,AS Tryz.func153 BCB rfl (by simp[AC,AH,AM,AL])]
 have q2:=fun n=>A78 n b hb s hs f w hw
 unfold ofB
 have hx:b.sun.getD h 0=b.sun[h]:=by rw[bk,bx hh];rfl
 rw[hx]
 simp only[AC,AL]at q2|-
 generalize Y0 b s f w=z at q2|-
 generalize e1:decide (b.sun[h]=f)=z1
 have w0:IntKind.i64.wrap 0=0:=by decide
 have w1:IntKind.i64.wrap 1=1:=by decide
 cases z1<;>cases z<;>simp[A1D,AD,AH,AM,AL,V3,q2,hh,e1,w0,w1]
def NJ(n:Int):Prop:=-9223372036854775808<=n/\n<9223372036854775808
theorem wfI{n:Int}(h:NJ n):(Lit.int .i64 n).wf=true:=by obtain⟨h1,h2⟩:=h;simp only[Lit.wf,bj,decide_eq_true_eq];exact⟨h1,by have:IntKind.i64.max=9223372036854775807:=rfl;omega⟩
structure okB(b:AN):Prop where
 la:NJ b.last
 ro:NJ b.rows
 pl:NJ b.places
 re:NJ b.reach
 fa:∀n∈b.face,NJ n
 su:∀n∈b.sun,NJ n
 wi:∀l∈b.winds,∀n∈l,NJ n
 br:∀p∈b.breaks,NJ p.1/\NJ p.2
 no:∀p∈b.notes,NJ p.1/\NJ p.2
end Go.Proofs.Tryz.Op
namespace Go.Wind
def IB(t out:List Int):List (Int×Int)->Nat->Bool
 |[],_=>true
 |x::r,k=>(decide ((k:Int)∈out)||KN t x)&&IB t out r (k+1)
theorem W4(t:List Int):∀(l:List (Int×Int)) (k:Nat),IB t [] l k=l.all (KN t)
 |[],_=>rfl
 |x::r,k=>by simp[IB,W4 t r]
end Go.Wind
namespace Go.Proofs.Tryz.Op
theorem AG2(l:List Int)(x:Int)(hl:l.length<=1000):∀(d k:Nat),k+d=l.length->∃(j:Int) (fr:Fr),0<=j/\∀n m,d<m->BT (AF bg ann kn (n+100) 19) SH (ann 19 (CA SH)) m ⟨0,[(0,true,li l),(1,true,i x),(7,true,i l.length),(8,true,i k)],⟨[],[]⟩⟩ =
  if x∈l.drop k then some (.ret,⟨0,[(4,true,i j),(17,true,i j),(5,true,i j)],⟨[],[]⟩⟩) else some (.exit 0,⟨0,fr,⟨[],[]⟩⟩)
 |0,k,hk=>by
  have:k=l.length:=by omega
  subst this;refine⟨0,?fr,by omega,fun n m hm=>?_⟩;rotate_left
  ·obtain⟨m,rfl⟩:=qNz m (by omega);rw[List.drop_length,if_neg (by simp),AB];simp;rfl
 |d+1,k,hk=>by
  have hk':k<l.length:=by omega
  have hw:=CB (k:=k) (by omega);obtain⟨j,fr,hj,ih⟩:=AG2 l x hl d (k+1) (by omega);rw[bw hk'];by_cases h:x=l[k]
  ·refine⟨k,[],by omega,fun n m hm=>?_⟩;obtain⟨m,rfl⟩:=qNz m (by omega);rw[if_pos (bf.2 (.inl h)),AB];simp[hk',hw,AH,h]
  ·refine⟨j,fr,hj,fun n m hm=>?_⟩;obtain⟨m,rfl⟩:=qNz m (by omega);have ih:=ih n m (by omega);have e:(x∈l[k]::l.drop (k+1))=(x∈l.drop (k+1)):=propext ⟨fun hh=>(bf.1 hh).resolve_left h,fun hh=>bf.2 (.inr hh)⟩;rw[AB];simp only[e];simp at ih;simp[hk',hw,AH,h,ih]
theorem V4(n:Nat)(l:List Int)(x:Int)(hl:l.length<=1000):BA bg kn (AF bg ann kn (n+1300)) 132 [li l,i x]=some (.bool (decide (x∈l))):=by
 have q:∃j:Int,(0<=j↔x∈l)/\∀n,BA bg kn (AF bg ann kn (n+1200)) 170 [li l,i x]=some (i j):=by
  obtain⟨j,fr,hj,q⟩:=AG2 l x hl l.length 0 (by omega);have q:=fun n m=>q n (m+1100) (by omega);rw[List.drop_zero]at q;by_cases h:x∈l
  ·refine⟨j,by simp[h,hj],fun n=>?_⟩;rw[AR rfl,AS Tryz.func170 A1F rfl (by simp[AH])];rw[if_pos h]at q;simp at q;simp[APR,AD,q,h]
  ·refine⟨-1,by simp[h],fun n=>?_⟩;rw[AR rfl,AS Tryz.func170 A1F rfl (by simp[AH])];rw[if_neg h]at q;simp at q;simp[APR,AD,q,h]
 obtain⟨j,hj,q⟩:=q;rw[AR rfl,AS Tryz.func132 BCD rfl (by simp[AH])];simp[A1G,AD,AH,q,hj]
theorem AAO{t:List Int}{ws:List (List Int)}(h:¬t.length=ws.length):A9 t ws=false:=by
 cases e:A9 t ws with
 |false=>rfl
 |true=>exact absurd (DM e) h
theorem AG3(b:AN)(t out:List Int)(hn:∀x∈b.notes,0<=x.1/\x.1<t.length)(hl:b.notes.length<=100)(ho:out.length<=100):∀(d k:Nat) (c:Nat),k+d=b.notes.length->∃(fr:Fr) (c':Nat),∀n m,d<m->BT (AF bg ann kn (n+1400) 32) SI (ann 32 (CA SI)) m ⟨c,[(1,true,li t),(2,true,li out),(10,true,.list false (b.notes.map AL)),(11,true,i b.notes.length),(12,true,i k)],⟨[],[(3,0,.box (AC b))]⟩⟩ =
  if IB t out (b.notes.drop k) k=true then some (.exit 0,⟨c',fr,⟨[],[(3,0,.box (AC b))]⟩⟩) else some (.ret,⟨c',[(6,true,.bool false)],⟨[],[]⟩⟩)
 |0,k,c,hk=>by
  have:k=b.notes.length:=by omega
  subst this;refine⟨?fr,c,fun n m hm=>?_⟩;rotate_left
  ·obtain⟨m,rfl⟩:=qNz m (by omega);rw[List.drop_length,AB];simp[IB,AC];rfl
 |d+1,k,c,hk=>by
  have hk':k<b.notes.length:=by omega
  have hw:=CB (k:=k) (by omega);obtain⟨fr,c',ih⟩:=AG3 b t out hn hl ho d (k+1) (c+1) (by omega);have q:=fun n=>V4 n out k (by omega);obtain⟨h0,h1⟩:=hn _ (List.getElem_mem hk');rw[bw hk'];have ha:atI t b.notes[k].1=t[b.notes[k].1.toNat]:=by unfold atI;rw[bk,bx (by omega)];rfl
  have hr:KN t b.notes[k]=decide (t[b.notes[k].1.toNat]=b.notes[k].2):=by unfold KN;rw[ha]
  simp only[IB,hr];have h1':b.notes[k].1.toNat<t.length:=by omega
  by_cases h:(k:Int)∈out
  ·simp only[h,decide_true,Bool.true_or,Bool.true_and]at q|-;refine⟨fr,c',fun n m hm=>?_⟩;obtain⟨m,rfl⟩:=qNz m (by omega);have ih:=ih n m (by omega);rw[AB];simp only[AC]at ih|-;simp at ih;simp[hk',hw,AH,AM,AL,DJ,q,ih]
  ·by_cases h2:t[b.notes[k].1.toNat]=b.notes[k].2
   ·simp only[h,h2,decide_true,decide_false,Bool.false_or,Bool.true_and]at q|-;refine⟨fr,c',fun n m hm=>?_⟩;obtain⟨m,rfl⟩:=qNz m (by omega);have ih:=ih n m (by omega);rw[AB];simp only[AC]at ih|-;simp at ih;simp[hk',hw,AH,AM,AL,DJ,q,h0,h1,h1',h2,ih]
   ·simp only[h,h2,decide_false,Bool.false_or,Bool.false_and]at q|-;refine⟨[],c+1,fun n m hm=>?_⟩;obtain⟨m,rfl⟩:=qNz m (by omega);rw[AB];simp[AC,hk',hw,AH,AM,AL,DJ,q,h0,h1,h1',h2]
theorem AUU(n:Nat)(b:AN)(t out:List Int)(hn:∀x∈b.notes,0<=x.1/\x.1<t.length)(hl:b.notes.length<=100)(ho:out.length<=100):BA bg kn (AF bg ann kn (n+1600)) 164 [.agg (AC b),li t,li out]=some (.bool (IB t out b.notes 0)):=by rw[AR rfl,AS Tryz.func164 BCE rfl (by simp[AC,AH,AM,AL])];obtain⟨fr,c',q⟩:=AG3 b t out hn hl ho b.notes.length 0 1 (by omega);have q:=fun n m=>q n (m+200) (by omega);rw[List.drop_zero]at q;generalize IB t out b.notes 0=z at q|-;simp only[AC]at q|-;cases z<;>(simp at q;simp[A1H,AD,q])
theorem Valid.notes'{b:AN}(hb:Valid b){t:List Int}(ht:t.length=b.winds.length):∀x∈b.notes,0<=x.1/\x.1<t.length:=fun x hx=>by have:=List.all_eq_true.1 hb.nok x hx;simp only[JR,bj,D7]at this;have:=hb.wi;omega
end Go.Proofs.Tryz.Op
