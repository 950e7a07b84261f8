/- Contracts: within, direction, sun, winds, hour, spot, note. No condition. -/
import Derived.Test.YthhdhbalenanjaaGreatW2
open Go.Proofs.Tryz renaming prog->bf
open Bool renaming and_eq_true->bj
open List renaming getD_eq_getElem?_getD->bk,all_cons->bq,drop_eq_getElem_cons->bw,getElem?_eq_getElem->bx,cons_append->bz,nil_append->bb,mem_cons->bc
set_option maxRecDepth 100000
set_option linter.unusedSimpArgs false
open Go Go.Pg Go.Proofs Go.Wind
namespace Go.Wind
theorem eW{σ α:Type}(p:σ->α->Bool)(nx:σ->α->σ):∀(l:List α) (s:σ) (h:List σ),(BQ (fun (s:σ×List σ) x=>p s.1 x) (fun s x=>(nx s.1 x,s.1::s.2)) (s,h) l).1=(BQ p nx s l).1
 |[],_,_=>rfl
 |x::l,s,h=>by
  simp only[BQ];cases p s x with
  |true=>rfl
  |false=>exact eW p nx l (nx s x) (s::h)
theorem vQ:∀(l:List Int) (s:Int),(BQ (fun s x=>!HU x (s+1) 3) (fun _ x=>x) s l).1=!((match l with|[]=>true|x::_=>decide (s<x))&&(l.all (fun n=>decide (n<=3))&&JZ l))
 |[],s=>rfl
 |[x],s=>by
  simp only[BQ,HU,JZ,bq,List.all_nil];have e:decide (s+1<=x)=decide (s<x):=by congr 1
  rw[e];cases decide (s<x)<;>cases decide (x<=3)<;>rfl
 |x::y::l,s=>by
  have ih:=vQ (y::l) x;have e:decide (s+1<=x)=decide (s<x):=by congr 1
  rw[BQ];cases h:HU x (s+1) 3 with
  |false=>
   unfold HU at h
   rw[e]at h
   simp only[Bool.not_false,cond_true,JZ,bq]
   revert h
   generalize List.all l (fun n=>decide (n<=3))=a
   generalize JZ (y::l)=b
   cases decide (s<x)<;>cases decide (x<=3)<;>cases decide (x<y)<;>cases decide (y<=3)<;>cases a<;>cases b<;>simp
  |true=>
  unfold HU at h;rw[e]at h;simp only[Bool.not_true,cond_false,ih,JZ,bq];revert h;generalize List.all l (fun n=>decide (n<=3))=a;generalize JZ (y::l)=b;cases decide (s<x)<;>cases decide (x<=3)<;>cases decide (x<y)<;>cases decide (y<=3)<;>cases a<;>cases b<;>simp
theorem vR:∀(l:List Int) (s:Int),(match l with|[]=>true|x::_=>decide (s<x))=true->JZ l=true->l.all (fun n=>decide (s<n))=true
 |[],_,_,_=>rfl
 |[x],s,h,_=>by simpa using h
 |x::y::l,s,h,h2=>by simp only[JZ,bj,decide_eq_true_eq]at h h2;have:=vR (y::l) s (by simp;omega) h2.2;rw[bq,this];simp[h]
theorem zS(l:List Int):(!(BQ (fun s x=>!HU x (s+1) 3) (fun _ x=>x) (-1) l).1)=(EB l 0&&JZ l):=by
 rw[vQ,Bool.not_not];have hd:EB l 0=(l.all (fun n=>decide (-1<n))&&l.all (fun n=>decide (n<=3))):=by
  unfold EB HU;induction l with
  |nil=>rfl
  |cons x l ih=>
   simp only[bq,ih]
   have e:decide ((0:Int)<=x)=decide (-1<x):=by congr 1
   rw[e]
   cases decide (-1<x)<;>cases decide (x<=3)<;>simp
 rw[hd];cases h:JZ l with
 |false=>simp
 |true=>
  cases h2:(match l with|[]=>true|x::_=>decide (-1<x))with
  |true=>rw[vR l (-1) h2 h];simp
  |false=>
   cases l with
   |nil=>cases h2
   |cons x l=>simp only at h2;simp[h2]
end Go.Wind
namespace Go.Proofs.Tryz.Op
theorem KY(n:Nat)(x lo hi:Int):A3 bf kn (AE bf ann kn (n+50)) 143 [i x,i lo,i hi]=some (.bool (HU x lo hi)):=by rw[AP rfl,AQ Tryz.func143 BBP rfl rfl];unfold HU;generalize e1:decide (lo<=x)=b1;simp[e1,A0N,AD];cases b1<;>simp
theorem RF(n:Nat)(x:Int):A3 bf kn (AE bf ann kn (n+100)) 145 [i x]=some (.bool (HU x 0 3)):=by rw[AP rfl,AQ Tryz.func145 BBQ rfl rfl];have q:=fun n=>KY n x 0 3;simp[A0O,AD,q]
theorem BFP(n:Nat)(x:Int):A3 bf kn (AE bf ann kn (n+100)) 146 [i x]=some (.bool (HU x (-1) 3)):=by rw[AP rfl,AQ Tryz.func146 BBR rfl rfl];have q:=fun n=>KY n x (-1) 3;simp[A0P,AD,q]
def nO(s:Int×List Int):AA:=(3,0,.box [i s.1])::s.2.map fun x=>(3,0,.box [i x])
theorem eX(t:St)(s:Int×List Int):AH t (nO s)=nO s:=by
 unfold nO;rw[A1];have:∀h:List Int,AH t (h.map fun x=>(3,0,AX.box [i x]))=h.map fun x=>(3,0,AX.box [i x]):=by
  intro h;induction h with
  |nil=>rfl
  |cons x h ih=>rw[List.map_cons,A1,ih];simp
 rw[this];simp
theorem AGG(s:Int×List Int):AA.get (nO s) 3=some (0,.box [i s.1]):=rfl
theorem AGH(s:Int×List Int)(x:Int):AA.put (nO s) 3 0 (.box [i x])=nO (x,s.1::s.2):=rfl
theorem AUG(n:Nat)(l:List Int)(hl:l.length<=40):A3 bf kn (AE bf ann kn (n+600)) 148 [li l]=some (.bool (F2 l)):=by
 rw[AP rfl,AQ Tryz.func148 BBS rfl (by simp[AG])];obtain⟨c',h1,q⟩:=AUE (n+196) 100 0 (fun _=>[]) nO (by simp) (fun s=>-1<=s.1/\s.1<=3) 179 [.ptr 0 3 0 0] (by simp) (by simp) (fun s x=>HU x (s.1+1) 3) (fun s x=>(x,s.1 :: s.2)) l hl (by simp[eX]) (by
   intro t γ ht;obtain⟨up,loc⟩:=t;have h0:¬0=up.length:=by simp at ht;omega
   simp[h0]) 1 (by
   intro n c1 fr s x hc hs hx;refine⟨fun h=>?_,c1,Nat.le_refl _,?_⟩
   ·have:=EL.1 h;omega
   ·have q:=fun n=>KY n x (s.1+1) 3;have hw:IntKind.i64.wrap (s.1+1)=s.1+1:=AV (by omega) (by omega);simp only[bb,bz];rw[A2 Tryz.func179 b179 rfl (by simp)];have hc':0<c1:=by omega
    simp[A0Q,AD,q,hw,hc',AGG,AGH,eX]) 10 [(9,true,.fn 179 [] [.ptr 0 3 0 0]),(8,true,li l),(7,true,.bool (decide (0<(l.length:Int)))),(6,true,.bool (decide (0<(l.length:Int)))),(5,true,i l.length),(4,true,li l),(0,true,li l),(3,true,.ptr 0 3 0 0)] (-1,[]) (by simp)
 rw[eW (fun s x=>!HU x (s+1) 3) (fun _ x=>x),zS]at q;have e:n+196+100+300=n+596:=by omega
 rw[e]at q;unfold F2;cases l with
 |nil=>simp[AO8,AD]
 |cons x l=>
  have hp:(0:Int)<((x::l).length:Int):=by simp
  simp only[hp,decide_true]at q
  generalize BQ (fun (s:Int×List Int) x=>!HU x (s.1+1) 3) _ (-1,[]) (x::l)=A at q
  have he:(x::l).isEmpty=false:=rfl
  rw[he]
  have hp2:0<(x::l).length:=by simp
  generalize x::l=L at *
  simp[nO]at q
  simp[AO8,AD,hp2,q]
theorem A7T(n:Nat)(b:AN)(x:Int):A3 bf kn (AE bf ann kn (n+100)) 174 [.agg (AC b),i x]=some (.bool (HU x 0 b.last)):=by rw[AP rfl,AQ Tryz.func174 BBT rfl (by simp[AC,AG,AM,AL])];have q:=fun n=>KY n x 0 b.last;simp[A0R,AD,AC,q]
theorem A7U(n:Nat)(b:AN)(s:Int×Int)(h1:0<=b.rows/\b.rows<=1000)(h2:0<=b.places/\b.places<=1000):A3 bf kn (AE bf ann kn (n+100)) 141 [.agg (AC b),.agg (AL s)]=some (.bool (FM b s)):=by rw[AP rfl,AQ Tryz.func141 BBU rfl (by simp[AC,AG,AM,AL])];have w1:IntKind.i64.wrap (b.rows-1)=b.rows-1:=AV (by omega) (by omega);have w2:IntKind.i64.wrap (b.places-1)=b.places-1:=AV (by omega) (by omega);have q1:=fun n=>KY n s.1 0 (b.rows-1);have q2:=fun n=>KY n s.2 0 (b.places-1);unfold FM;generalize HU s.1 0 (b.rows-1)=z at q1|-;cases z<;>simp[A0S,AD,AC,AL,q1,q2,w1,w2]
theorem A7V(n:Nat)(b:AN)(x:Int×Int):A3 bf kn (AE bf ann kn (n+200)) 142 [.agg (AC b),.agg (AL x)]=some (.bool (I2 b x)):=by rw[AP rfl,AQ Tryz.func142 BBV rfl (by simp[AC,AG,AM,AL])];have q1:=fun n=>A7T n b x.1;have q2:=fun n=>RF n x.2;unfold I2;generalize HU x.1 0 b.last=z at q1|-;simp only[AC]at q1|-;cases z<;>simp[A0T,AD,AG,AM,AL,q1,q2]
set_option maxHeartbeats 2000000 in
theorem iG(n:Nat)(b:AN)(h40:∀l∈b.winds,l.length<=40):A3 bf kn (AE bf ann kn (n+1500)) 110 [.agg (AC b)]=some (i (DK b)):=by
 rw[AP rfl,AQ Tryz.func110 BBY rfl (by simp[AC,AG,AM,AL])];unfold DK;by_cases g1:(decide (4<b.last)||decide (3<b.rows)||decide (5<b.places)||decide (4<b.breaks.length)||decide (5<b.notes.length))=true
 ·rw[if_pos g1];have e4:decide ((4:Int)<(b.breaks.length:Int))=decide (4<b.breaks.length):=by congr 1;exact propext (by omega)
  have e5:decide ((5:Int)<(b.notes.length:Int))=decide (5<b.notes.length):=by congr 1;exact propext (by omega)
  generalize h1:decide (4<b.last)=z1 at g1;generalize h2:decide (3<b.rows)=z2 at g1;generalize h3:decide (5<b.places)=z3 at g1;generalize h4:decide (4<b.breaks.length)=z4 at g1 e4;generalize h5:decide (5<b.notes.length)=z5 at g1 e5;cases z1
  ·cases z2
   ·cases z3
    ·cases z4
     ·cases z5
      ·cases g1
      ·simp[NM,AD,AC,AG,AM,AL,h1,h2,h3,e4,e5]
     ·simp[NM,AD,AC,AG,AM,AL,h1,h2,h3,e4]
    ·simp[NM,AD,AC,AG,AM,AL,h1,h2,h3]
   ·simp[NM,AD,AC,AG,AM,AL,h1,h2]
  ·simp[NM,AD,AC,AG,AM,AL,h1]
 ·rw[if_neg g1];simp only[Bool.or_eq_true,decide_eq_true_eq,not_or]at g1;obtain⟨⟨⟨⟨g1,g2⟩,g3⟩,g4⟩,g5⟩:=g1;have e4:¬((4:Int)<(b.breaks.length:Int)):=by omega
  have e5:¬((5:Int)<(b.notes.length:Int)):=by omega
  by_cases a1:b.last<0
  ·simp[NM,AD,AC,AG,AM,AL,g1,g2,g3,e4,e5,a1]
  by_cases a2:b.rows<1
  ·simp[NM,AD,AC,AG,AM,AL,g1,g2,g3,e4,e5,a1,a2]
  by_cases a3:b.places<1
  ·simp[NM,AD,AC,AG,AM,AL,g1,g2,g3,e4,e5,a1,a2,a3]
  have qr:=fun n=>KY n b.reach 0 4;have hwl:IntKind.i64.wrap (b.last+1)=b.last+1:=AV (by omega) (by omega);cases a4:HU b.reach 0 4 with
  |false=>
   rw[a4]at qr
   simp[NM,AD,AC,AG,AM,AL,g1,g2,g3,e4,e5,a1,a2,a3,qr]
  |true=>
  rw[a4]at qr;by_cases a5:(b.face.length:Int)=b.rows
  ·by_cases a6:(b.sun.length:Int)=b.last+1
   ·by_cases a7:(b.winds.length:Int)=b.last+1
    ·have qf:=fun n=>AGF n 100 145 (fun x=>HU x 0 3) b.face (by omega) (fun n x _=>RF n x);have qs:=fun n=>AGF n 100 146 (fun x=>HU x (-1) 3) b.sun (by omega) (fun n x _=>BFP n x);have qw:=fun n=>A7P n 600 148 F2 b.winds (by omega) (fun n x hx=>AUG n x (h40 x hx));have qb:=fun n=>A7Q n 100 b 141 (FM b) b.breaks (by omega) (fun n x _=>A7U n b x (by omega) (by omega));have qn:=fun n=>A7S n 200 b 142 (I2 b) b.notes (by omega) (fun n x _=>A7V n b x);change ∀n,_=some (V.bool (EB b.face 0))at qf;change ∀n,_=some (V.bool (EB b.sun (-1)))at qs;simp only[Nat.add_assoc,Nat.reduceAdd,AC]at qf qs qw qb qn|-;generalize EB b.face 0=z1 at qf|-;generalize EB b.sun (-1)=z2 at qs|-;generalize b.winds.all F2=z3 at qw|-;generalize b.breaks.all (FM b)=z4 at qb|-;generalize b.notes.all (I2 b)=z5 at qn|-;have a5':=a5;cases z1 with
     |false=>simp[NM,AD,AG,AM,AL,g1,g2,g3,e4,e5,a1,a2,a3,qr,a5,a6,a7,hwl,qf]
     |true=>
     cases z2 with
     |false=>simp[NM,AD,AG,AM,AL,g1,g2,g3,e4,e5,a1,a2,a3,qr,a5,a6,a7,hwl,qf,qs]
     |true=>
     cases z3 with
     |false=>simp[NM,AD,AG,AM,AL,g1,g2,g3,e4,e5,a1,a2,a3,qr,a5,a6,a7,hwl,qf,qs,qw]
     |true=>
     cases z4 with
     |false=>simp[NM,AD,AG,AM,AL,g1,g2,g3,e4,e5,a1,a2,a3,qr,a5,a6,a7,hwl,qf,qs,qw,qb]
     |true=>
     cases z5<;>simp[NM,AD,AG,AM,AL,g1,g2,g3,e4,e5,a1,a2,a3,qr,a5,a6,a7,hwl,qf,qs,qw,qb,qn]
    ·simp[NM,AD,AC,AG,AM,AL,g1,g2,g3,e4,e5,a1,a2,a3,qr,a5,a6,a7,hwl]
   ·simp[NM,AD,AC,AG,AM,AL,g1,g2,g3,e4,e5,a1,a2,a3,qr,a5,a6,hwl]
  ·simp[NM,AD,AC,AG,AM,AL,g1,g2,g3,e4,e5,a1,a2,a3,qr,a5]
theorem AK8(n:Nat)(b:AN)(hb:Valid b)(plan:List (List Int)):A3 bf kn (AE bf ann kn (n+1000)) 111 [.agg (AC b),JF plan]=some (.bool (DV b plan)):=by
 rw[AP rfl,AQ Tryz.func111 BBZ rfl (by simp[AC,AG,AM,AL])];have hla:=hb.la;have hro:=hb.ro;have hwl:IntKind.i64.wrap (b.last+1)=b.last+1:=AV (by omega) (by omega);unfold DV;by_cases hlen:(plan.length:Int)=b.last+1
 ·obtain⟨c',h1,q⟩:=AUF (n+197) 500 0 (fun _=>[]) (fun _=>[(2,0,.box (AC b))]) (by simp) (fun _=>True) 151 [.ptr 0 2 0 0] (by simp) (by simp) (fun (_:Unit) l=>decide ((l.length:Int)=b.rows)&&EB l 0) (fun _ _=>()) plan (by omega) (by simp[AC,AG,AM,AL]) (by
    intro t γ ht;obtain⟨up,loc⟩:=t;have h0:¬0=up.length:=by simp at ht;omega
    simp[h0]) 1 (by
    intro n c1 fr s l hc hs hx;refine⟨fun h=>trivial,c1,Nat.le_refl _,?_⟩;simp only[bb,bz];rw[A2 Tryz.func151 b151 rfl (by simp)];by_cases hl:(l.length:Int)=b.rows
    ·have q:=fun n=>AGF n 100 145 (fun x=>HU x 0 3) l (by omega) (fun n x _=>RF n x);change ∀n,_=some (V.bool (EB l 0))at q;simp only[Nat.add_assoc,Nat.reduceAdd]at q;simp[APC,AD,AC,AG,AM,AL,hl,q]
    ·simp[APC,AD,AC,AG,AM,AL,hl]) 14 [(13,true,.fn 151 [] [.ptr 0 2 0 0]),(12,true,JF plan),(11,true,.bool true),(10,true,.bool true),(9,true,i (b.last+1)),(8,true,i b.last),(7,true,.ptr 0 2 0 0),(6,true,i (b.last+1)),(5,true,JF plan),(1,true,JF plan),(2,true,.ptr 0 2 0 0)] () trivial
  rw[FU]at q;have hn:=KX (fun l:List Int=>decide ((l.length:Int)=b.rows)&&EB l 0) plan;have e:n+197+500+300=n+997:=by omega
  rw[e]at q;simp only[hn]at q;generalize plan.all (fun l=>decide ((l.length:Int)=b.rows)&&EB l 0)=z at q|-;simp only[AC]at q|-;simp[APB,AD,hwl,hlen,q]
 ·simp[APB,AD,AC,hwl,hlen]
theorem zT(n:Nat)(w:Int)(h0:0<=w)(h1:w<=100):A3 bf kn (AE bf ann kn (n+100)) 194 [i w]=some (i ((w+2) % 4)):=by rw[AP rfl,AQ Tryz.func194 BB0 rfl rfl];have hw:IntKind.i64.wrap (w+2)=w+2:=AV (by omega) (by omega);have hm:(w+2).tmod 4=(w+2) % 4:=Int.tmod_eq_emod_of_nonneg (by omega);simp[A00,AD,hw,hm]
set_option maxHeartbeats 1000000 in
theorem AK9(n:Nat)(b:AN)(hb:∀k∈b.breaks,0<=k.1/\k.1<=100/\0<=k.2/\k.2<=100)(hl:b.breaks.length<=40)(s:Int×Int)(hs:0<=s.1/\s.1<=100/\0<=s.2/\s.2<=100)(w:Int)(hw:0<=w/\w<=3) :
  A3 bf kn (AE bf ann kn (n+600)) 195 [.agg (AC b),.agg (AL s),i w]=some (.bool (fO b s w)):=by
 rw[AP rfl,AQ Tryz.func195 BB1 rfl (by simp[AC,AG,AM,AL])]
 obtain⟨c',h1,q⟩:=AOK (n+197) 200 (fun _=>[]) (fun _=>[(3,0,.box (AC b)),(4,1,.box (AL s)),(5,2,.box [i w])]) (fun _=>True) 199 [.ptr 0 5 2 0,.ptr 0 4 1 0,.ptr 0 3 0 0] (by simp) (by simp) (fun (_:Unit) k=>HU (AIT s k w) 1 b.reach) (fun _ _=>()) b.breaks 0 (by
   intro n c1 fr u k hc _ hk;obtain⟨hk1,hk2,hk3,hk4⟩:=hb k hk;obtain⟨hs1,hs2,hs3,hs4⟩:=hs;refine⟨fun _=>trivial,c1+1,by omega,?_⟩;have q:=fun n x=>KY n x 1 b.reach;have w1:IntKind.i64.wrap (s.1-k.1)=s.1-k.1:=AV (by omega) (by omega);have w2:IntKind.i64.wrap (k.1-s.1)=k.1-s.1:=AV (by omega) (by omega);have w3:IntKind.i64.wrap (s.2-k.2)=s.2-k.2:=AV (by omega) (by omega);have w4:IntKind.i64.wrap (k.2-s.2)=k.2-s.2:=AV (by omega) (by omega);simp only[bb,bz];rw[A2 Tryz.func199 b199 rfl (by simp)];unfold AIT;have hw4:w=0\/w=1\/w=2\/w=3:=by omega
   rcases hw4 with rfl|rfl|rfl|rfl
   ·by_cases h:k.2=s.2<;>simp[ABJ,AD,AC,AG,AM,AL,h,q,w1,w2,w3,w4]
   ·by_cases h:k.1=s.1<;>simp[ABJ,AD,AC,AG,AM,AL,h,q,w1,w2,w3,w4]
   ·by_cases h:k.2=s.2<;>simp[ABJ,AD,AC,AG,AM,AL,h,q,w1,w2,w3,w4]
   ·by_cases h:k.1=s.1 <;> simp[ABJ,AD,AC,AG,AM,AL,h,q,w1,w2,w3,w4]) hl (by simp[AC,AG,AM,AL]) 3 10 [(9,true,.fn 199 [] [.ptr 0 5 2 0,.ptr 0 4 1 0,.ptr 0 3 0 0]),(8,true,.list false (b.breaks.map AL)),(7,true,.ptr 0 3 0 7),(3,true,.ptr 0 3 0 0),(4,true,.ptr 0 4 1 0),(5,true,.ptr 0 5 2 0)] () (Nat.zero_le _) trivial
 rw[FU]at q
 have e:n+197+200+200=n+597:=by omega
 rw[e]at q
 unfold fO
 generalize b.breaks.any (fun k=>HU (AIT s k w) 1 b.reach)=z at q|-
 simp only[AC,AL]at q|-
 simp[A01,AD,q]
theorem Valid.br'{b:AN}(hb:Valid b):∀k∈b.breaks,0<=k.1/\k.1<=100/\0<=k.2/\k.2<=100:=fun k hk=>by have:=List.all_eq_true.1 hb.bo k hk;simp only[FM,bj,EL]at this;have:=hb.ro;have:=hb.pl;omega
theorem A7W(n:Nat)(b:AN)(hb:Valid b)(s:Int×Int)(hs:0<=s.1/\s.1<=100/\0<=s.2/\s.2<=100)(f w:Int)(hw:0<=w/\w<=3) :
  A3 bf kn (AE bf ann kn (n+800)) 184 [.agg (AC b),.agg (AL s),i f,i w]=some (.bool (YK b s f w)):=by
 rw[AP rfl,AQ Tryz.func184 BB2 rfl (by simp[AC,AG,AM,AL])]
 have q1:=fun n=>zT n w hw.1 (by omega)
 have q2:=fun n=>AK9 n b (Valid.br' hb) (by have:=hb.br;omega) s hs w hw
 unfold YK
 simp only[AC,AL]at q2|-
 by_cases h:f=(w+2) % 4<;>simp[A02,AD,AG,AM,AL,q1,q2,h]
def VV(h:wP):List V:=[i h.sun,i h.calm,i h.good]
def ofB(b:AN)(s:Int×Int)(h:Nat)(f w:Int):wP :=
 let lit:=decide (b.sun.getD h 0=f)
 let calm:=YK b s f w
 ⟨if lit=true then 1 else 0,if calm=true then 1 else 0,if (lit&&calm)=true then 1 else 0⟩
theorem kOf(n:Nat)(b:AN)(hb:Valid b)(s:Int×Int)(hs:0<=s.1/\s.1<=100/\0<=s.2/\s.2<=100)(h:Nat)(hh:h<b.sun.length)(f w:Int)(hw:0<=w/\w<=3) :
  A3 bf kn (AE bf ann kn (n+1000)) 153 [.agg (AC b),.agg (AL s),i h,i f,i w]=some (.agg (VV (ofB b s h f w))):=by
 rw[AP rfl,AQ Tryz.func153 BB3 rfl (by simp[AC,AG,AM,AL])]
 have q2:=fun n=>A7W n b hb s hs f w hw
 unfold ofB
 have hx:b.sun.getD h 0=b.sun[h]:=by rw[bk,bx hh];rfl
 rw[hx]
 simp only[AC,AL]at q2|-
 generalize YK b s f w=z at q2|-
 generalize e1:decide (b.sun[h]=f)=z1
 have w0:IntKind.i64.wrap 0=0:=by decide
 have w1:IntKind.i64.wrap 1=1:=by decide
 cases z1<;>cases z<;>simp[A03,AD,AG,AM,AL,VV,q2,hh,e1,w0,w1]
def M6(n:Int):Prop:=-9223372036854775808<=n/\n<9223372036854775808
theorem wfI{n:Int}(h:M6 n):(Lit.int .i64 n).wf=true:=by obtain⟨h1,h2⟩:=h;simp only[Lit.wf,bj,decide_eq_true_eq];exact⟨h1,by have:IntKind.i64.max=9223372036854775807:=rfl;omega⟩
structure okB(b:AN):Prop where
 la:M6 b.last
 ro:M6 b.rows
 pl:M6 b.places
 re:M6 b.reach
 fa:∀n∈b.face,M6 n
 su:∀n∈b.sun,M6 n
 wi:∀l∈b.winds,∀n∈l,M6 n
 br:∀p∈b.breaks,M6 p.1/\M6 p.2
 no:∀p∈b.notes,M6 p.1/\M6 p.2
end Go.Proofs.Tryz.Op
namespace Go.Wind
def HR(t out:List Int):List (Int×Int)->Nat->Bool
 |[],_=>true
 |x::r,k=>(decide ((k:Int)∈out)||J0 t x)&&HR t out r (k+1)
theorem WS(t:List Int):∀(l:List (Int×Int)) (k:Nat),HR t [] l k=l.all (J0 t)
 |[],_=>rfl
 |x::r,k=>by simp[HR,WS t r]
end Go.Wind
namespace Go.Proofs.Tryz.Op
theorem AGI(l:List Int)(x:Int)(hl:l.length<=1000):∀(d k:Nat),k+d=l.length->∃(j:Int) (fr:Fr),0<=j/\∀n m,d<m->BK (AE bf ann kn (n+100) 19) R6 (ann 19 (BU R6)) m ⟨0,[(0,true,li l),(1,true,i x),(7,true,i l.length),(8,true,i k)],⟨[],[]⟩⟩ =
  if x∈l.drop k then some (.ret,⟨0,[(4,true,i j),(17,true,i j),(5,true,i j)],⟨[],[]⟩⟩) else some (.exit 0,⟨0,fr,⟨[],[]⟩⟩)
 |0,k,hk=>by
  have:k=l.length:=by omega
  subst this;refine⟨0,?fr,by omega,fun n m hm=>?_⟩;rotate_left
  ·obtain⟨m,rfl⟩:=qNz m (by omega);rw[List.drop_length,if_neg (by simp),AB];simp;rfl
 |d+1,k,hk=>by
  have hk':k<l.length:=by omega
  have hw:=BZ (k:=k) (by omega);obtain⟨j,fr,hj,ih⟩:=AGI l x hl d (k+1) (by omega);rw[bw hk'];by_cases h:x=l[k]
  ·refine⟨k,[],by omega,fun n m hm=>?_⟩;obtain⟨m,rfl⟩:=qNz m (by omega);rw[if_pos (bc.2 (.inl h)),AB];simp[hk',hw,AG,h]
  ·refine⟨j,fr,hj,fun n m hm=>?_⟩;obtain⟨m,rfl⟩:=qNz m (by omega);have ih:=ih n m (by omega);have e:(x∈l[k]::l.drop (k+1))=(x∈l.drop (k+1)):=propext ⟨fun hh=>(bc.1 hh).resolve_left h,fun hh=>bc.2 (.inr hh)⟩;rw[AB];simp only[e];simp at ih;simp[hk',hw,AG,h,ih]
theorem VW(n:Nat)(l:List Int)(x:Int)(hl:l.length<=1000):A3 bf kn (AE bf ann kn (n+1300)) 132 [li l,i x]=some (.bool (decide (x∈l))):=by
 have q:∃j:Int,(0<=j↔x∈l)/\∀n,A3 bf kn (AE bf ann kn (n+1200)) 170 [li l,i x]=some (i j):=by
  obtain⟨j,fr,hj,q⟩:=AGI l x hl l.length 0 (by omega);have q:=fun n m=>q n (m+1100) (by omega);rw[List.drop_zero]at q;by_cases h:x∈l
  ·refine⟨j,by simp[h,hj],fun n=>?_⟩;rw[AP rfl,AQ Tryz.func170 A05 rfl (by simp[AG])];rw[if_pos h]at q;simp at q;simp[APD,AD,q,h]
  ·refine⟨-1,by simp[h],fun n=>?_⟩;rw[AP rfl,AQ Tryz.func170 A05 rfl (by simp[AG])];rw[if_neg h]at q;simp at q;simp[APD,AD,q,h]
 obtain⟨j,hj,q⟩:=q;rw[AP rfl,AQ Tryz.func132 BB5 rfl (by simp[AG])];simp[A06,AD,AG,q,hj]
theorem zU{t:List Int}{ws:List (List Int)}(h:¬t.length=ws.length):A7 t ws=false:=by
 cases e:A7 t ws with
 |false=>rfl
 |true=>exact absurd (DE e) h
theorem AGJ(b:AN)(t out:List Int)(hn:∀x∈b.notes,0<=x.1/\x.1<t.length)(hl:b.notes.length<=100)(ho:out.length<=100):∀(d k:Nat) (c:Nat),k+d=b.notes.length->∃(fr:Fr) (c':Nat),∀n m,d<m->BK (AE bf ann kn (n+1400) 32) R7 (ann 32 (BU R7)) m ⟨c,[(1,true,li t),(2,true,li out),(10,true,.list false (b.notes.map AL)),(11,true,i b.notes.length),(12,true,i k)],⟨[],[(3,0,.box (AC b))]⟩⟩ =
  if HR t out (b.notes.drop k) k=true then some (.exit 0,⟨c',fr,⟨[],[(3,0,.box (AC b))]⟩⟩) else some (.ret,⟨c',[(6,true,.bool false)],⟨[],[]⟩⟩)
 |0,k,c,hk=>by
  have:k=b.notes.length:=by omega
  subst this;refine⟨?fr,c,fun n m hm=>?_⟩;rotate_left
  ·obtain⟨m,rfl⟩:=qNz m (by omega);rw[List.drop_length,AB];simp[HR,AC];rfl
 |d+1,k,c,hk=>by
  have hk':k<b.notes.length:=by omega
  have hw:=BZ (k:=k) (by omega);obtain⟨fr,c',ih⟩:=AGJ b t out hn hl ho d (k+1) (c+1) (by omega);have q:=fun n=>VW n out k (by omega);obtain⟨h0,h1⟩:=hn _ (List.getElem_mem hk');rw[bw hk'];have ha:atI t b.notes[k].1=t[b.notes[k].1.toNat]:=by unfold atI;rw[bk,bx (by omega)];rfl
  have hr:J0 t b.notes[k]=decide (t[b.notes[k].1.toNat]=b.notes[k].2):=by unfold J0;rw[ha]
  simp only[HR,hr];have h1':b.notes[k].1.toNat<t.length:=by omega
  by_cases h:(k:Int)∈out
  ·simp only[h,decide_true,Bool.true_or,Bool.true_and]at q|-;refine⟨fr,c',fun n m hm=>?_⟩;obtain⟨m,rfl⟩:=qNz m (by omega);have ih:=ih n m (by omega);rw[AB];simp only[AC]at ih|-;simp at ih;simp[hk',hw,AG,AM,AL,D6,q,ih]
  ·by_cases h2:t[b.notes[k].1.toNat]=b.notes[k].2
   ·simp only[h,h2,decide_true,decide_false,Bool.false_or,Bool.true_and]at q|-;refine⟨fr,c',fun n m hm=>?_⟩;obtain⟨m,rfl⟩:=qNz m (by omega);have ih:=ih n m (by omega);rw[AB];simp only[AC]at ih|-;simp at ih;simp[hk',hw,AG,AM,AL,D6,q,h0,h1,h1',h2,ih]
   ·simp only[h,h2,decide_false,Bool.false_or,Bool.false_and]at q|-;refine⟨[],c+1,fun n m hm=>?_⟩;obtain⟨m,rfl⟩:=qNz m (by omega);rw[AB];simp[AC,hk',hw,AG,AM,AL,D6,q,h0,h1,h1',h2]
theorem AUH(n:Nat)(b:AN)(t out:List Int)(hn:∀x∈b.notes,0<=x.1/\x.1<t.length)(hl:b.notes.length<=100)(ho:out.length<=100):A3 bf kn (AE bf ann kn (n+1600)) 164 [.agg (AC b),li t,li out]=some (.bool (HR t out b.notes 0)):=by rw[AP rfl,AQ Tryz.func164 BB6 rfl (by simp[AC,AG,AM,AL])];obtain⟨fr,c',q⟩:=AGJ b t out hn hl ho b.notes.length 0 1 (by omega);have q:=fun n m=>q n (m+200) (by omega);rw[List.drop_zero]at q;generalize HR t out b.notes 0=z at q|-;simp only[AC]at q|-;cases z<;>(simp at q;simp[A07,AD,q])
theorem Valid.notes'{b:AN}(hb:Valid b){t:List Int}(ht:t.length=b.winds.length):∀x∈b.notes,0<=x.1/\x.1<t.length:=fun x hx=>by have:=List.all_eq_true.1 hb.nok x hx;simp only[I2,bj,EL]at this;have:=hb.wi;omega
end Go.Proofs.Tryz.Op
