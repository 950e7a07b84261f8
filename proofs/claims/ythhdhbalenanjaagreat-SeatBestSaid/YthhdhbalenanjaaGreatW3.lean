/- Contracts: within, direction, sun, winds, hour, spot, note. No condition. -/
import Derived.Test.YthhdhbalenanjaaGreatW2
open Go.Proofs.Tryz renaming prog->bf
open Bool renaming and_eq_true->bj
open List renaming getD_eq_getElem?_getD->bk,all_cons->bq,drop_eq_getElem_cons->bw,getElem?_eq_getElem->bx,cons_append->bz,nil_append->bb,mem_cons->bc
set_option maxRecDepth 100000
set_option linter.unusedSimpArgs false
open Go Go.Pg Go.Proofs Go.Wind
namespace Go.Wind
theorem jF{σ α:Type}(p:σ->α->Bool)(nx:σ->α->σ):∀(l:List α) (s:σ) (h:List σ),(BM (fun (s:σ×List σ) x=>p s.1 x) (fun s x=>(nx s.1 x,s.1::s.2)) (s,h) l).1=(BM p nx s l).1
 |[],_,_=>rfl
 |x::l,s,h=>by
  simp only[BM];cases p s x with
  |true=>rfl
  |false=>exact jF p nx l (nx s x) (s::h)
theorem AAK:∀(l:List Int) (s:Int),(BM (fun s x=>!F1 x (s+1) 3) (fun _ x=>x) s l).1=!((match l with|[]=>true|x::_=>decide (s<x))&&(l.all (fun n=>decide (n<=3))&&KH l))
 |[],s=>rfl
 |[x],s=>by
  simp only[BM,F1,KH,bq,List.all_nil];have e:decide (s+1<=x)=decide (s<x):=by congr 1
  rw[e];cases decide (s<x)<;>cases decide (x<=3)<;>rfl
 |x::y::l,s=>by
  have ih:=AAK (y::l) x;have e:decide (s+1<=x)=decide (s<x):=by congr 1
  rw[BM];cases h:F1 x (s+1) 3 with
  |false=>
   unfold F1 at h
   rw[e]at h
   simp only[Bool.not_false,cond_true,KH,bq]
   revert h
   generalize List.all l (fun n=>decide (n<=3))=a
   generalize KH (y::l)=b
   cases decide (s<x)<;>cases decide (x<=3)<;>cases decide (x<y)<;>cases decide (y<=3)<;>cases a<;>cases b<;>simp
  |true=>
  unfold F1 at h;rw[e]at h;simp only[Bool.not_true,cond_false,ih,KH,bq];revert h;generalize List.all l (fun n=>decide (n<=3))=a;generalize KH (y::l)=b;cases decide (s<x)<;>cases decide (x<=3)<;>cases decide (x<y)<;>cases decide (y<=3)<;>cases a<;>cases b<;>simp
theorem AAL:∀(l:List Int) (s:Int),(match l with|[]=>true|x::_=>decide (s<x))=true->KH l=true->l.all (fun n=>decide (s<n))=true
 |[],_,_,_=>rfl
 |[x],s,h,_=>by simpa using h
 |x::y::l,s,h,h2=>by simp only[KH,bj,decide_eq_true_eq]at h h2;have:=AAL (y::l) s (by simp;omega) h2.2;rw[bq,this];simp[h]
theorem ADI(l:List Int):(!(BM (fun s x=>!F1 x (s+1) 3) (fun _ x=>x) (-1) l).1)=(ER l 0&&KH l):=by
 rw[AAK,Bool.not_not];have hd:ER l 0=(l.all (fun n=>decide (-1<n))&&l.all (fun n=>decide (n<=3))):=by
  unfold ER F1;induction l with
  |nil=>rfl
  |cons x l ih=>
   simp only[bq,ih]
   have e:decide ((0:Int)<=x)=decide (-1<x):=by congr 1
   rw[e]
   cases decide (-1<x)<;>cases decide (x<=3)<;>simp
 rw[hd];cases h:KH l with
 |false=>simp
 |true=>
  cases h2:(match l with|[]=>true|x::_=>decide (-1<x))with
  |true=>rw[AAL l (-1) h2 h];simp
  |false=>
   cases l with
   |nil=>cases h2
   |cons x l=>simp only at h2;simp[h2]
end Go.Wind
namespace Go.Proofs.Tryz.Op
theorem LM(n:Nat)(x lo hi:Int):AY bf kn (AE bf ann kn (n+50)) 143 [i x,i lo,i hi]=some (.bool (F1 x lo hi)):=by rw[AN rfl,AO Tryz.func143 BEP rfl rfl];unfold F1;generalize e1:decide (lo<=x)=b1;simp[e1,A39,AF];cases b1<;>simp
theorem SN(n:Nat)(x:Int):AY bf kn (AE bf ann kn (n+100)) 145 [i x]=some (.bool (F1 x 0 3)):=by rw[AN rfl,AO Tryz.func145 BEQ rfl rfl];have q:=fun n=>LM n x 0 3;simp[A4A,AF,q]
theorem BIS(n:Nat)(x:Int):AY bf kn (AE bf ann kn (n+100)) 146 [i x]=some (.bool (F1 x (-1) 3)):=by rw[AN rfl,AO Tryz.func146 BER rfl rfl];have q:=fun n=>LM n x (-1) 3;simp[A4B,AF,q]
def sB(s:Int×List Int):AA:=(3,0,.box [i s.1])::s.2.map fun x=>(3,0,.box [i x])
theorem jG(t:St)(s:Int×List Int):AH t (sB s)=sB s:=by
 unfold sB;rw[BC];have:∀h:List Int,AH t (h.map fun x=>(3,0,A1.box [i x]))=h.map fun x=>(3,0,A1.box [i x]):=by
  intro h;induction h with
  |nil=>rfl
  |cons x h ih=>rw[List.map_cons,BC,ih];simp
 rw[this];simp
theorem AJ1(s:Int×List Int):AA.get (sB s) 3=some (0,.box [i s.1]):=rfl
theorem AJ2(s:Int×List Int)(x:Int):AA.put (sB s) 3 0 (.box [i x])=sB (x,s.1::s.2):=rfl
theorem AX8(n:Nat)(l:List Int)(hl:l.length<=40):AY bf kn (AE bf ann kn (n+600)) 148 [li l]=some (.bool (GC l)):=by
 rw[AN rfl,AO Tryz.func148 BES rfl (by simp[AX])];obtain⟨c',h1,q⟩:=AX6 (n+196) 100 0 (fun _=>[]) sB (by simp) (fun s=>-1<=s.1/\s.1<=3) 179 [.ptr 0 3 0 0] (by simp) (by simp) (fun s x=>F1 x (s.1+1) 3) (fun s x=>(x,s.1 :: s.2)) l hl (by simp[jG]) (by
   intro t γ ht;obtain⟨up,loc⟩:=t;have h0:¬0=up.length:=by simp at ht;omega
   simp[h0]) 1 (by
   intro n c1 fr s x hc hs hx;refine⟨fun h=>?_,c1,Nat.le_refl _,?_⟩
   ·have:=C6.1 h;omega
   ·have q:=fun n=>LM n x (s.1+1) 3;have hw:IntKind.i64.wrap (s.1+1)=s.1+1:=AW (by omega) (by omega);simp only[bb,bz];rw[A9 Tryz.func179 b179 rfl (by simp)];have hc':0<c1:=by omega
    simp[A4C,AF,q,hw,hc',AJ1,AJ2,jG]) 10 [(9,true,.fn 179 [] [.ptr 0 3 0 0]),(8,true,li l),(7,true,.bool (decide (0<(l.length:Int)))),(6,true,.bool (decide (0<(l.length:Int)))),(5,true,i l.length),(4,true,li l),(0,true,li l),(3,true,.ptr 0 3 0 0)] (-1,[]) (by simp)
 rw[jF (fun s x=>!F1 x (s+1) 3) (fun _ x=>x),ADI]at q;have e:n+196+100+300=n+596:=by omega
 rw[e]at q;unfold GC;cases l with
 |nil=>simp[ATD,AF]
 |cons x l=>
  have hp:(0:Int)<((x::l).length:Int):=by simp
  simp only[hp,decide_true]at q
  generalize BM (fun (s:Int×List Int) x=>!F1 x (s.1+1) 3) _ (-1,[]) (x::l)=A at q
  have he:(x::l).isEmpty=false:=rfl
  rw[he]
  have hp2:0<(x::l).length:=by simp
  generalize x::l=L at *
  simp[sB]at q
  simp[ATD,AF,hp2,q]
theorem BA8(n:Nat)(b:AL)(x:Int):AY bf kn (AE bf ann kn (n+100)) 174 [.agg (AC b),i x]=some (.bool (F1 x 0 b.last)):=by rw[AN rfl,AO Tryz.func174 BET rfl (by simp[AC,AX,AZ,AJ])];have q:=fun n=>LM n x 0 b.last;simp[A4D,AF,AC,q]
theorem BA9(n:Nat)(b:AL)(s:Int×Int)(h1:0<=b.rows/\b.rows<=1000)(h2:0<=b.places/\b.places<=1000):AY bf kn (AE bf ann kn (n+100)) 141 [.agg (AC b),.agg (AJ s)]=some (.bool (F2 b s)):=by rw[AN rfl,AO Tryz.func141 BEU rfl (by simp[AC,AX,AZ,AJ])];have w1:IntKind.i64.wrap (b.rows-1)=b.rows-1:=AW (by omega) (by omega);have w2:IntKind.i64.wrap (b.places-1)=b.places-1:=AW (by omega) (by omega);have q1:=fun n=>LM n s.1 0 (b.rows-1);have q2:=fun n=>LM n s.2 0 (b.places-1);unfold F2;generalize F1 s.1 0 (b.rows-1)=z at q1|-;cases z<;>simp[A4E,AF,AC,AJ,q1,q2,w1,w2]
theorem BBA(n:Nat)(b:AL)(x:Int×Int):AY bf kn (AE bf ann kn (n+200)) 142 [.agg (AC b),.agg (AJ x)]=some (.bool (JL b x)):=by rw[AN rfl,AO Tryz.func142 BEV rfl (by simp[AC,AX,AZ,AJ])];have q1:=fun n=>BA8 n b x.1;have q2:=fun n=>SN n x.2;unfold JL;generalize F1 x.1 0 b.last=z at q1|-;simp only[AC]at q1|-;cases z<;>simp[A4F,AF,AX,AZ,AJ,q1,q2]
set_option maxHeartbeats 2000000 in
theorem lV(n:Nat)(b:AL)(h40:∀l∈b.winds,l.length<=40):AY bf kn (AE bf ann kn (n+1500)) 110 [.agg (AC b)]=some (i (D2 b)):=by
 rw[AN rfl,AO Tryz.func110 BEY rfl (by simp[AC,AX,AZ,AJ])];unfold D2;by_cases g1:(decide (4<b.last)||decide (3<b.rows)||decide (5<b.places)||decide (4<b.breaks.length)||decide (5<b.notes.length))=true
 ·rw[if_pos g1];have e4:decide ((4:Int)<(b.breaks.length:Int))=decide (4<b.breaks.length):=by congr 1;exact propext (by omega)
  have e5:decide ((5:Int)<(b.notes.length:Int))=decide (5<b.notes.length):=by congr 1;exact propext (by omega)
  generalize h1:decide (4<b.last)=z1 at g1;generalize h2:decide (3<b.rows)=z2 at g1;generalize h3:decide (5<b.places)=z3 at g1;generalize h4:decide (4<b.breaks.length)=z4 at g1 e4;generalize h5:decide (5<b.notes.length)=z5 at g1 e5;cases z1
  ·cases z2
   ·cases z3
    ·cases z4
     ·cases z5
      ·cases g1
      ·simp[OM,AF,AC,h1,h2,h3,e4,e5]
     ·simp[OM,AF,AC,h1,h2,h3,e4]
    ·simp[OM,AF,AC,h1,h2,h3]
   ·simp[OM,AF,AC,h1,h2]
  ·simp[OM,AF,AC,h1]
 ·rw[if_neg g1];simp only[Bool.or_eq_true,decide_eq_true_eq,not_or]at g1;obtain⟨⟨⟨⟨g1,g2⟩,g3⟩,g4⟩,g5⟩:=g1;have e4:¬((4:Int)<(b.breaks.length:Int)):=by omega
  have e5:¬((5:Int)<(b.notes.length:Int)):=by omega
  by_cases a1:b.last<0
  ·simp[OM,AF,AC,g1,g2,g3,e4,e5,a1]
  by_cases a2:b.rows<1
  ·simp[OM,AF,AC,g1,g2,g3,e4,e5,a1,a2]
  by_cases a3:b.places<1
  ·simp[OM,AF,AC,g1,g2,g3,e4,e5,a1,a2,a3]
  have qr:=fun n=>LM n b.reach 0 4;have hwl:IntKind.i64.wrap (b.last+1)=b.last+1:=AW (by omega) (by omega);cases a4:F1 b.reach 0 4 with
  |false=>
   rw[a4]at qr
   simp[OM,AF,AC,g1,g2,g3,e4,e5,a1,a2,a3,qr]
  |true=>
  rw[a4]at qr;by_cases a5:(b.face.length:Int)=b.rows
  ·by_cases a6:(b.sun.length:Int)=b.last+1
   ·by_cases a7:(b.winds.length:Int)=b.last+1
    ·have qf:=fun n=>AJ0 n 100 145 (fun x=>F1 x 0 3) b.face (by omega) (fun n x _=>SN n x);have qs:=fun n=>AJ0 n 100 146 (fun x=>F1 x (-1) 3) b.sun (by omega) (fun n x _=>BIS n x);have qw:=fun n=>BA4 n 600 148 GC b.winds (by omega) (fun n x hx=>AX8 n x (h40 x hx));have qb:=fun n=>BA5 n 100 b 141 (F2 b) b.breaks (by omega) (fun n x _=>BA9 n b x (by omega) (by omega));have qn:=fun n=>BA7 n 200 b 142 (JL b) b.notes (by omega) (fun n x _=>BBA n b x);change ∀n,_=some (V.bool (ER b.face 0))at qf;change ∀n,_=some (V.bool (ER b.sun (-1)))at qs;simp only[Nat.add_assoc,Nat.reduceAdd,AC]at qf qs qw qb qn|-;generalize ER b.face 0=z1 at qf|-;generalize ER b.sun (-1)=z2 at qs|-;generalize b.winds.all GC=z3 at qw|-;generalize b.breaks.all (F2 b)=z4 at qb|-;generalize b.notes.all (JL b)=z5 at qn|-;have a5':=a5;cases z1 with
     |false=>simp[OM,AF,AX,g1,g2,g3,e4,e5,a1,a2,a3,qr,a5,a6,a7,hwl,qf]
     |true=>
     cases z2 with
     |false=>simp[OM,AF,AX,g1,g2,g3,e4,e5,a1,a2,a3,qr,a5,a6,a7,hwl,qf,qs]
     |true=>
     cases z3 with
     |false=>simp[OM,AF,AX,AZ,g1,g2,g3,e4,e5,a1,a2,a3,qr,a5,a6,a7,hwl,qf,qs,qw]
     |true=>
     cases z4 with
     |false=>simp[OM,AF,AX,AZ,AJ,g1,g2,g3,e4,e5,a1,a2,a3,qr,a5,a6,a7,hwl,qf,qs,qw,qb]
     |true=>
     cases z5<;>simp[OM,AF,AX,AZ,AJ,g1,g2,g3,e4,e5,a1,a2,a3,qr,a5,a6,a7,hwl,qf,qs,qw,qb,qn]
    ·simp[OM,AF,AC,g1,g2,g3,e4,e5,a1,a2,a3,qr,a5,a6,a7,hwl]
   ·simp[OM,AF,AC,g1,g2,g3,e4,e5,a1,a2,a3,qr,a5,a6,hwl]
  ·simp[OM,AF,AC,g1,g2,g3,e4,e5,a1,a2,a3,qr,a5]
theorem AO1(n:Nat)(b:AL)(hb:Valid b)(plan:List (List Int)):AY bf kn (AE bf ann kn (n+1000)) 111 [.agg (AC b),FO plan]=some (.bool (ES b plan)):=by
 rw[AN rfl,AO Tryz.func111 BEZ rfl (by simp[AC,AX,AZ,AJ])];have hla:=hb.la;have hro:=hb.ro;have hwl:IntKind.i64.wrap (b.last+1)=b.last+1:=AW (by omega) (by omega);unfold ES;by_cases hlen:(plan.length:Int)=b.last+1
 ·obtain⟨c',h1,q⟩:=AX7 (n+197) 500 0 (fun _=>[]) (fun _=>[(2,0,.box (AC b))]) (by simp) (fun _=>True) 151 [.ptr 0 2 0 0] (by simp) (by simp) (fun (_:Unit) l=>decide ((l.length:Int)=b.rows)&&ER l 0) (fun _ _=>()) plan (by omega) (by simp[AC]) (by
    intro t γ ht;obtain⟨up,loc⟩:=t;have h0:¬0=up.length:=by simp at ht;omega
    simp[h0]) 1 (by
    intro n c1 fr s l hc hs hx;refine⟨fun h=>trivial,c1,Nat.le_refl _,?_⟩;simp only[bb,bz];rw[A9 Tryz.func151 b151 rfl (by simp)];by_cases hl:(l.length:Int)=b.rows
    ·have q:=fun n=>AJ0 n 100 145 (fun x=>F1 x 0 3) l (by omega) (fun n x _=>SN n x);change ∀n,_=some (V.bool (ER l 0))at q;simp only[Nat.add_assoc,Nat.reduceAdd]at q;simp[ATH,AF,AC,AX,hl,q]
    ·simp[ATH,AF,AC,hl]) 14 [(13,true,.fn 151 [] [.ptr 0 2 0 0]),(12,true,FO plan),(11,true,.bool true),(10,true,.bool true),(9,true,i (b.last+1)),(8,true,i b.last),(7,true,.ptr 0 2 0 0),(6,true,i (b.last+1)),(5,true,FO plan),(1,true,FO plan),(2,true,.ptr 0 2 0 0)] () trivial
  rw[FJ]at q;have hn:=J6 (fun l:List Int=>decide ((l.length:Int)=b.rows)&&ER l 0) plan;have e:n+197+500+300=n+997:=by omega
  rw[e]at q;simp only[hn]at q;generalize plan.all (fun l=>decide ((l.length:Int)=b.rows)&&ER l 0)=z at q|-;simp only[AC]at q|-;simp[ATG,AF,hwl,hlen,q]
 ·simp[ATG,AF,AC,hwl,hlen]
theorem ADJ(n:Nat)(w:Int)(h0:0<=w)(h1:w<=100):AY bf kn (AE bf ann kn (n+100)) 194 [i w]=some (i ((w+2) % 4)):=by rw[AN rfl,AO Tryz.func194 BE0 rfl rfl];have hw:IntKind.i64.wrap (w+2)=w+2:=AW (by omega) (by omega);have hm:(w+2).tmod 4=(w+2) % 4:=Int.tmod_eq_emod_of_nonneg (by omega);simp[A4M,AF,hw,hm]
set_option maxHeartbeats 1000000 in
theorem AO2(n:Nat)(b:AL)(hb:∀k∈b.breaks,0<=k.1/\k.1<=100/\0<=k.2/\k.2<=100)(hl:b.breaks.length<=40)(s:Int×Int)(hs:0<=s.1/\s.1<=100/\0<=s.2/\s.2<=100)(w:Int)(hw:0<=w/\w<=3) :
  AY bf kn (AE bf ann kn (n+600)) 195 [.agg (AC b),.agg (AJ s),i w]=some (.bool (UK b s w)):=by
 rw[AN rfl,AO Tryz.func195 BE1 rfl (by simp[AC,AX,AZ,AJ])]
 obtain⟨c',h1,q⟩:=ASK (n+197) 200 (fun _=>[]) (fun _=>[(3,0,.box (AC b)),(4,1,.box (AJ s)),(5,2,.box [i w])]) (fun _=>True) 199 [.ptr 0 5 2 0,.ptr 0 4 1 0,.ptr 0 3 0 0] (by simp) (by simp) (fun (_:Unit) k=>F1 (jV s k w) 1 b.reach) (fun _ _=>()) b.breaks 0 (by
   intro n c1 fr u k hc _ hk;obtain⟨hk1,hk2,hk3,hk4⟩:=hb k hk;obtain⟨hs1,hs2,hs3,hs4⟩:=hs;refine⟨fun _=>trivial,c1+1,by omega,?_⟩;have q:=fun n x=>LM n x 1 b.reach;have w1:IntKind.i64.wrap (s.1-k.1)=s.1-k.1:=AW (by omega) (by omega);have w2:IntKind.i64.wrap (k.1-s.1)=k.1-s.1:=AW (by omega) (by omega);have w3:IntKind.i64.wrap (s.2-k.2)=s.2-k.2:=AW (by omega) (by omega);have w4:IntKind.i64.wrap (k.2-s.2)=k.2-s.2:=AW (by omega) (by omega);simp only[bb,bz];rw[A9 Tryz.func199 b199 rfl (by simp)];unfold jV;have hw4:w=0\/w=1\/w=2\/w=3:=by omega
   rcases hw4 with rfl|rfl|rfl|rfl
   ·by_cases h:k.2=s.2<;>simp[AET,AF,AC,AJ,h,q,w1]
   ·by_cases h:k.1=s.1<;>simp[AET,AF,AC,AJ,h,q,w4]
   ·by_cases h:k.2=s.2<;>simp[AET,AF,AC,AJ,h,q,w2]
   ·by_cases h:k.1=s.1 <;> simp[AET,AF,AC,AJ,h,q,w3]) hl (by simp[AC,AJ]) 3 10 [(9,true,.fn 199 [] [.ptr 0 5 2 0,.ptr 0 4 1 0,.ptr 0 3 0 0]),(8,true,.list false (b.breaks.map AJ)),(7,true,.ptr 0 3 0 7),(3,true,.ptr 0 3 0 0),(4,true,.ptr 0 4 1 0),(5,true,.ptr 0 5 2 0)] () (Nat.zero_le _) trivial
 rw[FJ]at q
 have e:n+197+200+200=n+597:=by omega
 rw[e]at q
 unfold UK
 generalize b.breaks.any (fun k=>F1 (jV s k w) 1 b.reach)=z at q|-
 simp only[AC,AJ]at q|-
 simp[A4N,AF,q]
theorem Valid.br'{b:AL}(hb:Valid b):∀k∈b.breaks,0<=k.1/\k.1<=100/\0<=k.2/\k.2<=100:=fun k hk=>by have:=List.all_eq_true.1 hb.bo k hk;simp only[F2,bj,C6]at this;have:=hb.ro;have:=hb.pl;omega
theorem BBB(n:Nat)(b:AL)(hb:Valid b)(s:Int×Int)(hs:0<=s.1/\s.1<=100/\0<=s.2/\s.2<=100)(f w:Int)(hw:0<=w/\w<=3) :
  AY bf kn (AE bf ann kn (n+800)) 184 [.agg (AC b),.agg (AJ s),i f,i w]=some (.bool (UL b s f w)):=by
 rw[AN rfl,AO Tryz.func184 BE2 rfl (by simp[AC,AX,AZ,AJ])]
 have q1:=fun n=>ADJ n w hw.1 (by omega)
 have q2:=fun n=>AO2 n b (Valid.br' hb) (by have:=hb.br;omega) s hs w hw
 unfold UL
 simp only[AC,AJ]at q2|-
 by_cases h:f=(w+2) % 4<;>simp[A4O,AF,AX,AZ,AJ,q1,q2,h]
def F9(h:eY):List V:=[i h.sun,i h.calm,i h.good]
def ofB(b:AL)(s:Int×Int)(h:Nat)(f w:Int):eY :=
 let lit:=decide (b.sun.getD h 0=f)
 let calm:=UL b s f w
 ⟨if lit=true then 1 else 0,if calm=true then 1 else 0,if (lit&&calm)=true then 1 else 0⟩
theorem kOf(n:Nat)(b:AL)(hb:Valid b)(s:Int×Int)(hs:0<=s.1/\s.1<=100/\0<=s.2/\s.2<=100)(h:Nat)(hh:h<b.sun.length)(f w:Int)(hw:0<=w/\w<=3) :
  AY bf kn (AE bf ann kn (n+1000)) 153 [.agg (AC b),.agg (AJ s),i h,i f,i w]=some (.agg (F9 (ofB b s h f w))):=by
 rw[AN rfl,AO Tryz.func153 BE3 rfl (by simp[AC,AX,AZ,AJ])]
 have q2:=fun n=>BBB n b hb s hs f w hw
 unfold ofB
 have hx:b.sun.getD h 0=b.sun[h]:=by rw[bk,bx hh];rfl
 rw[hx]
 simp only[AC,AJ]at q2|-
 generalize UL b s f w=z at q2|-
 generalize e1:decide (b.sun[h]=f)=z1
 have w0:IntKind.i64.wrap 0=0:=by decide
 have w1:IntKind.i64.wrap 1=1:=by decide
 cases z1<;>cases z<;>simp[A4P,AF,AX,F9,q2,hh,e1,w0,w1]
def JI(n:Int):Prop:=-9223372036854775808<=n/\n<9223372036854775808
theorem wfI{n:Int}(h:JI n):(Lit.int .i64 n).wf=true:=by obtain⟨h1,h2⟩:=h;simp only[Lit.wf,bj,decide_eq_true_eq];exact⟨h1,by have:IntKind.i64.max=9223372036854775807:=rfl;omega⟩
theorem k3I{n:Int}(h:(Lit.int .i64 n).wf=true):Program.keyLits bf 15 3 [.int .i64 n]=some [.int .i64 n]:=by unfold Program.keyLits;simp[Tryz.underlying3,h]
structure okB(b:AL):Prop where
 la:JI b.last
 ro:JI b.rows
 pl:JI b.places
 re:JI b.reach
 fa:∀n∈b.face,JI n
 su:∀n∈b.sun,JI n
 wi:∀l∈b.winds,∀n∈l,JI n
 br:∀p∈b.breaks,JI p.1/\JI p.2
 no:∀p∈b.notes,JI p.1/\JI p.2
end Go.Proofs.Tryz.Op
namespace Go.Wind
def H4(t out:List Int):List (Int×Int)->Nat->Bool
 |[],_=>true
 |x::r,k=>(decide ((k:Int)∈out)||KI t x)&&H4 t out r (k+1)
theorem YF(t:List Int):∀(l:List (Int×Int)) (k:Nat),H4 t [] l k=l.all (KI t)
 |[],_=>rfl
 |x::r,k=>by simp[H4,YF t r]
end Go.Wind
namespace Go.Proofs.Tryz.Op
theorem AJ3(l:List Int)(x:Int)(hl:l.length<=1000):∀(d k:Nat),k+d=l.length->∃(j:Int) (fr:Fr),0<=j/\∀n m,d<m->BA (AE bf ann kn (n+100) 19) TN (ann 19 (BU TN)) m ⟨0,[(0,true,li l),(1,true,i x),(7,true,i l.length),(8,true,i k)],⟨[],[]⟩⟩ =
  if x∈l.drop k then some (.ret,⟨0,[(4,true,i j),(17,true,i j),(5,true,i j)],⟨[],[]⟩⟩) else some (.exit 0,⟨0,fr,⟨[],[]⟩⟩)
 |0,k,hk=>by
  have:k=l.length:=by omega
  subst this;refine⟨0,?fr,by omega,fun n m hm=>?_⟩;rotate_left
  ·obtain⟨m,rfl⟩:=qNz m (by omega);rw[List.drop_length,if_neg (by simp),AB];simp;rfl
 |d+1,k,hk=>by
  have hk':k<l.length:=by omega
  have hw:=BJ (k:=k) (by omega);obtain⟨j,fr,hj,ih⟩:=AJ3 l x hl d (k+1) (by omega);rw[bw hk'];by_cases h:x=l[k]
  ·refine⟨k,[],by omega,fun n m hm=>?_⟩;obtain⟨m,rfl⟩:=qNz m (by omega);rw[if_pos (bc.2 (.inl h)),AB];simp[hk',AX,h]
  ·refine⟨j,fr,hj,fun n m hm=>?_⟩;obtain⟨m,rfl⟩:=qNz m (by omega);have ih:=ih n m (by omega);have e:(x∈l[k]::l.drop (k+1))=(x∈l.drop (k+1)):=propext ⟨fun hh=>(bc.1 hh).resolve_left h,fun hh=>bc.2 (.inr hh)⟩;rw[AB];simp only[e];simp at ih;simp[hk',hw,AX,h,ih]
theorem XI(n:Nat)(l:List Int)(x:Int)(hl:l.length<=1000):AY bf kn (AE bf ann kn (n+1300)) 132 [li l,i x]=some (.bool (decide (x∈l))):=by
 have q:∃j:Int,(0<=j↔x∈l)/\∀n,AY bf kn (AE bf ann kn (n+1200)) 170 [li l,i x]=some (i j):=by
  obtain⟨j,fr,hj,q⟩:=AJ3 l x hl l.length 0 (by omega);have q:=fun n m=>q n (m+1100) (by omega);rw[List.drop_zero]at q;by_cases h:x∈l
  ·refine⟨j,by simp[h,hj],fun n=>?_⟩;rw[AN rfl,AO Tryz.func170 A4R rfl (by simp[AX])];rw[if_pos h]at q;simp at q;simp[ATI,AF,q]
  ·refine⟨-1,by simp[h],fun n=>?_⟩;rw[AN rfl,AO Tryz.func170 A4R rfl (by simp[AX])];rw[if_neg h]at q;simp at q;simp[ATI,AF,q]
 obtain⟨j,hj,q⟩:=q;rw[AN rfl,AO Tryz.func132 BE5 rfl (by simp[AX])];simp[A4S,AF,AX,q,hj]
theorem ADK{t:List Int}{ws:List (List Int)}(h:¬t.length=ws.length):A4 t ws=false:=by
 cases e:A4 t ws with
 |false=>rfl
 |true=>exact absurd (C3 e) h
theorem AJ4(b:AL)(t out:List Int)(hn:∀x∈b.notes,0<=x.1/\x.1<t.length)(hl:b.notes.length<=100)(ho:out.length<=100):∀(d k:Nat) (c:Nat),k+d=b.notes.length->∃(fr:Fr) (c':Nat),∀n m,d<m->BA (AE bf ann kn (n+1400) 32) TO (ann 32 (BU TO)) m ⟨c,[(1,true,li t),(2,true,li out),(10,true,.list false (b.notes.map AJ)),(11,true,i b.notes.length),(12,true,i k)],⟨[],[(3,0,.box (AC b))]⟩⟩ =
  if H4 t out (b.notes.drop k) k=true then some (.exit 0,⟨c',fr,⟨[],[(3,0,.box (AC b))]⟩⟩) else some (.ret,⟨c',[(6,true,.bool false)],⟨[],[]⟩⟩)
 |0,k,c,hk=>by
  have:k=b.notes.length:=by omega
  subst this;refine⟨?fr,c,fun n m hm=>?_⟩;rotate_left
  ·obtain⟨m,rfl⟩:=qNz m (by omega);rw[List.drop_length,AB];simp[H4,AC];rfl
 |d+1,k,c,hk=>by
  have hk':k<b.notes.length:=by omega
  have hw:=BJ (k:=k) (by omega);obtain⟨fr,c',ih⟩:=AJ4 b t out hn hl ho d (k+1) (c+1) (by omega);have q:=fun n=>XI n out k (by omega);obtain⟨h0,h1⟩:=hn _ (List.getElem_mem hk');rw[bw hk'];have ha:atI t b.notes[k].1=t[b.notes[k].1.toNat]:=by unfold atI;rw[bk,bx (by omega)];rfl
  have hr:KI t b.notes[k]=decide (t[b.notes[k].1.toNat]=b.notes[k].2):=by unfold KI;rw[ha]
  simp only[H4,hr];have h1':b.notes[k].1.toNat<t.length:=by omega
  by_cases h:(k:Int)∈out
  ·simp only[h,decide_true,Bool.true_or,Bool.true_and]at q|-;refine⟨fr,c',fun n m hm=>?_⟩;obtain⟨m,rfl⟩:=qNz m (by omega);have ih:=ih n m (by omega);rw[AB];simp only[AC]at ih|-;simp at ih;simp[hk',hw,AX,AJ,jB,q,ih]
  ·by_cases h2:t[b.notes[k].1.toNat]=b.notes[k].2
   ·simp only[h,h2,decide_true,decide_false,Bool.false_or,Bool.true_and]at q|-;refine⟨fr,c',fun n m hm=>?_⟩;obtain⟨m,rfl⟩:=qNz m (by omega);have ih:=ih n m (by omega);rw[AB];simp only[AC]at ih|-;simp at ih;simp[hk',hw,AX,AJ,q,h0,h1,h1',h2,ih]
   ·simp only[h,h2,decide_false,Bool.false_or,Bool.false_and]at q|-;refine⟨[],c+1,fun n m hm=>?_⟩;obtain⟨m,rfl⟩:=qNz m (by omega);rw[AB];simp[AC,hk',AX,AJ,q,h0,h1,h1',h2]
theorem AX9(n:Nat)(b:AL)(t out:List Int)(hn:∀x∈b.notes,0<=x.1/\x.1<t.length)(hl:b.notes.length<=100)(ho:out.length<=100):AY bf kn (AE bf ann kn (n+1600)) 164 [.agg (AC b),li t,li out]=some (.bool (H4 t out b.notes 0)):=by rw[AN rfl,AO Tryz.func164 BE6 rfl (by simp[AC,AX,AZ,AJ])];obtain⟨fr,c',q⟩:=AJ4 b t out hn hl ho b.notes.length 0 1 (by omega);have q:=fun n m=>q n (m+200) (by omega);rw[List.drop_zero]at q;generalize H4 t out b.notes 0=z at q|-;simp only[AC]at q|-;cases z<;>(simp at q;simp[A4T,AF,q])
theorem Valid.notes'{b:AL}(hb:Valid b){t:List Int}(ht:t.length=b.winds.length):∀x∈b.notes,0<=x.1/\x.1<t.length:=fun x hx=>by have:=List.all_eq_true.1 hb.nok x hx;simp only[JL,bj,C6]at this;have:=hb.wi;omega
end Go.Proofs.Tryz.Op
