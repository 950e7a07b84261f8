/- Contracts: within, direction, sun, winds, hour, spot, note. No condition. -/
import Derived.Test.YthhdhbalenanjaaGreatW1
import Derived.Test.YthhdhbalenanjaaGreatW2
import Derived.Test.YthhdhbalenanjaaGreatFz
import Derived.Test.YthhdhbalenanjaaGreatL
set_option maxRecDepth 100000
set_option linter.unusedSimpArgs false
open Go Go.Pg Go.Proofs Go.Wind
namespace Go.Wind
theorem eN{σ α:Type}(p:σ→α→Bool)(nx:σ→α→σ):∀(l:List α) (s:σ) (h:List σ),(BI (fun (s:σ×List σ) x=>p s.1 x) (fun s x=>(nx s.1 x,s.1::s.2)) (s,h) l).1=(BI p nx s l).1
 |[],_,_=>rfl
 |x::l,s,h=>by
  simp only[BI];cases p s x with
  |true=>rfl
  |false=>exact eN p nx l (nx s x) (s::h)
theorem vN:∀(l:List Int) (s:Int),(BI (fun s x=>!FN x (s+1) 3) (fun _ x=>x) s l).1=!((match l with|[]=>true|x::_=>decide (s<x))&&(l.all (fun n=>decide (n≤3))&&JT l))
 |[],s=>rfl
 |[x],s=>by
  simp only[BI,FN,JT,List.all_cons,List.all_nil];have e:decide (s+1≤x)=decide (s<x):=by congr 1
  rw[e];cases decide (s<x)<;>cases decide (x≤3)<;>rfl
 |x::y::l,s=>by
  have ih:=vN (y::l) x;have e:decide (s+1≤x)=decide (s<x):=by congr 1
  rw[BI];cases h:FN x (s+1) 3 with
  |false=>
   unfold FN at h
   rw[e]at h
   simp only[Bool.not_false,cond_true,JT,List.all_cons]
   revert h
   generalize List.all l (fun n=>decide (n≤3))=a
   generalize JT (y::l)=b
   cases decide (s<x)<;>cases decide (x≤3)<;>cases decide (x<y)<;>cases decide (y≤3)<;>cases a<;>cases b<;>simp
  |true=>
  unfold FN at h;rw[e]at h;simp only[Bool.not_true,cond_false,ih,JT,List.all_cons];revert h;generalize List.all l (fun n=>decide (n≤3))=a;generalize JT (y::l)=b;cases decide (s<x)<;>cases decide (x≤3)<;>cases decide (x<y)<;>cases decide (y≤3)<;>cases a<;>cases b<;>simp
theorem vO:∀(l:List Int) (s:Int),(match l with|[]=>true|x::_=>decide (s<x))=true→JT l=true→l.all (fun n=>decide (s<n))=true
 |[],_,_,_=>rfl
 |[x],s,h,_=>by simpa using h
 |x::y::l,s,h,h2=>by simp only[JT,Bool.and_eq_true,decide_eq_true_eq]at h h2;have:=vO (y::l) s (by simp;omega) h2.2;rw[List.all_cons,this];simp[h]
theorem yZ(l:List Int):(!(BI (fun s x=>!FN x (s+1) 3) (fun _ x=>x) (-1) l).1)=(EE l 0&&JT l):=by
 rw[vN,Bool.not_not];have hd:EE l 0=(l.all (fun n=>decide (-1<n))&&l.all (fun n=>decide (n≤3))):=by
  unfold EE FN;induction l with
  |nil=>rfl
  |cons x l ih=>
   simp only[List.all_cons,ih]
   have e:decide ((0:Int)≤x)=decide (-1<x):=by congr 1
   rw[e]
   cases decide (-1<x)<;>cases decide (x≤3)<;>simp
 rw[hd];cases h:JT l with
 |false=>simp
 |true=>
  cases h2:(match l with|[]=>true|x::_=>decide (-1<x))with
  |true=>rw[vO l (-1) h2 h];simp
  |false=>
   cases l with
   |nil=>cases h2
   |cons x l=>simp only at h2;simp[h2]
end Go.Wind
namespace Go.Proofs.Tryz.Op
theorem K3(n:Nat)(x lo hi:Int):AW Tryz.prog kn (AE Tryz.prog ann kn (n+50)) 143 [i x,i lo,i hi]=some (.bool (FN x lo hi)):=by rw[AP rfl,AO Tryz.func143 BCF rfl rfl];unfold FN;generalize e1:decide (lo≤x)=b1;simp[e1,A0M,AG];cases b1<;>simp
theorem RG(n:Nat)(x:Int):AW Tryz.prog kn (AE Tryz.prog ann kn (n+100)) 145 [i x]=some (.bool (FN x 0 3)):=by rw[AP rfl,AO Tryz.func145 BCG rfl rfl];have q:=fun n=>K3 n x 0 3;simp[A0N,AG,q]
theorem BHB(n:Nat)(x:Int):AW Tryz.prog kn (AE Tryz.prog ann kn (n+100)) 146 [i x]=some (.bool (FN x (-1) 3)):=by rw[AP rfl,AO Tryz.func146 BCH rfl rfl];have q:=fun n=>K3 n x (-1) 3;simp[A0O,AG,q]
def nN(s:Int×List Int):AA:=(3,0,.box [i s.1])::s.2.map fun x=>(3,0,.box [i x])
theorem eO(t:St)(s:Int×List Int):AN t (nN s)=nN s:=by
 unfold nN;rw[BE];have:∀h:List Int,AN t (h.map fun x=>(3,0,AX.box [i x]))=h.map fun x=>(3,0,AX.box [i x]):=by
  intro h;induction h with
  |nil=>rfl
  |cons x h ih=>rw[List.map_cons,BE,ih];simp
 rw[this];simp
theorem AFN(s:Int×List Int):AA.get (nN s) 3=some (0,.box [i s.1]):=rfl
theorem AFO(s:Int×List Int)(x:Int):AA.put (nN s) 3 0 (.box [i x])=nN (x,s.1::s.2):=rfl
theorem AUC(n:Nat)(l:List Int)(hl:l.length≤40):AW Tryz.prog kn (AE Tryz.prog ann kn (n+600)) 148 [li l]=some (.bool (FZ l)):=by
 rw[AP rfl,AO Tryz.func148 BCI rfl (by simp[AH])];obtain⟨c',h1,q⟩:=AUA (n+196) 100 0 (fun _=>[]) nN (by simp) (fun s=>-1≤s.1∧s.1≤3) 179 [.ptr 0 3 0 0] (by simp) (by simp) (fun s x=>FN x (s.1+1) 3) (fun s x=>(x,s.1 :: s.2)) l hl (by simp[eO]) (by
   intro t γ ht;obtain⟨up,loc⟩:=t;have h0:¬0=up.length:=by simp at ht;omega
   simp[h0]) 1 (by
   intro n c1 fr s x hc hs hx;refine⟨fun h=>?_,c1,Nat.le_refl _,?_⟩
   ·have:=DS.1 h;omega
   ·have q:=fun n=>K3 n x (s.1+1) 3;have hw:IntKind.i64.wrap (s.1+1)=s.1+1:=AS (by omega) (by omega);simp only[List.nil_append,List.cons_append];rw[BG Tryz.func179 b179 rfl (by simp)];have hc':0<c1:=by omega
    simp[A0P,AG,q,hw,hc',AFN,AFO,eO]) 10 [(9,true,.fn 179 [] [.ptr 0 3 0 0]),(8,true,li l),(7,true,.bool (decide (0<(l.length:Int)))),(6,true,.bool (decide (0<(l.length:Int)))),(5,true,i l.length),(4,true,li l),(0,true,li l),(3,true,.ptr 0 3 0 0)] (-1,[]) (by simp)
 rw[eN (fun s x=>!FN x (s+1) 3) (fun _ x=>x),yZ]at q;have e:n+196+100+300=n+596:=by omega
 rw[e]at q;unfold FZ;cases l with
 |nil=>simp[AO9,AG]
 |cons x l=>
  have hp:(0:Int)<((x::l).length:Int):=by simp
  simp only[hp,decide_true]at q
  generalize BI (fun (s:Int×List Int) x=>!FN x (s.1+1) 3) _ (-1,[]) (x::l)=A at q
  have he:(x::l).isEmpty=false:=rfl
  rw[he]
  have hp2:0<(x::l).length:=by simp
  generalize x::l=L at *
  simp[nN]at q
  simp[AO9,AG,hp2,q]
theorem A8D(n:Nat)(b:AJ)(x:Int):AW Tryz.prog kn (AE Tryz.prog ann kn (n+100)) 174 [.agg (AC b),i x]=some (.bool (FN x 0 b.last)):=by rw[AP rfl,AO Tryz.func174 BCJ rfl (by simp[AC,AH,AL,AF])];have q:=fun n=>K3 n x 0 b.last;simp[A0Q,AG,AC,q]
theorem A8E(n:Nat)(b:AJ)(s:Int×Int)(h1:0≤b.rows∧b.rows≤1000)(h2:0≤b.places∧b.places≤1000):AW Tryz.prog kn (AE Tryz.prog ann kn (n+100)) 141 [.agg (AC b),.agg (AF s)]=some (.bool (FO b s)):=by rw[AP rfl,AO Tryz.func141 BCK rfl (by simp[AC,AH,AL,AF])];have w1:IntKind.i64.wrap (b.rows-1)=b.rows-1:=AS (by omega) (by omega);have w2:IntKind.i64.wrap (b.places-1)=b.places-1:=AS (by omega) (by omega);have q1:=fun n=>K3 n s.1 0 (b.rows-1);have q2:=fun n=>K3 n s.2 0 (b.places-1);unfold FO;generalize FN s.1 0 (b.rows-1)=z at q1⊢;cases z<;>simp[A0R,AG,AC,AF,q1,q2,w1,w2]
theorem A8F(n:Nat)(b:AJ)(x:Int×Int):AW Tryz.prog kn (AE Tryz.prog ann kn (n+200)) 142 [.agg (AC b),.agg (AF x)]=some (.bool (JU b x)):=by rw[AP rfl,AO Tryz.func142 BCL rfl (by simp[AC,AH,AL,AF])];have q1:=fun n=>A8D n b x.1;have q2:=fun n=>RG n x.2;unfold JU;generalize FN x.1 0 b.last=z at q1⊢;simp only[AC]at q1⊢;cases z<;>simp[A0S,AG,AH,AL,AF,q1,q2]
set_option maxHeartbeats 2000000 in
theorem VQ(n:Nat)(b:AJ)(h40:∀l∈b.winds,l.length≤40):AW Tryz.prog kn (AE Tryz.prog ann kn (n+1500)) 110 [.agg (AC b)]=some (i (CI b)):=by
 rw[AP rfl,AO Tryz.func110 BCO rfl (by simp[AC,AH,AL,AF])];unfold CI;by_cases g1:(decide (4<b.last)||decide (3<b.rows)||decide (5<b.places)||decide (4<b.breaks.length)||decide (5<b.notes.length))=true
 ·rw[if_pos g1];have e4:decide ((4:Int)<(b.breaks.length:Int))=decide (4<b.breaks.length):=by congr 1;exact propext (by omega)
  have e5:decide ((5:Int)<(b.notes.length:Int))=decide (5<b.notes.length):=by congr 1;exact propext (by omega)
  generalize h1:decide (4<b.last)=z1 at g1;generalize h2:decide (3<b.rows)=z2 at g1;generalize h3:decide (5<b.places)=z3 at g1;generalize h4:decide (4<b.breaks.length)=z4 at g1 e4;generalize h5:decide (5<b.notes.length)=z5 at g1 e5;cases z1
  ·cases z2
   ·cases z3
    ·cases z4
     ·cases z5
      ·cases g1
      ·simp[NH,AG,AC,AH,AL,AF,h1,h2,h3,e4,e5]
     ·simp[NH,AG,AC,AH,AL,AF,h1,h2,h3,e4]
    ·simp[NH,AG,AC,AH,AL,AF,h1,h2,h3]
   ·simp[NH,AG,AC,AH,AL,AF,h1,h2]
  ·simp[NH,AG,AC,AH,AL,AF,h1]
 ·rw[if_neg g1];simp only[Bool.or_eq_true,decide_eq_true_eq,not_or]at g1;obtain⟨⟨⟨⟨g1,g2⟩,g3⟩,g4⟩,g5⟩:=g1;have e4:¬((4:Int)<(b.breaks.length:Int)):=by omega
  have e5:¬((5:Int)<(b.notes.length:Int)):=by omega
  by_cases a1:b.last<0
  ·simp[NH,AG,AC,AH,AL,AF,g1,g2,g3,e4,e5,a1]
  by_cases a2:b.rows<1
  ·simp[NH,AG,AC,AH,AL,AF,g1,g2,g3,e4,e5,a1,a2]
  by_cases a3:b.places<1
  ·simp[NH,AG,AC,AH,AL,AF,g1,g2,g3,e4,e5,a1,a2,a3]
  have qr:=fun n=>K3 n b.reach 0 4;have hwl:IntKind.i64.wrap (b.last+1)=b.last+1:=AS (by omega) (by omega);cases a4:FN b.reach 0 4 with
  |false=>
   rw[a4]at qr
   simp[NH,AG,AC,AH,AL,AF,g1,g2,g3,e4,e5,a1,a2,a3,qr]
  |true=>
  rw[a4]at qr;by_cases a5:(b.face.length:Int)=b.rows
  ·by_cases a6:(b.sun.length:Int)=b.last+1
   ·by_cases a7:(b.winds.length:Int)=b.last+1
    ·have qf:=fun n=>AFM n 100 145 (fun x=>FN x 0 3) b.face (by omega) (fun n x _=>RG n x);have qs:=fun n=>AFM n 100 146 (fun x=>FN x (-1) 3) b.sun (by omega) (fun n x _=>BHB n x);have qw:=fun n=>A79 n 600 148 FZ b.winds (by omega) (fun n x hx=>AUC n x (h40 x hx));have qb:=fun n=>A8A n 100 b 141 (FO b) b.breaks (by omega) (fun n x _=>A8E n b x (by omega) (by omega));have qn:=fun n=>A8C n 200 b 142 (JU b) b.notes (by omega) (fun n x _=>A8F n b x);change ∀n,_=some (V.bool (EE b.face 0))at qf;change ∀n,_=some (V.bool (EE b.sun (-1)))at qs;simp only[Nat.add_assoc,Nat.reduceAdd,AC]at qf qs qw qb qn⊢;generalize EE b.face 0=z1 at qf⊢;generalize EE b.sun (-1)=z2 at qs⊢;generalize b.winds.all FZ=z3 at qw⊢;generalize b.breaks.all (FO b)=z4 at qb⊢;generalize b.notes.all (JU b)=z5 at qn⊢;have a5':=a5;cases z1 with
     |false=>simp[NH,AG,AH,AL,AF,g1,g2,g3,e4,e5,a1,a2,a3,qr,a5,a6,a7,hwl,qf]
     |true=>
     cases z2 with
     |false=>simp[NH,AG,AH,AL,AF,g1,g2,g3,e4,e5,a1,a2,a3,qr,a5,a6,a7,hwl,qf,qs]
     |true=>
     cases z3 with
     |false=>simp[NH,AG,AH,AL,AF,g1,g2,g3,e4,e5,a1,a2,a3,qr,a5,a6,a7,hwl,qf,qs,qw]
     |true=>
     cases z4 with
     |false=>simp[NH,AG,AH,AL,AF,g1,g2,g3,e4,e5,a1,a2,a3,qr,a5,a6,a7,hwl,qf,qs,qw,qb]
     |true=>
     cases z5<;>simp[NH,AG,AH,AL,AF,g1,g2,g3,e4,e5,a1,a2,a3,qr,a5,a6,a7,hwl,qf,qs,qw,qb,qn]
    ·simp[NH,AG,AC,AH,AL,AF,g1,g2,g3,e4,e5,a1,a2,a3,qr,a5,a6,a7,hwl]
   ·simp[NH,AG,AC,AH,AL,AF,g1,g2,g3,e4,e5,a1,a2,a3,qr,a5,a6,hwl]
  ·simp[NH,AG,AC,AH,AL,AF,g1,g2,g3,e4,e5,a1,a2,a3,qr,a5]
theorem vP(n:Nat)(b:AJ)(hb:Valid b)(plan:List (List Int)):AW Tryz.prog kn (AE Tryz.prog ann kn (n+1000)) 111 [.agg (AC b),GQ plan]=some (.bool (DK b plan)):=by
 rw[AP rfl,AO Tryz.func111 BCP rfl (by simp[AC,AH,AL,AF])];have hla:=hb.la;have hro:=hb.ro;have hwl:IntKind.i64.wrap (b.last+1)=b.last+1:=AS (by omega) (by omega);unfold DK;by_cases hlen:(plan.length:Int)=b.last+1
 ·obtain⟨c',h1,q⟩:=AUB (n+197) 500 0 (fun _=>[]) (fun _=>[(2,0,.box (AC b))]) (by simp) (fun _=>True) 151 [.ptr 0 2 0 0] (by simp) (by simp) (fun (_:Unit) l=>decide ((l.length:Int)=b.rows)&&EE l 0) (fun _ _=>()) plan (by omega) (by simp[AC,AH,AL,AF]) (by
    intro t γ ht;obtain⟨up,loc⟩:=t;have h0:¬0=up.length:=by simp at ht;omega
    simp[h0]) 1 (by
    intro n c1 fr s l hc hs hx;refine⟨fun h=>trivial,c1,Nat.le_refl _,?_⟩;simp only[List.nil_append,List.cons_append];rw[BG Tryz.func151 b151 rfl (by simp)];by_cases hl:(l.length:Int)=b.rows
    ·have q:=fun n=>AFM n 100 145 (fun x=>FN x 0 3) l (by omega) (fun n x _=>RG n x);change ∀n,_=some (V.bool (EE l 0))at q;simp only[Nat.add_assoc,Nat.reduceAdd]at q;simp[APD,AG,AC,AH,AL,AF,hl,q]
    ·simp[APD,AG,AC,AH,AL,AF,hl]) 14 [(13,true,.fn 151 [] [.ptr 0 2 0 0]),(12,true,GQ plan),(11,true,.bool true),(10,true,.bool true),(9,true,i (b.last+1)),(8,true,i b.last),(7,true,.ptr 0 2 0 0),(6,true,i (b.last+1)),(5,true,GQ plan),(1,true,GQ plan),(2,true,.ptr 0 2 0 0)] () trivial
  rw[E5]at q;have hn:=JJ (fun l:List Int=>decide ((l.length:Int)=b.rows)&&EE l 0) plan;have e:n+197+500+300=n+997:=by omega
  rw[e]at q;simp only[hn]at q;generalize plan.all (fun l=>decide ((l.length:Int)=b.rows)&&EE l 0)=z at q⊢;simp only[AC]at q⊢;simp[APC,AG,hwl,hlen,q]
 ·simp[APC,AG,AC,hwl,hlen]
theorem zA(n:Nat)(w:Int)(h0:0≤w)(h1:w≤100):AW Tryz.prog kn (AE Tryz.prog ann kn (n+100)) 194 [i w]=some (i ((w+2) % 4)):=by rw[AP rfl,AO Tryz.func194 BCQ rfl rfl];have hw:IntKind.i64.wrap (w+2)=w+2:=AS (by omega) (by omega);have hm:(w+2).tmod 4=(w+2) % 4:=Int.tmod_eq_emod_of_nonneg (by omega);simp[A0Z,AG,hw,hm]
set_option maxHeartbeats 1000000 in
theorem AKT(n:Nat)(b:AJ)(hb:∀k∈b.breaks,0≤k.1∧k.1≤100∧0≤k.2∧k.2≤100)(hl:b.breaks.length≤40)(s:Int×Int)(hs:0≤s.1∧s.1≤100∧0≤s.2∧s.2≤100)(w:Int)(hw:0≤w∧w≤3) :
  AW Tryz.prog kn (AE Tryz.prog ann kn (n+600)) 195 [.agg (AC b),.agg (AF s),i w]=some (.bool (S5 b s w)):=by
 rw[AP rfl,AO Tryz.func195 BCR rfl (by simp[AC,AH,AL,AF])]
 obtain⟨c',h1,q⟩:=AOJ (n+197) 200 (fun _=>[]) (fun _=>[(3,0,.box (AC b)),(4,1,.box (AF s)),(5,2,.box [i w])]) (fun _=>True) 199 [.ptr 0 5 2 0,.ptr 0 4 1 0,.ptr 0 3 0 0] (by simp) (by simp) (fun (_:Unit) k=>FN (fG s k w) 1 b.reach) (fun _ _=>()) b.breaks 0 (by
   intro n c1 fr u k hc _ hk;obtain⟨hk1,hk2,hk3,hk4⟩:=hb k hk;obtain⟨hs1,hs2,hs3,hs4⟩:=hs;refine⟨fun _=>trivial,c1+1,by omega,?_⟩;have q:=fun n x=>K3 n x 1 b.reach;have w1:IntKind.i64.wrap (s.1-k.1)=s.1-k.1:=AS (by omega) (by omega);have w2:IntKind.i64.wrap (k.1-s.1)=k.1-s.1:=AS (by omega) (by omega);have w3:IntKind.i64.wrap (s.2-k.2)=s.2-k.2:=AS (by omega) (by omega);have w4:IntKind.i64.wrap (k.2-s.2)=k.2-s.2:=AS (by omega) (by omega);simp only[List.nil_append,List.cons_append];rw[BG Tryz.func199 b199 rfl (by simp)];unfold fG;have hw4:w=0∨w=1∨w=2∨w=3:=by omega
   rcases hw4 with rfl|rfl|rfl|rfl
   ·by_cases h:k.2=s.2<;>simp[AAO,AG,AC,AH,AL,AF,h,q,w1,w2,w3,w4]
   ·by_cases h:k.1=s.1<;>simp[AAO,AG,AC,AH,AL,AF,h,q,w1,w2,w3,w4]
   ·by_cases h:k.2=s.2<;>simp[AAO,AG,AC,AH,AL,AF,h,q,w1,w2,w3,w4]
   ·by_cases h:k.1=s.1 <;> simp[AAO,AG,AC,AH,AL,AF,h,q,w1,w2,w3,w4]) hl (by simp[AC,AH,AL,AF]) 3 10 [(9,true,.fn 199 [] [.ptr 0 5 2 0,.ptr 0 4 1 0,.ptr 0 3 0 0]),(8,true,.list false (b.breaks.map AF)),(7,true,.ptr 0 3 0 7),(3,true,.ptr 0 3 0 0),(4,true,.ptr 0 4 1 0),(5,true,.ptr 0 5 2 0)] () (Nat.zero_le _) trivial
 rw[E5]at q
 have e:n+197+200+200=n+597:=by omega
 rw[e]at q
 unfold S5
 generalize b.breaks.any (fun k=>FN (fG s k w) 1 b.reach)=z at q⊢
 simp only[AC,AF]at q⊢
 simp[A00,AG,q]
theorem Valid.br'{b:AJ}(hb:Valid b):∀k∈b.breaks,0≤k.1∧k.1≤100∧0≤k.2∧k.2≤100:=fun k hk=>by have:=List.all_eq_true.1 hb.bo k hk;simp only[FO,Bool.and_eq_true,DS]at this;have:=hb.ro;have:=hb.pl;omega
theorem A8G(n:Nat)(b:AJ)(hb:Valid b)(s:Int×Int)(hs:0≤s.1∧s.1≤100∧0≤s.2∧s.2≤100)(f w:Int)(hw:0≤w∧w≤3) :
  AW Tryz.prog kn (AE Tryz.prog ann kn (n+800)) 184 [.agg (AC b),.agg (AF s),i f,i w]=some (.bool (OA b s f w)):=by
 rw[AP rfl,AO Tryz.func184 BCS rfl (by simp[AC,AH,AL,AF])]
 have q1:=fun n=>zA n w hw.1 (by omega)
 have q2:=fun n=>AKT n b (Valid.br' hb) (by have:=hb.br;omega) s hs w hw
 unfold OA
 simp only[AC,AF]at q2⊢
 by_cases h:f=(w+2) % 4<;>simp[A01,AG,AH,AL,AF,q1,q2,h]
def CH(h:FW):List V:=[i h.sun,i h.calm,i h.good]
def bK(b:AJ)(s:Int×Int)(h:Nat)(f w:Int):FW :=
 let lit:=decide (b.sun.getD h 0=f)
 let calm:=OA b s f w
 ⟨if lit=true then 1 else 0,if calm=true then 1 else 0,if (lit&&calm)=true then 1 else 0⟩
theorem kOf(n:Nat)(b:AJ)(hb:Valid b)(s:Int×Int)(hs:0≤s.1∧s.1≤100∧0≤s.2∧s.2≤100)(h:Nat)(hh:h<b.sun.length)(f w:Int)(hw:0≤w∧w≤3) :
  AW Tryz.prog kn (AE Tryz.prog ann kn (n+1000)) 153 [.agg (AC b),.agg (AF s),i h,i f,i w]=some (.agg (CH (bK b s h f w))):=by
 rw[AP rfl,AO Tryz.func153 BCT rfl (by simp[AC,AH,AL,AF])]
 have q2:=fun n=>A8G n b hb s hs f w hw
 unfold bK
 have hx:b.sun.getD h 0=b.sun[h]:=by rw[List.getD_eq_getElem?_getD,List.getElem?_eq_getElem hh];rfl
 rw[hx]
 simp only[AC,AF]at q2⊢
 generalize OA b s f w=z at q2⊢
 generalize e1:decide (b.sun[h]=f)=z1
 have w0:IntKind.i64.wrap 0=0:=by decide
 have w1:IntKind.i64.wrap 1=1:=by decide
 cases z1<;>cases z<;>simp[A02,AG,AH,AL,AF,CH,q2,hh,e1,w0,w1]
def RH(n:Int):Prop:=-9223372036854775808≤n∧n<9223372036854775808
theorem wfI{n:Int}(h:RH n):(Lit.int .i64 n).wf=true:=by obtain⟨h1,h2⟩:=h;simp only[Lit.wf,Bool.and_eq_true,decide_eq_true_eq];exact⟨h1,by have:IntKind.i64.max=9223372036854775807:=rfl;omega⟩
theorem k3I{n:Int}(h:(Lit.int .i64 n).wf=true):Program.keyLits Tryz.prog 15 3 [.int .i64 n]=some [.int .i64 n]:=by unfold Program.keyLits;simp[Tryz.underlying3,h]
structure okB(b:AJ):Prop where
 la:RH b.last
 ro:RH b.rows
 pl:RH b.places
 re:RH b.reach
 fa:∀n∈b.face,RH n
 su:∀n∈b.sun,RH n
 wi:∀l∈b.winds,∀n∈l,RH n
 br:∀p∈b.breaks,RH p.1∧RH p.2
 no:∀p∈b.notes,RH p.1∧RH p.2
end Go.Proofs.Tryz.Op
namespace Go.Wind
def HJ(t out:List Int):List (Int×Int)→Nat→Bool
 |[],_=>true
 |x::r,k=>(decide ((k:Int)∈out)||K4 t x)&&HJ t out r (k+1)
theorem O8(t:List Int):∀(l:List (Int×Int)) (k:Nat),HJ t [] l k=l.all (K4 t)
 |[],_=>rfl
 |x::r,k=>by simp[HJ,O8 t r]
end Go.Wind
namespace Go.Proofs.Tryz.Op
theorem AFP(l:List Int)(x:Int)(hl:l.length≤1000):∀(d k:Nat),k+d=l.length→∃(j:Int) (fr:Fr),0≤j∧∀n m,d<m→A9 (AE Tryz.prog ann kn (n+100) 19) R5 (ann 19 (BS R5)) m ⟨0,[(0,true,li l),(1,true,i x),(7,true,i l.length),(8,true,i k)],⟨[],[]⟩⟩ =
  if x∈l.drop k then some (.ret,⟨0,[(4,true,i j),(17,true,i j),(5,true,i j)],⟨[],[]⟩⟩) else some (.exit 0,⟨0,fr,⟨[],[]⟩⟩)
 |0,k,hk=>by
  have:k=l.length:=by omega
  subst this;refine⟨0,?fr,by omega,fun n m hm=>?_⟩;rotate_left
  ·obtain⟨m,rfl⟩:∃m',m=m'+1:=⟨m-1,by omega⟩;rw[List.drop_length,if_neg (by simp),AB];simp;rfl
 |d+1,k,hk=>by
  have hk':k<l.length:=by omega
  have hw:=BJ (k:=k) (by omega);obtain⟨j,fr,hj,ih⟩:=AFP l x hl d (k+1) (by omega);rw[List.drop_eq_getElem_cons hk'];by_cases h:x=l[k]
  ·refine⟨k,[],by omega,fun n m hm=>?_⟩;obtain⟨m,rfl⟩:∃m',m=m'+1:=⟨m-1,by omega⟩;rw[if_pos (List.mem_cons.2 (.inl h)),AB];simp[hk',hw,AH,h]
  ·refine⟨j,fr,hj,fun n m hm=>?_⟩;obtain⟨m,rfl⟩:∃m',m=m'+1:=⟨m-1,by omega⟩;have ih:=ih n m (by omega);have e:(x∈l[k]::l.drop (k+1))=(x∈l.drop (k+1)):=propext ⟨fun hh=>(List.mem_cons.1 hh).resolve_left h,fun hh=>List.mem_cons.2 (.inr hh)⟩;rw[AB];simp only[e];simp at ih;simp[hk',hw,AH,h,ih]
theorem PZ(n:Nat)(l:List Int)(x:Int)(hl:l.length≤1000):AW Tryz.prog kn (AE Tryz.prog ann kn (n+1300)) 132 [li l,i x]=some (.bool (decide (x∈l))):=by
 have q:∃j:Int,(0≤j↔x∈l)∧∀n,AW Tryz.prog kn (AE Tryz.prog ann kn (n+1200)) 170 [li l,i x]=some (i j):=by
  obtain⟨j,fr,hj,q⟩:=AFP l x hl l.length 0 (by omega);have q:=fun n m=>q n (m+1100) (by omega);rw[List.drop_zero]at q;by_cases h:x∈l
  ·refine⟨j,by simp[h,hj],fun n=>?_⟩;rw[AP rfl,AO Tryz.func170 A04 rfl (by simp[AH])];rw[if_pos h]at q;simp at q;simp[APE,AG,q,h]
  ·refine⟨-1,by simp[h],fun n=>?_⟩;rw[AP rfl,AO Tryz.func170 A04 rfl (by simp[AH])];rw[if_neg h]at q;simp at q;simp[APE,AG,q,h]
 obtain⟨j,hj,q⟩:=q;rw[AP rfl,AO Tryz.func132 BCV rfl (by simp[AH])];simp[A05,AG,AH,q,hj]
theorem vQ(b:AJ)(t:List Int)(hl:t.length=b.winds.length)(h100:t.length≤100)(h4:∀l∈b.winds,l.length≤100):∀(d k:Nat),k+d=t.length→∃fr,∀n m,d<m→A9 (AE Tryz.prog ann kn (n+1400) 29) R6 (ann 29 (BS R6)) m ⟨1,[(2,true,.ptr 0 2 0 0),(13,true,li t),(14,true,i t.length),(15,true,i k)],⟨[],[(2,0,.box (AC b))]⟩⟩ =
  if AV (t.drop k) (b.winds.drop k)=true then some (.exit 0,⟨1,fr,⟨[],[(2,0,.box (AC b))]⟩⟩) else some (.ret,⟨1,[(4,true,.bool false)],⟨[],[]⟩⟩)
 |0,k,hk=>by
  have:k=t.length:=by omega
  subst this;refine⟨?fr,fun n m hm=>?_⟩;rotate_left
  ·obtain⟨m,rfl⟩:∃m',m=m'+1:=⟨m-1,by omega⟩;have:b.winds.drop t.length=[]:=by rw[hl];exact List.drop_length
   rw[List.drop_length,this,AB];simp[AV,AC];rfl
 |d+1,k,hk=>by
  have hk':k<t.length:=by omega
  have hk2:k<b.winds.length:=by omega
  have hw:=BJ (k:=k) (by omega);obtain⟨fr,ih⟩:=vQ b t hl h100 h4 d (k+1) (by omega);have q:=fun n=>PZ n b.winds[k] t[k] (by have:=h4 _ (List.getElem_mem hk2);omega);rw[List.drop_eq_getElem_cons hk',List.drop_eq_getElem_cons hk2];simp only[AV];by_cases h:t[k]∈b.winds[k]
  ·simp only[h,decide_true,Bool.true_and]at q⊢;refine⟨fr,fun n m hm=>?_⟩;obtain⟨m,rfl⟩:∃m',m=m'+1:=⟨m-1,by omega⟩;have ih:=ih n m (by omega);rw[AB];simp only[AC]at ih⊢;simp at ih;simp[hk',hk2,hw,AH,AL,q,ih]
  ·simp only[h,decide_false,Bool.false_and]at q⊢;refine⟨[],fun n m hm=>?_⟩;obtain⟨m,rfl⟩:∃m',m=m'+1:=⟨m-1,by omega⟩;rw[AB];simp[AC,hk',hk2,hw,AH,AL,q]
theorem eP{t:List Int}{ws:List (List Int)}(h:¬t.length=ws.length):AV t ws=false:=by
 cases e:AV t ws with
 |false=>rfl
 |true=>exact absurd (BZ e) h
theorem eQ(n:Nat)(b:AJ)(hb:Valid b)(t:List Int):AW Tryz.prog kn (AE Tryz.prog ann kn (n+1600)) 112 [.agg (AC b),li t]=some (.bool (AV t b.winds)):=by
 rw[AP rfl,AO Tryz.func112 BCW rfl (by simp[AC,AH,AL,AF])];have hla:=hb.la;have hwi:=hb.wi;have hwl:IntKind.i64.wrap (b.last+1)=b.last+1:=AS (by omega) (by omega);by_cases h:(t.length:Int)=b.last+1
 ·obtain⟨fr,q⟩:=vQ b t (by omega) (by omega) (fun l hl=>by have:=hb.wl l hl;omega) t.length 0 (by omega);have q:=fun n m=>q n (m+200) (by omega);rw[List.drop_zero,List.drop_zero]at q;generalize AV t b.winds=z at q⊢;simp only[AC]at q⊢;cases z<;>(simp at q;simp[APF,AG,hwl,h] ;simp[←h,q])
 ·rw[eP (by omega)];simp[APF,AG,AC,hwl,h]
theorem AFQ(b:AJ)(t out:List Int)(hn:∀x∈b.notes,0≤x.1∧x.1<t.length)(hl:b.notes.length≤100)(ho:out.length≤100):∀(d k:Nat) (c:Nat),k+d=b.notes.length→∃(fr:Fr) (c':Nat),∀n m,d<m→A9 (AE Tryz.prog ann kn (n+1400) 32) R7 (ann 32 (BS R7)) m ⟨c,[(1,true,li t),(2,true,li out),(10,true,.list false (b.notes.map AF)),(11,true,i b.notes.length),(12,true,i k)],⟨[],[(3,0,.box (AC b))]⟩⟩ =
  if HJ t out (b.notes.drop k) k=true then some (.exit 0,⟨c',fr,⟨[],[(3,0,.box (AC b))]⟩⟩) else some (.ret,⟨c',[(6,true,.bool false)],⟨[],[]⟩⟩)
 |0,k,c,hk=>by
  have:k=b.notes.length:=by omega
  subst this;refine⟨?fr,c,fun n m hm=>?_⟩;rotate_left
  ·obtain⟨m,rfl⟩:∃m',m=m'+1:=⟨m-1,by omega⟩;rw[List.drop_length,AB];simp[HJ,AC];rfl
 |d+1,k,c,hk=>by
  have hk':k<b.notes.length:=by omega
  have hw:=BJ (k:=k) (by omega);obtain⟨fr,c',ih⟩:=AFQ b t out hn hl ho d (k+1) (c+1) (by omega);have q:=fun n=>PZ n out k (by omega);obtain⟨h0,h1⟩:=hn _ (List.getElem_mem hk');rw[List.drop_eq_getElem_cons hk'];have ha:atI t b.notes[k].1=t[b.notes[k].1.toNat]:=by unfold atI;rw[List.getD_eq_getElem?_getD,List.getElem?_eq_getElem (by omega)];rfl
  have hr:K4 t b.notes[k]=decide (t[b.notes[k].1.toNat]=b.notes[k].2):=by unfold K4;rw[ha]
  simp only[HJ,hr];have h1':b.notes[k].1.toNat<t.length:=by omega
  by_cases h:(k:Int)∈out
  ·simp only[h,decide_true,Bool.true_or,Bool.true_and]at q⊢;refine⟨fr,c',fun n m hm=>?_⟩;obtain⟨m,rfl⟩:∃m',m=m'+1:=⟨m-1,by omega⟩;have ih:=ih n m (by omega);rw[AB];simp only[AC]at ih⊢;simp at ih;simp[hk',hw,AH,AL,AF,E1,q,ih]
  ·by_cases h2:t[b.notes[k].1.toNat]=b.notes[k].2
   ·simp only[h,h2,decide_true,decide_false,Bool.false_or,Bool.true_and]at q⊢;refine⟨fr,c',fun n m hm=>?_⟩;obtain⟨m,rfl⟩:∃m',m=m'+1:=⟨m-1,by omega⟩;have ih:=ih n m (by omega);rw[AB];simp only[AC]at ih⊢;simp at ih;simp[hk',hw,AH,AL,AF,E1,q,h0,h1,h1',h2,ih]
   ·simp only[h,h2,decide_false,Bool.false_or,Bool.false_and]at q⊢;refine⟨[],c+1,fun n m hm=>?_⟩;obtain⟨m,rfl⟩:∃m',m=m'+1:=⟨m-1,by omega⟩;rw[AB];simp[AC,hk',hw,AH,AL,AF,E1,q,h0,h1,h1',h2]
theorem AFR(n:Nat)(b:AJ)(t out:List Int)(hn:∀x∈b.notes,0≤x.1∧x.1<t.length)(hl:b.notes.length≤100)(ho:out.length≤100):AW Tryz.prog kn (AE Tryz.prog ann kn (n+1600)) 164 [.agg (AC b),li t,li out]=some (.bool (HJ t out b.notes 0)):=by rw[AP rfl,AO Tryz.func164 BCX rfl (by simp[AC,AH,AL,AF])];obtain⟨fr,c',q⟩:=AFQ b t out hn hl ho b.notes.length 0 1 (by omega);have q:=fun n m=>q n (m+200) (by omega);rw[List.drop_zero]at q;generalize HJ t out b.notes 0=z at q⊢;simp only[AC]at q⊢;cases z<;>(simp at q;simp[A06,AG,q])
theorem Valid.notes'{b:AJ}(hb:Valid b){t:List Int}(ht:t.length=b.winds.length):∀x∈b.notes,0≤x.1∧x.1<t.length:=fun x hx=>by have:=List.all_eq_true.1 hb.nok x hx;simp only[JU,Bool.and_eq_true,DS]at this;have:=hb.wi;omega
theorem nO(n:Nat)(b:AJ)(h40:∀l∈b.winds,l.length≤40)(t:List Int):AW Tryz.prog kn (AE Tryz.prog ann kn (n+1800)) 124 [.agg (AC b),li t]=some (.bool (decide (CI b=0)&&CS b t)):=by
 rw[AP rfl,AO Tryz.func124 BCY rfl (by simp[AC,AH,AL,AF])];have q1:=fun n=>VQ n b h40;by_cases h:CI b=0
 ·have hb:=N9 h;have q2:=fun n=>eQ n b hb t;unfold CS;rw[h]at q1;by_cases h2:AV t b.winds=true
  ·have q3:=fun n=>AFR n b t [] (Valid.notes' hb (BZ h2)) (by have:=hb.no;omega) (by simp);rw[h2]at q2;simp only[O8]at q3;generalize b.notes.all (K4 t)=z at q3⊢;simp only[AC]at q1 q2 q3⊢;simp[AHH,AG,AH,AL,AF,q1,q2,h,h2];simp only[li,List.map_nil]at q3;simp[q3]
  ·have h2:AV t b.winds=false:=by simpa using h2
   rw[h2]at q2;simp only[AC]at q1 q2⊢;simp[AHH,AG,AH,AL,AF,q1,q2,h,h2]
 ·simp only[AC]at q1⊢;simp[AHH,AG,AH,AL,AF,q1,h]
end Go.Proofs.Tryz.Op
