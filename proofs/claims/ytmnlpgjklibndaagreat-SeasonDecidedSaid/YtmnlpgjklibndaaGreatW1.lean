/- Contracts of small functions of the reference: In, Agrees, Readings; and of within. No condition. -/
import Derived.Test.YtmnlpgjklibndaaGreatFz
open Go.Proofs.Tryz renaming prog->cj
open List renaming drop_eq_getElem_cons->bj,append_assoc->bq,map_append->bw,nil_append->bc,cons_append->bf,length_append->bg,map_nil->bh,map_cons->bn,flatMap_cons->br,drop_zero->bt
open Nat renaming add_assoc->bx,reduceAdd->bz
open Bool renaming false_eq_true->bp
set_option maxRecDepth 100000
set_option linter.unusedSimpArgs false
open Go Go.Pg Go.Proofs
@[simp] theorem Go.Pg.rowCl_eq:AFZ=[118]:=rfl
namespace Go.Proofs.Tryz.Op
abbrev i(n:Int):V:=.int .i64 n
def D7(n lo hi:Int):Bool:=decide (lo<=n)&&decide (n<=hi)
theorem k25(n:Nat)(x lo hi:Int):AW cj kn (AH cj ann kn (n+100)) 48 [i x,i lo,i hi]=some (.bool (D7 x lo hi)):=by rw[AO rfl,AP Tryz.func48 b48 rfl rfl];unfold D7;generalize e1:decide (lo<=x)=b1;simp[e1,c48,AJ];cases b1<;>simp
theorem k69(n:Nat)(x lo hi:Int):AW cj kn (AH cj ann kn (n+100)) 106 [i x,i lo,i hi]=some (.bool (D7 x lo hi)):=by rw[AO rfl,AP Tryz.func106 BDX rfl rfl];unfold D7;generalize e1:decide (lo<=x)=b1;simp[e1,A2Y,AJ];cases b1<;>simp
structure AF where
 k:Int
 c:Int
 t:Int
def AB(l:AF):List V:=[i l.k,i l.c,i l.t]
def PS(l x:AF):Bool:=(decide (l.k=0)||decide (l.k=x.k))&&((decide (l.c<0)||decide (l.c=x.c))&&(decide (l.t<0)||decide (l.t=x.t)))
theorem k99(n:Nat)(l x:AF):AW cj kn (AH cj ann kn (n+100)) 123 [.agg (AB l),.agg (AB x)]=some (.bool (PS l x)):=by rw[AO rfl,AP Tryz.func123 BDY rfl rfl];unfold PS;generalize e1:decide (l.k=0)=b1;generalize e2:decide (l.k=x.k)=b2;generalize e3:decide (l.c<0)=b3;generalize e4:decide (l.c=x.c)=b4;generalize e5:decide (l.t<0)=b5;generalize e6:decide (l.t=x.t)=b6;simp[e1,e2,e3,e4,e5,e6,A2Z,AJ,AB];cases b1<;>(try simp[e1,e2,e3,e4,e5,e6])<;>cases b2<;>(try simp[e1,e2,e3,e4,e5,e6])<;>cases b3<;>(try simp[e1,e2,e3,e4,e5,e6])<;>cases b4<;>(try simp[e1,e2,e3,e4,e5,e6])<;>cases b5<;>(try simp[e1,e2,e3,e4,e5,e6])
structure FK where
 a:Int
 lo:Int
 hi:Int
def AM(l:FK):List V:=[i l.a,i l.lo,i l.hi]
structure A5 where
 chairs:Int
 coin:Int
 box:Int
 lines:List AF
 counts:List FK
def AE(b:A5):List V:=[i b.chairs,i b.coin,i b.box,.list false (b.lines.map AB),.list false (b.counts.map AM)]
def aQ(l:AF)(k c t:Int):Nat->List AF
 |0=>[]
 |d+1=>(if PS l ⟨k,c,t⟩=true then[⟨k,c,t⟩] else[])++aQ l k c (t+1) d
attribute [simp] k99 k25 k69
theorem l9(n:Nat)(b:A5)(l:AF)(k ch:Int)(h1:1<=b.chairs)(h4:b.chairs<=4):∀(d:Nat) (t:Int) (out:List AF) (c γ m:Nat),0<=t->t+d=b.chairs->d<m->2<=c->γ<c->out.length+d<=1000 ->
  ∃c' γ',2<=c'/\γ'<c'/\BN (AH cj ann kn (n+130) 39) RP (some ([2,3,5,6,7,8],[2,3,37])) m ⟨c,[(2,true,.ptr 0 2 0 0),(3,true,.ptr 0 3 1 0),(5,true,pv 37 γ (out.map AB)),(6,true,i k),(7,true,i ch),(8,true,i t)],
   ⟨[],(2,0,.box (AE b)) :: (3,1,.box (AB l)) :: pl 37 γ 133 (out.map AB)⟩⟩=some (.exit 4,⟨c',[(22,true,.bool false),(21,true,i b.chairs),(20,true,.ptr 0 2 0 0),(19,true,i b.chairs),(2,true,.ptr 0 2 0 0),(3,true,.ptr 0 3 1 0),(5,true,pv 37 γ' ((out++aQ l k ch t d).map AB)),(6,true,i k),(7,true,i ch),(8,true,i b.chairs)],
   ⟨[],(2,0,.box (AE b)) :: (3,1,.box (AB l)) :: pl 37 γ' 133 ((out++aQ l k ch t d).map AB)⟩⟩)
 |0,t,out,c,γ,m+1,ht,hd,hm,hc,hg,ho=>by
  refine⟨c,γ,hc,hg,?_⟩;have:t=b.chairs:=by omega
  subst this;simp[AD,RP,AE,AB,aQ]
 |d+1,t,out,c,γ,m+1,ht,hd,hm,hc,hg,ho=>by
  have e1:decide (t<b.chairs)=true:=by simp;omega
  have ha:=fun n=>k99 n l ⟨k,ch,t⟩;simp only[AB]at ha;rw[AD];generalize hb:PS l ⟨k,ch,t⟩=bb at ha;have hw:IntKind.i64.wrap (t+1)=t+1:=AU (by omega) (by omega);cases bb with
  |false=>
   obtain⟨c',γ',i1,i2,i3⟩:=l9 n b l k ch h1 h4 d (t+1) out c γ m (by omega) (by omega) (by omega) hc hg (by omega)
   refine⟨c',γ',i1,i2,?_⟩
   simp only[aQ,hb,AE,AB,if_false,bc,bp]at i3|-
   simp[e1,ha,hw,i3]
  |true=>
   obtain⟨c',γ',i1,i2,i3⟩:=l9 n b l k ch h1 h4 d (t+1) (out++[⟨k,ch,t⟩]) (c+1) c m (by omega) (by omega) (by omega) (by omega) (by omega) (by simp;omega)
   refine⟨c',γ',i1,i2,?_⟩
   have ho':CD cj 133 out.length [[i k,i ch,i t]]=true:=by rw[CQ (by simp) (by simp)];simp[maxLen];omega
   simp only[aQ,hb,AE,AB,if_true,bw,bn,bh,bq,bf,bc,FJ]at i3|-
   simp[e1,ha,hw,i3,ho',AB]
def F7(l:AF)(k c:Int)(C:Nat):Nat->List AF
 |0=>[]
 |d+1=>aQ l k c 0 C++F7 l k (c+1) C d
theorem aR(l:AF)(k c:Int):∀(d:Nat) (t:Int),(aQ l k c t d).length<=d
 |0,t=>by simp[aQ]
 |d+1,t=>by have:=aR l k c d (t+1);simp only[aQ,bg];split<;>simp<;>omega
theorem l6(n:Nat)(b:A5)(l:AF)(k:Int)(h1:1<=b.chairs)(h4:b.chairs<=4):∀(d:Nat) (t:Int) (out:List AF) (c γ m:Nat),0<=t->t+d=b.chairs->d<m->2<=c->γ<c->out.length+4*d<=1000 ->
  ∃c' γ',2<=c'/\γ'<c'/\BN (AH cj ann kn (n+140) 39) WN (some ([2,3,5,6,7],[2,3,37])) m ⟨c,[(2,true,.ptr 0 2 0 0),(3,true,.ptr 0 3 1 0),(5,true,pv 37 γ (out.map AB)),(6,true,i k),(7,true,i t)],
   ⟨[],(2,0,.box (AE b)) :: (3,1,.box (AB l)) :: pl 37 γ 133 (out.map AB)⟩⟩=some (.exit 2,⟨c',[(16,true,.bool false),(15,true,i b.chairs),(14,true,.ptr 0 2 0 0),(13,true,i b.chairs),(2,true,.ptr 0 2 0 0),(3,true,.ptr 0 3 1 0),(5,true,pv 37 γ' ((out++F7 l k t b.chairs.toNat d).map AB)),(6,true,i k),(7,true,i b.chairs)],
   ⟨[],(2,0,.box (AE b)) :: (3,1,.box (AB l)) :: pl 37 γ' 133 ((out++F7 l k t b.chairs.toNat d).map AB)⟩⟩)
 |0,t,out,c,γ,m+1,ht,hd,hm,hc,hg,ho=>by
  refine⟨c,γ,hc,hg,?_⟩;have:t=b.chairs:=by omega
  subst this;simp[AD,AE,AB,F7]
 |d+1,t,out,c,γ,m+1,ht,hd,hm,hc,hg,ho=>by
  have e1:decide (t<b.chairs)=true:=by simp;omega
  have hw:IntKind.i64.wrap (t+1)=t+1:=AU (by omega) (by omega);have hl:=aR l k t b.chairs.toNat 0;obtain⟨c1,γ1,j1,j2,j3⟩:=l9 (n+4) b l k t h1 h4 b.chairs.toNat 0 out c γ (n+134) (by omega) (by omega) (by omega) hc hg (by omega);obtain⟨c',γ',i1,i2,i3⟩:=l6 n b l k h1 h4 d (t+1) (out++aQ l k t 0 b.chairs.toNat) c1 γ1 m (by omega) (by omega) (by omega) j1 j2 (by simp;omega);refine⟨c',γ',i1,i2,?_⟩;rw[AD];simp only[F7,AE,AB,bw,bq,bx,bz]at i3 j3|-;simp[e1,hw,j3,i3]
theorem aS(l:AF)(k:Int)(C:Nat):∀(d:Nat) (t:Int),(F7 l k t C d).length<=C*d
 |0,t=>by simp[F7]
 |d+1,t=>by have h1:=aS l k C d (t+1);have h2:=aR l k t C 0;simp only[F7,bg,Nat.mul_succ];omega
def jP(l:AF)(k:Int)(C:Nat):Nat->List AF
 |0=>[]
 |d+1=>F7 l k 0 C C++jP l (k+1) C d
theorem l3(n:Nat)(b:A5)(l:AF)(h1:1<=b.chairs)(h4:b.chairs<=4):∀(d:Nat) (t:Int) (out:List AF) (c γ m:Nat),t+d=3->d<=2->d<m->2<=c->γ<c->out.length+16*d<=100 ->
  ∃c' γ',2<=c'/\γ'<c'/\BN (AH cj ann kn (n+150) 39) WO (some ([2,3,5,6],[2,3,37])) m ⟨c,[(2,true,.ptr 0 2 0 0),(3,true,.ptr 0 3 1 0),(5,true,pv 37 γ (out.map AB)),(6,true,i t)],
   ⟨[],(2,0,.box (AE b)) :: (3,1,.box (AB l)) :: pl 37 γ 133 (out.map AB)⟩⟩=some (.exit 0,⟨c',[(10,true,.bool false),(9,true,i 3),(2,true,.ptr 0 2 0 0),(3,true,.ptr 0 3 1 0),(5,true,pv 37 γ' ((out++jP l t b.chairs.toNat d).map AB)),(6,true,i 3)],
   ⟨[],(2,0,.box (AE b)) :: (3,1,.box (AB l)) :: pl 37 γ' 133 ((out++jP l t b.chairs.toNat d).map AB)⟩⟩)
 |0,t,out,c,γ,m+1,hd,hd2,hm,hc,hg,ho=>by
  refine⟨c,γ,hc,hg,?_⟩;have:t=3:=by omega
  subst this;simp[AD,AE,AB,jP]
 |d+1,t,out,c,γ,m+1,hd,hd2,hm,hc,hg,ho=>by
  have e1:decide (t<=2)=true:=by simp;omega
  have hw:IntKind.i64.wrap (t+1)=t+1:=AU (by omega) (by omega);have hl:=aS l t b.chairs.toNat b.chairs.toNat 0;have hC:b.chairs.toNat*b.chairs.toNat<=16:=Nat.mul_le_mul (show b.chairs.toNat<=4 by omega) (show b.chairs.toNat<=4 by omega);obtain⟨c1,γ1,j1,j2,j3⟩:=l6 (n+4) b l t h1 h4 b.chairs.toNat 0 out c γ (n+144) (by omega) (by omega) (by omega) hc hg (by omega);obtain⟨c',γ',i1,i2,i3⟩:=l3 n b l h1 h4 d (t+1) (out++F7 l t 0 b.chairs.toNat b.chairs.toNat) c1 γ1 m (by omega) (by omega) (by omega) j1 j2 (by simp;omega);refine⟨c',γ',i1,i2,?_⟩;rw[AD];simp only[jP,AE,AB,bw,bq,bx,bz]at i3 j3|-;simp[e1,hw,j3,i3]
def A7(C:Int)(l:AF):List AF:=jP l 1 C.toNat 2
theorem k83(n:Nat)(b:A5)(l:AF)(h1:1<=b.chairs)(h4:b.chairs<=4):AW cj kn (AH cj ann kn (n+200)) 140 [.agg (AE b),.agg (AB l)]=some (sl ((A7 b.chairs l).map AB)):=by
 rw[AO rfl,AP Tryz.func140 BDZ rfl (by simp[AE,AB,AM])];obtain⟨c',γ',i1,i2,i3⟩:=l3 (n+44) b l h1 h4 2 1 [] 2 0 (n+194) (by omega) (by omega) (by omega) (by omega) (by omega) (by simp);simp only[AE,AB,bw,bh,bc,bq,bx,bz,LD,HZ]at i3;have hcl:((A7 b.chairs l).map AB).all (fun e=>e.all (AK 8))=true:=by simp[AB]
 simp[A20,AJ,AE,AB,i3];simp[A7]at hcl|-
theorem pO(l:AF)(C:Nat):∀(d:Nat) (t:Int),(jP l t C d).length<=C*C*d
 |0,t=>by simp[jP]
 |d+1,t=>by have h1:=pO l C d (t+1);have h2:=aS l t C C 0;simp only[jP,bg,Nat.mul_succ];omega
theorem NI(C:Int)(l:AF)(h:C<=4):(A7 C l).length<=32:=by have:=pO l C.toNat 2 1;have hC:C.toNat*C.toNat<=16:=Nat.mul_le_mul (show C.toNat<=4 by omega) (show C.toNat<=4 by omega);unfold A7;omega
def KL(v:Int):Int:=if v<5000 then v else 5000
def CS(C:Int)(n:Int)(ls:List AF):Int:=ls.foldl (fun n l=>KL (n*(A7 C l).length)) n
theorem U2{n:Int}{k:Nat}(h0:0<=n)(h1:n<=5000)(hk:k<=32):0<=n*k/\n*k<=160000:=by
 refine⟨Int.mul_nonneg h0 (by omega),?_⟩;calc n*k<=5000*32:=Int.mul_le_mul h1 (by omega) (by omega) (by omega)
  _=160000:=by decide
theorem l52(n:Nat)(b:A5)(h1:1<=b.chairs)(h4:b.chairs<=4):∀(d k:Nat) (v:Int) (m:Nat),k+d=b.lines.length->d<m->0<=v->v<=5000->b.lines.length<=1000 ->
  BN (AH cj ann kn (n+250) 24) WP (some ([1,3,4],[1,19])) m ⟨1,[(1,true,.ptr 0 1 0 0),(3,true,i v),(4,true,i k)],⟨[],[(1,0,.box (AE b))]⟩⟩ =
  some (.exit 0,⟨1,[(9,true,.bool false),(8,true,i b.lines.length),(7,true,.list false (b.lines.map AB)),(6,true,.ptr 0 1 0 3),(5,true,i b.lines.length),(1,true,.ptr 0 1 0 0),(3,true,i (CS b.chairs v (b.lines.drop k))),(4,true,i b.lines.length)],⟨[],[(1,0,.box (AE b))]⟩⟩)
 |0,k,v,m+1,hd,hm,hv,hv2,hl=>by
  have:k=b.lines.length:=by omega
  subst this;simp[AD,AE,CS]
 |d+1,k,v,m+1,hd,hm,hv,hv2,hl=>by
  have hk:k<b.lines.length:=by omega
  have hr:=NI b.chairs b.lines[k] h4;have hq:=U2 hv hv2 hr;have hw:IntKind.i64.wrap ((k:Int)+1)=(k:Int)+1:=AU (by omega) (by omega);have hw2:IntKind.i64.wrap (v*((A7 b.chairs b.lines[k]).length:Int))=v*((A7 b.chairs b.lines[k]).length:Int):=AU (by omega) (by omega);have h5:0<=KL (v*((A7 b.chairs b.lines[k]).length:Int))/\KL (v*((A7 b.chairs b.lines[k]).length:Int))<=5000:=by unfold KL;split<;>omega
  have ih:=l52 n b h1 h4 d (k+1) (KL (v*((A7 b.chairs b.lines[k]).length:Int))) m (by omega) (by omega) h5.1 h5.2 hl;have hc:=fun n=>k83 n b b.lines[k] h1 h4;rw[AD];simp only[AE,AB,bj hk,CS,List.foldl_cons,KL]at ih hc|-;simp[hk,hw,hw2,AB,hc,AM];try simp at ih
  simp[ih]
theorem k52(n:Nat)(b:A5)(h1:1<=b.chairs)(h4:b.chairs<=4)(hl:b.lines.length<=200):AW cj kn (AH cj ann kn (n+300)) 112 [.agg (AE b)]=some (i (CS b.chairs 1 b.lines)):=by
 rw[AO rfl,AP Tryz.func112 BD0 rfl (by simp[AE,AB,AM])];have:=l52 (n+44) b h1 h4 b.lines.length 0 1 (n+294) (by omega) (by omega) (by omega) (by omega) (by omega);simp only[AE,bx,bz]at this;simp[A21,AJ,AE];try simp at this
 simp[this]
def CJ(C:Int)(l:AF):Bool:=D7 l.k 0 2&&(D7 l.c (-1) (C-1)&&D7 l.t (-1) (C-1))
def FL(n:Nat)(c:FK):Bool:=D7 c.a 0 n&&(!decide (c.lo<0)&&(!decide (c.hi<c.lo)&&!decide (2000<c.hi)))
def DC(b:A5):Int :=
 if (decide (8<b.lines.length)||decide (4<b.counts.length))=true then 3
 else if (D7 b.chairs 1 4&&(D7 b.coin 1 99&&D7 b.box 0 999))=false then 1
 else if b.lines.all (CJ b.chairs)=false then 1
 else if b.counts.all (FL b.lines.length)=false then 1
 else if 4096<CS b.chairs 1 b.lines then 3 else 0
theorem A9R(n:Nat)(b:A5)(h1:1<=b.chairs)(h4:b.chairs<=4):∀(d k:Nat) (c m:Nat),k+d=b.lines.length->d<m->b.lines.length<=8 ->
  ∃c',BN (AH cj ann kn (n+250) 110) WQ (some ([1,3],[1])) m ⟨c,[(1,true,.ptr 0 1 0 0),(3,true,i k)],⟨[],[(1,0,.box (AE b))]⟩⟩ =
  if (b.lines.drop k).all (CJ b.chairs)=true then some (.exit 0,⟨c',[(37,true,.bool false),(36,true,i b.lines.length),(35,true,.list false (b.lines.map AB)),(34,true,.ptr 0 1 0 3),(33,true,i b.lines.length),(1,true,.ptr 0 1 0 0),(3,true,i b.lines.length)],⟨[],[(1,0,.box (AE b))]⟩⟩)
  else some (.ret,⟨c',[(2,true,i 1)],⟨[],[]⟩⟩)
 |0,k,c,m+1,hd,hm,hl=>by
  have:k=b.lines.length:=by omega
  subst this;refine⟨c,?_⟩;simp[AD,AE]
 |d+1,k,c,m+1,hd,hm,hl=>by
  have hk:k<b.lines.length:=by omega
  have hw:IntKind.i64.wrap ((k:Int)+1)=(k:Int)+1:=AU (by omega) (by omega);have hw2:IntKind.i64.wrap (b.chairs-1)=b.chairs-1:=AU (by omega) (by omega);obtain⟨c',ih⟩:=A9R n b h1 h4 d (k+1) (c+1) m (by omega) (by omega) hl;have hdr:=bj hk;have hlo:CJ b.chairs b.lines[k]=(D7 b.lines[k].k 0 2&&(D7 b.lines[k].c (-1) (b.chairs-1)&&D7 b.lines[k].t (-1) (b.chairs-1))):=rfl;generalize e1:D7 b.lines[k].k 0 2=b1 at hlo;generalize e2:D7 b.lines[k].c (-1) (b.chairs-1)=b2 at hlo;generalize e3:D7 b.lines[k].t (-1) (b.chairs-1)=b3 at hlo;rw[AD,hdr];simp only[AE,AB,List.all_cons,hlo]at ih|-;try simp at ih
  cases b1<;>cases b2<;>cases b3<;>simp only[Bool.and_true,Bool.and_false,Bool.true_and,Bool.false_and,bp,if_false];all_goals first|(refine⟨c+1,?_⟩;simp[hk,hw,hw2,AB,e1,e2,e3];done)|skip
  refine⟨c',?_⟩;simp[hk,hw,hw2,AB,e1,e2,e3,ih]
attribute [simp] k25
theorem A9S(n:Nat)(b:A5):∀(d k:Nat) (c m:Nat),k+d=b.counts.length->d<m->b.lines.length<=8->b.counts.length<=4 ->
  ∃c',BN (AH cj ann kn (n+250) 110) RR (some ([1,5],[1])) m ⟨c,[(1,true,.ptr 0 1 0 0),(5,true,i k)],⟨[],[(1,0,.box (AE b))]⟩⟩ =
  if (b.counts.drop k).all (FL b.lines.length)=true then some (.exit 2,⟨c',[(71,true,.bool false),(70,true,i b.counts.length),(69,true,.list false (b.counts.map AM)),(68,true,.ptr 0 1 0 4),(67,true,i b.counts.length),(1,true,.ptr 0 1 0 0),(5,true,i b.counts.length)],⟨[],[(1,0,.box (AE b))]⟩⟩)
  else some (.ret,⟨c',[(2,true,i 1)],⟨[],[]⟩⟩)
 |0,k,c,m+1,hd,hm,hl,hl2=>by
  have:k=b.counts.length:=by omega
  subst this;refine⟨c,?_⟩;simp[AD,AE]
 |d+1,k,c,m+1,hd,hm,hl,hl2=>by
  have hk:k<b.counts.length:=by omega
  have hw:IntKind.i64.wrap ((k:Int)+1)=(k:Int)+1:=AU (by omega) (by omega);obtain⟨c',ih⟩:=A9S n b d (k+1) (c+1) m (by omega) (by omega) hl hl2;have hdr:=bj hk;have hlo:FL b.lines.length b.counts[k]=(D7 b.counts[k].a 0 b.lines.length&&(!decide (b.counts[k].lo<0)&&(!decide (b.counts[k].hi<b.counts[k].lo)&&!decide (2000<b.counts[k].hi)))):=rfl;generalize e1:D7 b.counts[k].a 0 b.lines.length=b1 at hlo;generalize e2:decide (b.counts[k].lo<0)=b2 at hlo;generalize e3:decide (b.counts[k].hi<b.counts[k].lo)=b3 at hlo;generalize e4:decide (2000<b.counts[k].hi)=b4 at hlo;rw[AD,hdr];simp only[AE,AM,List.all_cons,hlo]at ih|-;try simp at ih
  cases b1<;>cases b2<;>cases b3<;>cases b4<;>simp only[Bool.and_true,Bool.and_false,Bool.true_and,Bool.false_and,bp,if_false,Bool.not_true,Bool.not_false];all_goals first|(refine⟨c+1,?_⟩;simp[hk,hw,AM,e1,e2,e3,e4];done)|skip
  refine⟨c',?_⟩;simp[hk,hw,AM,e1,e2,e3,e4,ih]
theorem k67(n:Nat)(b:A5):AW cj kn (AH cj ann kn (n+400)) 111 [.agg (AE b)]=some (i (DC b)):=by
 rw[AO rfl,AP Tryz.func111 BD1 rfl (by simp[AE,AB,AM])];unfold DC;generalize e1:decide (8<b.lines.length)=b1;have e1':decide ((8:Int)<(b.lines.length:Int))=b1:=by rw[<-e1];congr 1;apply propext;omega
 generalize e2:decide (4<b.counts.length)=b2;have e2':decide ((4:Int)<(b.counts.length:Int))=b2:=by rw[<-e2];congr 1;apply propext;omega
 generalize e3:D7 b.chairs 1 4=b3;generalize e4:D7 b.coin 1 99=b4;generalize e5:D7 b.box 0 999=b5;cases b1
 ·cases b2
  ·cases b3
   ·simp[X1,AJ,AE,e1',e2',e3]
   ·cases b4
    ·simp[X1,AJ,AE,e1',e2',e3,e4]
    ·cases b5
     ·simp[X1,AJ,AE,e1',e2',e3,e4,e5]
     ·have h14:1<=b.chairs/\b.chairs<=4:=by simpa [D7]using e3
      have hl:b.lines.length<=8:=by simpa using e1
      have hc:b.counts.length<=4:=by simpa using e2
      obtain⟨c1,q1⟩:=A9R (n+143) b h14.1 h14.2 b.lines.length 0 1 (n+393) (by omega) (by omega) hl;obtain⟨c2,q2⟩:=A9S (n+142) b b.counts.length 0 c1 (n+392) (by omega) (by omega) hl hc;have q3:=fun n=>k52 n b h14.1 h14.2 (by omega);generalize e6:b.lines.all (CJ b.chairs)=b6;generalize e7:b.counts.all (FL b.lines.length)=b7;generalize e8:decide (4096<CS b.chairs 1 b.lines)=b8;have e8':(4096<CS b.chairs 1 b.lines)=(b8=true):=by rw[<-e8];simp
      simp only[bt,e6,e7,e8',AE,bx,bz,Int.natCast_zero]at q1 q2 q3|-;cases b6
      ·simp[X1,AJ,AE,e1',e2',e3,e4,e5];try simp at q1
       simp[q1]
      ·cases b7
       ·simp[X1,AJ,AE,e1',e2',e3,e4,e5];try simp at q1 q2
        simp[q1,q2]
       ·simp[X1,AJ,AE,e1',e2',e3,e4,e5];try simp at q1 q2
        simp[q1,q2,q3,e8,AB,AM];cases b8<;>simp
  ·simp[X1,AJ,AE,e1',e2']
 ·simp[X1,AJ,AE,e1']
def pP(b:A5):Bool:=decide (b.lines.length<=10)&&(decide (b.counts.length<=6)&&(!decide (DC b=0)||decide (CS b.chairs 1 b.lines<=100)))
theorem F8{b:A5}(h:DC b=0):1<=b.chairs/\b.chairs<=4/\b.lines.length<=8/\b.counts.length<=4/\1<=b.coin/\b.coin<=99/\0<=b.box/\b.box<=999/\b.lines.all (CJ b.chairs)=true/\b.counts.all (FL b.lines.length)=true/\CS b.chairs 1 b.lines<=4096:=by
 unfold DC at h;split at h
 ·omega
 ·rename_i h1;split at h
  ·omega
  ·rename_i h2;split at h
   ·omega
   ·rename_i h3;split at h
    ·omega
    ·rename_i h4;split at h
     ·omega
     ·rename_i h5;simp[D7]at h1 h2;simp only[Bool.not_eq_false]at h3 h4;refine⟨by omega,by omega,by omega,by omega,by omega,by omega,by omega,by omega,h3,h4,by omega⟩
theorem k19(n:Nat)(b:A5):AW cj kn (AH cj ann kn (n+500)) 64 [.agg (AE b)]=some (.bool (pP b)):=by
 rw[AO rfl,AP Tryz.func64 b64 rfl (by simp[AE,AB,AM])];have h:=fun n=>k67 n b;have h2:=fun n=>fun (h:DC b=0)=>k52 n b (F8 h).1 (F8 h).2.1 (by have:=(F8 h).2.2.1;omega);unfold pP;generalize e1:decide (b.lines.length<=10)=b1;have e1':decide ((b.lines.length:Int)<=10)=b1:=by rw[<-e1];congr 1;apply propext;omega
 generalize e2:decide (b.counts.length<=6)=b2;have e2':decide ((b.counts.length:Int)<=6)=b2:=by rw[<-e2];congr 1;apply propext;omega
 generalize e3:decide (DC b=0)=b3;generalize e4:decide (CS b.chairs 1 b.lines<=100)=b4;simp only[AE]at h h2|-;cases b1
 ·simp[c64,AJ,e1']
 ·cases b2
  ·simp[c64,AJ,e1',e2']
  ·cases b3
   ·simp[c64,AJ,e1',e2',h,AB,AM,e3]
   ·have h2:=fun n=>h2 n (by simpa using e3);simp[c64,AJ,e1',e2',h,AB,AM,e3,h2,e4]
theorem k30(n:Nat)(lo hi:Int):AW cj kn (AH cj ann kn (n+100)) 110 [.agg [i lo,i hi]]=some (.agg [i lo,i hi]):=by rw[AO rfl,AP Tryz.func110 BD2 rfl rfl];simp[A23,AJ]
theorem l35(n:Nat)(ls:List AF)(hl:ls.length<=1000):∀(d k:Nat) (out:List AF) (c γ m:Nat),k+d=ls.length->d<m->out.length<=k ->
  ∃c' γ',BN (AH cj ann kn (n+50) 31) fX (some ([0,3,4],[29])) m ⟨c,[(0,true,.list false (ls.map AB)),(3,true,pv 29 γ (out.map AB)),(4,true,i k)],⟨[],pl 29 γ 96 (out.map AB)⟩⟩ =
  some (.exit 0,⟨c',[(8,true,.bool false),(7,true,i ls.length),(6,true,.list false (ls.map AB)),(5,true,i ls.length),(0,true,.list false (ls.map AB)),(3,true,pv 29 γ' ((out++ls.drop k).map AB)),(4,true,i ls.length)],⟨[],pl 29 γ' 96 ((out++ls.drop k).map AB)⟩⟩)
 |0,k,out,c,γ,m+1,hd,hm,ho=>by
  have:k=ls.length:=by omega
  subst this;refine⟨c,γ,?_⟩;simp[AD]
 |d+1,k,out,c,γ,m+1,hd,hm,ho=>by
  have hk:k<ls.length:=by omega
  have hw:IntKind.i64.wrap ((k:Int)+1)=(k:Int)+1:=AU (by omega) (by omega);obtain⟨c',γ',ih⟩:=l35 n ls hl d (k+1) (out++[ls[k]]) (c+1) c m (by omega) (by omega) (by simp;omega);refine⟨c',γ',?_⟩;have ho':CD cj 96 out.length [[i ls[k].k,i ls[k].c,i ls[k].t]]=true:=by rw[CQ (by simp) (by simp)];simp[maxLen];omega
  rw[AD,bj hk];simp only[bw,bn,bh,FJ,AB,bq,bf,bc]at ih|-;try simp at ih
  simp[hk,hw,AB,ho',ih]
theorem k35(n:Nat)(ls:List AF)(hl:ls.length<=500):AW cj kn (AH cj ann kn (n+600)) 32 [.list false (ls.map AB)]=some (sl (ls.map AB)):=by
 rw[AO rfl,AP Tryz.func32 b32 rfl (by simp[AB])];obtain⟨c',γ',ih⟩:=l35 (n+544) ls (by omega) ls.length 0 [] 0 0 (n+594) (by omega) (by omega) (by simp);have hcl:((ls).map AB).all (fun e=>e.all (AK 8))=true:=by simp[AB]
 simp only[bx,bz]at ih;try simp at ih hcl
 simp[c32,AJ,ih];exact hcl
theorem l22(n:Nat)(b:A5)(hl:b.counts.length<=1000):∀(d k:Nat) (out:List FK) (c γ m:Nat),k+d=b.counts.length->d<m->out.length<=k->3<=c ->
  ∃c' γ':Nat,3<=c'/\BN (AH cj ann kn (n+250) 42) fZ (some ([1,2,3,4],[1,2,3,13,39])) m ⟨c,[(1,true,.ptr 0 1 0 0),(2,true,.ptr 0 2 1 0),(3,true,.ptr 0 3 2 0),(4,true,i k)],
   ⟨[],(1,0,.box (AE b)) :: (2,1,.box [i 0,i 0,i 0,.nil,.nil]) :: (3,2,.box [i b.chairs,i b.coin,i b.box,sl (b.lines.map AB),pv 39 γ (out.map AM)]) :: pl 39 γ 171 (out.map AM)⟩⟩=some (.exit 0,⟨c',[(19,true,.bool false),(18,true,i b.counts.length),(17,true,.list false (b.counts.map AM)),(16,true,.ptr 0 1 0 4),(15,true,i b.counts.length),(1,true,.ptr 0 1 0 0),(2,true,.ptr 0 2 1 0),(3,true,.ptr 0 3 2 0),(4,true,i b.counts.length)],
   ⟨[],(1,0,.box (AE b)) :: (2,1,.box [i 0,i 0,i 0,.nil,.nil]) :: (3,2,.box [i b.chairs,i b.coin,i b.box,sl (b.lines.map AB),pv 39 γ' ((out++b.counts.drop k).map AM)]) :: pl 39 γ' 171 ((out++b.counts.drop k).map AM)⟩⟩)
 |0,k,out,c,γ,m+1,hd,hm,ho,hc=>by
  have:k=b.counts.length:=by omega
  subst this;refine⟨c,γ,hc,?_⟩;simp[AD,AE]
 |d+1,k,out,c,γ,m+1,hd,hm,ho,hc=>by
  have hk:k<b.counts.length:=by omega
  have hw:IntKind.i64.wrap ((k:Int)+1)=(k:Int)+1:=AU (by omega) (by omega);obtain⟨c',γ',i1,ih⟩:=l22 n b hl d (k+1) (out++[b.counts[k]]) (c+1) c m (by omega) (by omega) (by simp;omega) (by omega);refine⟨c',γ',i1,?_⟩;have ho':CD cj 171 out.length [[i b.counts[k].a,i b.counts[k].lo,i b.counts[k].hi]]=true:=by rw[CQ (by simp) (by simp)];simp[maxLen];omega
  have h30:=fun n=>k30 n b.counts[k].lo b.counts[k].hi;rw[AD,bj hk];simp only[bw,bn,bh,FJ,AM,bq,bf,bc,AE]at ih|-;try simp at ih
  have hc2:2<c+1:=by omega
  simp[hk,hw,AM,ho',h30,P8,hc2,ih]
def uT(b:A5):List V:=[i b.chairs,i b.coin,i b.box,sl (b.lines.map AB),sl (b.counts.map AM)]
theorem k22(n:Nat)(b:A5)(hl:b.lines.length<=500)(hc:b.counts.length<=500):AW cj kn (AH cj ann kn (n+700)) 63 [.agg (AE b)]=some (.agg (uT b)):=by
 rw[AO rfl,AP Tryz.func63 b63 rfl (by simp[AE,AB,AM])];obtain⟨c',γ',i1,ih⟩:=l22 (n+444) b (by omega) b.counts.length 0 [] 3 0 (n+694) (by omega) (by omega) (by simp) (by omega);have h35:=fun n=>k35 n b.lines hl;simp only[bx,bz,AE,uT]at ih|-;try simp at ih
 have hc1:1<c':=by omega
 have hcl:(b.lines.map AB).all (fun e=>e.all (AK 7))=true:=by simp[AB]
 have hcl2:(b.counts.map AM).all (fun e=>e.all (AK 7))=true:=by simp[AM]
 try simp at hcl hcl2
 simp[c63,AJ,h35,AB,ih,hc1,UY (T:=171)];exact hcl2
def IU(n:Int):List V:=[i n]
def rng(a:Int):Nat->List Int
 |0=>[]
 |d+1=>a::rng (a+1) d
theorem xU(a:Int):∀d,(rng a d).length=d
 |0=>rfl
 |d+1=>by simp[rng,xU (a+1) d]
def F9(sign none a b:Int):List Int:=if sign=none then rng a (b+1-a).toNat else[sign]
theorem A9T(n:Nat)(b:Int)(hb:b<=100):∀(d:Nat) (a:Int) (out:List Int) (c γ m:Nat),a+d=b+1->d<m->0<=a->out.length+d<=1000 ->
  ∃c' γ':Nat,BN (AH cj ann kn (n+50) 26) WR (some ([3,8,9],[24])) m ⟨c,[(3,true,i b),(8,true,pv 24 γ (out.map IU)),(9,true,i a)],⟨[],pl 24 γ 3 (out.map IU)⟩⟩ =
  some (.exit 0,⟨c',[(18,true,.bool false),(17,true,i b),(16,true,i (b+1)),(3,true,i b),(8,true,pv 24 γ' ((out++rng a d).map IU)),(9,true,i (b+1))],⟨[],pl 24 γ' 3 ((out++rng a d).map IU)⟩⟩)
 |0,a,out,c,γ,m+1,hd,hm,ha,ho=>by
  have:a=b+1:=by omega
  subst this;have e:decide (b+1<=b)=false:=by simp;omega
  refine⟨c,γ,?_⟩;simp[AD,rng,e]
 |d+1,a,out,c,γ,m+1,hd,hm,ha,ho=>by
  have e:decide (a<=b)=true:=by simp;omega
  have hw:IntKind.i64.wrap (a+1)=a+1:=AU (by omega) (by omega);obtain⟨c',γ',ih⟩:=A9T n b hb d (a+1) (out++[a]) (c+1) c m (by omega) (by omega) (by omega) (by simp;omega);refine⟨c',γ',?_⟩;have ho':CD cj 3 out.length [[i a]]=true:=by rw[CQ (by simp) (by simp)];simp[maxLen];omega
  rw[AD];simp only[rng,bw,bn,bh,FJ,IU,bq,bf,bc]at ih|-;simp[hw,IU,ho',e,ih]
theorem AMH(n:Nat)(sg no a b:Int)(hb:b<=100)(ha:0<=a)(hab:a<=b+1):AW cj kn (AH cj ann kn (n+200)) 173 [i sg,i no,i a,i b]=some (sl ((F9 sg no a b).map IU)):=by
 rw[AO rfl,AP Tryz.func173 BD3 rfl rfl];obtain⟨c',γ',ih⟩:=A9T (n+144) b hb (b+1-a).toNat a [] 0 0 (n+194) (by omega) (by omega) ha (by simp;omega);unfold F9;by_cases h:sg=no
 ·have hcl:((rng a (b+1-a).toNat).map IU).all (fun e=>e.all (AK 8))=true:=by simp[IU]
  simp only[bx,bz]at ih;try simp at ih hcl
  simp[AQ6,AJ,h,ih];exact hcl
 ·have e:decide (sg=no)=false:=by simpa using h
  simp[AQ6,AJ,h,IU,sl]
def rd3(k ch:Int)(zs:List Int):List AF:=zs.map fun t=>⟨k,ch,t⟩
theorem A9U(n:Nat)(b:A5)(l:AF)(k ch:Int)(xs ys zs:List Int)(ix iy:Nat)(hz:zs.length<=100):∀(d j:Nat) (out:List AF) (c γ m:Nat),j+d=zs.length->d<m->out.length<=10000+j ->
  ∃c' γ':Nat,BN (AH cj ann kn (n+50) 52) WS (some ([2,3,4,6,8,13,14,15,24,25,26,35,36,37],[2,3,13,24,35,47])) m ⟨c,[(2,true,.ptr 0 2 0 0),(3,true,.ptr 0 3 1 0),(4,true,pv 47 γ (out.map AB)),(6,true,i k),(8,true,i ch),(13,true,sl (xs.map IU)),(14,true,i xs.length),(15,true,i ix),(24,true,sl (ys.map IU)),(25,true,i ys.length),(26,true,i iy),(35,true,sl (zs.map IU)),(36,true,i zs.length),(37,true,i j)],⟨[],(2,0,.box (AE b))::(3,1,.box (AB l))::pl 47 γ 96 (out.map AB)⟩⟩ =
  some (.exit 4,⟨c',[(38,true,.bool false),(2,true,.ptr 0 2 0 0),(3,true,.ptr 0 3 1 0),(4,true,pv 47 γ' ((out++rd3 k ch (zs.drop j)).map AB)),(6,true,i k),(8,true,i ch),(13,true,sl (xs.map IU)),(14,true,i xs.length),(15,true,i ix),(24,true,sl (ys.map IU)),(25,true,i ys.length),(26,true,i iy),(35,true,sl (zs.map IU)),(36,true,i zs.length),(37,true,i zs.length)],⟨[],(2,0,.box (AE b))::(3,1,.box (AB l))::pl 47 γ' 96 ((out++rd3 k ch (zs.drop j)).map AB)⟩⟩)
 |0,j,out,c,γ,m+1,hd,hm,ho=>by
  have:j=zs.length:=by omega
  subst this;refine⟨c,γ,?_⟩;simp[AD,rd3]
 |d+1,j,out,c,γ,m+1,hd,hm,ho=>by
  have hj:j<zs.length:=by omega
  have hw:IntKind.i64.wrap ((j:Int)+1)=(j:Int)+1:=AU (by omega) (by omega);obtain⟨c',γ',ih⟩:=A9U n b l k ch xs ys zs ix iy hz d (j+1) (out++[⟨k,ch,zs[j]⟩]) (c+1) c m (by omega) (by omega) (by simp;omega);refine⟨c',γ',?_⟩;have ho':CD cj 96 out.length [[i k,i ch,i zs[j]]]=true:=by rw[CQ (by simp) (by simp)];simp[maxLen];omega
  rw[AD,bj hj];simp only[rd3,bw,bn,bh,FJ,AB,bq,bf,bc]at ih|-;try simp at ih
  simp[hj,hw,IU,AB,ho',ih]
def rd2(C:Int)(l:AF)(k:Int)(ys:List Int):List AF:=ys.flatMap fun ch=>rd3 k ch (F9 l.t (-1) 0 (C-1))
theorem L9(sg no a b:Int)(h:b+1-a<=4):(F9 sg no a b).length<=4:=by
 unfold F9;split
 ·rw[xU];omega
 ·simp
theorem A9V(n:Nat)(b:A5)(l:AF)(h1:1<=b.chairs)(h4:b.chairs<=4)(k:Int)(xs ys:List Int)(ix:Nat)(hz:ys.length<=100):∀(d j:Nat) (out:List AF) (c γ m:Nat),j+d=ys.length->d<m->out.length<=1000+4*j ->
  ∃c' γ':Nat,BN (AH cj ann kn (n+300) 52) WT (some ([2,3,4,6,13,14,15,24,25,26],[2,3,13,24,47])) m ⟨c,[(2,true,.ptr 0 2 0 0),(3,true,.ptr 0 3 1 0),(4,true,pv 47 γ (out.map AB)),(6,true,i k),(13,true,sl (xs.map IU)),(14,true,i xs.length),(15,true,i ix),(24,true,sl (ys.map IU)),(25,true,i ys.length),(26,true,i j)],⟨[],(2,0,.box (AE b))::(3,1,.box (AB l))::pl 47 γ 96 (out.map AB)⟩⟩ =
  some (.exit 2,⟨c',[(27,true,.bool false),(2,true,.ptr 0 2 0 0),(3,true,.ptr 0 3 1 0),(4,true,pv 47 γ' ((out++rd2 b.chairs l k (ys.drop j)).map AB)),(6,true,i k),(13,true,sl (xs.map IU)),(14,true,i xs.length),(15,true,i ix),(24,true,sl (ys.map IU)),(25,true,i ys.length),(26,true,i ys.length)],⟨[],(2,0,.box (AE b))::(3,1,.box (AB l))::pl 47 γ' 96 ((out++rd2 b.chairs l k (ys.drop j)).map AB)⟩⟩)
 |0,j,out,c,γ,m+1,hd,hm,ho=>by
  have:j=ys.length:=by omega
  subst this;refine⟨c,γ,?_⟩;simp[AD,rd2]
 |d+1,j,out,c,γ,m+1,hd,hm,ho=>by
  have hj:j<ys.length:=by omega
  have hw:IntKind.i64.wrap ((j:Int)+1)=(j:Int)+1:=AU (by omega) (by omega);have hw2:IntKind.i64.wrap (b.chairs-1)=b.chairs-1:=AU (by omega) (by omega);have hwl:=L9 l.t (-1) 0 (b.chairs-1) (by omega);have hk:=fun n=>AMH n l.t (-1) 0 (b.chairs-1) (by omega) (by omega) (by omega);obtain⟨c1,γ1,q⟩:=A9U (n+242) b l k ys[j] xs ys (F9 l.t (-1) 0 (b.chairs-1)) ix j (by omega) (F9 l.t (-1) 0 (b.chairs-1)).length 0 out c γ (n+292) (by omega) (by omega) (by omega);obtain⟨c',γ',ih⟩:=A9V n b l h1 h4 k xs ys ix hz d (j+1) (out++rd3 k ys[j] (F9 l.t (-1) 0 (b.chairs-1))) c1 γ1 m (by omega) (by omega) (by simp[rd3];omega);refine⟨c',γ',?_⟩;rw[AD,bj hj];simp only[rd2,br,bw,bq,bx,bz,AE,AB,bt]at ih q|-;try simp at ih q
  simp[hj,hw,hw2,IU,hk,q,ih]
def rd1(C:Int)(l:AF)(xs:List Int):List AF:=xs.flatMap fun k=>rd2 C l k (F9 l.c (-1) 0 (C-1))
theorem AMJ(k ch:Int)(zs:List Int):(rd3 k ch zs).length=zs.length:=by simp[rd3]
theorem jQ(C:Int)(l:AF)(k:Int)(hC:C<=4):∀(ys:List Int),(rd2 C l k ys).length<=4*ys.length
 |[]=>by simp[rd2]
 |y::ys=>by have:=jQ C l k hC ys;have h2:=L9 l.t (-1) 0 (C-1) (by omega);simp only[rd2,br,bg,AMJ,List.length_cons]at this|-;omega
theorem AWI(n:Nat)(b:A5)(l:AF)(h1:1<=b.chairs)(h4:b.chairs<=4)(xs:List Int)(hz:xs.length<=10):∀(d j:Nat) (out:List AF) (c γ m:Nat),j+d=xs.length->d<m->out.length<=16*j ->
  ∃c' γ':Nat,BN (AH cj ann kn (n+400) 52) WU (some ([2,3,4,13,14,15],[2,3,13,47])) m ⟨c,[(2,true,.ptr 0 2 0 0),(3,true,.ptr 0 3 1 0),(4,true,pv 47 γ (out.map AB)),(13,true,sl (xs.map IU)),(14,true,i xs.length),(15,true,i j)],⟨[],(2,0,.box (AE b))::(3,1,.box (AB l))::pl 47 γ 96 (out.map AB)⟩⟩ =
  some (.exit 0,⟨c',[(16,true,.bool false),(2,true,.ptr 0 2 0 0),(3,true,.ptr 0 3 1 0),(4,true,pv 47 γ' ((out++rd1 b.chairs l (xs.drop j)).map AB)),(13,true,sl (xs.map IU)),(14,true,i xs.length),(15,true,i xs.length)],⟨[],(2,0,.box (AE b))::(3,1,.box (AB l))::pl 47 γ' 96 ((out++rd1 b.chairs l (xs.drop j)).map AB)⟩⟩)
 |0,j,out,c,γ,m+1,hd,hm,ho=>by
  have:j=xs.length:=by omega
  subst this;refine⟨c,γ,?_⟩;simp[AD,rd1]
 |d+1,j,out,c,γ,m+1,hd,hm,ho=>by
  have hj:j<xs.length:=by omega
  have hw:IntKind.i64.wrap ((j:Int)+1)=(j:Int)+1:=AU (by omega) (by omega);have hw2:IntKind.i64.wrap (b.chairs-1)=b.chairs-1:=AU (by omega) (by omega);have hwl:=L9 l.c (-1) 0 (b.chairs-1) (by omega);have hrl:=jQ b.chairs l xs[j] h4 (F9 l.c (-1) 0 (b.chairs-1));have hk:=fun n=>AMH n l.c (-1) 0 (b.chairs-1) (by omega) (by omega) (by omega);obtain⟨c1,γ1,q⟩:=A9V (n+92) b l h1 h4 xs[j] xs (F9 l.c (-1) 0 (b.chairs-1)) j (by omega) (F9 l.c (-1) 0 (b.chairs-1)).length 0 out c γ (n+392) (by omega) (by omega) (by omega);obtain⟨c',γ',ih⟩:=AWI n b l h1 h4 xs hz d (j+1) (out++rd2 b.chairs l xs[j] (F9 l.c (-1) 0 (b.chairs-1))) c1 γ1 m (by omega) (by omega) (by simp;omega);refine⟨c',γ',?_⟩;rw[AD,bj hj];simp only[rd1,br,bw,bq,bx,bz,AE,AB,bt]at ih q|-;try simp at ih q
  simp[hj,hw,hw2,IU,hk,q,ih]
def readingsP(C:Int)(l:AF):List AF:=rd1 C l (F9 l.k 0 1 2)
theorem k81(n:Nat)(b:A5)(l:AF)(h1:1<=b.chairs)(h4:b.chairs<=4):AW cj kn (AH cj ann kn (n+500)) 142 [.agg (AE b),.agg (AB l)]=some (sl ((readingsP b.chairs l).map AB)):=by
 rw[AO rfl,AP Tryz.func142 A24 rfl (by simp[AE,AB,AM])];have hwl:=L9 l.k 0 1 2 (by omega);have hk:=fun n=>AMH n l.k 0 1 2 (by omega) (by omega) (by omega);obtain⟨c',γ',ih⟩:=AWI (n+95) b l h1 h4 (F9 l.k 0 1 2) (by omega) (F9 l.k 0 1 2).length 0 [] 2 0 (n+495) (by omega) (by omega) (by simp);have hcl:((readingsP b.chairs l).map AB).all (fun e=>e.all (AK 8))=true:=by simp[AB]
 simp only[bx,bz,AE,AB]at ih|-;simp[readingsP]at ih hcl;simp[AQ7,AJ,hk,ih,readingsP];exact hcl
end Go.Proofs.Tryz.Op
