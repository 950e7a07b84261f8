/- Contracts of small functions of the reference: In, Agrees, Readings; and of within. No condition. -/
import Derived.Test.YtmnlpgjklibndaaGreatFz
open Go.Proofs.Tryz renaming prog->cj
open List renaming drop_eq_getElem_cons->bj,append_assoc->bq,map_append->bw,nil_append->bc,cons_append->bf,length_append->bg,map_nil->bh,map_cons->bn,flatMap_cons->br,drop_zero->bt
open Nat renaming add_assoc->bx,reduceAdd->bz
open Bool renaming false_eq_true->bp
set_option maxRecDepth 100000
set_option linter.unusedSimpArgs false
open Go Go.Pg Go.Proofs
@[simp] theorem Go.Pg.rowCl_eq:AB2=[118]:=rfl
namespace Go.Proofs.Tryz.Op
abbrev i(n:Int):V:=.int .i64 n
def EL(n lo hi:Int):Bool:=decide (lo<=n)&&decide (n<=hi)
theorem k25(n:Nat)(x lo hi:Int):A5 cj kn (AG cj ann kn (n+100)) 48 [i x,i lo,i hi]=some (.bool (EL x lo hi)):=by rw[AQ rfl,AR Tryz.func48 b48 rfl rfl];unfold EL;generalize e1:decide (lo<=x)=b1;simp[e1,c48,AH];cases b1<;>simp
theorem k69(n:Nat)(x lo hi:Int):A5 cj kn (AG cj ann kn (n+100)) 106 [i x,i lo,i hi]=some (.bool (EL x lo hi)):=by rw[AQ rfl,AR Tryz.func106 A8J rfl rfl];unfold EL;generalize e1:decide (lo<=x)=b1;simp[e1,AX6,AH];cases b1<;>simp
structure AE where
 k:Int
 c:Int
 t:Int
def AB(l:AE):List V:=[i l.k,i l.c,i l.t]
def OQ(l x:AE):Bool:=(decide (l.k=0)||decide (l.k=x.k))&&((decide (l.c<0)||decide (l.c=x.c))&&(decide (l.t<0)||decide (l.t=x.t)))
theorem k99(n:Nat)(l x:AE):A5 cj kn (AG cj ann kn (n+100)) 123 [.agg (AB l),.agg (AB x)]=some (.bool (OQ l x)):=by rw[AQ rfl,AR Tryz.func123 A8K rfl rfl];unfold OQ;generalize e1:decide (l.k=0)=b1;generalize e2:decide (l.k=x.k)=b2;generalize e3:decide (l.c<0)=b3;generalize e4:decide (l.c=x.c)=b4;generalize e5:decide (l.t<0)=b5;generalize e6:decide (l.t=x.t)=b6;simp[e1,e2,e3,e4,e5,e6,AX7,AH,AB];cases b1<;>(try simp[e1,e2,e3,e4,e5,e6])<;>cases b2<;>(try simp[e1,e2,e3,e4,e5,e6])<;>cases b3<;>(try simp[e1,e2,e3,e4,e5,e6])<;>cases b4<;>(try simp[e1,e2,e3,e4,e5,e6])<;>cases b5<;>(try simp[e1,e2,e3,e4,e5,e6])
structure E8 where
 a:Int
 lo:Int
 hi:Int
def AM(l:E8):List V:=[i l.a,i l.lo,i l.hi]
structure AY where
 chairs:Int
 coin:Int
 box:Int
 lines:List AE
 counts:List E8
def AC(b:AY):List V:=[i b.chairs,i b.coin,i b.box,.list false (b.lines.map AB),.list false (b.counts.map AM)]
def YN(l:AE)(k c t:Int):Nat->List AE
 |0=>[]
 |d+1=>(if OQ l ⟨k,c,t⟩=true then[⟨k,c,t⟩] else[])++YN l k c (t+1) d
attribute [simp] k99 k25 k69
theorem l9(n:Nat)(b:AY)(l:AE)(k ch:Int)(h1:1<=b.chairs)(h4:b.chairs<=4):∀(d:Nat) (t:Int) (out:List AE) (c γ m:Nat),0<=t->t+d=b.chairs->d<m->2<=c->γ<c->out.length+d<=1000 ->
  ∃c' γ',2<=c'/\γ'<c'/\BS (AG cj ann kn (n+130) 39) QI (some ([2,3,5,6,7,8],[2,3,37])) m ⟨c,[(2,true,.ptr 0 2 0 0),(3,true,.ptr 0 3 1 0),(5,true,pv 37 γ (out.map AB)),(6,true,i k),(7,true,i ch),(8,true,i t)],
   ⟨[],(2,0,.box (AC b)) :: (3,1,.box (AB l)) :: pl 37 γ 133 (out.map AB)⟩⟩=some (.exit 4,⟨c',[(22,true,.bool false),(21,true,i b.chairs),(20,true,.ptr 0 2 0 0),(19,true,i b.chairs),(2,true,.ptr 0 2 0 0),(3,true,.ptr 0 3 1 0),(5,true,pv 37 γ' ((out++YN l k ch t d).map AB)),(6,true,i k),(7,true,i ch),(8,true,i b.chairs)],
   ⟨[],(2,0,.box (AC b)) :: (3,1,.box (AB l)) :: pl 37 γ' 133 ((out++YN l k ch t d).map AB)⟩⟩)
 |0,t,out,c,γ,m+1,ht,hd,hm,hc,hg,ho=>by
  refine⟨c,γ,hc,hg,?_⟩;have:t=b.chairs:=by omega
  subst this;simp[AD,QI,AC,AB,YN]
 |d+1,t,out,c,γ,m+1,ht,hd,hm,hc,hg,ho=>by
  have e1:decide (t<b.chairs)=true:=by simp;omega
  have ha:=fun n=>k99 n l ⟨k,ch,t⟩;simp only[AB]at ha;rw[AD];generalize hb:OQ l ⟨k,ch,t⟩=bb at ha;have hw:IntKind.i64.wrap (t+1)=t+1:=AV (by omega) (by omega);cases bb with
  |false=>
   obtain⟨c',γ',i1,i2,i3⟩:=l9 n b l k ch h1 h4 d (t+1) out c γ m (by omega) (by omega) (by omega) hc hg (by omega)
   refine⟨c',γ',i1,i2,?_⟩
   simp only[YN,hb,AC,AB,if_false,bc,bp]at i3|-
   simp[e1,ha,hw,i3]
  |true=>
   obtain⟨c',γ',i1,i2,i3⟩:=l9 n b l k ch h1 h4 d (t+1) (out++[⟨k,ch,t⟩]) (c+1) c m (by omega) (by omega) (by omega) (by omega) (by omega) (by simp;omega)
   refine⟨c',γ',i1,i2,?_⟩
   have ho':CH cj 133 out.length [[i k,i ch,i t]]=true:=by rw[DL (by simp) (by simp)];simp[maxLen];omega
   simp only[YN,hb,AC,AB,if_true,bw,bn,bh,bq,bf,bc,J4]at i3|-
   simp[e1,ha,hw,i3,ho',AB]
def FL(l:AE)(k c:Int)(C:Nat):Nat->List AE
 |0=>[]
 |d+1=>YN l k c 0 C++FL l k (c+1) C d
theorem YO(l:AE)(k c:Int):∀(d:Nat) (t:Int),(YN l k c t d).length<=d
 |0,t=>by simp[YN]
 |d+1,t=>by have:=YO l k c d (t+1);simp only[YN,bg];split<;>simp<;>omega
theorem l6(n:Nat)(b:AY)(l:AE)(k:Int)(h1:1<=b.chairs)(h4:b.chairs<=4):∀(d:Nat) (t:Int) (out:List AE) (c γ m:Nat),0<=t->t+d=b.chairs->d<m->2<=c->γ<c->out.length+4*d<=1000 ->
  ∃c' γ',2<=c'/\γ'<c'/\BS (AG cj ann kn (n+140) 39) U0 (some ([2,3,5,6,7],[2,3,37])) m ⟨c,[(2,true,.ptr 0 2 0 0),(3,true,.ptr 0 3 1 0),(5,true,pv 37 γ (out.map AB)),(6,true,i k),(7,true,i t)],
   ⟨[],(2,0,.box (AC b)) :: (3,1,.box (AB l)) :: pl 37 γ 133 (out.map AB)⟩⟩=some (.exit 2,⟨c',[(16,true,.bool false),(15,true,i b.chairs),(14,true,.ptr 0 2 0 0),(13,true,i b.chairs),(2,true,.ptr 0 2 0 0),(3,true,.ptr 0 3 1 0),(5,true,pv 37 γ' ((out++FL l k t b.chairs.toNat d).map AB)),(6,true,i k),(7,true,i b.chairs)],
   ⟨[],(2,0,.box (AC b)) :: (3,1,.box (AB l)) :: pl 37 γ' 133 ((out++FL l k t b.chairs.toNat d).map AB)⟩⟩)
 |0,t,out,c,γ,m+1,ht,hd,hm,hc,hg,ho=>by
  refine⟨c,γ,hc,hg,?_⟩;have:t=b.chairs:=by omega
  subst this;simp[AD,AC,AB,FL]
 |d+1,t,out,c,γ,m+1,ht,hd,hm,hc,hg,ho=>by
  have e1:decide (t<b.chairs)=true:=by simp;omega
  have hw:IntKind.i64.wrap (t+1)=t+1:=AV (by omega) (by omega);have hl:=YO l k t b.chairs.toNat 0;obtain⟨c1,γ1,j1,j2,j3⟩:=l9 (n+4) b l k t h1 h4 b.chairs.toNat 0 out c γ (n+134) (by omega) (by omega) (by omega) hc hg (by omega);obtain⟨c',γ',i1,i2,i3⟩:=l6 n b l k h1 h4 d (t+1) (out++YN l k t 0 b.chairs.toNat) c1 γ1 m (by omega) (by omega) (by omega) j1 j2 (by simp;omega);refine⟨c',γ',i1,i2,?_⟩;rw[AD];simp only[FL,AC,AB,bw,bq,bx,bz]at i3 j3|-;simp[e1,hw,j3,i3]
theorem YP(l:AE)(k:Int)(C:Nat):∀(d:Nat) (t:Int),(FL l k t C d).length<=C*d
 |0,t=>by simp[FL]
 |d+1,t=>by have h1:=YP l k C d (t+1);have h2:=YO l k t C 0;simp only[FL,bg,Nat.mul_succ];omega
def fK(l:AE)(k:Int)(C:Nat):Nat->List AE
 |0=>[]
 |d+1=>FL l k 0 C C++fK l (k+1) C d
theorem l3(n:Nat)(b:AY)(l:AE)(h1:1<=b.chairs)(h4:b.chairs<=4):∀(d:Nat) (t:Int) (out:List AE) (c γ m:Nat),t+d=3->d<=2->d<m->2<=c->γ<c->out.length+16*d<=100 ->
  ∃c' γ',2<=c'/\γ'<c'/\BS (AG cj ann kn (n+150) 39) U1 (some ([2,3,5,6],[2,3,37])) m ⟨c,[(2,true,.ptr 0 2 0 0),(3,true,.ptr 0 3 1 0),(5,true,pv 37 γ (out.map AB)),(6,true,i t)],
   ⟨[],(2,0,.box (AC b)) :: (3,1,.box (AB l)) :: pl 37 γ 133 (out.map AB)⟩⟩=some (.exit 0,⟨c',[(10,true,.bool false),(9,true,i 3),(2,true,.ptr 0 2 0 0),(3,true,.ptr 0 3 1 0),(5,true,pv 37 γ' ((out++fK l t b.chairs.toNat d).map AB)),(6,true,i 3)],
   ⟨[],(2,0,.box (AC b)) :: (3,1,.box (AB l)) :: pl 37 γ' 133 ((out++fK l t b.chairs.toNat d).map AB)⟩⟩)
 |0,t,out,c,γ,m+1,hd,hd2,hm,hc,hg,ho=>by
  refine⟨c,γ,hc,hg,?_⟩;have:t=3:=by omega
  subst this;simp[AD,AC,AB,fK]
 |d+1,t,out,c,γ,m+1,hd,hd2,hm,hc,hg,ho=>by
  have e1:decide (t<=2)=true:=by simp;omega
  have hw:IntKind.i64.wrap (t+1)=t+1:=AV (by omega) (by omega);have hl:=YP l t b.chairs.toNat b.chairs.toNat 0;have hC:b.chairs.toNat*b.chairs.toNat<=16:=Nat.mul_le_mul (show b.chairs.toNat<=4 by omega) (show b.chairs.toNat<=4 by omega);obtain⟨c1,γ1,j1,j2,j3⟩:=l6 (n+4) b l t h1 h4 b.chairs.toNat 0 out c γ (n+144) (by omega) (by omega) (by omega) hc hg (by omega);obtain⟨c',γ',i1,i2,i3⟩:=l3 n b l h1 h4 d (t+1) (out++FL l t 0 b.chairs.toNat b.chairs.toNat) c1 γ1 m (by omega) (by omega) (by omega) j1 j2 (by simp;omega);refine⟨c',γ',i1,i2,?_⟩;rw[AD];simp only[fK,AC,AB,bw,bq,bx,bz]at i3 j3|-;simp[e1,hw,j3,i3]
def A4(C:Int)(l:AE):List AE:=fK l 1 C.toNat 2
theorem k83(n:Nat)(b:AY)(l:AE)(h1:1<=b.chairs)(h4:b.chairs<=4):A5 cj kn (AG cj ann kn (n+200)) 140 [.agg (AC b),.agg (AB l)]=some (sl ((A4 b.chairs l).map AB)):=by
 rw[AQ rfl,AR Tryz.func140 A8L rfl (by simp[AC,AB,AM])];obtain⟨c',γ',i1,i2,i3⟩:=l3 (n+44) b l h1 h4 2 1 [] 2 0 (n+194) (by omega) (by omega) (by omega) (by omega) (by omega) (by simp);simp only[AC,AB,bw,bh,bc,bq,bx,bz,fB,NW]at i3;have hcl:((A4 b.chairs l).map AB).all (fun e=>e.all (AK 8))=true:=by simp[AB]
 simp[AX8,AH,AC,AB,i3];simp[A4]at hcl|-
theorem lU(l:AE)(C:Nat):∀(d:Nat) (t:Int),(fK l t C d).length<=C*C*d
 |0,t=>by simp[fK]
 |d+1,t=>by have h1:=lU l C d (t+1);have h2:=YP l t C C 0;simp only[fK,bg,Nat.mul_succ];omega
theorem MG(C:Int)(l:AE)(h:C<=4):(A4 C l).length<=32:=by have:=lU l C.toNat 2 1;have hC:C.toNat*C.toNat<=16:=Nat.mul_le_mul (show C.toNat<=4 by omega) (show C.toNat<=4 by omega);unfold A4;omega
def JK(v:Int):Int:=if v<5000 then v else 5000
def C4(C:Int)(n:Int)(ls:List AE):Int:=ls.foldl (fun n l=>JK (n*(A4 C l).length)) n
theorem TJ{n:Int}{k:Nat}(h0:0<=n)(h1:n<=5000)(hk:k<=32):0<=n*k/\n*k<=160000:=by
 refine⟨Int.mul_nonneg h0 (by omega),?_⟩;calc n*k<=5000*32:=Int.mul_le_mul h1 (by omega) (by omega) (by omega)
  _=160000:=by decide
theorem l52(n:Nat)(b:AY)(h1:1<=b.chairs)(h4:b.chairs<=4):∀(d k:Nat) (v:Int) (m:Nat),k+d=b.lines.length->d<m->0<=v->v<=5000->b.lines.length<=1000 ->
  BS (AG cj ann kn (n+250) 24) U2 (some ([1,3,4],[1,19])) m ⟨1,[(1,true,.ptr 0 1 0 0),(3,true,i v),(4,true,i k)],⟨[],[(1,0,.box (AC b))]⟩⟩ =
  some (.exit 0,⟨1,[(9,true,.bool false),(8,true,i b.lines.length),(7,true,.list false (b.lines.map AB)),(6,true,.ptr 0 1 0 3),(5,true,i b.lines.length),(1,true,.ptr 0 1 0 0),(3,true,i (C4 b.chairs v (b.lines.drop k))),(4,true,i b.lines.length)],⟨[],[(1,0,.box (AC b))]⟩⟩)
 |0,k,v,m+1,hd,hm,hv,hv2,hl=>by
  have:k=b.lines.length:=by omega
  subst this;simp[AD,AC,C4]
 |d+1,k,v,m+1,hd,hm,hv,hv2,hl=>by
  have hk:k<b.lines.length:=by omega
  have hr:=MG b.chairs b.lines[k] h4;have hq:=TJ hv hv2 hr;have hw:IntKind.i64.wrap ((k:Int)+1)=(k:Int)+1:=AV (by omega) (by omega);have hw2:IntKind.i64.wrap (v*((A4 b.chairs b.lines[k]).length:Int))=v*((A4 b.chairs b.lines[k]).length:Int):=AV (by omega) (by omega);have h5:0<=JK (v*((A4 b.chairs b.lines[k]).length:Int))/\JK (v*((A4 b.chairs b.lines[k]).length:Int))<=5000:=by unfold JK;split<;>omega
  have ih:=l52 n b h1 h4 d (k+1) (JK (v*((A4 b.chairs b.lines[k]).length:Int))) m (by omega) (by omega) h5.1 h5.2 hl;have hc:=fun n=>k83 n b b.lines[k] h1 h4;rw[AD];simp only[AC,AB,bj hk,C4,List.foldl_cons,JK]at ih hc|-;simp[hk,hw,hw2,AB,hc,AM];try simp at ih
  simp[ih]
theorem k52(n:Nat)(b:AY)(h1:1<=b.chairs)(h4:b.chairs<=4)(hl:b.lines.length<=200):A5 cj kn (AG cj ann kn (n+300)) 112 [.agg (AC b)]=some (i (C4 b.chairs 1 b.lines)):=by
 rw[AQ rfl,AR Tryz.func112 A8M rfl (by simp[AC,AB,AM])];have:=l52 (n+44) b h1 h4 b.lines.length 0 1 (n+294) (by omega) (by omega) (by omega) (by omega) (by omega);simp only[AC,bx,bz]at this;simp[AX9,AH,AC];try simp at this
 simp[this]
def CA(C:Int)(l:AE):Bool:=EL l.k 0 2&&(EL l.c (-1) (C-1)&&EL l.t (-1) (C-1))
def FF(n:Nat)(c:E8):Bool:=EL c.a 0 n&&(!decide (c.lo<0)&&(!decide (c.hi<c.lo)&&!decide (2000<c.hi)))
def DH(b:AY):Int :=
 if (decide (8<b.lines.length)||decide (4<b.counts.length))=true then 3
 else if (EL b.chairs 1 4&&(EL b.coin 1 99&&EL b.box 0 999))=false then 1
 else if b.lines.all (CA b.chairs)=false then 1
 else if b.counts.all (FF b.lines.length)=false then 1
 else if 4096<C4 b.chairs 1 b.lines then 3 else 0
theorem A4J(n:Nat)(b:AY)(h1:1<=b.chairs)(h4:b.chairs<=4):∀(d k:Nat) (c m:Nat),k+d=b.lines.length->d<m->b.lines.length<=8 ->
  ∃c',BS (AG cj ann kn (n+250) 110) U3 (some ([1,3],[1])) m ⟨c,[(1,true,.ptr 0 1 0 0),(3,true,i k)],⟨[],[(1,0,.box (AC b))]⟩⟩ =
  if (b.lines.drop k).all (CA b.chairs)=true then some (.exit 0,⟨c',[(37,true,.bool false),(36,true,i b.lines.length),(35,true,.list false (b.lines.map AB)),(34,true,.ptr 0 1 0 3),(33,true,i b.lines.length),(1,true,.ptr 0 1 0 0),(3,true,i b.lines.length)],⟨[],[(1,0,.box (AC b))]⟩⟩)
  else some (.ret,⟨c',[(2,true,i 1)],⟨[],[]⟩⟩)
 |0,k,c,m+1,hd,hm,hl=>by
  have:k=b.lines.length:=by omega
  subst this;refine⟨c,?_⟩;simp[AD,AC]
 |d+1,k,c,m+1,hd,hm,hl=>by
  have hk:k<b.lines.length:=by omega
  have hw:IntKind.i64.wrap ((k:Int)+1)=(k:Int)+1:=AV (by omega) (by omega);have hw2:IntKind.i64.wrap (b.chairs-1)=b.chairs-1:=AV (by omega) (by omega);obtain⟨c',ih⟩:=A4J n b h1 h4 d (k+1) (c+1) m (by omega) (by omega) hl;have hdr:=bj hk;have hlo:CA b.chairs b.lines[k]=(EL b.lines[k].k 0 2&&(EL b.lines[k].c (-1) (b.chairs-1)&&EL b.lines[k].t (-1) (b.chairs-1))):=rfl;generalize e1:EL b.lines[k].k 0 2=b1 at hlo;generalize e2:EL b.lines[k].c (-1) (b.chairs-1)=b2 at hlo;generalize e3:EL b.lines[k].t (-1) (b.chairs-1)=b3 at hlo;rw[AD,hdr];simp only[AC,AB,List.all_cons,hlo]at ih|-;try simp at ih
  cases b1<;>cases b2<;>cases b3<;>simp only[Bool.and_true,Bool.and_false,Bool.true_and,Bool.false_and,bp,if_false];all_goals first|(refine⟨c+1,?_⟩;simp[hk,hw,hw2,AB,e1,e2,e3];done)|skip
  refine⟨c',?_⟩;simp[hk,hw,hw2,AB,e1,e2,e3,ih]
attribute [simp] k25
theorem A4K(n:Nat)(b:AY):∀(d k:Nat) (c m:Nat),k+d=b.counts.length->d<m->b.lines.length<=8->b.counts.length<=4 ->
  ∃c',BS (AG cj ann kn (n+250) 110) QK (some ([1,5],[1])) m ⟨c,[(1,true,.ptr 0 1 0 0),(5,true,i k)],⟨[],[(1,0,.box (AC b))]⟩⟩ =
  if (b.counts.drop k).all (FF b.lines.length)=true then some (.exit 2,⟨c',[(71,true,.bool false),(70,true,i b.counts.length),(69,true,.list false (b.counts.map AM)),(68,true,.ptr 0 1 0 4),(67,true,i b.counts.length),(1,true,.ptr 0 1 0 0),(5,true,i b.counts.length)],⟨[],[(1,0,.box (AC b))]⟩⟩)
  else some (.ret,⟨c',[(2,true,i 1)],⟨[],[]⟩⟩)
 |0,k,c,m+1,hd,hm,hl,hl2=>by
  have:k=b.counts.length:=by omega
  subst this;refine⟨c,?_⟩;simp[AD,AC]
 |d+1,k,c,m+1,hd,hm,hl,hl2=>by
  have hk:k<b.counts.length:=by omega
  have hw:IntKind.i64.wrap ((k:Int)+1)=(k:Int)+1:=AV (by omega) (by omega);obtain⟨c',ih⟩:=A4K n b d (k+1) (c+1) m (by omega) (by omega) hl hl2;have hdr:=bj hk;have hlo:FF b.lines.length b.counts[k]=(EL b.counts[k].a 0 b.lines.length&&(!decide (b.counts[k].lo<0)&&(!decide (b.counts[k].hi<b.counts[k].lo)&&!decide (2000<b.counts[k].hi)))):=rfl;generalize e1:EL b.counts[k].a 0 b.lines.length=b1 at hlo;generalize e2:decide (b.counts[k].lo<0)=b2 at hlo;generalize e3:decide (b.counts[k].hi<b.counts[k].lo)=b3 at hlo;generalize e4:decide (2000<b.counts[k].hi)=b4 at hlo;rw[AD,hdr];simp only[AC,AM,List.all_cons,hlo]at ih|-;try simp at ih
  cases b1<;>cases b2<;>cases b3<;>cases b4<;>simp only[Bool.and_true,Bool.and_false,Bool.true_and,Bool.false_and,bp,if_false,Bool.not_true,Bool.not_false];all_goals first|(refine⟨c+1,?_⟩;simp[hk,hw,AM,e1,e2,e3,e4];done)|skip
  refine⟨c',?_⟩;simp[hk,hw,AM,e1,e2,e3,e4,ih]
theorem k67(n:Nat)(b:AY):A5 cj kn (AG cj ann kn (n+400)) 111 [.agg (AC b)]=some (i (DH b)):=by
 rw[AQ rfl,AR Tryz.func111 A8N rfl (by simp[AC,AB,AM])];unfold DH;generalize e1:decide (8<b.lines.length)=b1;have e1':decide ((8:Int)<(b.lines.length:Int))=b1:=by rw[<-e1];congr 1;apply propext;omega
 generalize e2:decide (4<b.counts.length)=b2;have e2':decide ((4:Int)<(b.counts.length:Int))=b2:=by rw[<-e2];congr 1;apply propext;omega
 generalize e3:EL b.chairs 1 4=b3;generalize e4:EL b.coin 1 99=b4;generalize e5:EL b.box 0 999=b5;cases b1
 ·cases b2
  ·cases b3
   ·simp[V5,AH,AC,e1',e2',e3]
   ·cases b4
    ·simp[V5,AH,AC,e1',e2',e3,e4]
    ·cases b5
     ·simp[V5,AH,AC,e1',e2',e3,e4,e5]
     ·have h14:1<=b.chairs/\b.chairs<=4:=by simpa [EL]using e3
      have hl:b.lines.length<=8:=by simpa using e1
      have hc:b.counts.length<=4:=by simpa using e2
      obtain⟨c1,q1⟩:=A4J (n+143) b h14.1 h14.2 b.lines.length 0 1 (n+393) (by omega) (by omega) hl;obtain⟨c2,q2⟩:=A4K (n+142) b b.counts.length 0 c1 (n+392) (by omega) (by omega) hl hc;have q3:=fun n=>k52 n b h14.1 h14.2 (by omega);generalize e6:b.lines.all (CA b.chairs)=b6;generalize e7:b.counts.all (FF b.lines.length)=b7;generalize e8:decide (4096<C4 b.chairs 1 b.lines)=b8;have e8':(4096<C4 b.chairs 1 b.lines)=(b8=true):=by rw[<-e8];simp
      simp only[bt,e6,e7,e8',AC,bx,bz,Int.natCast_zero]at q1 q2 q3|-;cases b6
      ·simp[V5,AH,AC,e1',e2',e3,e4,e5];try simp at q1
       simp[q1]
      ·cases b7
       ·simp[V5,AH,AC,e1',e2',e3,e4,e5];try simp at q1 q2
        simp[q1,q2]
       ·simp[V5,AH,AC,e1',e2',e3,e4,e5];try simp at q1 q2
        simp[q1,q2,q3,e8,AB,AM];cases b8<;>simp
  ·simp[V5,AH,AC,e1',e2']
 ·simp[V5,AH,AC,e1']
def lV(b:AY):Bool:=decide (b.lines.length<=10)&&(decide (b.counts.length<=6)&&(!decide (DH b=0)||decide (C4 b.chairs 1 b.lines<=100)))
theorem IP{b:AY}(h:DH b=0):1<=b.chairs/\b.chairs<=4/\b.lines.length<=8/\b.counts.length<=4/\1<=b.coin/\b.coin<=99/\0<=b.box/\b.box<=999/\b.lines.all (CA b.chairs)=true/\b.counts.all (FF b.lines.length)=true/\C4 b.chairs 1 b.lines<=4096:=by
 unfold DH at h;split at h
 ·omega
 ·rename_i h1;split at h
  ·omega
  ·rename_i h2;split at h
   ·omega
   ·rename_i h3;split at h
    ·omega
    ·rename_i h4;split at h
     ·omega
     ·rename_i h5;simp[EL]at h1 h2;simp only[Bool.not_eq_false]at h3 h4;refine⟨by omega,by omega,by omega,by omega,by omega,by omega,by omega,by omega,h3,h4,by omega⟩
theorem k19(n:Nat)(b:AY):A5 cj kn (AG cj ann kn (n+500)) 64 [.agg (AC b)]=some (.bool (lV b)):=by
 rw[AQ rfl,AR Tryz.func64 b64 rfl (by simp[AC,AB,AM])];have h:=fun n=>k67 n b;have h2:=fun n=>fun (h:DH b=0)=>k52 n b (IP h).1 (IP h).2.1 (by have:=(IP h).2.2.1;omega);unfold lV;generalize e1:decide (b.lines.length<=10)=b1;have e1':decide ((b.lines.length:Int)<=10)=b1:=by rw[<-e1];congr 1;apply propext;omega
 generalize e2:decide (b.counts.length<=6)=b2;have e2':decide ((b.counts.length:Int)<=6)=b2:=by rw[<-e2];congr 1;apply propext;omega
 generalize e3:decide (DH b=0)=b3;generalize e4:decide (C4 b.chairs 1 b.lines<=100)=b4;simp only[AC]at h h2|-;cases b1
 ·simp[c64,AH,e1']
 ·cases b2
  ·simp[c64,AH,e1',e2']
  ·cases b3
   ·simp[c64,AH,e1',e2',h,AB,AM,e3]
   ·have h2:=fun n=>h2 n (by simpa using e3);simp[c64,AH,e1',e2',h,AB,AM,e3,h2,e4]
theorem k30(n:Nat)(lo hi:Int):A5 cj kn (AG cj ann kn (n+100)) 110 [.agg [i lo,i hi]]=some (.agg [i lo,i hi]):=by rw[AQ rfl,AR Tryz.func110 A8O rfl rfl];simp[AYB,AH]
theorem l35(n:Nat)(ls:List AE)(hl:ls.length<=1000):∀(d k:Nat) (out:List AE) (c γ m:Nat),k+d=ls.length->d<m->out.length<=k ->
  ∃c' γ',BS (AG cj ann kn (n+50) 31) cQ (some ([0,3,4],[29])) m ⟨c,[(0,true,.list false (ls.map AB)),(3,true,pv 29 γ (out.map AB)),(4,true,i k)],⟨[],pl 29 γ 96 (out.map AB)⟩⟩ =
  some (.exit 0,⟨c',[(8,true,.bool false),(7,true,i ls.length),(6,true,.list false (ls.map AB)),(5,true,i ls.length),(0,true,.list false (ls.map AB)),(3,true,pv 29 γ' ((out++ls.drop k).map AB)),(4,true,i ls.length)],⟨[],pl 29 γ' 96 ((out++ls.drop k).map AB)⟩⟩)
 |0,k,out,c,γ,m+1,hd,hm,ho=>by
  have:k=ls.length:=by omega
  subst this;refine⟨c,γ,?_⟩;simp[AD]
 |d+1,k,out,c,γ,m+1,hd,hm,ho=>by
  have hk:k<ls.length:=by omega
  have hw:IntKind.i64.wrap ((k:Int)+1)=(k:Int)+1:=AV (by omega) (by omega);obtain⟨c',γ',ih⟩:=l35 n ls hl d (k+1) (out++[ls[k]]) (c+1) c m (by omega) (by omega) (by simp;omega);refine⟨c',γ',?_⟩;have ho':CH cj 96 out.length [[i ls[k].k,i ls[k].c,i ls[k].t]]=true:=by rw[DL (by simp) (by simp)];simp[maxLen];omega
  rw[AD,bj hk];simp only[bw,bn,bh,J4,AB,bq,bf,bc]at ih|-;try simp at ih
  simp[hk,hw,AB,ho',ih]
theorem k35(n:Nat)(ls:List AE)(hl:ls.length<=500):A5 cj kn (AG cj ann kn (n+600)) 32 [.list false (ls.map AB)]=some (sl (ls.map AB)):=by
 rw[AQ rfl,AR Tryz.func32 b32 rfl (by simp[AB])];obtain⟨c',γ',ih⟩:=l35 (n+544) ls (by omega) ls.length 0 [] 0 0 (n+594) (by omega) (by omega) (by simp);have hcl:((ls).map AB).all (fun e=>e.all (AK 8))=true:=by simp[AB]
 simp only[bx,bz]at ih;try simp at ih hcl
 simp[c32,AH,ih];exact hcl
theorem l22(n:Nat)(b:AY)(hl:b.counts.length<=1000):∀(d k:Nat) (out:List E8) (c γ m:Nat),k+d=b.counts.length->d<m->out.length<=k->3<=c ->
  ∃c' γ':Nat,3<=c'/\BS (AG cj ann kn (n+250) 42) cR (some ([1,2,3,4],[1,2,3,13,39])) m ⟨c,[(1,true,.ptr 0 1 0 0),(2,true,.ptr 0 2 1 0),(3,true,.ptr 0 3 2 0),(4,true,i k)],
   ⟨[],(1,0,.box (AC b)) :: (2,1,.box [i 0,i 0,i 0,.nil,.nil]) :: (3,2,.box [i b.chairs,i b.coin,i b.box,sl (b.lines.map AB),pv 39 γ (out.map AM)]) :: pl 39 γ 171 (out.map AM)⟩⟩=some (.exit 0,⟨c',[(19,true,.bool false),(18,true,i b.counts.length),(17,true,.list false (b.counts.map AM)),(16,true,.ptr 0 1 0 4),(15,true,i b.counts.length),(1,true,.ptr 0 1 0 0),(2,true,.ptr 0 2 1 0),(3,true,.ptr 0 3 2 0),(4,true,i b.counts.length)],
   ⟨[],(1,0,.box (AC b)) :: (2,1,.box [i 0,i 0,i 0,.nil,.nil]) :: (3,2,.box [i b.chairs,i b.coin,i b.box,sl (b.lines.map AB),pv 39 γ' ((out++b.counts.drop k).map AM)]) :: pl 39 γ' 171 ((out++b.counts.drop k).map AM)⟩⟩)
 |0,k,out,c,γ,m+1,hd,hm,ho,hc=>by
  have:k=b.counts.length:=by omega
  subst this;refine⟨c,γ,hc,?_⟩;simp[AD,AC]
 |d+1,k,out,c,γ,m+1,hd,hm,ho,hc=>by
  have hk:k<b.counts.length:=by omega
  have hw:IntKind.i64.wrap ((k:Int)+1)=(k:Int)+1:=AV (by omega) (by omega);obtain⟨c',γ',i1,ih⟩:=l22 n b hl d (k+1) (out++[b.counts[k]]) (c+1) c m (by omega) (by omega) (by simp;omega) (by omega);refine⟨c',γ',i1,?_⟩;have ho':CH cj 171 out.length [[i b.counts[k].a,i b.counts[k].lo,i b.counts[k].hi]]=true:=by rw[DL (by simp) (by simp)];simp[maxLen];omega
  have h30:=fun n=>k30 n b.counts[k].lo b.counts[k].hi;rw[AD,bj hk];simp only[bw,bn,bh,J4,AM,bq,bf,bc,AC]at ih|-;try simp at ih
  have hc2:2<c+1:=by omega
  simp[hk,hw,AM,ho',h30,SA,hc2,ih]
def pW(b:AY):List V:=[i b.chairs,i b.coin,i b.box,sl (b.lines.map AB),sl (b.counts.map AM)]
theorem k22(n:Nat)(b:AY)(hl:b.lines.length<=500)(hc:b.counts.length<=500):A5 cj kn (AG cj ann kn (n+700)) 63 [.agg (AC b)]=some (.agg (pW b)):=by
 rw[AQ rfl,AR Tryz.func63 b63 rfl (by simp[AC,AB,AM])];obtain⟨c',γ',i1,ih⟩:=l22 (n+444) b (by omega) b.counts.length 0 [] 3 0 (n+694) (by omega) (by omega) (by simp) (by omega);have h35:=fun n=>k35 n b.lines hl;simp only[bx,bz,AC,pW]at ih|-;try simp at ih
 have hc1:1<c':=by omega
 have hcl:(b.lines.map AB).all (fun e=>e.all (AK 7))=true:=by simp[AB]
 have hcl2:(b.counts.map AM).all (fun e=>e.all (AK 7))=true:=by simp[AM]
 try simp at hcl hcl2
 simp[c63,AH,h35,AB,ih,hc1,TH (T:=171)];exact hcl2
def HV(n:Int):List V:=[i n]
def xH(a:Int):Nat->List Int
 |0=>[]
 |d+1=>a::xH (a+1) d
theorem tK(a:Int):∀d,(xH a d).length=d
 |0=>rfl
 |d+1=>by simp[xH,tK (a+1) d]
def FM(sign none a b:Int):List Int:=if sign=none then xH a (b+1-a).toNat else[sign]
theorem A4L(n:Nat)(b:Int)(hb:b<=100):∀(d:Nat) (a:Int) (out:List Int) (c γ m:Nat),a+d=b+1->d<m->0<=a->out.length+d<=1000 ->
  ∃c' γ':Nat,BS (AG cj ann kn (n+50) 26) U4 (some ([3,8,9],[24])) m ⟨c,[(3,true,i b),(8,true,pv 24 γ (out.map HV)),(9,true,i a)],⟨[],pl 24 γ 3 (out.map HV)⟩⟩ =
  some (.exit 0,⟨c',[(18,true,.bool false),(17,true,i b),(16,true,i (b+1)),(3,true,i b),(8,true,pv 24 γ' ((out++xH a d).map HV)),(9,true,i (b+1))],⟨[],pl 24 γ' 3 ((out++xH a d).map HV)⟩⟩)
 |0,a,out,c,γ,m+1,hd,hm,ha,ho=>by
  have:a=b+1:=by omega
  subst this;have e:decide (b+1<=b)=false:=by simp;omega
  refine⟨c,γ,?_⟩;simp[AD,xH,e]
 |d+1,a,out,c,γ,m+1,hd,hm,ha,ho=>by
  have e:decide (a<=b)=true:=by simp;omega
  have hw:IntKind.i64.wrap (a+1)=a+1:=AV (by omega) (by omega);obtain⟨c',γ',ih⟩:=A4L n b hb d (a+1) (out++[a]) (c+1) c m (by omega) (by omega) (by omega) (by simp;omega);refine⟨c',γ',?_⟩;have ho':CH cj 3 out.length [[i a]]=true:=by rw[DL (by simp) (by simp)];simp[maxLen];omega
  rw[AD];simp only[xH,bw,bn,bh,J4,HV,bq,bf,bc]at ih|-;simp[hw,HV,ho',e,ih]
theorem AII(n:Nat)(sg no a b:Int)(hb:b<=100)(ha:0<=a)(hab:a<=b+1):A5 cj kn (AG cj ann kn (n+200)) 173 [i sg,i no,i a,i b]=some (sl ((FM sg no a b).map HV)):=by
 rw[AQ rfl,AR Tryz.func173 A8P rfl rfl];obtain⟨c',γ',ih⟩:=A4L (n+144) b hb (b+1-a).toNat a [] 0 0 (n+194) (by omega) (by omega) ha (by simp;omega);unfold FM;by_cases h:sg=no
 ·have hcl:((xH a (b+1-a).toNat).map HV).all (fun e=>e.all (AK 8))=true:=by simp[HV]
  simp only[bx,bz]at ih;try simp at ih hcl
  simp[AMP,AH,h,ih];exact hcl
 ·have e:decide (sg=no)=false:=by simpa using h
  simp[AMP,AH,h,HV,sl]
def rd3(k ch:Int)(zs:List Int):List AE:=zs.map fun t=>⟨k,ch,t⟩
theorem A4M(n:Nat)(b:AY)(l:AE)(k ch:Int)(xs ys zs:List Int)(ix iy:Nat)(hz:zs.length<=100):∀(d j:Nat) (out:List AE) (c γ m:Nat),j+d=zs.length->d<m->out.length<=10000+j ->
  ∃c' γ':Nat,BS (AG cj ann kn (n+50) 52) U5 (some ([2,3,4,6,8,13,14,15,24,25,26,35,36,37],[2,3,13,24,35,47])) m ⟨c,[(2,true,.ptr 0 2 0 0),(3,true,.ptr 0 3 1 0),(4,true,pv 47 γ (out.map AB)),(6,true,i k),(8,true,i ch),(13,true,sl (xs.map HV)),(14,true,i xs.length),(15,true,i ix),(24,true,sl (ys.map HV)),(25,true,i ys.length),(26,true,i iy),(35,true,sl (zs.map HV)),(36,true,i zs.length),(37,true,i j)],⟨[],(2,0,.box (AC b))::(3,1,.box (AB l))::pl 47 γ 96 (out.map AB)⟩⟩ =
  some (.exit 4,⟨c',[(38,true,.bool false),(2,true,.ptr 0 2 0 0),(3,true,.ptr 0 3 1 0),(4,true,pv 47 γ' ((out++rd3 k ch (zs.drop j)).map AB)),(6,true,i k),(8,true,i ch),(13,true,sl (xs.map HV)),(14,true,i xs.length),(15,true,i ix),(24,true,sl (ys.map HV)),(25,true,i ys.length),(26,true,i iy),(35,true,sl (zs.map HV)),(36,true,i zs.length),(37,true,i zs.length)],⟨[],(2,0,.box (AC b))::(3,1,.box (AB l))::pl 47 γ' 96 ((out++rd3 k ch (zs.drop j)).map AB)⟩⟩)
 |0,j,out,c,γ,m+1,hd,hm,ho=>by
  have:j=zs.length:=by omega
  subst this;refine⟨c,γ,?_⟩;simp[AD,rd3]
 |d+1,j,out,c,γ,m+1,hd,hm,ho=>by
  have hj:j<zs.length:=by omega
  have hw:IntKind.i64.wrap ((j:Int)+1)=(j:Int)+1:=AV (by omega) (by omega);obtain⟨c',γ',ih⟩:=A4M n b l k ch xs ys zs ix iy hz d (j+1) (out++[⟨k,ch,zs[j]⟩]) (c+1) c m (by omega) (by omega) (by simp;omega);refine⟨c',γ',?_⟩;have ho':CH cj 96 out.length [[i k,i ch,i zs[j]]]=true:=by rw[DL (by simp) (by simp)];simp[maxLen];omega
  rw[AD,bj hj];simp only[rd3,bw,bn,bh,J4,AB,bq,bf,bc]at ih|-;try simp at ih
  simp[hj,hw,HV,AB,ho',ih]
def rd2(C:Int)(l:AE)(k:Int)(ys:List Int):List AE:=ys.flatMap fun ch=>rd3 k ch (FM l.t (-1) 0 (C-1))
theorem KX(sg no a b:Int)(h:b+1-a<=4):(FM sg no a b).length<=4:=by
 unfold FM;split
 ·rw[tK];omega
 ·simp
theorem A4N(n:Nat)(b:AY)(l:AE)(h1:1<=b.chairs)(h4:b.chairs<=4)(k:Int)(xs ys:List Int)(ix:Nat)(hz:ys.length<=100):∀(d j:Nat) (out:List AE) (c γ m:Nat),j+d=ys.length->d<m->out.length<=1000+4*j ->
  ∃c' γ':Nat,BS (AG cj ann kn (n+300) 52) U6 (some ([2,3,4,6,13,14,15,24,25,26],[2,3,13,24,47])) m ⟨c,[(2,true,.ptr 0 2 0 0),(3,true,.ptr 0 3 1 0),(4,true,pv 47 γ (out.map AB)),(6,true,i k),(13,true,sl (xs.map HV)),(14,true,i xs.length),(15,true,i ix),(24,true,sl (ys.map HV)),(25,true,i ys.length),(26,true,i j)],⟨[],(2,0,.box (AC b))::(3,1,.box (AB l))::pl 47 γ 96 (out.map AB)⟩⟩ =
  some (.exit 2,⟨c',[(27,true,.bool false),(2,true,.ptr 0 2 0 0),(3,true,.ptr 0 3 1 0),(4,true,pv 47 γ' ((out++rd2 b.chairs l k (ys.drop j)).map AB)),(6,true,i k),(13,true,sl (xs.map HV)),(14,true,i xs.length),(15,true,i ix),(24,true,sl (ys.map HV)),(25,true,i ys.length),(26,true,i ys.length)],⟨[],(2,0,.box (AC b))::(3,1,.box (AB l))::pl 47 γ' 96 ((out++rd2 b.chairs l k (ys.drop j)).map AB)⟩⟩)
 |0,j,out,c,γ,m+1,hd,hm,ho=>by
  have:j=ys.length:=by omega
  subst this;refine⟨c,γ,?_⟩;simp[AD,rd2]
 |d+1,j,out,c,γ,m+1,hd,hm,ho=>by
  have hj:j<ys.length:=by omega
  have hw:IntKind.i64.wrap ((j:Int)+1)=(j:Int)+1:=AV (by omega) (by omega);have hw2:IntKind.i64.wrap (b.chairs-1)=b.chairs-1:=AV (by omega) (by omega);have hwl:=KX l.t (-1) 0 (b.chairs-1) (by omega);have hk:=fun n=>AII n l.t (-1) 0 (b.chairs-1) (by omega) (by omega) (by omega);obtain⟨c1,γ1,q⟩:=A4M (n+242) b l k ys[j] xs ys (FM l.t (-1) 0 (b.chairs-1)) ix j (by omega) (FM l.t (-1) 0 (b.chairs-1)).length 0 out c γ (n+292) (by omega) (by omega) (by omega);obtain⟨c',γ',ih⟩:=A4N n b l h1 h4 k xs ys ix hz d (j+1) (out++rd3 k ys[j] (FM l.t (-1) 0 (b.chairs-1))) c1 γ1 m (by omega) (by omega) (by simp[rd3];omega);refine⟨c',γ',?_⟩;rw[AD,bj hj];simp only[rd2,br,bw,bq,bx,bz,AC,AB,bt]at ih q|-;try simp at ih q
  simp[hj,hw,hw2,HV,hk,q,ih]
def rd1(C:Int)(l:AE)(xs:List Int):List AE:=xs.flatMap fun k=>rd2 C l k (FM l.c (-1) 0 (C-1))
theorem AIK(k ch:Int)(zs:List Int):(rd3 k ch zs).length=zs.length:=by simp[rd3]
theorem fL(C:Int)(l:AE)(k:Int)(hC:C<=4):∀(ys:List Int),(rd2 C l k ys).length<=4*ys.length
 |[]=>by simp[rd2]
 |y::ys=>by have:=fL C l k hC ys;have h2:=KX l.t (-1) 0 (C-1) (by omega);simp only[rd2,br,bg,AIK,List.length_cons]at this|-;omega
theorem ARQ(n:Nat)(b:AY)(l:AE)(h1:1<=b.chairs)(h4:b.chairs<=4)(xs:List Int)(hz:xs.length<=10):∀(d j:Nat) (out:List AE) (c γ m:Nat),j+d=xs.length->d<m->out.length<=16*j ->
  ∃c' γ':Nat,BS (AG cj ann kn (n+400) 52) U7 (some ([2,3,4,13,14,15],[2,3,13,47])) m ⟨c,[(2,true,.ptr 0 2 0 0),(3,true,.ptr 0 3 1 0),(4,true,pv 47 γ (out.map AB)),(13,true,sl (xs.map HV)),(14,true,i xs.length),(15,true,i j)],⟨[],(2,0,.box (AC b))::(3,1,.box (AB l))::pl 47 γ 96 (out.map AB)⟩⟩ =
  some (.exit 0,⟨c',[(16,true,.bool false),(2,true,.ptr 0 2 0 0),(3,true,.ptr 0 3 1 0),(4,true,pv 47 γ' ((out++rd1 b.chairs l (xs.drop j)).map AB)),(13,true,sl (xs.map HV)),(14,true,i xs.length),(15,true,i xs.length)],⟨[],(2,0,.box (AC b))::(3,1,.box (AB l))::pl 47 γ' 96 ((out++rd1 b.chairs l (xs.drop j)).map AB)⟩⟩)
 |0,j,out,c,γ,m+1,hd,hm,ho=>by
  have:j=xs.length:=by omega
  subst this;refine⟨c,γ,?_⟩;simp[AD,rd1]
 |d+1,j,out,c,γ,m+1,hd,hm,ho=>by
  have hj:j<xs.length:=by omega
  have hw:IntKind.i64.wrap ((j:Int)+1)=(j:Int)+1:=AV (by omega) (by omega);have hw2:IntKind.i64.wrap (b.chairs-1)=b.chairs-1:=AV (by omega) (by omega);have hwl:=KX l.c (-1) 0 (b.chairs-1) (by omega);have hrl:=fL b.chairs l xs[j] h4 (FM l.c (-1) 0 (b.chairs-1));have hk:=fun n=>AII n l.c (-1) 0 (b.chairs-1) (by omega) (by omega) (by omega);obtain⟨c1,γ1,q⟩:=A4N (n+92) b l h1 h4 xs[j] xs (FM l.c (-1) 0 (b.chairs-1)) j (by omega) (FM l.c (-1) 0 (b.chairs-1)).length 0 out c γ (n+392) (by omega) (by omega) (by omega);obtain⟨c',γ',ih⟩:=ARQ n b l h1 h4 xs hz d (j+1) (out++rd2 b.chairs l xs[j] (FM l.c (-1) 0 (b.chairs-1))) c1 γ1 m (by omega) (by omega) (by simp;omega);refine⟨c',γ',?_⟩;rw[AD,bj hj];simp only[rd1,br,bw,bq,bx,bz,AC,AB,bt]at ih q|-;try simp at ih q
  simp[hj,hw,hw2,HV,hk,q,ih]
def readingsP(C:Int)(l:AE):List AE:=rd1 C l (FM l.k 0 1 2)
theorem k81(n:Nat)(b:AY)(l:AE)(h1:1<=b.chairs)(h4:b.chairs<=4):A5 cj kn (AG cj ann kn (n+500)) 142 [.agg (AC b),.agg (AB l)]=some (sl ((readingsP b.chairs l).map AB)):=by
 rw[AQ rfl,AR Tryz.func142 AYC rfl (by simp[AC,AB,AM])];have hwl:=KX l.k 0 1 2 (by omega);have hk:=fun n=>AII n l.k 0 1 2 (by omega) (by omega) (by omega);obtain⟨c',γ',ih⟩:=ARQ (n+95) b l h1 h4 (FM l.k 0 1 2) (by omega) (FM l.k 0 1 2).length 0 [] 2 0 (n+495) (by omega) (by omega) (by simp);have hcl:((readingsP b.chairs l).map AB).all (fun e=>e.all (AK 8))=true:=by simp[AB]
 simp only[bx,bz,AC,AB]at ih|-;simp[readingsP]at ih hcl;simp[AMQ,AH,hk,ih,readingsP];exact hcl
end Go.Proofs.Tryz.Op
