/- Contracts of small functions of the reference: In, Agrees, Readings; and of within. No condition. -/
import Derived.Test.YtmnlpgjklibndaaGreatFz
open Go.Proofs.Tryz renaming prog->cj
open List renaming drop_eq_getElem_cons->bj,append_assoc->bq,map_append->bw,nil_append->bc,cons_append->bf,length_append->bg,map_nil->bh,map_cons->bn,flatMap_cons->br,drop_zero->bt
open Nat renaming add_assoc->bx,reduceAdd->bz
open Bool renaming false_eq_true->bp
set_option maxRecDepth 100000
set_option linter.unusedSimpArgs false
open Go Go.Pg Go.Proofs
@[simp] theorem Go.Pg.rowCl_eq:yA=[118]:=rfl
namespace Go.Proofs.Tryz.Op
abbrev i(n:Int):V:=.int .i64 n
def EW(n lo hi:Int):Bool:=decide (lo<=n)&&decide (n<=hi)
theorem k25(n:Nat)(x lo hi:Int):A4 cj kn (AF cj ann kn (n+100)) 48 [i x,i lo,i hi]=some (.bool (EW x lo hi)):=by rw[AP rfl,AQ Tryz.func48 b48 rfl rfl];unfold EW;generalize e1:decide (lo<=x)=b1;simp[e1,c48,AJ];cases b1<;>simp
theorem k69(n:Nat)(x lo hi:Int):A4 cj kn (AF cj ann kn (n+100)) 106 [i x,i lo,i hi]=some (.bool (EW x lo hi)):=by rw[AP rfl,AQ Tryz.func106 A3H rfl rfl];unfold EW;generalize e1:decide (lo<=x)=b1;simp[e1,ATC,AJ];cases b1<;>simp
structure AK where
 k:Int
 c:Int
 t:Int
def AD(l:AK):List V:=[i l.k,i l.c,i l.t]
def LB(l x:AK):Bool:=(decide (l.k=0)||decide (l.k=x.k))&&((decide (l.c<0)||decide (l.c=x.c))&&(decide (l.t<0)||decide (l.t=x.t)))
theorem k99(n:Nat)(l x:AK):A4 cj kn (AF cj ann kn (n+100)) 123 [.agg (AD l),.agg (AD x)]=some (.bool (LB l x)):=by rw[AP rfl,AQ Tryz.func123 A3I rfl rfl];unfold LB;generalize e1:decide (l.k=0)=b1;generalize e2:decide (l.k=x.k)=b2;generalize e3:decide (l.c<0)=b3;generalize e4:decide (l.c=x.c)=b4;generalize e5:decide (l.t<0)=b5;generalize e6:decide (l.t=x.t)=b6;simp[e1,e2,e3,e4,e5,e6,ATD,AJ,AD];cases b1<;>(try simp[e1,e2,e3,e4,e5,e6])<;>cases b2<;>(try simp[e1,e2,e3,e4,e5,e6])<;>cases b3<;>(try simp[e1,e2,e3,e4,e5,e6])<;>cases b4<;>(try simp[e1,e2,e3,e4,e5,e6])<;>cases b5<;>(try simp[e1,e2,e3,e4,e5,e6])
structure EX where
 a:Int
 lo:Int
 hi:Int
def AN(l:EX):List V:=[i l.a,i l.lo,i l.hi]
structure A5 where
 chairs:Int
 coin:Int
 box:Int
 lines:List AK
 counts:List EX
def AC(b:A5):List V:=[i b.chairs,i b.coin,i b.box,.list false (b.lines.map AD),.list false (b.counts.map AN)]
def WV(l:AK)(k c t:Int):Nat->List AK
 |0=>[]
 |d+1=>(if LB l ⟨k,c,t⟩=true then[⟨k,c,t⟩] else[])++WV l k c (t+1) d
attribute [simp] k99 k25 k69
theorem l9(n:Nat)(b:A5)(l:AK)(k ch:Int)(h1:1<=b.chairs)(h4:b.chairs<=4):∀(d:Nat) (t:Int) (out:List AK) (c γ m:Nat),0<=t->t+d=b.chairs->d<m->2<=c->γ<c->out.length+d<=1000 ->
  ∃c' γ',2<=c'/\γ'<c'/\BQ (AF cj ann kn (n+130) 39) PD (some ([2,3,5,6,7,8],[2,3,37])) m ⟨c,[(2,true,.ptr 0 2 0 0),(3,true,.ptr 0 3 1 0),(5,true,pv 37 γ (out.map AD)),(6,true,i k),(7,true,i ch),(8,true,i t)],
   ⟨[],(2,0,.box (AC b)) :: (3,1,.box (AD l)) :: pl 37 γ 133 (out.map AD)⟩⟩=some (.exit 4,⟨c',[(22,true,.bool false),(21,true,i b.chairs),(20,true,.ptr 0 2 0 0),(19,true,i b.chairs),(2,true,.ptr 0 2 0 0),(3,true,.ptr 0 3 1 0),(5,true,pv 37 γ' ((out++WV l k ch t d).map AD)),(6,true,i k),(7,true,i ch),(8,true,i b.chairs)],
   ⟨[],(2,0,.box (AC b)) :: (3,1,.box (AD l)) :: pl 37 γ' 133 ((out++WV l k ch t d).map AD)⟩⟩)
 |0,t,out,c,γ,m+1,ht,hd,hm,hc,hg,ho=>by
  refine⟨c,γ,hc,hg,?_⟩;have:t=b.chairs:=by omega
  subst this;simp[AE,PD,AC,AD,WV]
 |d+1,t,out,c,γ,m+1,ht,hd,hm,hc,hg,ho=>by
  have e1:decide (t<b.chairs)=true:=by simp;omega
  have ha:=fun n=>k99 n l ⟨k,ch,t⟩;simp only[AD]at ha;rw[AE];generalize hb:LB l ⟨k,ch,t⟩=bb at ha;have hw:IntKind.i64.wrap (t+1)=t+1:=AW (by omega) (by omega);cases bb with
  |false=>
   obtain⟨c',γ',i1,i2,i3⟩:=l9 n b l k ch h1 h4 d (t+1) out c γ m (by omega) (by omega) (by omega) hc hg (by omega)
   refine⟨c',γ',i1,i2,?_⟩
   simp only[WV,hb,AC,AD,if_false,bc,bp]at i3|-
   simp[e1,ha,hw,i3]
  |true=>
   obtain⟨c',γ',i1,i2,i3⟩:=l9 n b l k ch h1 h4 d (t+1) (out++[⟨k,ch,t⟩]) (c+1) c m (by omega) (by omega) (by omega) (by omega) (by omega) (by simp;omega)
   refine⟨c',γ',i1,i2,?_⟩
   have ho':CL cj 133 out.length [[i k,i ch,i t]]=true:=by rw[D5 (by simp) (by simp)];simp[maxLen];omega
   simp only[WV,hb,AC,AD,if_true,bw,bn,bh,bq,bf,bc,H8]at i3|-
   simp[e1,ha,hw,i3,ho',AD]
def E5(l:AK)(k c:Int)(C:Nat):Nat->List AK
 |0=>[]
 |d+1=>WV l k c 0 C++E5 l k (c+1) C d
theorem WW(l:AK)(k c:Int):∀(d:Nat) (t:Int),(WV l k c t d).length<=d
 |0,t=>by simp[WV]
 |d+1,t=>by have:=WW l k c d (t+1);simp only[WV,bg];split<;>simp<;>omega
theorem l6(n:Nat)(b:A5)(l:AK)(k:Int)(h1:1<=b.chairs)(h4:b.chairs<=4):∀(d:Nat) (t:Int) (out:List AK) (c γ m:Nat),0<=t->t+d=b.chairs->d<m->2<=c->γ<c->out.length+4*d<=1000 ->
  ∃c' γ',2<=c'/\γ'<c'/\BQ (AF cj ann kn (n+140) 39) TK (some ([2,3,5,6,7],[2,3,37])) m ⟨c,[(2,true,.ptr 0 2 0 0),(3,true,.ptr 0 3 1 0),(5,true,pv 37 γ (out.map AD)),(6,true,i k),(7,true,i t)],
   ⟨[],(2,0,.box (AC b)) :: (3,1,.box (AD l)) :: pl 37 γ 133 (out.map AD)⟩⟩=some (.exit 2,⟨c',[(16,true,.bool false),(15,true,i b.chairs),(14,true,.ptr 0 2 0 0),(13,true,i b.chairs),(2,true,.ptr 0 2 0 0),(3,true,.ptr 0 3 1 0),(5,true,pv 37 γ' ((out++E5 l k t b.chairs.toNat d).map AD)),(6,true,i k),(7,true,i b.chairs)],
   ⟨[],(2,0,.box (AC b)) :: (3,1,.box (AD l)) :: pl 37 γ' 133 ((out++E5 l k t b.chairs.toNat d).map AD)⟩⟩)
 |0,t,out,c,γ,m+1,ht,hd,hm,hc,hg,ho=>by
  refine⟨c,γ,hc,hg,?_⟩;have:t=b.chairs:=by omega
  subst this;simp[AE,AC,AD,E5]
 |d+1,t,out,c,γ,m+1,ht,hd,hm,hc,hg,ho=>by
  have e1:decide (t<b.chairs)=true:=by simp;omega
  have hw:IntKind.i64.wrap (t+1)=t+1:=AW (by omega) (by omega);have hl:=WW l k t b.chairs.toNat 0;obtain⟨c1,γ1,j1,j2,j3⟩:=l9 (n+4) b l k t h1 h4 b.chairs.toNat 0 out c γ (n+134) (by omega) (by omega) (by omega) hc hg (by omega);obtain⟨c',γ',i1,i2,i3⟩:=l6 n b l k h1 h4 d (t+1) (out++WV l k t 0 b.chairs.toNat) c1 γ1 m (by omega) (by omega) (by omega) j1 j2 (by simp;omega);refine⟨c',γ',i1,i2,?_⟩;rw[AE];simp only[E5,AC,AD,bw,bq,bx,bz]at i3 j3|-;simp[e1,hw,j3,i3]
theorem WX(l:AK)(k:Int)(C:Nat):∀(d:Nat) (t:Int),(E5 l k t C d).length<=C*d
 |0,t=>by simp[E5]
 |d+1,t=>by have h1:=WX l k C d (t+1);have h2:=WW l k t C 0;simp only[E5,bg,Nat.mul_succ];omega
def cJ(l:AK)(k:Int)(C:Nat):Nat->List AK
 |0=>[]
 |d+1=>E5 l k 0 C C++cJ l (k+1) C d
theorem l3(n:Nat)(b:A5)(l:AK)(h1:1<=b.chairs)(h4:b.chairs<=4):∀(d:Nat) (t:Int) (out:List AK) (c γ m:Nat),t+d=3->d<=2->d<m->2<=c->γ<c->out.length+16*d<=100 ->
  ∃c' γ',2<=c'/\γ'<c'/\BQ (AF cj ann kn (n+150) 39) TL (some ([2,3,5,6],[2,3,37])) m ⟨c,[(2,true,.ptr 0 2 0 0),(3,true,.ptr 0 3 1 0),(5,true,pv 37 γ (out.map AD)),(6,true,i t)],
   ⟨[],(2,0,.box (AC b)) :: (3,1,.box (AD l)) :: pl 37 γ 133 (out.map AD)⟩⟩=some (.exit 0,⟨c',[(10,true,.bool false),(9,true,i 3),(2,true,.ptr 0 2 0 0),(3,true,.ptr 0 3 1 0),(5,true,pv 37 γ' ((out++cJ l t b.chairs.toNat d).map AD)),(6,true,i 3)],
   ⟨[],(2,0,.box (AC b)) :: (3,1,.box (AD l)) :: pl 37 γ' 133 ((out++cJ l t b.chairs.toNat d).map AD)⟩⟩)
 |0,t,out,c,γ,m+1,hd,hd2,hm,hc,hg,ho=>by
  refine⟨c,γ,hc,hg,?_⟩;have:t=3:=by omega
  subst this;simp[AE,AC,AD,cJ]
 |d+1,t,out,c,γ,m+1,hd,hd2,hm,hc,hg,ho=>by
  have e1:decide (t<=2)=true:=by simp;omega
  have hw:IntKind.i64.wrap (t+1)=t+1:=AW (by omega) (by omega);have hl:=WX l t b.chairs.toNat b.chairs.toNat 0;have hC:b.chairs.toNat*b.chairs.toNat<=16:=Nat.mul_le_mul (show b.chairs.toNat<=4 by omega) (show b.chairs.toNat<=4 by omega);obtain⟨c1,γ1,j1,j2,j3⟩:=l6 (n+4) b l t h1 h4 b.chairs.toNat 0 out c γ (n+144) (by omega) (by omega) (by omega) hc hg (by omega);obtain⟨c',γ',i1,i2,i3⟩:=l3 n b l h1 h4 d (t+1) (out++E5 l t 0 b.chairs.toNat b.chairs.toNat) c1 γ1 m (by omega) (by omega) (by omega) j1 j2 (by simp;omega);refine⟨c',γ',i1,i2,?_⟩;rw[AE];simp only[cJ,AC,AD,bw,bq,bx,bz]at i3 j3|-;simp[e1,hw,j3,i3]
def AX(C:Int)(l:AK):List AK:=cJ l 1 C.toNat 2
theorem k83(n:Nat)(b:A5)(l:AK)(h1:1<=b.chairs)(h4:b.chairs<=4):A4 cj kn (AF cj ann kn (n+200)) 140 [.agg (AC b),.agg (AD l)]=some (sl ((AX b.chairs l).map AD)):=by
 rw[AP rfl,AQ Tryz.func140 A3J rfl (by simp[AC,AD,AN])];obtain⟨c',γ',i1,i2,i3⟩:=l3 (n+44) b l h1 h4 2 1 [] 2 0 (n+194) (by omega) (by omega) (by omega) (by omega) (by omega) (by simp);simp only[AC,AD,bw,bh,bc,bq,bx,bz,cD,cE]at i3;have hcl:((AX b.chairs l).map AD).all (fun e=>e.all (AL 8))=true:=by simp[AD]
 simp[ATE,AJ,AC,AD,i3];simp[AX]at hcl|-
theorem iB(l:AK)(C:Nat):∀(d:Nat) (t:Int),(cJ l t C d).length<=C*C*d
 |0,t=>by simp[cJ]
 |d+1,t=>by have h1:=iB l C d (t+1);have h2:=WX l t C C 0;simp only[cJ,bg,Nat.mul_succ];omega
theorem LC(C:Int)(l:AK)(h:C<=4):(AX C l).length<=32:=by have:=iB l C.toNat 2 1;have hC:C.toNat*C.toNat<=16:=Nat.mul_le_mul (show C.toNat<=4 by omega) (show C.toNat<=4 by omega);unfold AX;omega
def I0(v:Int):Int:=if v<5000 then v else 5000
def CV(C:Int)(n:Int)(ls:List AK):Int:=ls.foldl (fun n l=>I0 (n*(AX C l).length)) n
theorem SA{n:Int}{k:Nat}(h0:0<=n)(h1:n<=5000)(hk:k<=32):0<=n*k/\n*k<=160000:=by
 refine⟨Int.mul_nonneg h0 (by omega),?_⟩;calc n*k<=5000*32:=Int.mul_le_mul h1 (by omega) (by omega) (by omega)
  _=160000:=by decide
theorem l52(n:Nat)(b:A5)(h1:1<=b.chairs)(h4:b.chairs<=4):∀(d k:Nat) (v:Int) (m:Nat),k+d=b.lines.length->d<m->0<=v->v<=5000->b.lines.length<=1000 ->
  BQ (AF cj ann kn (n+250) 24) TM (some ([1,3,4],[1,19])) m ⟨1,[(1,true,.ptr 0 1 0 0),(3,true,i v),(4,true,i k)],⟨[],[(1,0,.box (AC b))]⟩⟩ =
  some (.exit 0,⟨1,[(9,true,.bool false),(8,true,i b.lines.length),(7,true,.list false (b.lines.map AD)),(6,true,.ptr 0 1 0 3),(5,true,i b.lines.length),(1,true,.ptr 0 1 0 0),(3,true,i (CV b.chairs v (b.lines.drop k))),(4,true,i b.lines.length)],⟨[],[(1,0,.box (AC b))]⟩⟩)
 |0,k,v,m+1,hd,hm,hv,hv2,hl=>by
  have:k=b.lines.length:=by omega
  subst this;simp[AE,AC,CV]
 |d+1,k,v,m+1,hd,hm,hv,hv2,hl=>by
  have hk:k<b.lines.length:=by omega
  have hr:=LC b.chairs b.lines[k] h4;have hq:=SA hv hv2 hr;have hw:IntKind.i64.wrap ((k:Int)+1)=(k:Int)+1:=AW (by omega) (by omega);have hw2:IntKind.i64.wrap (v*((AX b.chairs b.lines[k]).length:Int))=v*((AX b.chairs b.lines[k]).length:Int):=AW (by omega) (by omega);have h5:0<=I0 (v*((AX b.chairs b.lines[k]).length:Int))/\I0 (v*((AX b.chairs b.lines[k]).length:Int))<=5000:=by unfold I0;split<;>omega
  have ih:=l52 n b h1 h4 d (k+1) (I0 (v*((AX b.chairs b.lines[k]).length:Int))) m (by omega) (by omega) h5.1 h5.2 hl;have hc:=fun n=>k83 n b b.lines[k] h1 h4;rw[AE];simp only[AC,AD,bj hk,CV,List.foldl_cons,I0]at ih hc|-;simp[hk,hw,hw2,AD,hc,AN];try simp at ih
  simp[ih]
theorem k52(n:Nat)(b:A5)(h1:1<=b.chairs)(h4:b.chairs<=4)(hl:b.lines.length<=200):A4 cj kn (AF cj ann kn (n+300)) 112 [.agg (AC b)]=some (i (CV b.chairs 1 b.lines)):=by
 rw[AP rfl,AQ Tryz.func112 A3K rfl (by simp[AC,AD,AN])];have:=l52 (n+44) b h1 h4 b.lines.length 0 1 (n+294) (by omega) (by omega) (by omega) (by omega) (by omega);simp only[AC,bx,bz]at this;simp[ATF,AJ,AC];try simp at this
 simp[this]
def BZ(C:Int)(l:AK):Bool:=EW l.k 0 2&&(EW l.c (-1) (C-1)&&EW l.t (-1) (C-1))
def EP(n:Nat)(c:EX):Bool:=EW c.a 0 n&&(!decide (c.lo<0)&&(!decide (c.hi<c.lo)&&!decide (2000<c.hi)))
def DL(b:A5):Int :=
 if (decide (8<b.lines.length)||decide (4<b.counts.length))=true then 3
 else if (EW b.chairs 1 4&&(EW b.coin 1 99&&EW b.box 0 999))=false then 1
 else if b.lines.all (BZ b.chairs)=false then 1
 else if b.counts.all (EP b.lines.length)=false then 1
 else if 4096<CV b.chairs 1 b.lines then 3 else 0
theorem AZI(n:Nat)(b:A5)(h1:1<=b.chairs)(h4:b.chairs<=4):∀(d k:Nat) (c m:Nat),k+d=b.lines.length->d<m->b.lines.length<=8 ->
  ∃c',BQ (AF cj ann kn (n+250) 110) TN (some ([1,3],[1])) m ⟨c,[(1,true,.ptr 0 1 0 0),(3,true,i k)],⟨[],[(1,0,.box (AC b))]⟩⟩ =
  if (b.lines.drop k).all (BZ b.chairs)=true then some (.exit 0,⟨c',[(37,true,.bool false),(36,true,i b.lines.length),(35,true,.list false (b.lines.map AD)),(34,true,.ptr 0 1 0 3),(33,true,i b.lines.length),(1,true,.ptr 0 1 0 0),(3,true,i b.lines.length)],⟨[],[(1,0,.box (AC b))]⟩⟩)
  else some (.ret,⟨c',[(2,true,i 1)],⟨[],[]⟩⟩)
 |0,k,c,m+1,hd,hm,hl=>by
  have:k=b.lines.length:=by omega
  subst this;refine⟨c,?_⟩;simp[AE,AC]
 |d+1,k,c,m+1,hd,hm,hl=>by
  have hk:k<b.lines.length:=by omega
  have hw:IntKind.i64.wrap ((k:Int)+1)=(k:Int)+1:=AW (by omega) (by omega);have hw2:IntKind.i64.wrap (b.chairs-1)=b.chairs-1:=AW (by omega) (by omega);obtain⟨c',ih⟩:=AZI n b h1 h4 d (k+1) (c+1) m (by omega) (by omega) hl;have hdr:=bj hk;have hlo:BZ b.chairs b.lines[k]=(EW b.lines[k].k 0 2&&(EW b.lines[k].c (-1) (b.chairs-1)&&EW b.lines[k].t (-1) (b.chairs-1))):=rfl;generalize e1:EW b.lines[k].k 0 2=b1 at hlo;generalize e2:EW b.lines[k].c (-1) (b.chairs-1)=b2 at hlo;generalize e3:EW b.lines[k].t (-1) (b.chairs-1)=b3 at hlo;rw[AE,hdr];simp only[AC,AD,List.all_cons,hlo]at ih|-;try simp at ih
  cases b1<;>cases b2<;>cases b3<;>simp only[Bool.and_true,Bool.and_false,Bool.true_and,Bool.false_and,bp,if_false];all_goals first|(refine⟨c+1,?_⟩;simp[hk,hw,hw2,AD,e1,e2,e3];done)|skip
  refine⟨c',?_⟩;simp[hk,hw,hw2,AD,e1,e2,e3,ih]
attribute [simp] k25
theorem AZJ(n:Nat)(b:A5):∀(d k:Nat) (c m:Nat),k+d=b.counts.length->d<m->b.lines.length<=8->b.counts.length<=4 ->
  ∃c',BQ (AF cj ann kn (n+250) 110) PF (some ([1,5],[1])) m ⟨c,[(1,true,.ptr 0 1 0 0),(5,true,i k)],⟨[],[(1,0,.box (AC b))]⟩⟩ =
  if (b.counts.drop k).all (EP b.lines.length)=true then some (.exit 2,⟨c',[(71,true,.bool false),(70,true,i b.counts.length),(69,true,.list false (b.counts.map AN)),(68,true,.ptr 0 1 0 4),(67,true,i b.counts.length),(1,true,.ptr 0 1 0 0),(5,true,i b.counts.length)],⟨[],[(1,0,.box (AC b))]⟩⟩)
  else some (.ret,⟨c',[(2,true,i 1)],⟨[],[]⟩⟩)
 |0,k,c,m+1,hd,hm,hl,hl2=>by
  have:k=b.counts.length:=by omega
  subst this;refine⟨c,?_⟩;simp[AE,AC]
 |d+1,k,c,m+1,hd,hm,hl,hl2=>by
  have hk:k<b.counts.length:=by omega
  have hw:IntKind.i64.wrap ((k:Int)+1)=(k:Int)+1:=AW (by omega) (by omega);obtain⟨c',ih⟩:=AZJ n b d (k+1) (c+1) m (by omega) (by omega) hl hl2;have hdr:=bj hk;have hlo:EP b.lines.length b.counts[k]=(EW b.counts[k].a 0 b.lines.length&&(!decide (b.counts[k].lo<0)&&(!decide (b.counts[k].hi<b.counts[k].lo)&&!decide (2000<b.counts[k].hi)))):=rfl;generalize e1:EW b.counts[k].a 0 b.lines.length=b1 at hlo;generalize e2:decide (b.counts[k].lo<0)=b2 at hlo;generalize e3:decide (b.counts[k].hi<b.counts[k].lo)=b3 at hlo;generalize e4:decide (2000<b.counts[k].hi)=b4 at hlo;rw[AE,hdr];simp only[AC,AN,List.all_cons,hlo]at ih|-;try simp at ih
  cases b1<;>cases b2<;>cases b3<;>cases b4<;>simp only[Bool.and_true,Bool.and_false,Bool.true_and,Bool.false_and,bp,if_false,Bool.not_true,Bool.not_false];all_goals first|(refine⟨c+1,?_⟩;simp[hk,hw,AN,e1,e2,e3,e4];done)|skip
  refine⟨c',?_⟩;simp[hk,hw,AN,e1,e2,e3,e4,ih]
theorem k67(n:Nat)(b:A5):A4 cj kn (AF cj ann kn (n+400)) 111 [.agg (AC b)]=some (i (DL b)):=by
 rw[AP rfl,AQ Tryz.func111 A3L rfl (by simp[AC,AD,AN])];unfold DL;generalize e1:decide (8<b.lines.length)=b1;have e1':decide ((8:Int)<(b.lines.length:Int))=b1:=by rw[<-e1];congr 1;apply propext;omega
 generalize e2:decide (4<b.counts.length)=b2;have e2':decide ((4:Int)<(b.counts.length:Int))=b2:=by rw[<-e2];congr 1;apply propext;omega
 generalize e3:EW b.chairs 1 4=b3;generalize e4:EW b.coin 1 99=b4;generalize e5:EW b.box 0 999=b5;cases b1
 ·cases b2
  ·cases b3
   ·simp[UJ,AJ,AC,e1',e2',e3]
   ·cases b4
    ·simp[UJ,AJ,AC,e1',e2',e3,e4]
    ·cases b5
     ·simp[UJ,AJ,AC,e1',e2',e3,e4,e5]
     ·have h14:1<=b.chairs/\b.chairs<=4:=by simpa [EW]using e3
      have hl:b.lines.length<=8:=by simpa using e1
      have hc:b.counts.length<=4:=by simpa using e2
      obtain⟨c1,q1⟩:=AZI (n+143) b h14.1 h14.2 b.lines.length 0 1 (n+393) (by omega) (by omega) hl;obtain⟨c2,q2⟩:=AZJ (n+142) b b.counts.length 0 c1 (n+392) (by omega) (by omega) hl hc;have q3:=fun n=>k52 n b h14.1 h14.2 (by omega);generalize e6:b.lines.all (BZ b.chairs)=b6;generalize e7:b.counts.all (EP b.lines.length)=b7;generalize e8:decide (4096<CV b.chairs 1 b.lines)=b8;have e8':(4096<CV b.chairs 1 b.lines)=(b8=true):=by rw[<-e8];simp
      simp only[bt,e6,e7,e8',AC,bx,bz,Int.natCast_zero]at q1 q2 q3|-;cases b6
      ·simp[UJ,AJ,AC,e1',e2',e3,e4,e5];try simp at q1
       simp[q1]
      ·cases b7
       ·simp[UJ,AJ,AC,e1',e2',e3,e4,e5];try simp at q1 q2
        simp[q1,q2]
       ·simp[UJ,AJ,AC,e1',e2',e3,e4,e5];try simp at q1 q2
        simp[q1,q2,q3,e8,AD,AN];cases b8<;>simp
  ·simp[UJ,AJ,AC,e1',e2']
 ·simp[UJ,AJ,AC,e1']
def iC(b:A5):Bool:=decide (b.lines.length<=10)&&(decide (b.counts.length<=6)&&(!decide (DL b=0)||decide (CV b.chairs 1 b.lines<=100)))
theorem HX{b:A5}(h:DL b=0):1<=b.chairs/\b.chairs<=4/\b.lines.length<=8/\b.counts.length<=4/\1<=b.coin/\b.coin<=99/\0<=b.box/\b.box<=999/\b.lines.all (BZ b.chairs)=true/\b.counts.all (EP b.lines.length)=true/\CV b.chairs 1 b.lines<=4096:=by
 unfold DL at h;split at h
 ·omega
 ·rename_i h1;split at h
  ·omega
  ·rename_i h2;split at h
   ·omega
   ·rename_i h3;split at h
    ·omega
    ·rename_i h4;split at h
     ·omega
     ·rename_i h5;simp[EW]at h1 h2;simp only[Bool.not_eq_false]at h3 h4;refine⟨by omega,by omega,by omega,by omega,by omega,by omega,by omega,by omega,h3,h4,by omega⟩
theorem k19(n:Nat)(b:A5):A4 cj kn (AF cj ann kn (n+500)) 64 [.agg (AC b)]=some (.bool (iC b)):=by
 rw[AP rfl,AQ Tryz.func64 b64 rfl (by simp[AC,AD,AN])];have h:=fun n=>k67 n b;have h2:=fun n=>fun (h:DL b=0)=>k52 n b (HX h).1 (HX h).2.1 (by have:=(HX h).2.2.1;omega);unfold iC;generalize e1:decide (b.lines.length<=10)=b1;have e1':decide ((b.lines.length:Int)<=10)=b1:=by rw[<-e1];congr 1;apply propext;omega
 generalize e2:decide (b.counts.length<=6)=b2;have e2':decide ((b.counts.length:Int)<=6)=b2:=by rw[<-e2];congr 1;apply propext;omega
 generalize e3:decide (DL b=0)=b3;generalize e4:decide (CV b.chairs 1 b.lines<=100)=b4;simp only[AC]at h h2|-;cases b1
 ·simp[c64,AJ,e1']
 ·cases b2
  ·simp[c64,AJ,e1',e2']
  ·cases b3
   ·simp[c64,AJ,e1',e2',h,AD,AN,e3]
   ·have h2:=fun n=>h2 n (by simpa using e3);simp[c64,AJ,e1',e2',h,AD,AN,e3,h2,e4]
theorem k30(n:Nat)(lo hi:Int):A4 cj kn (AF cj ann kn (n+100)) 110 [.agg [i lo,i hi]]=some (.agg [i lo,i hi]):=by rw[AP rfl,AQ Tryz.func110 A3M rfl rfl];simp[ATH,AJ]
theorem l35(n:Nat)(ls:List AK)(hl:ls.length<=1000):∀(d k:Nat) (out:List AK) (c γ m:Nat),k+d=ls.length->d<m->out.length<=k ->
  ∃c' γ',BQ (AF cj ann kn (n+50) 31) Z4 (some ([0,3,4],[29])) m ⟨c,[(0,true,.list false (ls.map AD)),(3,true,pv 29 γ (out.map AD)),(4,true,i k)],⟨[],pl 29 γ 96 (out.map AD)⟩⟩ =
  some (.exit 0,⟨c',[(8,true,.bool false),(7,true,i ls.length),(6,true,.list false (ls.map AD)),(5,true,i ls.length),(0,true,.list false (ls.map AD)),(3,true,pv 29 γ' ((out++ls.drop k).map AD)),(4,true,i ls.length)],⟨[],pl 29 γ' 96 ((out++ls.drop k).map AD)⟩⟩)
 |0,k,out,c,γ,m+1,hd,hm,ho=>by
  have:k=ls.length:=by omega
  subst this;refine⟨c,γ,?_⟩;simp[AE]
 |d+1,k,out,c,γ,m+1,hd,hm,ho=>by
  have hk:k<ls.length:=by omega
  have hw:IntKind.i64.wrap ((k:Int)+1)=(k:Int)+1:=AW (by omega) (by omega);obtain⟨c',γ',ih⟩:=l35 n ls hl d (k+1) (out++[ls[k]]) (c+1) c m (by omega) (by omega) (by simp;omega);refine⟨c',γ',?_⟩;have ho':CL cj 96 out.length [[i ls[k].k,i ls[k].c,i ls[k].t]]=true:=by rw[D5 (by simp) (by simp)];simp[maxLen];omega
  rw[AE,bj hk];simp only[bw,bn,bh,H8,AD,bq,bf,bc]at ih|-;try simp at ih
  simp[hk,hw,AD,ho',ih]
theorem k35(n:Nat)(ls:List AK)(hl:ls.length<=500):A4 cj kn (AF cj ann kn (n+600)) 32 [.list false (ls.map AD)]=some (sl (ls.map AD)):=by
 rw[AP rfl,AQ Tryz.func32 b32 rfl (by simp[AD])];obtain⟨c',γ',ih⟩:=l35 (n+544) ls (by omega) ls.length 0 [] 0 0 (n+594) (by omega) (by omega) (by simp);have hcl:((ls).map AD).all (fun e=>e.all (AL 8))=true:=by simp[AD]
 simp only[bx,bz]at ih;try simp at ih hcl
 simp[c32,AJ,ih];exact hcl
theorem l22(n:Nat)(b:A5)(hl:b.counts.length<=1000):∀(d k:Nat) (out:List EX) (c γ m:Nat),k+d=b.counts.length->d<m->out.length<=k->3<=c ->
  ∃c' γ':Nat,3<=c'/\BQ (AF cj ann kn (n+250) 42) Z5 (some ([1,2,3,4],[1,2,3,13,39])) m ⟨c,[(1,true,.ptr 0 1 0 0),(2,true,.ptr 0 2 1 0),(3,true,.ptr 0 3 2 0),(4,true,i k)],
   ⟨[],(1,0,.box (AC b)) :: (2,1,.box [i 0,i 0,i 0,.nil,.nil]) :: (3,2,.box [i b.chairs,i b.coin,i b.box,sl (b.lines.map AD),pv 39 γ (out.map AN)]) :: pl 39 γ 171 (out.map AN)⟩⟩=some (.exit 0,⟨c',[(19,true,.bool false),(18,true,i b.counts.length),(17,true,.list false (b.counts.map AN)),(16,true,.ptr 0 1 0 4),(15,true,i b.counts.length),(1,true,.ptr 0 1 0 0),(2,true,.ptr 0 2 1 0),(3,true,.ptr 0 3 2 0),(4,true,i b.counts.length)],
   ⟨[],(1,0,.box (AC b)) :: (2,1,.box [i 0,i 0,i 0,.nil,.nil]) :: (3,2,.box [i b.chairs,i b.coin,i b.box,sl (b.lines.map AD),pv 39 γ' ((out++b.counts.drop k).map AN)]) :: pl 39 γ' 171 ((out++b.counts.drop k).map AN)⟩⟩)
 |0,k,out,c,γ,m+1,hd,hm,ho,hc=>by
  have:k=b.counts.length:=by omega
  subst this;refine⟨c,γ,hc,?_⟩;simp[AE,AC]
 |d+1,k,out,c,γ,m+1,hd,hm,ho,hc=>by
  have hk:k<b.counts.length:=by omega
  have hw:IntKind.i64.wrap ((k:Int)+1)=(k:Int)+1:=AW (by omega) (by omega);obtain⟨c',γ',i1,ih⟩:=l22 n b hl d (k+1) (out++[b.counts[k]]) (c+1) c m (by omega) (by omega) (by simp;omega) (by omega);refine⟨c',γ',i1,?_⟩;have ho':CL cj 171 out.length [[i b.counts[k].a,i b.counts[k].lo,i b.counts[k].hi]]=true:=by rw[D5 (by simp) (by simp)];simp[maxLen];omega
  have h30:=fun n=>k30 n b.counts[k].lo b.counts[k].hi;rw[AE,bj hk];simp only[bw,bn,bh,H8,AN,bq,bf,bc,AC]at ih|-;try simp at ih
  have hc2:2<c+1:=by omega
  simp[hk,hw,AN,ho',h30,RK,hc2,ih]
def mM(b:A5):List V:=[i b.chairs,i b.coin,i b.box,sl (b.lines.map AD),sl (b.counts.map AN)]
theorem k22(n:Nat)(b:A5)(hl:b.lines.length<=500)(hc:b.counts.length<=500):A4 cj kn (AF cj ann kn (n+700)) 63 [.agg (AC b)]=some (.agg (mM b)):=by
 rw[AP rfl,AQ Tryz.func63 b63 rfl (by simp[AC,AD,AN])];obtain⟨c',γ',i1,ih⟩:=l22 (n+444) b (by omega) b.counts.length 0 [] 3 0 (n+694) (by omega) (by omega) (by simp) (by omega);have h35:=fun n=>k35 n b.lines hl;simp only[bx,bz,AC,mM]at ih|-;try simp at ih
 have hc1:1<c':=by omega
 have hcl:(b.lines.map AD).all (fun e=>e.all (AL 7))=true:=by simp[AD]
 have hcl2:(b.counts.map AN).all (fun e=>e.all (AL 7))=true:=by simp[AN]
 try simp at hcl hcl2
 simp[c63,AJ,h35,AD,ih,hc1,J8 (T:=171)];exact hcl2
def HB(n:Int):List V:=[i n]
def tO(a:Int):Nat->List Int
 |0=>[]
 |d+1=>a::tO (a+1) d
theorem pC(a:Int):∀d,(tO a d).length=d
 |0=>rfl
 |d+1=>by simp[tO,pC (a+1) d]
def F1(sign none a b:Int):List Int:=if sign=none then tO a (b+1-a).toNat else[sign]
theorem AZK(n:Nat)(b:Int)(hb:b<=100):∀(d:Nat) (a:Int) (out:List Int) (c γ m:Nat),a+d=b+1->d<m->0<=a->out.length+d<=1000 ->
  ∃c' γ':Nat,BQ (AF cj ann kn (n+50) 26) TO (some ([3,8,9],[24])) m ⟨c,[(3,true,i b),(8,true,pv 24 γ (out.map HB)),(9,true,i a)],⟨[],pl 24 γ 3 (out.map HB)⟩⟩ =
  some (.exit 0,⟨c',[(18,true,.bool false),(17,true,i b),(16,true,i (b+1)),(3,true,i b),(8,true,pv 24 γ' ((out++tO a d).map HB)),(9,true,i (b+1))],⟨[],pl 24 γ' 3 ((out++tO a d).map HB)⟩⟩)
 |0,a,out,c,γ,m+1,hd,hm,ha,ho=>by
  have:a=b+1:=by omega
  subst this;have e:decide (b+1<=b)=false:=by simp;omega
  refine⟨c,γ,?_⟩;simp[AE,tO,e]
 |d+1,a,out,c,γ,m+1,hd,hm,ha,ho=>by
  have e:decide (a<=b)=true:=by simp;omega
  have hw:IntKind.i64.wrap (a+1)=a+1:=AW (by omega) (by omega);obtain⟨c',γ',ih⟩:=AZK n b hb d (a+1) (out++[a]) (c+1) c m (by omega) (by omega) (by omega) (by simp;omega);refine⟨c',γ',?_⟩;have ho':CL cj 3 out.length [[i a]]=true:=by rw[D5 (by simp) (by simp)];simp[maxLen];omega
  rw[AE];simp only[tO,bw,bn,bh,H8,HB,bq,bf,bc]at ih|-;simp[hw,HB,ho',e,ih]
theorem ANG(n:Nat)(sg no a b:Int)(hb:b<=100)(ha:0<=a)(hab:a<=b+1):A4 cj kn (AF cj ann kn (n+200)) 173 [i sg,i no,i a,i b]=some (sl ((F1 sg no a b).map HB)):=by
 rw[AP rfl,AQ Tryz.func173 A3N rfl rfl];obtain⟨c',γ',ih⟩:=AZK (n+144) b hb (b+1-a).toNat a [] 0 0 (n+194) (by omega) (by omega) ha (by simp;omega);unfold F1;by_cases h:sg=no
 ·have hcl:((tO a (b+1-a).toNat).map HB).all (fun e=>e.all (AL 8))=true:=by simp[HB]
  simp only[bx,bz]at ih;try simp at ih hcl
  simp[AIO,AJ,h,ih];exact hcl
 ·have e:decide (sg=no)=false:=by simpa using h
  simp[AIO,AJ,h,HB,sl]
def rd3(k ch:Int)(zs:List Int):List AK:=zs.map fun t=>⟨k,ch,t⟩
theorem AZL(n:Nat)(b:A5)(l:AK)(k ch:Int)(xs ys zs:List Int)(ix iy:Nat)(hz:zs.length<=100):∀(d j:Nat) (out:List AK) (c γ m:Nat),j+d=zs.length->d<m->out.length<=10000+j ->
  ∃c' γ':Nat,BQ (AF cj ann kn (n+50) 52) TP (some ([2,3,4,6,8,13,14,15,24,25,26,35,36,37],[2,3,13,24,35,47])) m ⟨c,[(2,true,.ptr 0 2 0 0),(3,true,.ptr 0 3 1 0),(4,true,pv 47 γ (out.map AD)),(6,true,i k),(8,true,i ch),(13,true,sl (xs.map HB)),(14,true,i xs.length),(15,true,i ix),(24,true,sl (ys.map HB)),(25,true,i ys.length),(26,true,i iy),(35,true,sl (zs.map HB)),(36,true,i zs.length),(37,true,i j)],⟨[],(2,0,.box (AC b))::(3,1,.box (AD l))::pl 47 γ 96 (out.map AD)⟩⟩ =
  some (.exit 4,⟨c',[(38,true,.bool false),(2,true,.ptr 0 2 0 0),(3,true,.ptr 0 3 1 0),(4,true,pv 47 γ' ((out++rd3 k ch (zs.drop j)).map AD)),(6,true,i k),(8,true,i ch),(13,true,sl (xs.map HB)),(14,true,i xs.length),(15,true,i ix),(24,true,sl (ys.map HB)),(25,true,i ys.length),(26,true,i iy),(35,true,sl (zs.map HB)),(36,true,i zs.length),(37,true,i zs.length)],⟨[],(2,0,.box (AC b))::(3,1,.box (AD l))::pl 47 γ' 96 ((out++rd3 k ch (zs.drop j)).map AD)⟩⟩)
 |0,j,out,c,γ,m+1,hd,hm,ho=>by
  have:j=zs.length:=by omega
  subst this;refine⟨c,γ,?_⟩;simp[AE,rd3]
 |d+1,j,out,c,γ,m+1,hd,hm,ho=>by
  have hj:j<zs.length:=by omega
  have hw:IntKind.i64.wrap ((j:Int)+1)=(j:Int)+1:=AW (by omega) (by omega);obtain⟨c',γ',ih⟩:=AZL n b l k ch xs ys zs ix iy hz d (j+1) (out++[⟨k,ch,zs[j]⟩]) (c+1) c m (by omega) (by omega) (by simp;omega);refine⟨c',γ',?_⟩;have ho':CL cj 96 out.length [[i k,i ch,i zs[j]]]=true:=by rw[D5 (by simp) (by simp)];simp[maxLen];omega
  rw[AE,bj hj];simp only[rd3,bw,bn,bh,H8,AD,bq,bf,bc]at ih|-;try simp at ih
  simp[hj,hw,HB,AD,ho',ih]
def rd2(C:Int)(l:AK)(k:Int)(ys:List Int):List AK:=ys.flatMap fun ch=>rd3 k ch (F1 l.t (-1) 0 (C-1))
theorem M1(sg no a b:Int)(h:b+1-a<=4):(F1 sg no a b).length<=4:=by
 unfold F1;split
 ·rw[pC];omega
 ·simp
theorem AZM(n:Nat)(b:A5)(l:AK)(h1:1<=b.chairs)(h4:b.chairs<=4)(k:Int)(xs ys:List Int)(ix:Nat)(hz:ys.length<=100):∀(d j:Nat) (out:List AK) (c γ m:Nat),j+d=ys.length->d<m->out.length<=1000+4*j ->
  ∃c' γ':Nat,BQ (AF cj ann kn (n+300) 52) TQ (some ([2,3,4,6,13,14,15,24,25,26],[2,3,13,24,47])) m ⟨c,[(2,true,.ptr 0 2 0 0),(3,true,.ptr 0 3 1 0),(4,true,pv 47 γ (out.map AD)),(6,true,i k),(13,true,sl (xs.map HB)),(14,true,i xs.length),(15,true,i ix),(24,true,sl (ys.map HB)),(25,true,i ys.length),(26,true,i j)],⟨[],(2,0,.box (AC b))::(3,1,.box (AD l))::pl 47 γ 96 (out.map AD)⟩⟩ =
  some (.exit 2,⟨c',[(27,true,.bool false),(2,true,.ptr 0 2 0 0),(3,true,.ptr 0 3 1 0),(4,true,pv 47 γ' ((out++rd2 b.chairs l k (ys.drop j)).map AD)),(6,true,i k),(13,true,sl (xs.map HB)),(14,true,i xs.length),(15,true,i ix),(24,true,sl (ys.map HB)),(25,true,i ys.length),(26,true,i ys.length)],⟨[],(2,0,.box (AC b))::(3,1,.box (AD l))::pl 47 γ' 96 ((out++rd2 b.chairs l k (ys.drop j)).map AD)⟩⟩)
 |0,j,out,c,γ,m+1,hd,hm,ho=>by
  have:j=ys.length:=by omega
  subst this;refine⟨c,γ,?_⟩;simp[AE,rd2]
 |d+1,j,out,c,γ,m+1,hd,hm,ho=>by
  have hj:j<ys.length:=by omega
  have hw:IntKind.i64.wrap ((j:Int)+1)=(j:Int)+1:=AW (by omega) (by omega);have hw2:IntKind.i64.wrap (b.chairs-1)=b.chairs-1:=AW (by omega) (by omega);have hwl:=M1 l.t (-1) 0 (b.chairs-1) (by omega);have hk:=fun n=>ANG n l.t (-1) 0 (b.chairs-1) (by omega) (by omega) (by omega);obtain⟨c1,γ1,q⟩:=AZL (n+242) b l k ys[j] xs ys (F1 l.t (-1) 0 (b.chairs-1)) ix j (by omega) (F1 l.t (-1) 0 (b.chairs-1)).length 0 out c γ (n+292) (by omega) (by omega) (by omega);obtain⟨c',γ',ih⟩:=AZM n b l h1 h4 k xs ys ix hz d (j+1) (out++rd3 k ys[j] (F1 l.t (-1) 0 (b.chairs-1))) c1 γ1 m (by omega) (by omega) (by simp[rd3];omega);refine⟨c',γ',?_⟩;rw[AE,bj hj];simp only[rd2,br,bw,bq,bx,bz,AC,AD,bt]at ih q|-;try simp at ih q
  simp[hj,hw,hw2,HB,hk,q,ih]
def rd1(C:Int)(l:AK)(xs:List Int):List AK:=xs.flatMap fun k=>rd2 C l k (F1 l.c (-1) 0 (C-1))
theorem AEY(k ch:Int)(zs:List Int):(rd3 k ch zs).length=zs.length:=by simp[rd3]
theorem cK(C:Int)(l:AK)(k:Int)(hC:C<=4):∀(ys:List Int),(rd2 C l k ys).length<=4*ys.length
 |[]=>by simp[rd2]
 |y::ys=>by have:=cK C l k hC ys;have h2:=M1 l.t (-1) 0 (C-1) (by omega);simp only[rd2,br,bg,AEY,List.length_cons]at this|-;omega
theorem AZN(n:Nat)(b:A5)(l:AK)(h1:1<=b.chairs)(h4:b.chairs<=4)(xs:List Int)(hz:xs.length<=10):∀(d j:Nat) (out:List AK) (c γ m:Nat),j+d=xs.length->d<m->out.length<=16*j ->
  ∃c' γ':Nat,BQ (AF cj ann kn (n+400) 52) TR (some ([2,3,4,13,14,15],[2,3,13,47])) m ⟨c,[(2,true,.ptr 0 2 0 0),(3,true,.ptr 0 3 1 0),(4,true,pv 47 γ (out.map AD)),(13,true,sl (xs.map HB)),(14,true,i xs.length),(15,true,i j)],⟨[],(2,0,.box (AC b))::(3,1,.box (AD l))::pl 47 γ 96 (out.map AD)⟩⟩ =
  some (.exit 0,⟨c',[(16,true,.bool false),(2,true,.ptr 0 2 0 0),(3,true,.ptr 0 3 1 0),(4,true,pv 47 γ' ((out++rd1 b.chairs l (xs.drop j)).map AD)),(13,true,sl (xs.map HB)),(14,true,i xs.length),(15,true,i xs.length)],⟨[],(2,0,.box (AC b))::(3,1,.box (AD l))::pl 47 γ' 96 ((out++rd1 b.chairs l (xs.drop j)).map AD)⟩⟩)
 |0,j,out,c,γ,m+1,hd,hm,ho=>by
  have:j=xs.length:=by omega
  subst this;refine⟨c,γ,?_⟩;simp[AE,rd1]
 |d+1,j,out,c,γ,m+1,hd,hm,ho=>by
  have hj:j<xs.length:=by omega
  have hw:IntKind.i64.wrap ((j:Int)+1)=(j:Int)+1:=AW (by omega) (by omega);have hw2:IntKind.i64.wrap (b.chairs-1)=b.chairs-1:=AW (by omega) (by omega);have hwl:=M1 l.c (-1) 0 (b.chairs-1) (by omega);have hrl:=cK b.chairs l xs[j] h4 (F1 l.c (-1) 0 (b.chairs-1));have hk:=fun n=>ANG n l.c (-1) 0 (b.chairs-1) (by omega) (by omega) (by omega);obtain⟨c1,γ1,q⟩:=AZM (n+92) b l h1 h4 xs[j] xs (F1 l.c (-1) 0 (b.chairs-1)) j (by omega) (F1 l.c (-1) 0 (b.chairs-1)).length 0 out c γ (n+392) (by omega) (by omega) (by omega);obtain⟨c',γ',ih⟩:=AZN n b l h1 h4 xs hz d (j+1) (out++rd2 b.chairs l xs[j] (F1 l.c (-1) 0 (b.chairs-1))) c1 γ1 m (by omega) (by omega) (by simp;omega);refine⟨c',γ',?_⟩;rw[AE,bj hj];simp only[rd1,br,bw,bq,bx,bz,AC,AD,bt]at ih q|-;try simp at ih q
  simp[hj,hw,hw2,HB,hk,q,ih]
def readingsP(C:Int)(l:AK):List AK:=rd1 C l (F1 l.k 0 1 2)
theorem k81(n:Nat)(b:A5)(l:AK)(h1:1<=b.chairs)(h4:b.chairs<=4):A4 cj kn (AF cj ann kn (n+500)) 142 [.agg (AC b),.agg (AD l)]=some (sl ((readingsP b.chairs l).map AD)):=by
 rw[AP rfl,AQ Tryz.func142 A3O rfl (by simp[AC,AD,AN])];have hwl:=M1 l.k 0 1 2 (by omega);have hk:=fun n=>ANG n l.k 0 1 2 (by omega) (by omega) (by omega);obtain⟨c',γ',ih⟩:=AZN (n+95) b l h1 h4 (F1 l.k 0 1 2) (by omega) (F1 l.k 0 1 2).length 0 [] 2 0 (n+495) (by omega) (by omega) (by simp);have hcl:((readingsP b.chairs l).map AD).all (fun e=>e.all (AL 8))=true:=by simp[AD]
 simp only[bx,bz,AC,AD]at ih|-;simp[readingsP]at ih hcl;simp[ATI,AJ,hk,ih,readingsP];exact hcl
end Go.Proofs.Tryz.Op
