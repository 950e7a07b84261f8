/- Contracts of the reference: People, Chairs, Minds, Groups. No condition but small numbers. -/
import Derived.Test.YthhdhbalenanjaaGreatC1
import Derived.Test.YthhdhbalenanjaaGreatEa
open Go.Proofs.Tryz renaming prog->ck
open List renaming mem_cons_of_mem->bj,take_succ_eq_append_getElem->bk,drop_eq_getElem_cons->bq,map_congr_left->bw,drop_length->bx,mem_map->bz,getElem_mem->bc,take_length->bf,length_take->bg,all_cons->bh,map_append->bm,length_map->bn,map_map->bp,map->cj
open Bool renaming not_eq_true'->bb
set_option maxRecDepth 100000
set_option linter.unusedSimpArgs false
open Go Go.Pg Go.Proofs Go.Wind
namespace Go.Wind
end Go.Wind
namespace Go.Proofs.Tryz.Op
end Go.Proofs.Tryz.Op
namespace Go.Wind
end Go.Wind
namespace Go.Proofs.Tryz.Op
section
variable (c:AV)(G:List (Nat×Int))(ss:List (Int×Int))(t q:Nat)
end
end Go.Proofs.Tryz.Op
namespace Go.Wind
open Go.Proofs.Tryz.Op
theorem LZ{c:AV}(hc:C5 c)(out:List Int):∀(k:Nat),k<=c.fams.length->∀g∈CS c.fams out k,g.1<c.fams.length/\1<=g.2/\g.2<=4
 |0,_,g,hg=>by cases hg
 |k+1,hk,g,hg=>by
  simp only[CS,List.mem_append]at hg;rcases hg with hg|hg
  ·exact LZ hc out k (by omega) g hg
  ·split at hg
   ·cases hg
   ·rw[List.mem_singleton]at hg;subst hg;have hk':k<c.fams.length:=by omega
    have e:c.fams.getD k ⟨0,0,false,false⟩=c.fams[k]:=by rw[List.getD_eq_getElem?_getD,List.getElem?_eq_getElem hk'];rfl
    have:=hc.fo _ (bc hk');simp only[e];exact⟨hk',this.1⟩
end Go.Wind
namespace Go.Proofs.Tryz.Op
def I7{α:Type}(l:List α):Bool:=!decide ((7:Int)<(l.length:Int))
def NK(c:AV):Bool:=(V9 c.beach&&(I7 c.plan&&(I7 c.chairs&&!decide ((5:Int)<(c.fams.length:Int)))))&&(c.plan.all I7&&c.chairs.all I7)
theorem vF{α:Type}{l:List α}:I7 l=true↔l.length<=7:=by simp only[I7,bb,decide_eq_false_iff_not];omega
theorem JM{c:AV}(h:NK c=true):V9 c.beach=true/\c.plan.length<=7/\c.chairs.length<=7/\c.fams.length<=5/\(∀l∈c.plan,l.length<=7)/\∀l∈c.chairs,l.length<=7:=by simp only[NK,Bool.and_eq_true,vF,List.all_eq_true,bb,decide_eq_false_iff_not]at h;exact⟨h.1.1,h.1.2.1,h.1.2.2.1,by omega,h.2.1,h.2.2⟩
theorem AYO(c:AV)(hl:c.plan.length<=100):∀(d k:Nat),k+d=c.plan.length->∃fr,BS fr 1=some (true,.ptr 0 1 0 0) /\
  ∀n m,d<m->BM (AF ck ann kn (n+100) 55) XH (ann 55 (B0 XH)) m ⟨1,[(1,true,.ptr 0 1 0 0),(3,true,i k)],⟨[],[(1,0,.box (AG c))]⟩⟩ =
   if (c.plan.drop k).all I7=true then some (.exit 0,⟨1,fr,⟨[],[(1,0,.box (AG c))]⟩⟩) else some (.ret,⟨1,[(2,true,.bool false)],⟨[],[]⟩⟩)
 |0,k,hk=>by
  have:k=c.plan.length:=by omega
  subst this;rw[bx];refine⟨?fr,?g1,fun n m hm=>?g2⟩;case g2=>
   obtain⟨m,rfl⟩:=qNz m (by omega)
   rw[AB]
   simp[AG]
   rfl
  case g1=>simp
 |d+1,k,hk=>by
  have hk':k<c.plan.length:=by omega
  have hw:=B5 (k:=k) (by omega);obtain⟨fr,e1,ih⟩:=AYO c hl d (k+1) (by omega);rw[bq hk',bh];refine⟨fr,e1,fun n m hm=>?_⟩;obtain⟨m,rfl⟩:=qNz m (by omega);have ih:=ih n m (by omega);have es:I7 c.plan[k]=!decide ((7:Int)<(c.plan[k].length:Int)):=rfl;rw[es];generalize e1:decide ((7:Int)<(c.plan[k].length:Int))=z1;generalize (c.plan.drop (k+1)).all I7=z at ih|-;rw[AB];simp only[AG]at ih|-;cases z1<;>cases z<;>(simp at ih;simp[AM,hk',hw,e1,ih])
theorem AYP(c:AV)(hl:c.chairs.length<=100):∀(d k:Nat),k+d=c.chairs.length->∃fr,BS fr 1=some (true,.ptr 0 1 0 0) /\
  ∀n m,d<m->BM (AF ck ann kn (n+100) 55) XI (ann 55 (B0 XI)) m ⟨1,[(1,true,.ptr 0 1 0 0),(4,true,i k)],⟨[],[(1,0,.box (AG c))]⟩⟩ =
   if (c.chairs.drop k).all I7=true then some (.exit 2,⟨1,fr,⟨[],[(1,0,.box (AG c))]⟩⟩) else some (.ret,⟨1,[(2,true,.bool false)],⟨[],[]⟩⟩)
 |0,k,hk=>by
  have:k=c.chairs.length:=by omega
  subst this;rw[bx];refine⟨?fr,?g1,fun n m hm=>?g2⟩;case g2=>
   obtain⟨m,rfl⟩:=qNz m (by omega)
   rw[AB]
   simp[AG]
   rfl
  case g1=>simp
 |d+1,k,hk=>by
  have hk':k<c.chairs.length:=by omega
  have hw:=B5 (k:=k) (by omega);obtain⟨fr,e1,ih⟩:=AYP c hl d (k+1) (by omega);rw[bq hk',bh];refine⟨fr,e1,fun n m hm=>?_⟩;obtain⟨m,rfl⟩:=qNz m (by omega);have ih:=ih n m (by omega);have es:I7 c.chairs[k]=!decide ((7:Int)<(c.chairs[k].length:Int)):=rfl;rw[es];generalize e1:decide ((7:Int)<(c.chairs[k].length:Int))=z1;generalize (c.chairs.drop (k+1)).all I7=z at ih|-;rw[AB];simp only[AG]at ih|-;cases z1<;>cases z<;>(simp at ih;simp[AU,hk',hw,e1,ih])
theorem ANQ(n:Nat)(c:AV):A8 ck kn (AF ck ann kn (n+1400)) 18 [.agg (AG c)]=some (.bool (NK c)):=by
 rw[AP rfl,AQ Tryz.func18 b18 rfl (by simp[AG,AJ,AM,AL,AU,BH,AR])];have qT:=fun n=>A51 n c.beach;unfold NK;have es:I7 c.plan=!decide ((7:Int)<(c.plan.length:Int)):=rfl;have et:I7 c.chairs=!decide ((7:Int)<(c.chairs.length:Int)):=rfl;rw[es,et];generalize e1:decide ((7:Int)<(c.plan.length:Int))=z1;generalize e2:decide ((7:Int)<(c.chairs.length:Int))=z2;generalize e3:decide ((5:Int)<(c.fams.length:Int))=z3;generalize V9 c.beach=z4 at *;simp only[AC]at qT;by_cases h:z4=true/\z1=false/\z2=false/\z3=false
 ·obtain⟨rfl,rfl,rfl,rfl⟩:=h;have h1:=of_decide_eq_false e1;have h2:=of_decide_eq_false e2;obtain⟨f1,g1,q1⟩:=AYO c (by omega) c.plan.length 0 (by omega);obtain⟨f2,g2,q2⟩:=AYP c (by omega) c.chairs.length 0 (by omega);have q1:=fun n m=>q1 n (m+100) (by omega);have q2:=fun n m=>q2 n (m+100) (by omega);rw[List.drop_zero]at q1 q2;generalize c.plan.all I7=y1 at *;generalize c.chairs.all I7=y2 at *;simp only[AG]at q1 q2|-;cases y1<;>cases y2<;>(simp at q1 q2;simp[c18,AD,qT,e1,e2,e3,q1,q2,g1,g2,AU,BH,AR,AL,AM,AJ])
 ·simp only[AG]at|-;cases z4<;>cases z1<;>cases z2<;>cases z3<;>first|exact absurd ⟨rfl,rfl,rfl,rfl⟩ h|simp[c18,AD,qT,e1,e2,e3,AU,BH,AR,AL,AM,AJ]
theorem AYQ{k:Nat}(hk:k<=100000)(q g n:Nat):B9 ck 22 k [[.vec 0 q g n]]=true:=by rw[CQ (by simp) (by simp)];simp[maxLen];omega
theorem AFZ(l k:Nat)(o:Option (Nat×AX))(ls:List (List Int)):(ls.map AM).map (cj (BD l k o 3))=ls.map AM:=by rw[bp];exact bw fun x _=>rfl
theorem AYR(ls:List (List Int)):(ls.map AM).map (cj gT)=ls.map AM:=by rw[bp];exact bw fun x _=>rfl
theorem XA(k γ:Nat)(h:List V)(t:List (List V)):pv k γ (h::t)=.vec 0 k γ (t.length+1):=rfl
theorem slN:sl []=.nil:=rfl
theorem slC(e:List V)(es:List (List V)):sl (e::es)=.list false (e::es):=rfl
theorem OW(l k:Nat)(o:Option (Nat×AX))(f:Nat)(es:List (List V)):BD l k o f (sl es)=sl es:=by cases f<;>cases es<;>rfl
theorem ANR(ls:List (List Int))(h1:ls.length<=100)(h2:∀l∈ls,l.length<=100):∀(d k c γ:Nat),k+d=ls.length->∃fr c' γ',fr=[(8,true,V.bool false),(7,true,i ls.length),(6,true,JA ls),(5,true,i ls.length),(0,true,JA ls),(3,true,pv 18 γ' (ls.map AM)),(4,true,i ls.length)]/\∀n m,d<m->BM (AF ck ann kn (n+200) 20) XJ (ann 20 (B0 XJ)) m ⟨c,[(0,true,JA ls),(3,true,pv 18 γ ((ls.take k).map AM)),(4,true,i k)],⟨[],pl 18 γ 22 ((ls.take k).map AM)⟩⟩ =
  some (.exit 0,⟨c',fr,⟨[],pl 18 γ' 22 (ls.map AM)⟩⟩)
 |0,k,c,γ,hk=>by
  have:k=ls.length:=by omega
  subst this;rw[bf];refine⟨_,c,γ,rfl,fun n m hm=>?_⟩;obtain⟨m,rfl⟩:=qNz m (by omega);rw[AB];simp
 |d+1,k,c,γ,hk=>by
  have hk':k<ls.length:=by omega
  have hw:=B5 (k:=k) (by omega);have h3:=h2 _ (bc hk');have hst:(ls.take (k+1)).map AM=(ls.take k).map AM++[AM ls[k]]:=by rw[bk hk',bm];rfl
  have hRl:((ls.take k).map AM).length=k:=by rw[bn,bg];omega
  have hto:=fun o=>AFZ 0 16 o (ls.take k);have hR1:∀e∈(ls.take k).map AM,e.length=1:=fun e he=>by obtain⟨l,_,rfl⟩:=bz.1 he;rfl
  have hwk:=AYR (ls.take k);have ha:=fun q g n=>AYQ (k:=((ls.take k).map AM).length) (by omega) q g n;have hai:=A5X (k:=0) (l:=ls[k]) (by omega);generalize hLk:ls[k]=L at *;cases L with
  |nil=>
   obtain⟨fr,c',γ',e1,ih⟩:=ANR ls h1 h2 d (k+1) (c+1+1) (c+1) (by omega)
   refine⟨fr,c',γ',e1,fun n m hm=>?_⟩
   obtain⟨m,rfl⟩:=qNz m (by omega)
   have ih:=ih n m (by omega)
   rw[hst]at ih
   generalize ls.map AM=fin at *
   generalize (ls.take k).map AM=R at *
   rw[AB]
   simp[AM]at hai
   cases R with
   |nil=>simp[AM,li,XA]at ih ha;simp[show c+1+1=c+2 from rfl,hk',hw,hLk,AM,AJ,ha,hai,ih,A9,DV,HO,FV,BV,CC,BF,HR,F2]
   |cons r R=>
    have hR2:=hR1 r (by simp)
    have hR3:=eq_true (fun e he=>hR1 e (bj r he):∀e∈R,e.length=1)
    simp[AM,li,XA]at ih ha hto hwk
    simp[show c+1+1=c+2 from rfl,hk',hw,hLk,AM,AJ,ha,hai,ih,hto,hwk,hR2,hR3,OW,XA,A9,DV,HO,FV,BV,CC,BF,HR,F2]
  |cons x L=>
   obtain⟨fr,c',γ',e1,ih⟩:=ANR ls h1 h2 d (k+1) (c+1+1) (c+1) (by omega)
   refine⟨fr,c',γ',e1,fun n m hm=>?_⟩
   obtain⟨m,rfl⟩:=qNz m (by omega)
   have ih:=ih n m (by omega)
   rw[hst]at ih
   generalize ls.map AM=fin at *
   generalize (ls.take k).map AM=R at *
   rw[AB]
   simp[AM,AJ]at hai
   cases R with
   |nil=>simp[AM,AJ,li,XA]at ih ha;simp[show c+1+1=c+2 from rfl,hk',hw,hLk,AM,AJ,ha,hai,ih,A9,DV,HO,FV,BV,CC,BF,HR,F2]
   |cons r R=>
    have hR2:=hR1 r (by simp)
    have hR3:=eq_true (fun e he=>hR1 e (bj r he):∀e∈R,e.length=1)
    simp[AM,AJ,li,XA]at ih ha hto hwk
    simp[show c+1+1=c+2 from rfl,hk',hw,hLk,AM,AJ,ha,hai,ih,hto,hwk,hR2,hR3,OW,XA,A9,DV,HO,FV,BV,CC,BF,HR,F2]
theorem AF0(n:Nat)(ls:List (List Int))(h1:ls.length<=100)(h2:∀l∈ls,l.length<=100):A8 ck kn (AF ck ann kn (n+400)) 69 [JA ls]=some (sl (ls.map AM)):=by rw[AP rfl,AQ Tryz.func69 b69 rfl (by simp[AJ,AM])];obtain⟨fr,c',γ',e1,q⟩:=ANR ls h1 h2 ls.length 0 0 0 (by omega);have q:=fun n m=>q n (m+200) (by omega);simp at q e1;simp[c69,AD,q,e1,AM,AJ]
theorem bX{x N j:Nat}:((j:Int)∈F0 x N)↔j<N/\x.testBit j=true:=by
 unfold F0;rw[bz];constructor
 ·rintro ⟨i,hi,e⟩;rw[List.mem_filter,List.mem_range]at hi;have:i=j:=by omega
  subst this;exact hi
 ·intro h;exact⟨j,by rw[List.mem_filter,List.mem_range];exact h,rfl⟩
theorem zY(x j:Nat):decide ((((x / 2 ^ j:Nat):Int).tmod 2)=0)=!x.testBit j:=by rw[<-AHS];have h:=Int.tmod_eq_emod_of_nonneg (a:=((x / 2 ^ j:Nat):Int)) (b:=2) (Int.natCast_nonneg _);rw[h];rcases Int.emod_two_eq ((x / 2 ^ j:Nat):Int)with h|h<;>rw[h]<;>rfl
theorem AKQ(c:AV)(hl:c.chairs.length<=100):∀(d k:Nat),k+d=c.chairs.length->∃fr,BS fr 1=some (true,.ptr 0 1 0 0) /\
  ∀n m,d<m->BM (AF ck ann kn (n+100) 76) R6 (ann 76 (B0 R6)) m ⟨1,[(1,true,.ptr 0 1 0 0),(4,true,i k)],⟨[],[(1,0,.box (AG c))]⟩⟩ =
   if (c.chairs.drop k).all (fun l=>decide ((l.length:Int)=c.beach.places))=true then some (.exit 0,⟨1,fr,⟨[],[(1,0,.box (AG c))]⟩⟩) else some (.ret,⟨1,[(2,true,i 1)],⟨[],[]⟩⟩)
 |0,k,hk=>by
  have:k=c.chairs.length:=by omega
  subst this;rw[bx];refine⟨?fr,?g1,fun n m hm=>?g2⟩;case g2=>
   obtain⟨m,rfl⟩:=qNz m (by omega)
   rw[AB]
   simp[AG]
   rfl
  case g1=>simp
 |d+1,k,hk=>by
  have hk':k<c.chairs.length:=by omega
  have hw:=B5 (k:=k) (by omega);obtain⟨fr,e1,ih⟩:=AKQ c hl d (k+1) (by omega);rw[bq hk',bh];refine⟨fr,e1,fun n m hm=>?_⟩;obtain⟨m,rfl⟩:=qNz m (by omega);have ih:=ih n m (by omega);generalize e1:decide ((c.chairs[k].length:Int)=c.beach.places)=z1;generalize (c.chairs.drop (k+1)).all (fun l=>decide ((l.length:Int)=c.beach.places))=z at ih|-;rw[AB];simp only[AG]at ih|-;cases z1<;>cases z<;>(simp at ih;simp[AU,hk',hw,e1,ih])
theorem AKR(c:AV)(hl:c.fams.length<=100):∀(d k:Nat),k+d=c.fams.length->∃fr,
  ∀n m,d<m->BM (AF ck ann kn (n+200) 76) R7 (ann 76 (B0 R7)) m ⟨1,[(1,true,.ptr 0 1 0 0),(5,true,i k)],⟨[],[(1,0,.box (AG c))]⟩⟩ =
   if (c.fams.drop k).all I6=true then some (.exit 2,⟨1,fr,⟨[],[(1,0,.box (AG c))]⟩⟩) else some (.ret,⟨1,[(2,true,i 1)],⟨[],[]⟩⟩)
 |0,k,hk=>by
  have:k=c.fams.length:=by omega
  subst this;rw[bx];refine⟨?fr,fun n m hm=>?g2⟩;case g2=>
   obtain⟨m,rfl⟩:=qNz m (by omega)
   rw[AB]
   simp[AG]
   rfl
 |d+1,k,hk=>by
  have hk':k<c.fams.length:=by omega
  have hw:=B5 (k:=k) (by omega);obtain⟨fr,ih⟩:=AKR c hl d (k+1) (by omega);rw[bq hk',bh];refine⟨fr,fun n m hm=>?_⟩;obtain⟨m,rfl⟩:=qNz m (by omega);have ih:=ih n m (by omega);have ef:I6 c.fams[k]=(HQ c.fams[k].size 1 4&&HQ c.fams[k].good 0 5):=rfl;have q1:=fun n=>kIn n c.fams[k].size 1 4;have q2:=fun n=>kIn n c.fams[k].good 0 5;rw[ef];generalize HQ c.fams[k].size 1 4=z1 at *;generalize HQ c.fams[k].good 0 5=z2 at *;generalize (c.fams.drop (k+1)).all I6=z at ih|-;rw[AB];simp only[AG]at ih|-;cases z1<;>cases z2<;>cases z<;>(simp at ih;simp[AR,hk',hw,q1,q2,ih])
theorem AF1(n:Nat)(c:AV)(hw:∀l∈c.beach.winds,l.length<=100)(hp:c.plan.length<=100)(hch:c.chairs.length<=100):A8 ck kn (AF ck ann kn (n+2400)) 70 [.agg (AG c)]=some (i (D6 c)):=by
 rw[AP rfl,AQ Tryz.func70 b70 rfl (by simp[AG,AJ,AM,AL,AU,BH,AR])];have qf:=fun n=>AFC n c.beach hw;unfold D6;by_cases a1:3<c.fams.length
 ·have e1:(3:Int)<(c.fams.length:Int):=by omega
  rw[if_pos a1];simp only[AG];simp[c70,AD,e1]
 rw[if_neg a1];have e1:¬(3:Int)<(c.fams.length:Int):=by omega
 by_cases a2:DJ c.beach≠0
 ·rw[if_pos a2];simp only[AG,AC]at qf|-;simp[c70,AD,e1,qf,a2,AM,AJ,AL]
 rw[if_neg a2];have a2:DJ c.beach=0:=by simpa using a2
 have hb:=SG a2;have qp:=fun n=>AE6 n c.beach hb c.plan hp;have qt:=fun n=>vG n c.beach hb;rw[a2]at qf;by_cases a3:DR c.beach c.plan=false
 ·rw[if_pos a3];rw[a3]at qp;simp only[AG,AC]at qf qp|-;simp[c70,AD,e1,qf,qp,AM,AJ,AL]
 rw[if_neg a3];have a3:DR c.beach c.plan=true:=by simpa using a3
 rw[a3]at qp;by_cases a4:CA c.beach=[]
 ·rw[if_pos a4];rw[a4]at qt;simp only[AG,AC]at qf qp qt|-;simp at qt;simp[c70,AD,e1,qf,qp,qt,AM,AJ,AL]
 rw[if_neg a4];have a4':¬((CA c.beach).length:Int)=0:=fun h=>a4 (List.eq_nil_of_length_eq_zero (by omega));by_cases a5:(c.chairs.length:Int)=c.beach.rows
 ·have ec:EI c=c.chairs.all (fun l=>decide ((l.length:Int)=c.beach.places)):=by unfold EI;rw[decide_eq_true a5,Bool.true_and]
  rw[ec];obtain⟨f1,g1,q1⟩:=AKQ c hch c.chairs.length 0 (by omega);obtain⟨f2,q2⟩:=AKR c (by omega) c.fams.length 0 (by omega);have q1:=fun n m=>q1 n (m+101) (by omega);have q2:=fun n m=>q2 n (m+101) (by omega);rw[List.drop_zero]at q1 q2;generalize c.chairs.all (fun l=>decide ((l.length:Int)=c.beach.places))=y1 at *;generalize c.fams.all I6=y2 at *;generalize CA c.beach=T at *;simp only[AG,AC]at qf qp qt q1 q2|-;cases y1<;>cases y2<;>(simp at q1 q2;simp[c70,AD,e1,qf,qp,qt,a4,a4',a5,q1,q2,g1,AM,AJ,AL])
 ·have ec:EI c=false:=by unfold EI;rw[decide_eq_false a5,Bool.false_and]
  rw[if_pos ec];generalize CA c.beach=T at *;simp only[AG,AC]at qf qp qt|-;simp[c70,AD,e1,qf,qp,qt,a4,a4',a5,AM,AJ,AL]
theorem AF2(l k:Nat)(o:Option (Nat×AX))(ls:List (List Bool)):(ls.map AU).map (cj (BD l k o 3))=ls.map AU:=by rw[bp];exact bw fun x _=>rfl
theorem AYS(ls:List (List Bool)):(ls.map AU).map (cj gT)=ls.map AU:=by rw[bp];exact bw fun x _=>rfl
theorem KZ{P:Program}{fr:Fr}{s:St}(e d c:Nat)(ys:List (List V))(h:B9 P e 0 ys=true):yI P e d c fr s .nil ys=some (⟨c+1,(d,true,.vec s.up.length d c ys.length)::fr,s.put s.up.length d c (.vec e ys)⟩,[(s.up.length,d),(s.up.length,d+HO)]):=by unfold yI;simp[IJ,h]
theorem AYT{k:Nat}{l:List Bool}(h:k+l.length<=100000):B9 ck 4 k (l.map BH)=true:=by rw[CQ (by simp) (by simp)];simp[maxLen,BH];omega
theorem AYU{k:Nat}(hk:k<=100000)(q g n:Nat):B9 ck 97 k [[.vec 0 q g n]]=true:=by rw[CQ (by simp) (by simp)];simp[maxLen];omega
theorem AYV{k:Nat}{l:List TU}(h:k+l.length<=100000):B9 ck 94 k (l.map AR)=true:=by rw[CQ (by simp) (by simp)];simp[maxLen,AR];omega
abbrev bxC(b:AN)(p:List (List Int))(v w:V):AX:=.box (HL b++[sl (p.map AM),v,w])
theorem ANS(c:AV)(h1:c.chairs.length<=100)(h2:∀l∈c.chairs,l.length<=100)(cs2:List V)(hcs:∀o,cs2.map (BD 0 28 o 3)=cs2):∀(d k g γ:Nat),k+d=c.chairs.length->2<g->∃g' γ',g<=g'/\∀n m,d<m->BM (AF ck ann kn (n+200) 59) XN (ann 59 (B0 XN)) m ⟨g,[(1,true,.ptr 0 1 0 0),(2,true,.ptr 0 2 1 0),(3,true,.ptr 0 3 2 0),(4,true,i k)],⟨[],(1,0,.box (AG c))::(2,1,.box cs2)::(3,2,bxC c.beach c.plan (pv 30 γ ((c.chairs.take k).map AU)) .nil)::pl 30 γ 97 ((c.chairs.take k).map AU)⟩⟩ =
  some (.exit 0,⟨g',[(18,true,.bool false),(17,true,i c.chairs.length),(16,true,.list false (c.chairs.map AU)),(15,true,.ptr 0 1 0 10),(14,true,i c.chairs.length),(1,true,.ptr 0 1 0 0),(2,true,.ptr 0 2 1 0),(3,true,.ptr 0 3 2 0),(4,true,i c.chairs.length)],⟨[],(1,0,.box (AG c))::(2,1,.box cs2)::(3,2,bxC c.beach c.plan (pv 30 γ' (c.chairs.map AU)) .nil)::pl 30 γ' 97 (c.chairs.map AU)⟩⟩)
 |0,k,g,γ,hk,hg=>by
  have:k=c.chairs.length:=by omega
  subst this;rw[bf];refine⟨g,γ,Nat.le_refl _,fun n m hm=>?_⟩;obtain⟨m,rfl⟩:=qNz m (by omega);rw[AB];simp only[AG,bxC,HL];cases c.chairs<;>simp
 |d+1,k,g,γ,hk,hg=>by
  have hk':k<c.chairs.length:=by omega
  have hw:=B5 (k:=k) (by omega);have h3:=h2 _ (bc hk');have hst:(c.chairs.take (k+1)).map AU=(c.chairs.take k).map AU++[AU c.chairs[k]]:=by rw[bk hk',bm];rfl
  have hRl:((c.chairs.take k).map AU).length=k:=by rw[bn,bg];omega
  have hto:=fun o=>AF2 0 28 o (c.chairs.take k);have hwk:=AYS (c.chairs.take k);have hR1:∀e∈(c.chairs.take k).map AU,e.length=1:=fun e he=>by obtain⟨l,_,rfl⟩:=bz.1 he;rfl
  have ha:=fun q g n=>AYU (k:=((c.chairs.take k).map AU).length) (by omega) q g n;have hai:=AYT (k:=0) (l:=c.chairs[k]) (by omega);generalize hLk:c.chairs[k]=L at *;cases L with
  |nil=>
   obtain⟨g',γ',hgg,ih⟩:=ANS c h1 h2 cs2 hcs d (k+1) (g+1+1) (g+1) (by omega) (by omega)
   refine⟨g',γ',by omega,fun n m hm=>?_⟩
   obtain⟨m,rfl⟩:=qNz m (by omega)
   have ih:=ih n m (by omega)
   rw[hst]at ih
   generalize (c.chairs.take k).map AU=R at *
   rw[AB]
   simp only[AG,bxC,HL]at ih|-
   simp[AU]at hai
   cases R with
   |nil=>simp[AU,lb,XA]at ih ha;simp[show g+1+1=g+2 from rfl,hk',hw,hLk,AU,BH,ha,hai,hcs,OW,ih,A9,DV,HO,KZ,BV,CC,BF,HR,F2,show 2<g+2 by omega]
   |cons r R=>
    have hR2:=hR1 r (by simp)
    have hR3:=eq_true (fun e he=>hR1 e (bj r he):∀e∈R,e.length=1)
    simp[AU,lb,XA]at ih ha hto hwk
    simp[show g+1+1=g+2 from rfl,hk',hw,hLk,AU,BH,ha,hai,hcs,ih,hto,hwk,hR2,hR3,OW,XA,A9,DV,HO,KZ,BV,CC,BF,HR,F2,show 2<g+2 by omega]
  |cons x L=>
   obtain⟨g',γ',hgg,ih⟩:=ANS c h1 h2 cs2 hcs d (k+1) (g+1+1) (g+1) (by omega) (by omega)
   refine⟨g',γ',by omega,fun n m hm=>?_⟩
   obtain⟨m,rfl⟩:=qNz m (by omega)
   have ih:=ih n m (by omega)
   rw[hst]at ih
   generalize (c.chairs.take k).map AU=R at *
   rw[AB]
   simp only[AG,bxC,HL]at ih|-
   simp[AU,BH]at hai
   cases R with
   |nil=>simp[AU,BH,lb,XA]at ih ha;simp[show g+1+1=g+2 from rfl,hk',hw,hLk,AU,BH,ha,hai,hcs,OW,ih,A9,DV,HO,KZ,BV,CC,BF,HR,F2,show 2<g+2 by omega]
   |cons r R=>
    have hR2:=hR1 r (by simp)
    have hR3:=eq_true (fun e he=>hR1 e (bj r he):∀e∈R,e.length=1)
    simp[AU,BH,lb,XA]at ih ha hto hwk
    simp[show g+1+1=g+2 from rfl,hk',hw,hLk,AU,BH,ha,hai,hcs,ih,hto,hwk,hR2,hR3,OW,XA,A9,DV,HO,KZ,BV,CC,BF,HR,F2,show 2<g+2 by omega]
theorem AYW(c:AV)(h1:c.fams.length<=100)(cs2:List V)(γ3:Nat)(R:List (List V)):∀(d k g γ:Nat),k+d=c.fams.length->2<g->∃g' γ',g<=g'/\∀n m,d<m->BM (AF ck ann kn (n+200) 59) XO (ann 59 (B0 XO)) m ⟨g,[(1,true,.ptr 0 1 0 0),(2,true,.ptr 0 2 1 0),(3,true,.ptr 0 3 2 0),(5,true,i k)],⟨[],(1,0,.box (AG c))::(2,1,.box cs2)::(3,2,bxC c.beach c.plan (pv 30 γ3 R) (pv 56 γ ((c.fams.take k).map AR)))::(pl 30 γ3 97 R++pl 56 γ 94 ((c.fams.take k).map AR))⟩⟩ =
  some (.exit 2,⟨g',[(36,true,.bool false),(35,true,i c.fams.length),(34,true,.list false (c.fams.map AR)),(33,true,.ptr 0 1 0 11),(32,true,i c.fams.length),(1,true,.ptr 0 1 0 0),(2,true,.ptr 0 2 1 0),(3,true,.ptr 0 3 2 0),(5,true,i c.fams.length)],⟨[],(1,0,.box (AG c))::(2,1,.box cs2)::(3,2,bxC c.beach c.plan (pv 30 γ3 R) (pv 56 γ' (c.fams.map AR)))::(pl 30 γ3 97 R++pl 56 γ' 94 (c.fams.map AR))⟩⟩)
 |0,k,g,γ,hk,hg=>by
  have:k=c.fams.length:=by omega
  subst this;rw[bf];refine⟨g,γ,Nat.le_refl _,fun n m hm=>?_⟩;obtain⟨m,rfl⟩:=qNz m (by omega);rw[AB];simp only[AG,bxC,HL];cases R<;>cases c.fams<;>simp
 |d+1,k,g,γ,hk,hg=>by
  have hk':k<c.fams.length:=by omega
  have hw:=B5 (k:=k) (by omega);have hst:(c.fams.take (k+1)).map AR=(c.fams.take k).map AR++[AR c.fams[k]]:=by rw[bk hk',bm];rfl
  have hRl:((c.fams.take k).map AR).length=k:=by rw[bn,bg];omega
  have hS1:∀e∈(c.fams.take k).map AR,e.length=4:=fun e he=>by obtain⟨l,_,rfl⟩:=bz.1 he;rfl
  have ha:=AYV (k:=((c.fams.take k).map AR).length) (l:=[c.fams[k]]) (by rw[hRl];simp;omega);obtain⟨g',γ',hgg,ih⟩:=AYW c h1 cs2 γ3 R d (k+1) (g+1+1) (g+1) (by omega) (by omega);refine⟨g',γ',by omega,fun n m hm=>?_⟩;obtain⟨m,rfl⟩:=qNz m (by omega);have ih:=ih n m (by omega);rw[hst]at ih;generalize (c.fams.take k).map AR=S at *;generalize hLk:c.fams[k]=f at *;rw[AB];simp only[AG,bxC,HL]at ih|-;cases S with
  |nil=>cases R<;>(simp[AR,XA]at ih ha;simp[hk',hw,hLk,AR,XA,ha,ih,A9,DV,HO,KZ,BV,CC,BF,HR,F2,show 0<g by omega,show 1<g by omega,show 2<g by omega])
  |cons q S=>
   have hS2:=hS1 q (by simp)
   have hS3:=eq_true (fun e he=>hS1 e (bj q he):∀e∈S,e.length=4)
   cases R<;>(simp[AR,XA]at ih ha;simp[hk',hw,hLk,AR,XA,ha,ih,hS2,hS3,A9,DV,HO,KZ,BV,CC,BF,HR,F2,show 0<g by omega,show 1<g by omega,show 2<g by omega])
def OX(c:AV):List V:=HL c.beach++[sl (c.plan.map AM),sl (c.chairs.map AU),sl (c.fams.map AR)]
theorem zZ(n:Nat)(c:AV)(ht:NK c=true):A8 ck kn (AF ck ann kn (n+900)) 21 [.agg (AG c)]=some (.agg (OX c)):=by
 rw[AP rfl,AQ Tryz.func21 b21 rfl (by simp[AG,AJ,AM,AL,AU,BH,AR])];obtain⟨t1,t2,t3,t4,t5,t6⟩:=JM ht;simp only[V9,Bool.and_eq_true,bb,Bool.or_eq_false_iff,Bool.not_eq_false',decide_eq_false_iff_not]at t1;obtain⟨⟨⟨⟨⟨u1,u2⟩,u3⟩,u4⟩,u5⟩,_⟩:=t1;obtain⟨u6,u7⟩:=VE u3;have qB:=fun n=>ATA n c.beach (by omega) (by omega) (by omega) (fun l hl=>by have:=u7 l hl;omega) (by omega) (by omega);have qL:=fun n=>AF0 n c.plan (by omega) (fun l hl=>by have:=t5 l hl;omega);have hz:∀o,([i 0,i 0,i 0,i 0,.nil,.nil,.nil,.nil,.nil,.nil,.nil,.nil]:List V).map (BD 0 28 o 3)=[i 0,i 0,i 0,i 0,.nil,.nil,.nil,.nil,.nil,.nil,.nil,.nil]:=fun o=>rfl;obtain⟨g1,γ1,h1,q1⟩:=ANS c (by omega) (fun l hl=>by have:=t6 l hl;omega) _ hz c.chairs.length 0 3 0 (by omega) (by omega);obtain⟨g2,γ2,h2,q2⟩:=AYW c (by omega) [i 0,i 0,i 0,i 0,.nil,.nil,.nil,.nil,.nil,.nil,.nil,.nil] γ1 (c.chairs.map AU) c.fams.length 0 g1 0 (by omega) (by omega);have q1:=fun n m=>q1 n (m+100) (by omega);have q2:=fun n m=>q2 n (m+100) (by omega);rw[show(c.chairs.take 0).map AU=[] from rfl]at q1;rw[show(c.fams.take 0).map AR=[] from rfl]at q2;have hg2:1<g2:=by omega
 have c1:∀e∈c.chairs.map AU,∀v∈e,AE 7 v=true:=fun e he v hv=>by obtain⟨l,_,rfl⟩:=bz.1 he;simp only[AU,List.mem_cons,List.not_mem_nil,or_false]at hv;subst hv;simp[BH]
 have c2:∀e∈c.fams.map AR,∀v∈e,AE 7 v=true:=fun e he v hv=>by obtain⟨l,_,rfl⟩:=bz.1 he;simp only[AR,List.mem_cons,List.not_mem_nil,or_false]at hv;rcases hv with rfl|rfl|rfl|rfl<;>rfl
 unfold OX;simp only[AG,AC,bxC,HL]at q1 q2 qB qL|-;generalize c.chairs.map AU=R at *;generalize c.fams.map AR=S at *;cases R with
 |nil=>
  cases S with
  |nil=>
   simp at q1 q2
   simp[c21,AD,qB,qL,q1,q2,hg2,XA,slN,slC,A9,DV,HO,BV,CC,BF,HR,F2]
  |cons t S=>
   have s1:=eq_true (c2 t (by simp))
   have s2:=eq_true (fun e he=>c2 e (bj t he):∀e∈S,∀v∈e,AE 7 v=true)
   simp[XA]at q1 q2
   simp[c21,AD,qB,qL,q1,q2,s1,s2,hg2,XA,slN,slC,A9,DV,HO,BV,CC,BF,HR,F2]
 |cons r R=>
  have r1:=eq_true (c1 r (by simp))
  have r2:=eq_true (fun e he=>c1 e (bj r he):∀e∈R,∀v∈e,AE 7 v=true)
  cases S with
  |nil=>
   simp[XA]at q1 q2
   simp[c21,AD,qB,qL,q1,q2,r1,r2,hg2,XA,slN,slC,A9,DV,HO,BV,CC,BF,HR,F2]
  |cons t S=>
   have s1:=eq_true (c2 t (by simp))
   have s2:=eq_true (fun e he=>c2 e (bj t he):∀e∈S,∀v∈e,AE 7 v=true)
   simp[XA]at q1 q2
   simp[c21,AD,qB,qL,q1,q2,r1,r2,s1,s2,hg2,XA,slN,slC,A9,DV,HO,BV,CC,BF,HR,F2]
end Go.Proofs.Tryz.Op
