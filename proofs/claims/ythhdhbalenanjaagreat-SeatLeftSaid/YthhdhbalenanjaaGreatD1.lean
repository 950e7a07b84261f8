/- Contracts of the reference: People, Chairs, Minds, Groups. No condition but small numbers. -/
import Derived.Test.YthhdhbalenanjaaGreatC1
import Derived.Test.YthhdhbalenanjaaGreatEa
open Go.Proofs.Tryz renaming prog->ck
open List renaming mem_cons_of_mem->bj,take_succ_eq_append_getElem->bk,drop_eq_getElem_cons->bq,map_congr_left->bw,drop_length->bx,mem_map->bz,getElem_mem->bc,take_length->bf,length_take->bg,all_cons->bh,map_append->bm,length_map->bn,map_map->bp,map->cj
open Bool renaming not_eq_true'->bb
set_option maxRecDepth 100000
set_option linter.unusedSimpArgs false
open Go Go.Pg Go.Proofs Go.Wind
namespace Go.Wind
end Go.Wind
namespace Go.Proofs.Tryz.Op
end Go.Proofs.Tryz.Op
namespace Go.Wind
end Go.Wind
namespace Go.Proofs.Tryz.Op
section
variable (c:AW)(G:List (Nat×Int))(ss:List (Int×Int))(t q:Nat)
end
end Go.Proofs.Tryz.Op
namespace Go.Wind
open Go.Proofs.Tryz.Op
theorem QP{c:AW}(hc:C0 c)(out:List Int):∀(k:Nat),k<=c.fams.length->∀g∈CW c.fams out k,g.1<c.fams.length/\1<=g.2/\g.2<=4
 |0,_,g,hg=>by cases hg
 |k+1,hk,g,hg=>by
  simp only[CW,List.mem_append]at hg;rcases hg with hg|hg
  ·exact QP hc out k (by omega) g hg
  ·split at hg
   ·cases hg
   ·rw[List.mem_singleton]at hg;subst hg;have hk':k<c.fams.length:=by omega
    have e:c.fams.getD k ⟨0,0,false,false⟩=c.fams[k]:=by rw[List.getD_eq_getElem?_getD,List.getElem?_eq_getElem hk'];rfl
    have:=hc.fo _ (bc hk');simp only[e];exact⟨hk',this.1⟩
end Go.Wind
namespace Go.Proofs.Tryz.Op
def JC{α:Type}(l:List α):Bool:=!decide ((7:Int)<(l.length:Int))
def P9(c:AW):Bool:=(WR c.beach&&(JC c.plan&&(JC c.chairs&&!decide ((5:Int)<(c.fams.length:Int)))))&&(c.plan.all JC&&c.chairs.all JC)
theorem wJ{α:Type}{l:List α}:JC l=true↔l.length<=7:=by simp only[JC,bb,decide_eq_false_iff_not];omega
theorem MB{c:AW}(h:P9 c=true):WR c.beach=true/\c.plan.length<=7/\c.chairs.length<=7/\c.fams.length<=5/\(∀l∈c.plan,l.length<=7)/\∀l∈c.chairs,l.length<=7:=by simp only[P9,Bool.and_eq_true,wJ,List.all_eq_true,bb,decide_eq_false_iff_not]at h;exact⟨h.1.1,h.1.2.1,h.1.2.2.1,by omega,h.2.1,h.2.2⟩
theorem AZ4(c:AW)(hl:c.plan.length<=100):∀(d k:Nat),k+d=c.plan.length->∃fr,BR fr 1=some (true,.ptr 0 1 0 0) /\
  ∀n m,d<m->BK (AE ck ann kn (n+100) 55) XZ (ann 55 (BU XZ)) m ⟨1,[(1,true,.ptr 0 1 0 0),(3,true,i k)],⟨[],[(1,0,.box (AJ c))]⟩⟩ =
   if (c.plan.drop k).all JC=true then some (.exit 0,⟨1,fr,⟨[],[(1,0,.box (AJ c))]⟩⟩) else some (.ret,⟨1,[(2,true,.bool false)],⟨[],[]⟩⟩)
 |0,k,hk=>by
  have:k=c.plan.length:=by omega
  subst this;rw[bx];refine⟨?fr,?g1,fun n m hm=>?g2⟩;case g2=>
   obtain⟨m,rfl⟩:=qNz m (by omega)
   rw[AB]
   simp[AJ]
   rfl
  case g1=>simp
 |d+1,k,hk=>by
  have hk':k<c.plan.length:=by omega
  have hw:=BZ (k:=k) (by omega);obtain⟨fr,e1,ih⟩:=AZ4 c hl d (k+1) (by omega);rw[bq hk',bh];refine⟨fr,e1,fun n m hm=>?_⟩;obtain⟨m,rfl⟩:=qNz m (by omega);have ih:=ih n m (by omega);have es:JC c.plan[k]=!decide ((7:Int)<(c.plan[k].length:Int)):=rfl;rw[es];generalize e1:decide ((7:Int)<(c.plan[k].length:Int))=z1;generalize (c.plan.drop (k+1)).all JC=z at ih|-;rw[AB];simp only[AJ]at ih|-;cases z1<;>cases z<;>(simp at ih;simp[AM,hk',hw,e1,ih])
theorem AZ5(c:AW)(hl:c.chairs.length<=100):∀(d k:Nat),k+d=c.chairs.length->∃fr,BR fr 1=some (true,.ptr 0 1 0 0) /\
  ∀n m,d<m->BK (AE ck ann kn (n+100) 55) X0 (ann 55 (BU X0)) m ⟨1,[(1,true,.ptr 0 1 0 0),(4,true,i k)],⟨[],[(1,0,.box (AJ c))]⟩⟩ =
   if (c.chairs.drop k).all JC=true then some (.exit 2,⟨1,fr,⟨[],[(1,0,.box (AJ c))]⟩⟩) else some (.ret,⟨1,[(2,true,.bool false)],⟨[],[]⟩⟩)
 |0,k,hk=>by
  have:k=c.chairs.length:=by omega
  subst this;rw[bx];refine⟨?fr,?g1,fun n m hm=>?g2⟩;case g2=>
   obtain⟨m,rfl⟩:=qNz m (by omega)
   rw[AB]
   simp[AJ]
   rfl
  case g1=>simp
 |d+1,k,hk=>by
  have hk':k<c.chairs.length:=by omega
  have hw:=BZ (k:=k) (by omega);obtain⟨fr,e1,ih⟩:=AZ5 c hl d (k+1) (by omega);rw[bq hk',bh];refine⟨fr,e1,fun n m hm=>?_⟩;obtain⟨m,rfl⟩:=qNz m (by omega);have ih:=ih n m (by omega);have es:JC c.chairs[k]=!decide ((7:Int)<(c.chairs[k].length:Int)):=rfl;rw[es];generalize e1:decide ((7:Int)<(c.chairs[k].length:Int))=z1;generalize (c.chairs.drop (k+1)).all JC=z at ih|-;rw[AB];simp only[AJ]at ih|-;cases z1<;>cases z<;>(simp at ih;simp[AS,hk',hw,e1,ih])
theorem AOZ(n:Nat)(c:AW):A3 ck kn (AE ck ann kn (n+1400)) 18 [.agg (AJ c)]=some (.bool (P9 c)):=by
 rw[AP rfl,AQ Tryz.func18 b18 rfl (by simp[AJ,AG,AM,AL,AS,BM,AR])];have qT:=fun n=>A7M n c.beach;unfold P9;have es:JC c.plan=!decide ((7:Int)<(c.plan.length:Int)):=rfl;have et:JC c.chairs=!decide ((7:Int)<(c.chairs.length:Int)):=rfl;rw[es,et];generalize e1:decide ((7:Int)<(c.plan.length:Int))=z1;generalize e2:decide ((7:Int)<(c.chairs.length:Int))=z2;generalize e3:decide ((5:Int)<(c.fams.length:Int))=z3;generalize WR c.beach=z4 at *;simp only[AC]at qT;by_cases h:z4=true/\z1=false/\z2=false/\z3=false
 ·obtain⟨rfl,rfl,rfl,rfl⟩:=h;have h1:=of_decide_eq_false e1;have h2:=of_decide_eq_false e2;obtain⟨f1,g1,q1⟩:=AZ4 c (by omega) c.plan.length 0 (by omega);obtain⟨f2,g2,q2⟩:=AZ5 c (by omega) c.chairs.length 0 (by omega);have q1:=fun n m=>q1 n (m+100) (by omega);have q2:=fun n m=>q2 n (m+100) (by omega);rw[List.drop_zero]at q1 q2;generalize c.plan.all JC=y1 at *;generalize c.chairs.all JC=y2 at *;simp only[AJ]at q1 q2|-;cases y1<;>cases y2<;>(simp at q1 q2;simp[c18,AD,qT,e1,e2,e3,q1,q2,g1,g2,AS,BM,AR,AL,AM,AG])
 ·simp only[AJ]at|-;cases z4<;>cases z1<;>cases z2<;>cases z3<;>first|exact absurd ⟨rfl,rfl,rfl,rfl⟩ h|simp[c18,AD,qT,e1,e2,e3,AS,BM,AR,AL,AM,AG]
theorem AZ6{k:Nat}(hk:k<=100000)(q g n:Nat):B8 ck 22 k [[.vec 0 q g n]]=true:=by rw[CE (by simp) (by simp)];simp[maxLen];omega
theorem AG4(l k:Nat)(o:Option (Nat×AX))(ls:List (List Int)):(ls.map AM).map (cj (BD l k o 3))=ls.map AM:=by rw[bp];exact bw fun x _=>rfl
theorem AZ7(ls:List (List Int)):(ls.map AM).map (cj iQ)=ls.map AM:=by rw[bp];exact bw fun x _=>rfl
theorem XT(k γ:Nat)(h:List V)(t:List (List V)):pv k γ (h::t)=.vec 0 k γ (t.length+1):=rfl
theorem slN:sl []=.nil:=rfl
theorem slC(e:List V)(es:List (List V)):sl (e::es)=.list false (e::es):=rfl
theorem O6(l k:Nat)(o:Option (Nat×AX))(f:Nat)(es:List (List V)):BD l k o f (sl es)=sl es:=by cases f<;>cases es<;>rfl
theorem AO0(ls:List (List Int))(h1:ls.length<=100)(h2:∀l∈ls,l.length<=100):∀(d k c γ:Nat),k+d=ls.length->∃fr c' γ',fr=[(8,true,V.bool false),(7,true,i ls.length),(6,true,JF ls),(5,true,i ls.length),(0,true,JF ls),(3,true,pv 18 γ' (ls.map AM)),(4,true,i ls.length)]/\∀n m,d<m->BK (AE ck ann kn (n+200) 20) X5 (ann 20 (BU X5)) m ⟨c,[(0,true,JF ls),(3,true,pv 18 γ ((ls.take k).map AM)),(4,true,i k)],⟨[],pl 18 γ 22 ((ls.take k).map AM)⟩⟩ =
  some (.exit 0,⟨c',fr,⟨[],pl 18 γ' 22 (ls.map AM)⟩⟩)
 |0,k,c,γ,hk=>by
  have:k=ls.length:=by omega
  subst this;rw[bf];refine⟨_,c,γ,rfl,fun n m hm=>?_⟩;obtain⟨m,rfl⟩:=qNz m (by omega);rw[AB];simp
 |d+1,k,c,γ,hk=>by
  have hk':k<ls.length:=by omega
  have hw:=BZ (k:=k) (by omega);have h3:=h2 _ (bc hk');have hst:(ls.take (k+1)).map AM=(ls.take k).map AM++[AM ls[k]]:=by rw[bk hk',bm];rfl
  have hRl:((ls.take k).map AM).length=k:=by rw[bn,bg];omega
  have hto:=fun o=>AG4 0 16 o (ls.take k);have hR1:∀e∈(ls.take k).map AM,e.length=1:=fun e he=>by obtain⟨l,_,rfl⟩:=bz.1 he;rfl
  have hwk:=AZ7 (ls.take k);have ha:=fun q g n=>AZ6 (k:=((ls.take k).map AM).length) (by omega) q g n;have hai:=A7I (k:=0) (l:=ls[k]) (by omega);generalize hLk:ls[k]=L at *;cases L with
  |nil=>
   obtain⟨fr,c',γ',e1,ih⟩:=AO0 ls h1 h2 d (k+1) (c+1+1) (c+1) (by omega)
   refine⟨fr,c',γ',e1,fun n m hm=>?_⟩
   obtain⟨m,rfl⟩:=qNz m (by omega)
   have ih:=ih n m (by omega)
   rw[hst]at ih
   generalize ls.map AM=fin at *
   generalize (ls.take k).map AM=R at *
   rw[AB]
   simp[AM]at hai
   cases R with
   |nil=>simp[AM,li,XT]at ih ha;simp[show c+1+1=c+2 from rfl,hk',hw,hLk,AM,AG,ha,hai,ih,BA,D6,ID,F5,CA,CQ,BN,HV,GB]
   |cons r R=>
    have hR2:=hR1 r (by simp)
    have hR3:=eq_true (fun e he=>hR1 e (bj r he):∀e∈R,e.length=1)
    simp[AM,li,XT]at ih ha hto hwk
    simp[show c+1+1=c+2 from rfl,hk',hw,hLk,AM,AG,ha,hai,ih,hto,hwk,hR2,hR3,O6,XT,BA,D6,ID,F5,CA,CQ,BN,HV,GB]
  |cons x L=>
   obtain⟨fr,c',γ',e1,ih⟩:=AO0 ls h1 h2 d (k+1) (c+1+1) (c+1) (by omega)
   refine⟨fr,c',γ',e1,fun n m hm=>?_⟩
   obtain⟨m,rfl⟩:=qNz m (by omega)
   have ih:=ih n m (by omega)
   rw[hst]at ih
   generalize ls.map AM=fin at *
   generalize (ls.take k).map AM=R at *
   rw[AB]
   simp[AM,AG]at hai
   cases R with
   |nil=>simp[AM,AG,li,XT]at ih ha;simp[show c+1+1=c+2 from rfl,hk',hw,hLk,AM,AG,ha,hai,ih,BA,D6,ID,F5,CA,CQ,BN,HV,GB]
   |cons r R=>
    have hR2:=hR1 r (by simp)
    have hR3:=eq_true (fun e he=>hR1 e (bj r he):∀e∈R,e.length=1)
    simp[AM,AG,li,XT]at ih ha hto hwk
    simp[show c+1+1=c+2 from rfl,hk',hw,hLk,AM,AG,ha,hai,ih,hto,hwk,hR2,hR3,O6,XT,BA,D6,ID,F5,CA,CQ,BN,HV,GB]
theorem AG5(n:Nat)(ls:List (List Int))(h1:ls.length<=100)(h2:∀l∈ls,l.length<=100):A3 ck kn (AE ck ann kn (n+400)) 69 [JF ls]=some (sl (ls.map AM)):=by rw[AP rfl,AQ Tryz.func69 b69 rfl (by simp[AG,AM])];obtain⟨fr,c',γ',e1,q⟩:=AO0 ls h1 h2 ls.length 0 0 0 (by omega);have q:=fun n m=>q n (m+200) (by omega);simp at q e1;simp[c69,AD,q,e1,AM,AG]
theorem dB{x N j:Nat}:((j:Int)∈BF x N)↔j<N/\x.testBit j=true:=by
 unfold BF;rw[bz];constructor
 ·rintro ⟨i,hi,e⟩;rw[List.mem_filter,List.mem_range]at hi;have:i=j:=by omega
  subst this;exact hi
 ·intro h;exact⟨j,by rw[List.mem_filter,List.mem_range];exact h,rfl⟩
theorem AA9(x j:Nat):decide ((((x / 2 ^ j:Nat):Int).tmod 2)=0)=!x.testBit j:=by rw[<-tN];have h:=Int.tmod_eq_emod_of_nonneg (a:=((x / 2 ^ j:Nat):Int)) (b:=2) (Int.natCast_nonneg _);rw[h];rcases Int.emod_two_eq ((x / 2 ^ j:Nat):Int)with h|h<;>rw[h]<;>rfl
theorem ALU(c:AW)(hl:c.chairs.length<=100):∀(d k:Nat),k+d=c.chairs.length->∃fr,BR fr 1=some (true,.ptr 0 1 0 0) /\
  ∀n m,d<m->BK (AE ck ann kn (n+100) 76) SO (ann 76 (BU SO)) m ⟨1,[(1,true,.ptr 0 1 0 0),(4,true,i k)],⟨[],[(1,0,.box (AJ c))]⟩⟩ =
   if (c.chairs.drop k).all (fun l=>decide ((l.length:Int)=c.beach.places))=true then some (.exit 0,⟨1,fr,⟨[],[(1,0,.box (AJ c))]⟩⟩) else some (.ret,⟨1,[(2,true,i 1)],⟨[],[]⟩⟩)
 |0,k,hk=>by
  have:k=c.chairs.length:=by omega
  subst this;rw[bx];refine⟨?fr,?g1,fun n m hm=>?g2⟩;case g2=>
   obtain⟨m,rfl⟩:=qNz m (by omega)
   rw[AB]
   simp[AJ]
   rfl
  case g1=>simp
 |d+1,k,hk=>by
  have hk':k<c.chairs.length:=by omega
  have hw:=BZ (k:=k) (by omega);obtain⟨fr,e1,ih⟩:=ALU c hl d (k+1) (by omega);rw[bq hk',bh];refine⟨fr,e1,fun n m hm=>?_⟩;obtain⟨m,rfl⟩:=qNz m (by omega);have ih:=ih n m (by omega);generalize e1:decide ((c.chairs[k].length:Int)=c.beach.places)=z1;generalize (c.chairs.drop (k+1)).all (fun l=>decide ((l.length:Int)=c.beach.places))=z at ih|-;rw[AB];simp only[AJ]at ih|-;cases z1<;>cases z<;>(simp at ih;simp[AS,hk',hw,e1,ih])
theorem ALV(c:AW)(hl:c.fams.length<=100):∀(d k:Nat),k+d=c.fams.length->∃fr,
  ∀n m,d<m->BK (AE ck ann kn (n+200) 76) SP (ann 76 (BU SP)) m ⟨1,[(1,true,.ptr 0 1 0 0),(5,true,i k)],⟨[],[(1,0,.box (AJ c))]⟩⟩ =
   if (c.fams.drop k).all JA=true then some (.exit 2,⟨1,fr,⟨[],[(1,0,.box (AJ c))]⟩⟩) else some (.ret,⟨1,[(2,true,i 1)],⟨[],[]⟩⟩)
 |0,k,hk=>by
  have:k=c.fams.length:=by omega
  subst this;rw[bx];refine⟨?fr,fun n m hm=>?g2⟩;case g2=>
   obtain⟨m,rfl⟩:=qNz m (by omega)
   rw[AB]
   simp[AJ]
   rfl
 |d+1,k,hk=>by
  have hk':k<c.fams.length:=by omega
  have hw:=BZ (k:=k) (by omega);obtain⟨fr,ih⟩:=ALV c hl d (k+1) (by omega);rw[bq hk',bh];refine⟨fr,fun n m hm=>?_⟩;obtain⟨m,rfl⟩:=qNz m (by omega);have ih:=ih n m (by omega);have ef:JA c.fams[k]=(HU c.fams[k].size 1 4&&HU c.fams[k].good 0 5):=rfl;have q1:=fun n=>kIn n c.fams[k].size 1 4;have q2:=fun n=>kIn n c.fams[k].good 0 5;rw[ef];generalize HU c.fams[k].size 1 4=z1 at *;generalize HU c.fams[k].good 0 5=z2 at *;generalize (c.fams.drop (k+1)).all JA=z at ih|-;rw[AB];simp only[AJ]at ih|-;cases z1<;>cases z2<;>cases z<;>(simp at ih;simp[AR,hk',hw,q1,q2,ih])
theorem AG6(n:Nat)(c:AW)(hw:∀l∈c.beach.winds,l.length<=100)(hp:c.plan.length<=100)(hch:c.chairs.length<=100):A3 ck kn (AE ck ann kn (n+2400)) 70 [.agg (AJ c)]=some (i (EG c)):=by
 rw[AP rfl,AQ Tryz.func70 b70 rfl (by simp[AJ,AG,AM,AL,AS,BM,AR])];have qf:=fun n=>AGE n c.beach hw;unfold EG;by_cases a1:3<c.fams.length
 ·have e1:(3:Int)<(c.fams.length:Int):=by omega
  rw[if_pos a1];simp only[AJ];simp[c70,AD,e1]
 rw[if_neg a1];have e1:¬(3:Int)<(c.fams.length:Int):=by omega
 by_cases a2:DK c.beach≠0
 ·rw[if_pos a2];simp only[AJ,AC]at qf|-;simp[c70,AD,e1,qf,a2,AM,AG,AL]
 rw[if_neg a2];have a2:DK c.beach=0:=by simpa using a2
 have hb:=SZ a2;have qp:=fun n=>AF8 n c.beach hb c.plan hp;have qt:=fun n=>wK n c.beach hb;rw[a2]at qf;by_cases a3:DV c.beach c.plan=false
 ·rw[if_pos a3];rw[a3]at qp;simp only[AJ,AC]at qf qp|-;simp[c70,AD,e1,qf,qp,AM,AG,AL]
 rw[if_neg a3];have a3:DV c.beach c.plan=true:=by simpa using a3
 rw[a3]at qp;by_cases a4:B9 c.beach=[]
 ·rw[if_pos a4];rw[a4]at qt;simp only[AJ,AC]at qf qp qt|-;simp at qt;simp[c70,AD,e1,qf,qp,qt,AM,AG,AL]
 rw[if_neg a4];have a4':¬((B9 c.beach).length:Int)=0:=fun h=>a4 (List.eq_nil_of_length_eq_zero (by omega));by_cases a5:(c.chairs.length:Int)=c.beach.rows
 ·have ec:EM c=c.chairs.all (fun l=>decide ((l.length:Int)=c.beach.places)):=by unfold EM;rw[decide_eq_true a5,Bool.true_and]
  rw[ec];obtain⟨f1,g1,q1⟩:=ALU c hch c.chairs.length 0 (by omega);obtain⟨f2,q2⟩:=ALV c (by omega) c.fams.length 0 (by omega);have q1:=fun n m=>q1 n (m+101) (by omega);have q2:=fun n m=>q2 n (m+101) (by omega);rw[List.drop_zero]at q1 q2;generalize c.chairs.all (fun l=>decide ((l.length:Int)=c.beach.places))=y1 at *;generalize c.fams.all JA=y2 at *;generalize B9 c.beach=T at *;simp only[AJ,AC]at qf qp qt q1 q2|-;cases y1<;>cases y2<;>(simp at q1 q2;simp[c70,AD,e1,qf,qp,qt,a4,a4',a5,q1,q2,g1,AM,AG,AL])
 ·have ec:EM c=false:=by unfold EM;rw[decide_eq_false a5,Bool.false_and]
  rw[if_pos ec];generalize B9 c.beach=T at *;simp only[AJ,AC]at qf qp qt|-;simp[c70,AD,e1,qf,qp,qt,a4,a4',a5,AM,AG,AL]
theorem AG7(l k:Nat)(o:Option (Nat×AX))(ls:List (List Bool)):(ls.map AS).map (cj (BD l k o 3))=ls.map AS:=by rw[bp];exact bw fun x _=>rfl
theorem AZ8(ls:List (List Bool)):(ls.map AS).map (cj iQ)=ls.map AS:=by rw[bp];exact bw fun x _=>rfl
theorem K5{P:Program}{fr:Fr}{s:St}(e d c:Nat)(ys:List (List V))(h:B8 P e 0 ys=true):zQ P e d c fr s .nil ys=some (⟨c+1,(d,true,.vec s.up.length d c ys.length)::fr,s.put s.up.length d c (.vec e ys)⟩,[(s.up.length,d),(s.up.length,d+ID)]):=by unfold zQ;simp[IU,h]
theorem AZ9{k:Nat}{l:List Bool}(h:k+l.length<=100000):B8 ck 4 k (l.map BM)=true:=by rw[CE (by simp) (by simp)];simp[maxLen,BM];omega
theorem A0A{k:Nat}(hk:k<=100000)(q g n:Nat):B8 ck 97 k [[.vec 0 q g n]]=true:=by rw[CE (by simp) (by simp)];simp[maxLen];omega
theorem A0B{k:Nat}{l:List UD}(h:k+l.length<=100000):B8 ck 94 k (l.map AR)=true:=by rw[CE (by simp) (by simp)];simp[maxLen,AR];omega
abbrev bxC(b:AN)(p:List (List Int))(v w:V):AX:=.box (I9 b++[sl (p.map AM),v,w])
theorem AO1(c:AW)(h1:c.chairs.length<=100)(h2:∀l∈c.chairs,l.length<=100)(cs2:List V)(hcs:∀o,cs2.map (BD 0 28 o 3)=cs2):∀(d k g γ:Nat),k+d=c.chairs.length->2<g->∃g' γ',g<=g'/\∀n m,d<m->BK (AE ck ann kn (n+200) 59) X9 (ann 59 (BU X9)) m ⟨g,[(1,true,.ptr 0 1 0 0),(2,true,.ptr 0 2 1 0),(3,true,.ptr 0 3 2 0),(4,true,i k)],⟨[],(1,0,.box (AJ c))::(2,1,.box cs2)::(3,2,bxC c.beach c.plan (pv 30 γ ((c.chairs.take k).map AS)) .nil)::pl 30 γ 97 ((c.chairs.take k).map AS)⟩⟩ =
  some (.exit 0,⟨g',[(18,true,.bool false),(17,true,i c.chairs.length),(16,true,.list false (c.chairs.map AS)),(15,true,.ptr 0 1 0 10),(14,true,i c.chairs.length),(1,true,.ptr 0 1 0 0),(2,true,.ptr 0 2 1 0),(3,true,.ptr 0 3 2 0),(4,true,i c.chairs.length)],⟨[],(1,0,.box (AJ c))::(2,1,.box cs2)::(3,2,bxC c.beach c.plan (pv 30 γ' (c.chairs.map AS)) .nil)::pl 30 γ' 97 (c.chairs.map AS)⟩⟩)
 |0,k,g,γ,hk,hg=>by
  have:k=c.chairs.length:=by omega
  subst this;rw[bf];refine⟨g,γ,Nat.le_refl _,fun n m hm=>?_⟩;obtain⟨m,rfl⟩:=qNz m (by omega);rw[AB];simp only[AJ,bxC,I9];cases c.chairs<;>simp
 |d+1,k,g,γ,hk,hg=>by
  have hk':k<c.chairs.length:=by omega
  have hw:=BZ (k:=k) (by omega);have h3:=h2 _ (bc hk');have hst:(c.chairs.take (k+1)).map AS=(c.chairs.take k).map AS++[AS c.chairs[k]]:=by rw[bk hk',bm];rfl
  have hRl:((c.chairs.take k).map AS).length=k:=by rw[bn,bg];omega
  have hto:=fun o=>AG7 0 28 o (c.chairs.take k);have hwk:=AZ8 (c.chairs.take k);have hR1:∀e∈(c.chairs.take k).map AS,e.length=1:=fun e he=>by obtain⟨l,_,rfl⟩:=bz.1 he;rfl
  have ha:=fun q g n=>A0A (k:=((c.chairs.take k).map AS).length) (by omega) q g n;have hai:=AZ9 (k:=0) (l:=c.chairs[k]) (by omega);generalize hLk:c.chairs[k]=L at *;cases L with
  |nil=>
   obtain⟨g',γ',hgg,ih⟩:=AO1 c h1 h2 cs2 hcs d (k+1) (g+1+1) (g+1) (by omega) (by omega)
   refine⟨g',γ',by omega,fun n m hm=>?_⟩
   obtain⟨m,rfl⟩:=qNz m (by omega)
   have ih:=ih n m (by omega)
   rw[hst]at ih
   generalize (c.chairs.take k).map AS=R at *
   rw[AB]
   simp only[AJ,bxC,I9]at ih|-
   simp[AS]at hai
   cases R with
   |nil=>simp[AS,lb,XT]at ih ha;simp[show g+1+1=g+2 from rfl,hk',hw,hLk,AS,BM,ha,hai,hcs,O6,ih,BA,D6,ID,K5,CA,CQ,BN,HV,GB,show 2<g+2 by omega]
   |cons r R=>
    have hR2:=hR1 r (by simp)
    have hR3:=eq_true (fun e he=>hR1 e (bj r he):∀e∈R,e.length=1)
    simp[AS,lb,XT]at ih ha hto hwk
    simp[show g+1+1=g+2 from rfl,hk',hw,hLk,AS,BM,ha,hai,hcs,ih,hto,hwk,hR2,hR3,O6,XT,BA,D6,ID,K5,CA,CQ,BN,HV,GB,show 2<g+2 by omega]
  |cons x L=>
   obtain⟨g',γ',hgg,ih⟩:=AO1 c h1 h2 cs2 hcs d (k+1) (g+1+1) (g+1) (by omega) (by omega)
   refine⟨g',γ',by omega,fun n m hm=>?_⟩
   obtain⟨m,rfl⟩:=qNz m (by omega)
   have ih:=ih n m (by omega)
   rw[hst]at ih
   generalize (c.chairs.take k).map AS=R at *
   rw[AB]
   simp only[AJ,bxC,I9]at ih|-
   simp[AS,BM]at hai
   cases R with
   |nil=>simp[AS,BM,lb,XT]at ih ha;simp[show g+1+1=g+2 from rfl,hk',hw,hLk,AS,BM,ha,hai,hcs,O6,ih,BA,D6,ID,K5,CA,CQ,BN,HV,GB,show 2<g+2 by omega]
   |cons r R=>
    have hR2:=hR1 r (by simp)
    have hR3:=eq_true (fun e he=>hR1 e (bj r he):∀e∈R,e.length=1)
    simp[AS,BM,lb,XT]at ih ha hto hwk
    simp[show g+1+1=g+2 from rfl,hk',hw,hLk,AS,BM,ha,hai,hcs,ih,hto,hwk,hR2,hR3,O6,XT,BA,D6,ID,K5,CA,CQ,BN,HV,GB,show 2<g+2 by omega]
theorem A0C(c:AW)(h1:c.fams.length<=100)(cs2:List V)(γ3:Nat)(R:List (List V)):∀(d k g γ:Nat),k+d=c.fams.length->2<g->∃g' γ',g<=g'/\∀n m,d<m->BK (AE ck ann kn (n+200) 59) YA (ann 59 (BU YA)) m ⟨g,[(1,true,.ptr 0 1 0 0),(2,true,.ptr 0 2 1 0),(3,true,.ptr 0 3 2 0),(5,true,i k)],⟨[],(1,0,.box (AJ c))::(2,1,.box cs2)::(3,2,bxC c.beach c.plan (pv 30 γ3 R) (pv 56 γ ((c.fams.take k).map AR)))::(pl 30 γ3 97 R++pl 56 γ 94 ((c.fams.take k).map AR))⟩⟩ =
  some (.exit 2,⟨g',[(36,true,.bool false),(35,true,i c.fams.length),(34,true,.list false (c.fams.map AR)),(33,true,.ptr 0 1 0 11),(32,true,i c.fams.length),(1,true,.ptr 0 1 0 0),(2,true,.ptr 0 2 1 0),(3,true,.ptr 0 3 2 0),(5,true,i c.fams.length)],⟨[],(1,0,.box (AJ c))::(2,1,.box cs2)::(3,2,bxC c.beach c.plan (pv 30 γ3 R) (pv 56 γ' (c.fams.map AR)))::(pl 30 γ3 97 R++pl 56 γ' 94 (c.fams.map AR))⟩⟩)
 |0,k,g,γ,hk,hg=>by
  have:k=c.fams.length:=by omega
  subst this;rw[bf];refine⟨g,γ,Nat.le_refl _,fun n m hm=>?_⟩;obtain⟨m,rfl⟩:=qNz m (by omega);rw[AB];simp only[AJ,bxC,I9];cases R<;>cases c.fams<;>simp
 |d+1,k,g,γ,hk,hg=>by
  have hk':k<c.fams.length:=by omega
  have hw:=BZ (k:=k) (by omega);have hst:(c.fams.take (k+1)).map AR=(c.fams.take k).map AR++[AR c.fams[k]]:=by rw[bk hk',bm];rfl
  have hRl:((c.fams.take k).map AR).length=k:=by rw[bn,bg];omega
  have hS1:∀e∈(c.fams.take k).map AR,e.length=4:=fun e he=>by obtain⟨l,_,rfl⟩:=bz.1 he;rfl
  have ha:=A0B (k:=((c.fams.take k).map AR).length) (l:=[c.fams[k]]) (by rw[hRl];simp;omega);obtain⟨g',γ',hgg,ih⟩:=A0C c h1 cs2 γ3 R d (k+1) (g+1+1) (g+1) (by omega) (by omega);refine⟨g',γ',by omega,fun n m hm=>?_⟩;obtain⟨m,rfl⟩:=qNz m (by omega);have ih:=ih n m (by omega);rw[hst]at ih;generalize (c.fams.take k).map AR=S at *;generalize hLk:c.fams[k]=f at *;rw[AB];simp only[AJ,bxC,I9]at ih|-;cases S with
  |nil=>cases R<;>(simp[AR,XT]at ih ha;simp[hk',hw,hLk,AR,XT,ha,ih,BA,D6,ID,K5,CA,CQ,BN,HV,GB,show 0<g by omega,show 1<g by omega,show 2<g by omega])
  |cons q S=>
   have hS2:=hS1 q (by simp)
   have hS3:=eq_true (fun e he=>hS1 e (bj q he):∀e∈S,e.length=4)
   cases R<;>(simp[AR,XT]at ih ha;simp[hk',hw,hLk,AR,XT,ha,ih,hS2,hS3,BA,D6,ID,K5,CA,CQ,BN,HV,GB,show 0<g by omega,show 1<g by omega,show 2<g by omega])
def W5(c:AW):List V:=I9 c.beach++[sl (c.plan.map AM),sl (c.chairs.map AS),sl (c.fams.map AR)]
theorem oC(n:Nat)(c:AW)(ht:P9 c=true):A3 ck kn (AE ck ann kn (n+900)) 21 [.agg (AJ c)]=some (.agg (W5 c)):=by
 rw[AP rfl,AQ Tryz.func21 b21 rfl (by simp[AJ,AG,AM,AL,AS,BM,AR])];obtain⟨t1,t2,t3,t4,t5,t6⟩:=MB ht;simp only[WR,Bool.and_eq_true,bb,Bool.or_eq_false_iff,Bool.not_eq_false',decide_eq_false_iff_not]at t1;obtain⟨⟨⟨⟨⟨u1,u2⟩,u3⟩,u4⟩,u5⟩,_⟩:=t1;obtain⟨u6,u7⟩:=VU u3;have qB:=fun n=>AUJ n c.beach (by omega) (by omega) (by omega) (fun l hl=>by have:=u7 l hl;omega) (by omega) (by omega);have qL:=fun n=>AG5 n c.plan (by omega) (fun l hl=>by have:=t5 l hl;omega);have hz:∀o,([i 0,i 0,i 0,i 0,.nil,.nil,.nil,.nil,.nil,.nil,.nil,.nil]:List V).map (BD 0 28 o 3)=[i 0,i 0,i 0,i 0,.nil,.nil,.nil,.nil,.nil,.nil,.nil,.nil]:=fun o=>rfl;obtain⟨g1,γ1,h1,q1⟩:=AO1 c (by omega) (fun l hl=>by have:=t6 l hl;omega) _ hz c.chairs.length 0 3 0 (by omega) (by omega);obtain⟨g2,γ2,h2,q2⟩:=A0C c (by omega) [i 0,i 0,i 0,i 0,.nil,.nil,.nil,.nil,.nil,.nil,.nil,.nil] γ1 (c.chairs.map AS) c.fams.length 0 g1 0 (by omega) (by omega);have q1:=fun n m=>q1 n (m+100) (by omega);have q2:=fun n m=>q2 n (m+100) (by omega);rw[show(c.chairs.take 0).map AS=[] from rfl]at q1;rw[show(c.fams.take 0).map AR=[] from rfl]at q2;have hg2:1<g2:=by omega
 have c1:∀e∈c.chairs.map AS,∀v∈e,AF 7 v=true:=fun e he v hv=>by obtain⟨l,_,rfl⟩:=bz.1 he;simp only[AS,List.mem_cons,List.not_mem_nil,or_false]at hv;subst hv;simp[BM]
 have c2:∀e∈c.fams.map AR,∀v∈e,AF 7 v=true:=fun e he v hv=>by obtain⟨l,_,rfl⟩:=bz.1 he;simp only[AR,List.mem_cons,List.not_mem_nil,or_false]at hv;rcases hv with rfl|rfl|rfl|rfl<;>rfl
 unfold W5;simp only[AJ,AC,bxC,I9]at q1 q2 qB qL|-;generalize c.chairs.map AS=R at *;generalize c.fams.map AR=S at *;cases R with
 |nil=>
  cases S with
  |nil=>
   simp at q1 q2
   simp[c21,AD,qB,qL,q1,q2,hg2,XT,slN,slC,BA,D6,ID,CA,CQ,BN,HV,GB]
  |cons t S=>
   have s1:=eq_true (c2 t (by simp))
   have s2:=eq_true (fun e he=>c2 e (bj t he):∀e∈S,∀v∈e,AF 7 v=true)
   simp[XT]at q1 q2
   simp[c21,AD,qB,qL,q1,q2,s1,s2,hg2,XT,slN,slC,BA,D6,ID,CA,CQ,BN,HV,GB]
 |cons r R=>
  have r1:=eq_true (c1 r (by simp))
  have r2:=eq_true (fun e he=>c1 e (bj r he):∀e∈R,∀v∈e,AF 7 v=true)
  cases S with
  |nil=>
   simp[XT]at q1 q2
   simp[c21,AD,qB,qL,q1,q2,r1,r2,hg2,XT,slN,slC,BA,D6,ID,CA,CQ,BN,HV,GB]
  |cons t S=>
   have s1:=eq_true (c2 t (by simp))
   have s2:=eq_true (fun e he=>c2 e (bj t he):∀e∈S,∀v∈e,AF 7 v=true)
   simp[XT]at q1 q2
   simp[c21,AD,qB,qL,q1,q2,r1,r2,s1,s2,hg2,XT,slN,slC,BA,D6,ID,CA,CQ,BN,HV,GB]
end Go.Proofs.Tryz.Op
