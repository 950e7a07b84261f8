/- Contracts of the reference: People, Chairs, Minds, Groups. No condition but small numbers. -/
import Derived.Test.YthhdhbalenanjaaGreatC1
import Derived.Test.YthhdhbalenanjaaGreatEa
open Go.Proofs.Tryz renaming prog->ck
open List renaming mem_cons_of_mem->bj,take_succ_eq_append_getElem->bk,drop_eq_getElem_cons->bq,map_congr_left->bw,drop_length->bx,mem_map->bb,getElem_mem->bc,take_length->bf,length_take->bg,all_cons->bh,map_append->bm,length_map->bn,map_map->bp,map->cj
open Bool renaming not_eq_true'->bz
set_option maxRecDepth 100000
set_option linter.unusedSimpArgs false
open Go Go.Pg Go.Proofs Go.Wind
namespace Go.Wind
end Go.Wind
namespace Go.Proofs.Tryz.Op
end Go.Proofs.Tryz.Op
namespace Go.Wind
def BA3(G:List (Nat×Int))(ss:List (Int×Int))(k:Nat):Sp:=⟨(G.getD k (0,0)).1,(G.getD k (0,0)).2,(ss.getD k (0,0)).1,(ss.getD k (0,0)).2⟩
end Go.Wind
namespace Go.Proofs.Tryz.Op
section
variable (c:AR)(G:List (Nat×Int))(ss:List (Int×Int))(t q:Nat)
end
end Go.Proofs.Tryz.Op
namespace Go.Wind
open Go.Proofs.Tryz.Op
theorem J5{c:AR}(hc:B7 c)(out:List Int):∀(k:Nat),k<=c.fams.length->∀g∈CV c.fams out k,g.1<c.fams.length/\1<=g.2/\g.2<=4
 |0,_,g,hg=>by cases hg
 |k+1,hk,g,hg=>by
  simp only[CV,List.mem_append]at hg;rcases hg with hg|hg
  ·exact J5 hc out k (by omega) g hg
  ·split at hg
   ·cases hg
   ·rw[List.mem_singleton]at hg;subst hg;have hk':k<c.fams.length:=by omega
    have e:c.fams.getD k ⟨0,0,false,false⟩=c.fams[k]:=by rw[List.getD_eq_getElem?_getD,List.getElem?_eq_getElem hk'];rfl
    have:=hc.fo _ (bc hk');simp only[e];exact⟨hk',this.1⟩
end Go.Wind
namespace Go.Proofs.Tryz.Op
def JM{α:Type}(l:List α):Bool:=!decide ((7:Int)<(l.length:Int))
def NM(c:AR):Bool:=(Q1 c.beach&&(JM c.plan&&(JM c.chairs&&!decide ((5:Int)<(c.fams.length:Int)))))&&(c.plan.all JM&&c.chairs.all JM)
theorem eF{α:Type}{l:List α}:JM l=true↔l.length<=7:=by simp only[JM,bz,decide_eq_false_iff_not];omega
theorem J6{c:AR}(h:NM c=true):Q1 c.beach=true/\c.plan.length<=7/\c.chairs.length<=7/\c.fams.length<=5/\(∀l∈c.plan,l.length<=7)/\∀l∈c.chairs,l.length<=7:=by simp only[NM,Bool.and_eq_true,eF,List.all_eq_true,bz,decide_eq_false_iff_not]at h;exact⟨h.1.1,h.1.2.1,h.1.2.2.1,by omega,h.2.1,h.2.2⟩
theorem A0B(c:AR)(hl:c.plan.length<=100):∀(d k:Nat),k+d=c.plan.length->∃fr,BD fr 1=some (true,.ptr 0 1 0 0) /\
  ∀n m,d<m->BJ (AE ck ann kn (n+100) 55) YY (ann 55 (B9 YY)) m ⟨1,[(1,true,.ptr 0 1 0 0),(3,true,i k)],⟨[],[(1,0,.box (AF c))]⟩⟩ =
   if (c.plan.drop k).all JM=true then some (.exit 0,⟨1,fr,⟨[],[(1,0,.box (AF c))]⟩⟩) else some (.ret,⟨1,[(2,true,.bool false)],⟨[],[]⟩⟩)
 |0,k,hk=>by
  have:k=c.plan.length:=by omega
  subst this;rw[bx];refine⟨?fr,?g1,fun n m hm=>?g2⟩;case g2=>
   obtain⟨m,rfl⟩:=qNz m (by omega)
   rw[AB]
   simp[AF]
   rfl
  case g1=>simp
 |d+1,k,hk=>by
  have hk':k<c.plan.length:=by omega
  have hw:=BW (k:=k) (by omega);obtain⟨fr,e1,ih⟩:=A0B c hl d (k+1) (by omega);rw[bq hk',bh];refine⟨fr,e1,fun n m hm=>?_⟩;obtain⟨m,rfl⟩:=qNz m (by omega);have ih:=ih n m (by omega);have es:JM c.plan[k]=!decide ((7:Int)<(c.plan[k].length:Int)):=rfl;rw[es];generalize e1:decide ((7:Int)<(c.plan[k].length:Int))=z1;generalize (c.plan.drop (k+1)).all JM=z at ih|-;rw[AB];simp only[AF]at ih|-;cases z1<;>cases z<;>(simp at ih;simp[AQ,hk',hw,e1,ih])
theorem A0C(c:AR)(hl:c.chairs.length<=100):∀(d k:Nat),k+d=c.chairs.length->∃fr,BD fr 1=some (true,.ptr 0 1 0 0) /\
  ∀n m,d<m->BJ (AE ck ann kn (n+100) 55) YZ (ann 55 (B9 YZ)) m ⟨1,[(1,true,.ptr 0 1 0 0),(4,true,i k)],⟨[],[(1,0,.box (AF c))]⟩⟩ =
   if (c.chairs.drop k).all JM=true then some (.exit 2,⟨1,fr,⟨[],[(1,0,.box (AF c))]⟩⟩) else some (.ret,⟨1,[(2,true,.bool false)],⟨[],[]⟩⟩)
 |0,k,hk=>by
  have:k=c.chairs.length:=by omega
  subst this;rw[bx];refine⟨?fr,?g1,fun n m hm=>?g2⟩;case g2=>
   obtain⟨m,rfl⟩:=qNz m (by omega)
   rw[AB]
   simp[AF]
   rfl
  case g1=>simp
 |d+1,k,hk=>by
  have hk':k<c.chairs.length:=by omega
  have hw:=BW (k:=k) (by omega);obtain⟨fr,e1,ih⟩:=A0C c hl d (k+1) (by omega);rw[bq hk',bh];refine⟨fr,e1,fun n m hm=>?_⟩;obtain⟨m,rfl⟩:=qNz m (by omega);have ih:=ih n m (by omega);have es:JM c.chairs[k]=!decide ((7:Int)<(c.chairs[k].length:Int)):=rfl;rw[es];generalize e1:decide ((7:Int)<(c.chairs[k].length:Int))=z1;generalize (c.chairs.drop (k+1)).all JM=z at ih|-;rw[AB];simp only[AF]at ih|-;cases z1<;>cases z<;>(simp at ih;simp[AS,hk',hw,e1,ih])
theorem AQH(n:Nat)(c:AR):A5 ck kn (AE ck ann kn (n+1400)) 18 [.agg (AF c)]=some (.bool (NM c)):=by
 rw[AN rfl,AP Tryz.func18 b18 rfl (by simp[AF,AS,BF,AY])];have qT:=fun n=>A7H n c.beach;unfold NM;have es:JM c.plan=!decide ((7:Int)<(c.plan.length:Int)):=rfl;have et:JM c.chairs=!decide ((7:Int)<(c.chairs.length:Int)):=rfl;rw[es,et];generalize e1:decide ((7:Int)<(c.plan.length:Int))=z1;generalize e2:decide ((7:Int)<(c.chairs.length:Int))=z2;generalize e3:decide ((5:Int)<(c.fams.length:Int))=z3;generalize Q1 c.beach=z4 at *;simp only[AC]at qT;by_cases h:z4=true/\z1=false/\z2=false/\z3=false
 ·obtain⟨rfl,rfl,rfl,rfl⟩:=h;have h1:=of_decide_eq_false e1;have h2:=of_decide_eq_false e2;obtain⟨f1,g1,q1⟩:=A0B c (by omega) c.plan.length 0 (by omega);obtain⟨f2,g2,q2⟩:=A0C c (by omega) c.chairs.length 0 (by omega);have q1:=fun n m=>q1 n (m+100) (by omega);have q2:=fun n m=>q2 n (m+100) (by omega);rw[List.drop_zero]at q1 q2;generalize c.plan.all JM=y1 at *;generalize c.chairs.all JM=y2 at *;simp only[AF]at q1 q2|-;cases y1<;>cases y2<;>(simp at q1 q2;simp[c18,AD,qT,e1,e2,e3,q1,q2,g1])
 ·simp only[AF]at|-;cases z4<;>cases z1<;>cases z2<;>cases z3<;>first|exact absurd ⟨rfl,rfl,rfl,rfl⟩ h|simp[c18,AD,qT,e1,e2,e3]
theorem A0D{k:Nat}(hk:k<=100000)(q g n:Nat):BV ck 22 k [[.vec 0 q g n]]=true:=by rw[BS (by simp) (by simp)];simp[maxLen];omega
theorem gS(l k:Nat)(o:Option (Nat×AX))(ls:List (List Int)):(ls.map AQ).map (cj (BC l k o 3))=ls.map AQ:=by rw[bp];exact bw fun x _=>rfl
theorem A0E(ls:List (List Int)):(ls.map AQ).map (cj wQ)=ls.map AQ:=by rw[bp];exact bw fun x _=>rfl
theorem LF(k γ:Nat)(h:List V)(t:List (List V)):pv k γ (h::t)=.vec 0 k γ (t.length+1):=rfl
theorem slN:sl []=.nil:=rfl
theorem slC(e:List V)(es:List (List V)):sl (e::es)=.list false (e::es):=rfl
theorem AQI(ls:List (List Int))(h1:ls.length<=100)(h2:∀l∈ls,l.length<=100):∀(d k c γ:Nat),k+d=ls.length->∃fr c' γ',fr=[(8,true,V.bool false),(7,true,i ls.length),(6,true,J1 ls),(5,true,i ls.length),(0,true,J1 ls),(3,true,pv 18 γ' (ls.map AQ)),(4,true,i ls.length)]/\∀n m,d<m->BJ (AE ck ann kn (n+200) 20) Y0 (ann 20 (B9 Y0)) m ⟨c,[(0,true,J1 ls),(3,true,pv 18 γ ((ls.take k).map AQ)),(4,true,i k)],⟨[],pl 18 γ 22 ((ls.take k).map AQ)⟩⟩ =
  some (.exit 0,⟨c',fr,⟨[],pl 18 γ' 22 (ls.map AQ)⟩⟩)
 |0,k,c,γ,hk=>by
  have:k=ls.length:=by omega
  subst this;rw[bf];refine⟨_,c,γ,rfl,fun n m hm=>?_⟩;obtain⟨m,rfl⟩:=qNz m (by omega);rw[AB];simp
 |d+1,k,c,γ,hk=>by
  have hk':k<ls.length:=by omega
  have hw:=BW (k:=k) (by omega);have h3:=h2 _ (bc hk');have hst:(ls.take (k+1)).map AQ=(ls.take k).map AQ++[AQ ls[k]]:=by rw[bk hk',bm];rfl
  have hRl:((ls.take k).map AQ).length=k:=by rw[bn,bg];omega
  have hto:=fun o=>gS 0 16 o (ls.take k);have hR1:∀e∈(ls.take k).map AQ,e.length=1:=fun e he=>by obtain⟨l,_,rfl⟩:=bb.1 he;rfl
  have hwk:=A0E (ls.take k);have ha:=fun q g n=>A0D (k:=((ls.take k).map AQ).length) (by omega) q g n;have hai:=A7D (k:=0) (l:=ls[k]) (by omega);generalize hLk:ls[k]=L at *;cases L with
  |nil=>
   obtain⟨fr,c',γ',e1,ih⟩:=AQI ls h1 h2 d (k+1) (c+1+1) (c+1) (by omega)
   refine⟨fr,c',γ',e1,fun n m hm=>?_⟩
   obtain⟨m,rfl⟩:=qNz m (by omega)
   have ih:=ih n m (by omega)
   rw[hst]at ih
   generalize ls.map AQ=fin at *
   generalize (ls.take k).map AQ=R at *
   rw[AB]
   simp at hai
   cases R with
   |nil=>simp[AQ,li,LF]at ih ha;simp[show c+1+1=c+2 from rfl,hk',hw,hLk,AQ,ha,hai,ih]
   |cons r R=>
    have hR2:=hR1 r (by simp)
    have hR3:=eq_true (fun e he=>hR1 e (bj r he):∀e∈R,e.length=1)
    simp[AQ,li,LF]at ih ha hto hwk
    simp[show c+1+1=c+2 from rfl,hk',hw,hLk,AQ,ha,hai,ih,hto,hwk,hR2,hR3,LF]
  |cons x L=>
   obtain⟨fr,c',γ',e1,ih⟩:=AQI ls h1 h2 d (k+1) (c+1+1) (c+1) (by omega)
   refine⟨fr,c',γ',e1,fun n m hm=>?_⟩
   obtain⟨m,rfl⟩:=qNz m (by omega)
   have ih:=ih n m (by omega)
   rw[hst]at ih
   generalize ls.map AQ=fin at *
   generalize (ls.take k).map AQ=R at *
   rw[AB]
   simp[AJ]at hai
   cases R with
   |nil=>simp[AQ,AJ,li,LF]at ih ha;simp[show c+1+1=c+2 from rfl,hk',hw,hLk,AQ,AJ,ha,hai,ih]
   |cons r R=>
    have hR2:=hR1 r (by simp)
    have hR3:=eq_true (fun e he=>hR1 e (bj r he):∀e∈R,e.length=1)
    simp[AQ,AJ,li,LF]at ih ha hto hwk
    simp[show c+1+1=c+2 from rfl,hk',hw,hLk,AQ,AJ,ha,hai,ih,hto,hwk,hR2,hR3,LF]
theorem AI7(n:Nat)(ls:List (List Int))(h1:ls.length<=100)(h2:∀l∈ls,l.length<=100):A5 ck kn (AE ck ann kn (n+400)) 69 [J1 ls]=some (sl (ls.map AQ)):=by rw[AN rfl,AP Tryz.func69 b69 rfl (by simp)];obtain⟨fr,c',γ',e1,q⟩:=AQI ls h1 h2 ls.length 0 0 0 (by omega);have q:=fun n m=>q n (m+200) (by omega);simp at q e1;simp[c69,AD,q,e1]
theorem ANO(c:AR)(hl:c.chairs.length<=100):∀(d k:Nat),k+d=c.chairs.length->∃fr,BD fr 1=some (true,.ptr 0 1 0 0) /\
  ∀n m,d<m->BJ (AE ck ann kn (n+100) 76) TH (ann 76 (B9 TH)) m ⟨1,[(1,true,.ptr 0 1 0 0),(4,true,i k)],⟨[],[(1,0,.box (AF c))]⟩⟩ =
   if (c.chairs.drop k).all (fun l=>decide ((l.length:Int)=c.beach.places))=true then some (.exit 0,⟨1,fr,⟨[],[(1,0,.box (AF c))]⟩⟩) else some (.ret,⟨1,[(2,true,i 1)],⟨[],[]⟩⟩)
 |0,k,hk=>by
  have:k=c.chairs.length:=by omega
  subst this;rw[bx];refine⟨?fr,?g1,fun n m hm=>?g2⟩;case g2=>
   obtain⟨m,rfl⟩:=qNz m (by omega)
   rw[AB]
   simp[AF]
   rfl
  case g1=>simp
 |d+1,k,hk=>by
  have hk':k<c.chairs.length:=by omega
  have hw:=BW (k:=k) (by omega);obtain⟨fr,e1,ih⟩:=ANO c hl d (k+1) (by omega);rw[bq hk',bh];refine⟨fr,e1,fun n m hm=>?_⟩;obtain⟨m,rfl⟩:=qNz m (by omega);have ih:=ih n m (by omega);generalize e1:decide ((c.chairs[k].length:Int)=c.beach.places)=z1;generalize (c.chairs.drop (k+1)).all (fun l=>decide ((l.length:Int)=c.beach.places))=z at ih|-;rw[AB];simp only[AF]at ih|-;cases z1<;>cases z<;>(simp at ih;simp[AS,hk',hw,e1,ih])
theorem ANP(c:AR)(hl:c.fams.length<=100):∀(d k:Nat),k+d=c.fams.length->∃fr,
  ∀n m,d<m->BJ (AE ck ann kn (n+200) 76) TI (ann 76 (B9 TI)) m ⟨1,[(1,true,.ptr 0 1 0 0),(5,true,i k)],⟨[],[(1,0,.box (AF c))]⟩⟩ =
   if (c.fams.drop k).all GY=true then some (.exit 2,⟨1,fr,⟨[],[(1,0,.box (AF c))]⟩⟩) else some (.ret,⟨1,[(2,true,i 1)],⟨[],[]⟩⟩)
 |0,k,hk=>by
  have:k=c.fams.length:=by omega
  subst this;rw[bx];refine⟨?fr,fun n m hm=>?g2⟩;case g2=>
   obtain⟨m,rfl⟩:=qNz m (by omega)
   rw[AB]
   simp[AF]
   rfl
 |d+1,k,hk=>by
  have hk':k<c.fams.length:=by omega
  have hw:=BW (k:=k) (by omega);obtain⟨fr,ih⟩:=ANP c hl d (k+1) (by omega);rw[bq hk',bh];refine⟨fr,fun n m hm=>?_⟩;obtain⟨m,rfl⟩:=qNz m (by omega);have ih:=ih n m (by omega);have ef:GY c.fams[k]=(HH c.fams[k].size 1 4&&HH c.fams[k].good 0 5):=rfl;have q1:=fun n=>kIn n c.fams[k].size 1 4;have q2:=fun n=>kIn n c.fams[k].good 0 5;rw[ef];generalize HH c.fams[k].size 1 4=z1 at *;generalize HH c.fams[k].good 0 5=z2 at *;generalize (c.fams.drop (k+1)).all GY=z at ih|-;rw[AB];simp only[AF]at ih|-;cases z1<;>cases z2<;>cases z<;>(simp at ih;simp[AY,hk',hw,q1,q2,ih])
theorem AI8(n:Nat)(c:AR)(hw:∀l∈c.beach.winds,l.length<=100)(hp:c.plan.length<=100)(hch:c.chairs.length<=100):A5 ck kn (AE ck ann kn (n+2400)) 70 [.agg (AF c)]=some (i (B5 c)):=by
 rw[AN rfl,AP Tryz.func70 b70 rfl (by simp[AF,AS,BF,AY])];have qf:=fun n=>AIF n c.beach hw;unfold B5;by_cases a1:3<c.fams.length
 ·have e1:(3:Int)<(c.fams.length:Int):=by omega
  rw[if_pos a1];simp only[AF];simp[c70,AD,e1]
 rw[if_neg a1];have e1:¬(3:Int)<(c.fams.length:Int):=by omega
 by_cases a2:DH c.beach≠0
 ·rw[if_pos a2];simp only[AF,AC]at qf|-;simp[c70,AD,e1,qf,a2]
 rw[if_neg a2];have a2:DH c.beach=0:=by simpa using a2
 have hb:=TQ a2;have qp:=fun n=>AH9 n c.beach hb c.plan hp;have qt:=fun n=>yY n c.beach hb;rw[a2]at qf;by_cases a3:CP c.beach c.plan=false
 ·rw[if_pos a3];rw[a3]at qp;simp only[AF,AC]at qf qp|-;simp[c70,AD,e1,qf,qp]
 rw[if_neg a3];have a3:CP c.beach c.plan=true:=by simpa using a3
 rw[a3]at qp;by_cases a4:BQ c.beach=[]
 ·rw[if_pos a4];rw[a4]at qt;simp only[AF,AC]at qf qp qt|-;simp at qt;simp[c70,AD,e1,qf,qp,qt]
 rw[if_neg a4];have a4':¬((BQ c.beach).length:Int)=0:=fun h=>a4 (List.eq_nil_of_length_eq_zero (by omega));by_cases a5:(c.chairs.length:Int)=c.beach.rows
 ·have ec:D5 c=c.chairs.all (fun l=>decide ((l.length:Int)=c.beach.places)):=by unfold D5;rw[decide_eq_true a5,Bool.true_and]
  rw[ec];obtain⟨f1,g1,q1⟩:=ANO c hch c.chairs.length 0 (by omega);obtain⟨f2,q2⟩:=ANP c (by omega) c.fams.length 0 (by omega);have q1:=fun n m=>q1 n (m+101) (by omega);have q2:=fun n m=>q2 n (m+101) (by omega);rw[List.drop_zero]at q1 q2;generalize c.chairs.all (fun l=>decide ((l.length:Int)=c.beach.places))=y1 at *;generalize c.fams.all GY=y2 at *;generalize BQ c.beach=T at *;simp only[AF,AC]at qf qp qt q1 q2|-;cases y1<;>cases y2<;>(simp at q1 q2;simp[c70,AD,e1,qf,qp,qt,a4,a5,q1,q2,g1])
 ·have ec:D5 c=false:=by unfold D5;rw[decide_eq_false a5,Bool.false_and]
  rw[if_pos ec];generalize BQ c.beach=T at *;simp only[AF,AC]at qf qp qt|-;simp[c70,AD,e1,qf,qp,qt,a4,a5]
theorem AI9(l k:Nat)(o:Option (Nat×AX))(ls:List (List Bool)):(ls.map AS).map (cj (BC l k o 3))=ls.map AS:=by rw[bp];exact bw fun x _=>rfl
theorem A0F(ls:List (List Bool)):(ls.map AS).map (cj wQ)=ls.map AS:=by rw[bp];exact bw fun x _=>rfl
theorem SA{P:Program}{fr:Fr}{s:St}(e d c:Nat)(ys:List (List V))(h:BV P e 0 ys=true):adV P e d c fr s .nil ys=some (⟨c+1,(d,true,.vec s.up.length d c ys.length)::fr,s.put s.up.length d c (.vec e ys)⟩,[(s.up.length,d),(s.up.length,d+JF)]):=by unfold adV;simp[I6,h]
theorem A0G{k:Nat}{l:List Bool}(h:k+l.length<=100000):BV ck 4 k (l.map BF)=true:=by rw[BS (by simp) (by simp)];simp[maxLen,BF];omega
theorem A0H{k:Nat}(hk:k<=100000)(q g n:Nat):BV ck 97 k [[.vec 0 q g n]]=true:=by rw[BS (by simp) (by simp)];simp[maxLen];omega
theorem A0I{k:Nat}{l:List U5}(h:k+l.length<=100000):BV ck 94 k (l.map AY)=true:=by rw[BS (by simp) (by simp)];simp[maxLen,AY];omega
abbrev bxC(b:AL)(p:List (List Int))(v w:V):AX:=.box (KL b++[sl (p.map AQ),v,w])
theorem AQJ(c:AR)(h1:c.chairs.length<=100)(h2:∀l∈c.chairs,l.length<=100)(cs2:List V)(hcs:∀o,cs2.map (BC 0 28 o 3)=cs2):∀(d k g γ:Nat),k+d=c.chairs.length->2<g->∃g' γ',g<=g'/\∀n m,d<m->BJ (AE ck ann kn (n+200) 59) Y7 (ann 59 (B9 Y7)) m ⟨g,[(1,true,.ptr 0 1 0 0),(2,true,.ptr 0 2 1 0),(3,true,.ptr 0 3 2 0),(4,true,i k)],⟨[],(1,0,.box (AF c))::(2,1,.box cs2)::(3,2,bxC c.beach c.plan (pv 30 γ ((c.chairs.take k).map AS)) .nil)::pl 30 γ 97 ((c.chairs.take k).map AS)⟩⟩ =
  some (.exit 0,⟨g',[(18,true,.bool false),(17,true,i c.chairs.length),(16,true,.list false (c.chairs.map AS)),(15,true,.ptr 0 1 0 10),(14,true,i c.chairs.length),(1,true,.ptr 0 1 0 0),(2,true,.ptr 0 2 1 0),(3,true,.ptr 0 3 2 0),(4,true,i c.chairs.length)],⟨[],(1,0,.box (AF c))::(2,1,.box cs2)::(3,2,bxC c.beach c.plan (pv 30 γ' (c.chairs.map AS)) .nil)::pl 30 γ' 97 (c.chairs.map AS)⟩⟩)
 |0,k,g,γ,hk,hg=>by
  have:k=c.chairs.length:=by omega
  subst this;rw[bf];refine⟨g,γ,Nat.le_refl _,fun n m hm=>?_⟩;obtain⟨m,rfl⟩:=qNz m (by omega);rw[AB];simp only[AF,bxC,KL];cases c.chairs<;>simp
 |d+1,k,g,γ,hk,hg=>by
  have hk':k<c.chairs.length:=by omega
  have hw:=BW (k:=k) (by omega);have h3:=h2 _ (bc hk');have hst:(c.chairs.take (k+1)).map AS=(c.chairs.take k).map AS++[AS c.chairs[k]]:=by rw[bk hk',bm];rfl
  have hRl:((c.chairs.take k).map AS).length=k:=by rw[bn,bg];omega
  have hto:=fun o=>AI9 0 28 o (c.chairs.take k);have hwk:=A0F (c.chairs.take k);have hR1:∀e∈(c.chairs.take k).map AS,e.length=1:=fun e he=>by obtain⟨l,_,rfl⟩:=bb.1 he;rfl
  have ha:=fun q g n=>A0H (k:=((c.chairs.take k).map AS).length) (by omega) q g n;have hai:=A0G (k:=0) (l:=c.chairs[k]) (by omega);generalize hLk:c.chairs[k]=L at *;cases L with
  |nil=>
   obtain⟨g',γ',hgg,ih⟩:=AQJ c h1 h2 cs2 hcs d (k+1) (g+1+1) (g+1) (by omega) (by omega)
   refine⟨g',γ',by omega,fun n m hm=>?_⟩
   obtain⟨m,rfl⟩:=qNz m (by omega)
   have ih:=ih n m (by omega)
   rw[hst]at ih
   generalize (c.chairs.take k).map AS=R at *
   rw[AB]
   simp only[AF,bxC,KL]at ih|-
   simp at hai
   cases R with
   |nil=>simp[AS,lb,LF]at ih ha;simp[show g+1+1=g+2 from rfl,hk',hw,hLk,AS,ha,hai,hcs,ih,JF,SA,CE,CH,JG,GS,show 2<g+2 by omega]
   |cons r R=>
    have hR2:=hR1 r (by simp)
    have hR3:=eq_true (fun e he=>hR1 e (bj r he):∀e∈R,e.length=1)
    simp[AS,lb,LF]at ih ha hto hwk
    simp[show g+1+1=g+2 from rfl,hk',hw,hLk,AS,ha,hai,hcs,ih,hto,hwk,hR2,hR3,LF,JF,SA,CE,CH,JG,GS,show 2<g+2 by omega]
  |cons x L=>
   obtain⟨g',γ',hgg,ih⟩:=AQJ c h1 h2 cs2 hcs d (k+1) (g+1+1) (g+1) (by omega) (by omega)
   refine⟨g',γ',by omega,fun n m hm=>?_⟩
   obtain⟨m,rfl⟩:=qNz m (by omega)
   have ih:=ih n m (by omega)
   rw[hst]at ih
   generalize (c.chairs.take k).map AS=R at *
   rw[AB]
   simp only[AF,bxC,KL]at ih|-
   simp[BF]at hai
   cases R with
   |nil=>simp[AS,BF,lb,LF]at ih ha;simp[show g+1+1=g+2 from rfl,hk',hw,hLk,AS,BF,ha,hai,hcs,ih,JF,SA,CE,CH,JG,GS,show 2<g+2 by omega]
   |cons r R=>
    have hR2:=hR1 r (by simp)
    have hR3:=eq_true (fun e he=>hR1 e (bj r he):∀e∈R,e.length=1)
    simp[AS,BF,lb,LF]at ih ha hto hwk
    simp[show g+1+1=g+2 from rfl,hk',hw,hLk,AS,BF,ha,hai,hcs,ih,hto,hwk,hR2,hR3,LF,JF,SA,CE,CH,JG,GS,show 2<g+2 by omega]
theorem A0J(c:AR)(h1:c.fams.length<=100)(cs2:List V)(γ3:Nat)(R:List (List V)):∀(d k g γ:Nat),k+d=c.fams.length->2<g->∃g' γ',g<=g'/\∀n m,d<m->BJ (AE ck ann kn (n+200) 59) Y8 (ann 59 (B9 Y8)) m ⟨g,[(1,true,.ptr 0 1 0 0),(2,true,.ptr 0 2 1 0),(3,true,.ptr 0 3 2 0),(5,true,i k)],⟨[],(1,0,.box (AF c))::(2,1,.box cs2)::(3,2,bxC c.beach c.plan (pv 30 γ3 R) (pv 56 γ ((c.fams.take k).map AY)))::(pl 30 γ3 97 R++pl 56 γ 94 ((c.fams.take k).map AY))⟩⟩ =
  some (.exit 2,⟨g',[(36,true,.bool false),(35,true,i c.fams.length),(34,true,.list false (c.fams.map AY)),(33,true,.ptr 0 1 0 11),(32,true,i c.fams.length),(1,true,.ptr 0 1 0 0),(2,true,.ptr 0 2 1 0),(3,true,.ptr 0 3 2 0),(5,true,i c.fams.length)],⟨[],(1,0,.box (AF c))::(2,1,.box cs2)::(3,2,bxC c.beach c.plan (pv 30 γ3 R) (pv 56 γ' (c.fams.map AY)))::(pl 30 γ3 97 R++pl 56 γ' 94 (c.fams.map AY))⟩⟩)
 |0,k,g,γ,hk,hg=>by
  have:k=c.fams.length:=by omega
  subst this;rw[bf];refine⟨g,γ,Nat.le_refl _,fun n m hm=>?_⟩;obtain⟨m,rfl⟩:=qNz m (by omega);rw[AB];simp only[AF,bxC,KL];cases R<;>cases c.fams<;>simp
 |d+1,k,g,γ,hk,hg=>by
  have hk':k<c.fams.length:=by omega
  have hw:=BW (k:=k) (by omega);have hst:(c.fams.take (k+1)).map AY=(c.fams.take k).map AY++[AY c.fams[k]]:=by rw[bk hk',bm];rfl
  have hRl:((c.fams.take k).map AY).length=k:=by rw[bn,bg];omega
  have hS1:∀e∈(c.fams.take k).map AY,e.length=4:=fun e he=>by obtain⟨l,_,rfl⟩:=bb.1 he;rfl
  have ha:=A0I (k:=((c.fams.take k).map AY).length) (l:=[c.fams[k]]) (by rw[hRl];simp;omega);obtain⟨g',γ',hgg,ih⟩:=A0J c h1 cs2 γ3 R d (k+1) (g+1+1) (g+1) (by omega) (by omega);refine⟨g',γ',by omega,fun n m hm=>?_⟩;obtain⟨m,rfl⟩:=qNz m (by omega);have ih:=ih n m (by omega);rw[hst]at ih;generalize (c.fams.take k).map AY=S at *;generalize hLk:c.fams[k]=f at *;rw[AB];simp only[AF,bxC,KL]at ih|-;cases S with
  |nil=>cases R<;>(simp[AY,LF]at ih ha;simp[hk',hw,hLk,AY,LF,ha,ih,show 0<g by omega])
  |cons q S=>
   have hS2:=hS1 q (by simp)
   have hS3:=eq_true (fun e he=>hS1 e (bj q he):∀e∈S,e.length=4)
   cases R<;>(simp[AY,LF]at ih ha;simp[hk',hw,hLk,AY,LF,ha,ih,hS2,hS3,show 0<g by omega])
def gT(c:AR):List V:=KL c.beach++[sl (c.plan.map AQ),sl (c.chairs.map AS),sl (c.fams.map AY)]
theorem qR(n:Nat)(c:AR)(ht:NM c=true):A5 ck kn (AE ck ann kn (n+900)) 21 [.agg (AF c)]=some (.agg (gT c)):=by
 rw[AN rfl,AP Tryz.func21 b21 rfl (by simp[AF,AS,BF,AY])];obtain⟨t1,t2,t3,t4,t5,t6⟩:=J6 ht;simp only[Q1,Bool.and_eq_true,bz,Bool.or_eq_false_iff,Bool.not_eq_false',decide_eq_false_iff_not]at t1;obtain⟨⟨⟨⟨⟨u1,u2⟩,u3⟩,u4⟩,u5⟩,_⟩:=t1;obtain⟨u6,u7⟩:=WH u3;have qB:=fun n=>AVN n c.beach (by omega) (by omega) (by omega) (fun l hl=>by have:=u7 l hl;omega) (by omega) (by omega);have qL:=fun n=>AI7 n c.plan (by omega) (fun l hl=>by have:=t5 l hl;omega);have hz:∀o,([i 0,i 0,i 0,i 0,.nil,.nil,.nil,.nil,.nil,.nil,.nil,.nil]:List V).map (BC 0 28 o 3)=[i 0,i 0,i 0,i 0,.nil,.nil,.nil,.nil,.nil,.nil,.nil,.nil]:=fun o=>rfl;obtain⟨g1,γ1,h1,q1⟩:=AQJ c (by omega) (fun l hl=>by have:=t6 l hl;omega) _ hz c.chairs.length 0 3 0 (by omega) (by omega);obtain⟨g2,γ2,h2,q2⟩:=A0J c (by omega) [i 0,i 0,i 0,i 0,.nil,.nil,.nil,.nil,.nil,.nil,.nil,.nil] γ1 (c.chairs.map AS) c.fams.length 0 g1 0 (by omega) (by omega);have q1:=fun n m=>q1 n (m+100) (by omega);have q2:=fun n m=>q2 n (m+100) (by omega);rw[show(c.chairs.take 0).map AS=[] from rfl]at q1;rw[show(c.fams.take 0).map AY=[] from rfl]at q2;have hg2:1<g2:=by omega
 have c1:∀e∈c.chairs.map AS,∀v∈e,AG 7 v=true:=fun e he v hv=>by obtain⟨l,_,rfl⟩:=bb.1 he;simp only[AS,List.mem_cons,List.not_mem_nil,or_false]at hv;subst hv;simp[BF]
 have c2:∀e∈c.fams.map AY,∀v∈e,AG 7 v=true:=fun e he v hv=>by obtain⟨l,_,rfl⟩:=bb.1 he;simp only[AY,List.mem_cons,List.not_mem_nil,or_false]at hv;rcases hv with rfl|rfl|rfl|rfl<;>rfl
 unfold gT;simp only[AF,AC,bxC,KL]at q1 q2 qB qL|-;generalize c.chairs.map AS=R at *;generalize c.fams.map AY=S at *;cases R with
 |nil=>
  cases S with
  |nil=>
   simp at q1 q2
   simp[c21,AD,qB,qL,q1,q2,hg2,slN]
  |cons t S=>
   have s1:=eq_true (c2 t (by simp))
   have s2:=eq_true (fun e he=>c2 e (bj t he):∀e∈S,∀v∈e,AG 7 v=true)
   simp[LF]at q1 q2
   simp[c21,AD,qB,qL,q1,q2,s1,s2,hg2,slN,slC]
 |cons r R=>
  have r1:=eq_true (c1 r (by simp))
  have r2:=eq_true (fun e he=>c1 e (bj r he):∀e∈R,∀v∈e,AG 7 v=true)
  cases S with
  |nil=>
   simp[LF]at q1 q2
   simp[c21,AD,qB,qL,q1,q2,r1,r2,hg2,slN,slC]
  |cons t S=>
   have s1:=eq_true (c2 t (by simp))
   have s2:=eq_true (fun e he=>c2 e (bj t he):∀e∈S,∀v∈e,AG 7 v=true)
   simp[LF]at q1 q2
   simp[c21,AD,qB,qL,q1,q2,r1,r2,s1,s2,hg2,slC]
end Go.Proofs.Tryz.Op
