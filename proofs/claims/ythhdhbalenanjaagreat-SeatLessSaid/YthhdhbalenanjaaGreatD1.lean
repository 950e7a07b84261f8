/- Contracts of the laws' own: Thin, lists, Spots. No condition but short lists. -/
import Derived.Test.YthhdhbalenanjaaGreatC1
import Derived.Test.YthhdhbalenanjaaGreatEa
open Go.Proofs.Tryz renaming prog->cq
open List renaming mem_cons_of_mem->bj,take_succ_eq_append_getElem->bk,drop_eq_getElem_cons->bq,map_congr_left->bw,drop_length->bx,mem_map->bc,take_length->bf,getElem_mem->bg,length_take->bh,all_cons->bm,map_append->bn,length_map->bp,map_map->cj,map->ck
open Bool renaming not_eq_true'->bz
set_option maxRecDepth 100000
set_option linter.unusedSimpArgs false
open Go Go.Pg Go.Proofs Go.Wind
namespace Go.Proofs.Tryz.Op
def JY{α:Type}(l:List α):Bool:=!decide ((7:Int)<(l.length:Int))
def JD(c:AU):Bool:=(W3 c.beach&&(JY c.plan&&(JY c.chairs&&!decide ((5:Int)<(c.fams.length:Int)))))&&(c.plan.all JY&&c.chairs.all JY)
theorem dN{α:Type}{l:List α}:JY l=true↔l.length<=7:=by simp only[JY,bz,decide_eq_false_iff_not];omega
theorem G8{c:AU}(h:JD c=true):W3 c.beach=true/\c.plan.length<=7/\c.chairs.length<=7/\c.fams.length<=5/\(∀l∈c.plan,l.length<=7)/\∀l∈c.chairs,l.length<=7:=by simp only[JD,Bool.and_eq_true,dN,List.all_eq_true,bz,decide_eq_false_iff_not]at h;exact⟨h.1.1,h.1.2.1,h.1.2.2.1,by omega,h.2.1,h.2.2⟩
theorem A0E(c:AU)(hl:c.plan.length<=100):∀(d k:Nat),k+d=c.plan.length->∃fr,BS fr 1=some (true,.ptr 0 1 0 0) /\
  ∀n m,d<m->BT (AF cq ann kn (n+100) 55) YJ (ann 55 (CA YJ)) m ⟨1,[(1,true,.ptr 0 1 0 0),(3,true,i k)],⟨[],[(1,0,.box (AE c))]⟩⟩ =
   if (c.plan.drop k).all JY=true then some (.exit 0,⟨1,fr,⟨[],[(1,0,.box (AE c))]⟩⟩) else some (.ret,⟨1,[(2,true,.bool false)],⟨[],[]⟩⟩)
 |0,k,hk=>by
  have:k=c.plan.length:=by omega
  subst this;rw[bx];refine⟨?fr,?g1,fun n m hm=>?g2⟩;case g2=>
   obtain⟨m,rfl⟩:=qNz m (by omega)
   rw[AB]
   simp[AE]
   rfl
  case g1=>simp
 |d+1,k,hk=>by
  have hk':k<c.plan.length:=by omega
  have hw:=CB (k:=k) (by omega);obtain⟨fr,e1,ih⟩:=A0E c hl d (k+1) (by omega);rw[bq hk',bm];refine⟨fr,e1,fun n m hm=>?_⟩;obtain⟨m,rfl⟩:=qNz m (by omega);have ih:=ih n m (by omega);have es:JY c.plan[k]=!decide ((7:Int)<(c.plan[k].length:Int)):=rfl;rw[es];generalize e1:decide ((7:Int)<(c.plan[k].length:Int))=z1;generalize (c.plan.drop (k+1)).all JY=z at ih|-;rw[AB];simp only[AE]at ih|-;cases z1<;>cases z<;>(simp at ih;simp[AM,hk',hw,e1,ih])
theorem A0F(c:AU)(hl:c.chairs.length<=100):∀(d k:Nat),k+d=c.chairs.length->∃fr,BS fr 1=some (true,.ptr 0 1 0 0) /\
  ∀n m,d<m->BT (AF cq ann kn (n+100) 55) YK (ann 55 (CA YK)) m ⟨1,[(1,true,.ptr 0 1 0 0),(4,true,i k)],⟨[],[(1,0,.box (AE c))]⟩⟩ =
   if (c.chairs.drop k).all JY=true then some (.exit 2,⟨1,fr,⟨[],[(1,0,.box (AE c))]⟩⟩) else some (.ret,⟨1,[(2,true,.bool false)],⟨[],[]⟩⟩)
 |0,k,hk=>by
  have:k=c.chairs.length:=by omega
  subst this;rw[bx];refine⟨?fr,?g1,fun n m hm=>?g2⟩;case g2=>
   obtain⟨m,rfl⟩:=qNz m (by omega)
   rw[AB]
   simp[AE]
   rfl
  case g1=>simp
 |d+1,k,hk=>by
  have hk':k<c.chairs.length:=by omega
  have hw:=CB (k:=k) (by omega);obtain⟨fr,e1,ih⟩:=A0F c hl d (k+1) (by omega);rw[bq hk',bm];refine⟨fr,e1,fun n m hm=>?_⟩;obtain⟨m,rfl⟩:=qNz m (by omega);have ih:=ih n m (by omega);have es:JY c.chairs[k]=!decide ((7:Int)<(c.chairs[k].length:Int)):=rfl;rw[es];generalize e1:decide ((7:Int)<(c.chairs[k].length:Int))=z1;generalize (c.chairs.drop (k+1)).all JY=z at ih|-;rw[AB];simp only[AE]at ih|-;cases z1<;>cases z<;>(simp at ih;simp[AO,hk',hw,e1,ih])
theorem APD(n:Nat)(c:AU):BA cq kn (AF cq ann kn (n+1400)) 18 [.agg (AE c)]=some (.bool (JD c)):=by
 rw[AR rfl,AS Tryz.func18 b18 rfl (by simp[AE,AH,AM,AL,AO,AZ,AP])];have qT:=fun n=>A7Y n c.beach;unfold JD;have es:JY c.plan=!decide ((7:Int)<(c.plan.length:Int)):=rfl;have et:JY c.chairs=!decide ((7:Int)<(c.chairs.length:Int)):=rfl;rw[es,et];generalize e1:decide ((7:Int)<(c.plan.length:Int))=z1;generalize e2:decide ((7:Int)<(c.chairs.length:Int))=z2;generalize e3:decide ((5:Int)<(c.fams.length:Int))=z3;generalize W3 c.beach=z4 at *;simp only[AC]at qT;by_cases h:z4=true/\z1=false/\z2=false/\z3=false
 ·obtain⟨rfl,rfl,rfl,rfl⟩:=h;have h1:=of_decide_eq_false e1;have h2:=of_decide_eq_false e2;obtain⟨f1,g1,q1⟩:=A0E c (by omega) c.plan.length 0 (by omega);obtain⟨f2,g2,q2⟩:=A0F c (by omega) c.chairs.length 0 (by omega);have q1:=fun n m=>q1 n (m+100) (by omega);have q2:=fun n m=>q2 n (m+100) (by omega);rw[List.drop_zero]at q1 q2;generalize c.plan.all JY=y1 at *;generalize c.chairs.all JY=y2 at *;simp only[AE]at q1 q2|-;cases y1<;>cases y2<;>(simp at q1 q2;simp[c18,AD,qT,e1,e2,e3,q1,q2,g1,g2,AO,AZ,AP,AL,AM,AH])
 ·simp only[AE]at|-;cases z4<;>cases z1<;>cases z2<;>cases z3<;>first|exact absurd ⟨rfl,rfl,rfl,rfl⟩ h|simp[c18,AD,qT,e1,e2,e3,AO,AZ,AP,AL,AM,AH]
theorem A0G{k:Nat}(hk:k<=100000)(q g n:Nat):BZ cq 22 k [[.vec 0 q g n]]=true:=by rw[CC (by simp) (by simp)];simp[maxLen];omega
theorem AHQ(l k:Nat)(o:Option (Nat×AX))(ls:List (List Int)):(ls.map AM).map (ck (BF l k o 3))=ls.map AM:=by rw[cj];exact bw fun x _=>rfl
theorem A0H(ls:List (List Int)):(ls.map AM).map (ck jI)=ls.map AM:=by rw[cj];exact bw fun x _=>rfl
theorem YE(k γ:Nat)(h:List V)(t:List (List V)):pv k γ (h::t)=.vec 0 k γ (t.length+1):=rfl
theorem slN:sl []=.nil:=rfl
theorem slC(e:List V)(es:List (List V)):sl (e::es)=.list false (e::es):=rfl
theorem PI(l k:Nat)(o:Option (Nat×AX))(f:Nat)(es:List (List V)):BF l k o f (sl es)=sl es:=by cases f<;>cases es<;>rfl
theorem APE(ls:List (List Int))(h1:ls.length<=100)(h2:∀l∈ls,l.length<=100):∀(d k c γ:Nat),k+d=ls.length->∃fr c' γ',fr=[(8,true,V.bool false),(7,true,i ls.length),(6,true,KC ls),(5,true,i ls.length),(0,true,KC ls),(3,true,pv 18 γ' (ls.map AM)),(4,true,i ls.length)]/\∀n m,d<m->BT (AF cq ann kn (n+200) 20) YL (ann 20 (CA YL)) m ⟨c,[(0,true,KC ls),(3,true,pv 18 γ ((ls.take k).map AM)),(4,true,i k)],⟨[],pl 18 γ 22 ((ls.take k).map AM)⟩⟩ =
  some (.exit 0,⟨c',fr,⟨[],pl 18 γ' 22 (ls.map AM)⟩⟩)
 |0,k,c,γ,hk=>by
  have:k=ls.length:=by omega
  subst this;rw[bf];refine⟨_,c,γ,rfl,fun n m hm=>?_⟩;obtain⟨m,rfl⟩:=qNz m (by omega);rw[AB];simp
 |d+1,k,c,γ,hk=>by
  have hk':k<ls.length:=by omega
  have hw:=CB (k:=k) (by omega);have h3:=h2 _ (bg hk');have hst:(ls.take (k+1)).map AM=(ls.take k).map AM++[AM ls[k]]:=by rw[bk hk',bn];rfl
  have hRl:((ls.take k).map AM).length=k:=by rw[bp,bh];omega
  have hto:=fun o=>AHQ 0 16 o (ls.take k);have hR1:∀e∈(ls.take k).map AM,e.length=1:=fun e he=>by obtain⟨l,_,rfl⟩:=bc.1 he;rfl
  have hwk:=A0H (ls.take k);have ha:=fun q g n=>A0G (k:=((ls.take k).map AM).length) (by omega) q g n;have hai:=A7U (k:=0) (l:=ls[k]) (by omega);generalize hLk:ls[k]=L at *;cases L with
  |nil=>
   obtain⟨fr,c',γ',e1,ih⟩:=APE ls h1 h2 d (k+1) (c+1+1) (c+1) (by omega)
   refine⟨fr,c',γ',e1,fun n m hm=>?_⟩
   obtain⟨m,rfl⟩:=qNz m (by omega)
   have ih:=ih n m (by omega)
   rw[hst]at ih
   generalize ls.map AM=fin at *
   generalize (ls.take k).map AM=R at *
   rw[AB]
   simp[AM]at hai
   cases R with
   |nil=>simp[AM,li,YE]at ih ha;simp[show c+1+1=c+2 from rfl,hk',hw,hLk,AM,AH,ha,hai,ih,AW,DJ,FE,GP,BH,BJ,A0,D3,DO]
   |cons r R=>
    have hR2:=hR1 r (by simp)
    have hR3:=eq_true (fun e he=>hR1 e (bj r he):∀e∈R,e.length=1)
    simp[AM,li,YE]at ih ha hto hwk
    simp[show c+1+1=c+2 from rfl,hk',hw,hLk,AM,AH,ha,hai,ih,hto,hwk,hR2,hR3,PI,YE,AW,DJ,FE,GP,BH,BJ,A0,D3,DO]
  |cons x L=>
   obtain⟨fr,c',γ',e1,ih⟩:=APE ls h1 h2 d (k+1) (c+1+1) (c+1) (by omega)
   refine⟨fr,c',γ',e1,fun n m hm=>?_⟩
   obtain⟨m,rfl⟩:=qNz m (by omega)
   have ih:=ih n m (by omega)
   rw[hst]at ih
   generalize ls.map AM=fin at *
   generalize (ls.take k).map AM=R at *
   rw[AB]
   simp[AM,AH]at hai
   cases R with
   |nil=>simp[AM,AH,li,YE]at ih ha;simp[show c+1+1=c+2 from rfl,hk',hw,hLk,AM,AH,ha,hai,ih,AW,DJ,FE,GP,BH,BJ,A0,D3,DO]
   |cons r R=>
    have hR2:=hR1 r (by simp)
    have hR3:=eq_true (fun e he=>hR1 e (bj r he):∀e∈R,e.length=1)
    simp[AM,AH,li,YE]at ih ha hto hwk
    simp[show c+1+1=c+2 from rfl,hk',hw,hLk,AM,AH,ha,hai,ih,hto,hwk,hR2,hR3,PI,YE,AW,DJ,FE,GP,BH,BJ,A0,D3,DO]
theorem AHR(n:Nat)(ls:List (List Int))(h1:ls.length<=100)(h2:∀l∈ls,l.length<=100):BA cq kn (AF cq ann kn (n+400)) 69 [KC ls]=some (sl (ls.map AM)):=by rw[AR rfl,AS Tryz.func69 b69 rfl (by simp[AH,AM])];obtain⟨fr,c',γ',e1,q⟩:=APE ls h1 h2 ls.length 0 0 0 (by omega);have q:=fun n m=>q n (m+200) (by omega);simp at q e1;simp[c69,AD,q,e1,AM,AH]
theorem AHS(l k:Nat)(o:Option (Nat×AX))(ls:List (List Bool)):(ls.map AO).map (ck (BF l k o 3))=ls.map AO:=by rw[cj];exact bw fun x _=>rfl
theorem A0I(ls:List (List Bool)):(ls.map AO).map (ck jI)=ls.map AO:=by rw[cj];exact bw fun x _=>rfl
theorem C4{P:Program}{fr:Fr}{s:St}(e d c:Nat)(ys:List (List V))(h:BZ P e 0 ys=true):sH P e d c fr s .nil ys=some (⟨c+1,(d,true,.vec s.up.length d c ys.length)::fr,s.put s.up.length d c (.vec e ys)⟩,[(s.up.length,d),(s.up.length,d+FE)]):=by unfold sH;simp[I3,h]
theorem A0J{k:Nat}{l:List Bool}(h:k+l.length<=100000):BZ cq 4 k (l.map AZ)=true:=by rw[CC (by simp) (by simp)];simp[maxLen,AZ];omega
theorem A0K{k:Nat}(hk:k<=100000)(q g n:Nat):BZ cq 97 k [[.vec 0 q g n]]=true:=by rw[CC (by simp) (by simp)];simp[maxLen];omega
theorem A0L{k:Nat}{l:List QN}(h:k+l.length<=100000):BZ cq 94 k (l.map AP)=true:=by rw[CC (by simp) (by simp)];simp[maxLen,AP];omega
abbrev bxC(b:AN)(p:List (List Int))(v w:V):AX:=.box (FA b++[sl (p.map AM),v,w])
theorem APF(c:AU)(h1:c.chairs.length<=100)(h2:∀l∈c.chairs,l.length<=100)(cs2:List V)(hcs:∀o,cs2.map (BF 0 28 o 3)=cs2):∀(d k g γ:Nat),k+d=c.chairs.length->2<g->∃g' γ',g<=g'/\∀n m,d<m->BT (AF cq ann kn (n+200) 59) YM (ann 59 (CA YM)) m ⟨g,[(1,true,.ptr 0 1 0 0),(2,true,.ptr 0 2 1 0),(3,true,.ptr 0 3 2 0),(4,true,i k)],⟨[],(1,0,.box (AE c))::(2,1,.box cs2)::(3,2,bxC c.beach c.plan (pv 30 γ ((c.chairs.take k).map AO)) .nil)::pl 30 γ 97 ((c.chairs.take k).map AO)⟩⟩ =
  some (.exit 0,⟨g',[(18,true,.bool false),(17,true,i c.chairs.length),(16,true,.list false (c.chairs.map AO)),(15,true,.ptr 0 1 0 10),(14,true,i c.chairs.length),(1,true,.ptr 0 1 0 0),(2,true,.ptr 0 2 1 0),(3,true,.ptr 0 3 2 0),(4,true,i c.chairs.length)],⟨[],(1,0,.box (AE c))::(2,1,.box cs2)::(3,2,bxC c.beach c.plan (pv 30 γ' (c.chairs.map AO)) .nil)::pl 30 γ' 97 (c.chairs.map AO)⟩⟩)
 |0,k,g,γ,hk,hg=>by
  have:k=c.chairs.length:=by omega
  subst this;rw[bf];refine⟨g,γ,Nat.le_refl _,fun n m hm=>?_⟩;obtain⟨m,rfl⟩:=qNz m (by omega);rw[AB];simp only[AE,bxC,FA];cases c.chairs<;>simp
 |d+1,k,g,γ,hk,hg=>by
  have hk':k<c.chairs.length:=by omega
  have hw:=CB (k:=k) (by omega);have h3:=h2 _ (bg hk');have hst:(c.chairs.take (k+1)).map AO=(c.chairs.take k).map AO++[AO c.chairs[k]]:=by rw[bk hk',bn];rfl
  have hRl:((c.chairs.take k).map AO).length=k:=by rw[bp,bh];omega
  have hto:=fun o=>AHS 0 28 o (c.chairs.take k);have hwk:=A0I (c.chairs.take k);have hR1:∀e∈(c.chairs.take k).map AO,e.length=1:=fun e he=>by obtain⟨l,_,rfl⟩:=bc.1 he;rfl
  have ha:=fun q g n=>A0K (k:=((c.chairs.take k).map AO).length) (by omega) q g n;have hai:=A0J (k:=0) (l:=c.chairs[k]) (by omega);generalize hLk:c.chairs[k]=L at *;cases L with
  |nil=>
   obtain⟨g',γ',hgg,ih⟩:=APF c h1 h2 cs2 hcs d (k+1) (g+1+1) (g+1) (by omega) (by omega)
   refine⟨g',γ',by omega,fun n m hm=>?_⟩
   obtain⟨m,rfl⟩:=qNz m (by omega)
   have ih:=ih n m (by omega)
   rw[hst]at ih
   generalize (c.chairs.take k).map AO=R at *
   rw[AB]
   simp only[AE,bxC,FA]at ih|-
   simp[AO]at hai
   cases R with
   |nil=>simp[AO,lb,YE]at ih ha;simp[show g+1+1=g+2 from rfl,hk',hw,hLk,AO,AZ,ha,hai,hcs,PI,ih,AW,DJ,FE,C4,BH,BJ,A0,D3,DO,show 2<g+2 by omega]
   |cons r R=>
    have hR2:=hR1 r (by simp)
    have hR3:=eq_true (fun e he=>hR1 e (bj r he):∀e∈R,e.length=1)
    simp[AO,lb,YE]at ih ha hto hwk
    simp[show g+1+1=g+2 from rfl,hk',hw,hLk,AO,AZ,ha,hai,hcs,ih,hto,hwk,hR2,hR3,PI,YE,AW,DJ,FE,C4,BH,BJ,A0,D3,DO,show 2<g+2 by omega]
  |cons x L=>
   obtain⟨g',γ',hgg,ih⟩:=APF c h1 h2 cs2 hcs d (k+1) (g+1+1) (g+1) (by omega) (by omega)
   refine⟨g',γ',by omega,fun n m hm=>?_⟩
   obtain⟨m,rfl⟩:=qNz m (by omega)
   have ih:=ih n m (by omega)
   rw[hst]at ih
   generalize (c.chairs.take k).map AO=R at *
   rw[AB]
   simp only[AE,bxC,FA]at ih|-
   simp[AO,AZ]at hai
   cases R with
   |nil=>simp[AO,AZ,lb,YE]at ih ha;simp[show g+1+1=g+2 from rfl,hk',hw,hLk,AO,AZ,ha,hai,hcs,PI,ih,AW,DJ,FE,C4,BH,BJ,A0,D3,DO,show 2<g+2 by omega]
   |cons r R=>
    have hR2:=hR1 r (by simp)
    have hR3:=eq_true (fun e he=>hR1 e (bj r he):∀e∈R,e.length=1)
    simp[AO,AZ,lb,YE]at ih ha hto hwk
    simp[show g+1+1=g+2 from rfl,hk',hw,hLk,AO,AZ,ha,hai,hcs,ih,hto,hwk,hR2,hR3,PI,YE,AW,DJ,FE,C4,BH,BJ,A0,D3,DO,show 2<g+2 by omega]
theorem A0M(c:AU)(h1:c.fams.length<=100)(cs2:List V)(γ3:Nat)(R:List (List V)):∀(d k g γ:Nat),k+d=c.fams.length->2<g->∃g' γ',g<=g'/\∀n m,d<m->BT (AF cq ann kn (n+200) 59) YN (ann 59 (CA YN)) m ⟨g,[(1,true,.ptr 0 1 0 0),(2,true,.ptr 0 2 1 0),(3,true,.ptr 0 3 2 0),(5,true,i k)],⟨[],(1,0,.box (AE c))::(2,1,.box cs2)::(3,2,bxC c.beach c.plan (pv 30 γ3 R) (pv 56 γ ((c.fams.take k).map AP)))::(pl 30 γ3 97 R++pl 56 γ 94 ((c.fams.take k).map AP))⟩⟩ =
  some (.exit 2,⟨g',[(36,true,.bool false),(35,true,i c.fams.length),(34,true,.list false (c.fams.map AP)),(33,true,.ptr 0 1 0 11),(32,true,i c.fams.length),(1,true,.ptr 0 1 0 0),(2,true,.ptr 0 2 1 0),(3,true,.ptr 0 3 2 0),(5,true,i c.fams.length)],⟨[],(1,0,.box (AE c))::(2,1,.box cs2)::(3,2,bxC c.beach c.plan (pv 30 γ3 R) (pv 56 γ' (c.fams.map AP)))::(pl 30 γ3 97 R++pl 56 γ' 94 (c.fams.map AP))⟩⟩)
 |0,k,g,γ,hk,hg=>by
  have:k=c.fams.length:=by omega
  subst this;rw[bf];refine⟨g,γ,Nat.le_refl _,fun n m hm=>?_⟩;obtain⟨m,rfl⟩:=qNz m (by omega);rw[AB];simp only[AE,bxC,FA];cases R<;>cases c.fams<;>simp
 |d+1,k,g,γ,hk,hg=>by
  have hk':k<c.fams.length:=by omega
  have hw:=CB (k:=k) (by omega);have hst:(c.fams.take (k+1)).map AP=(c.fams.take k).map AP++[AP c.fams[k]]:=by rw[bk hk',bn];rfl
  have hRl:((c.fams.take k).map AP).length=k:=by rw[bp,bh];omega
  have hS1:∀e∈(c.fams.take k).map AP,e.length=4:=fun e he=>by obtain⟨l,_,rfl⟩:=bc.1 he;rfl
  have ha:=A0L (k:=((c.fams.take k).map AP).length) (l:=[c.fams[k]]) (by rw[hRl];simp;omega);obtain⟨g',γ',hgg,ih⟩:=A0M c h1 cs2 γ3 R d (k+1) (g+1+1) (g+1) (by omega) (by omega);refine⟨g',γ',by omega,fun n m hm=>?_⟩;obtain⟨m,rfl⟩:=qNz m (by omega);have ih:=ih n m (by omega);rw[hst]at ih;generalize (c.fams.take k).map AP=S at *;generalize hLk:c.fams[k]=f at *;rw[AB];simp only[AE,bxC,FA]at ih|-;cases S with
  |nil=>cases R<;>(simp[AP,YE]at ih ha;simp[hk',hw,hLk,AP,YE,ha,ih,AW,DJ,FE,C4,BH,BJ,A0,D3,DO,show 0<g by omega,show 1<g by omega,show 2<g by omega])
  |cons q S=>
   have hS2:=hS1 q (by simp)
   have hS3:=eq_true (fun e he=>hS1 e (bj q he):∀e∈S,e.length=4)
   cases R<;>(simp[AP,YE]at ih ha;simp[hk',hw,hLk,AP,YE,ha,ih,hS2,hS3,AW,DJ,FE,C4,BH,BJ,A0,D3,DO,show 0<g by omega,show 1<g by omega,show 2<g by omega])
def HR(c:AU):List V:=FA c.beach++[sl (c.plan.map AM),sl (c.chairs.map AO),sl (c.fams.map AP)]
theorem fX(n:Nat)(c:AU)(ht:JD c=true):BA cq kn (AF cq ann kn (n+900)) 21 [.agg (AE c)]=some (.agg (HR c)):=by
 rw[AR rfl,AS Tryz.func21 b21 rfl (by simp[AE,AH,AM,AL,AO,AZ,AP])];obtain⟨t1,t2,t3,t4,t5,t6⟩:=G8 ht;simp only[W3,Bool.and_eq_true,bz,Bool.or_eq_false_iff,Bool.not_eq_false',decide_eq_false_iff_not]at t1;obtain⟨⟨⟨⟨⟨u1,u2⟩,u3⟩,u4⟩,u5⟩,_⟩:=t1;obtain⟨u6,u7⟩:=V2 u3;have qB:=fun n=>AUW n c.beach (by omega) (by omega) (by omega) (fun l hl=>by have:=u7 l hl;omega) (by omega) (by omega);have qL:=fun n=>AHR n c.plan (by omega) (fun l hl=>by have:=t5 l hl;omega);have hz:∀o,([i 0,i 0,i 0,i 0,.nil,.nil,.nil,.nil,.nil,.nil,.nil,.nil]:List V).map (BF 0 28 o 3)=[i 0,i 0,i 0,i 0,.nil,.nil,.nil,.nil,.nil,.nil,.nil,.nil]:=fun o=>rfl;obtain⟨g1,γ1,h1,q1⟩:=APF c (by omega) (fun l hl=>by have:=t6 l hl;omega) _ hz c.chairs.length 0 3 0 (by omega) (by omega);obtain⟨g2,γ2,h2,q2⟩:=A0M c (by omega) [i 0,i 0,i 0,i 0,.nil,.nil,.nil,.nil,.nil,.nil,.nil,.nil] γ1 (c.chairs.map AO) c.fams.length 0 g1 0 (by omega) (by omega);have q1:=fun n m=>q1 n (m+100) (by omega);have q2:=fun n m=>q2 n (m+100) (by omega);rw[show(c.chairs.take 0).map AO=[] from rfl]at q1;rw[show(c.fams.take 0).map AP=[] from rfl]at q2;have hg2:1<g2:=by omega
 have c1:∀e∈c.chairs.map AO,∀v∈e,AG 7 v=true:=fun e he v hv=>by obtain⟨l,_,rfl⟩:=bc.1 he;simp only[AO,List.mem_cons,List.not_mem_nil,or_false]at hv;subst hv;simp[AZ]
 have c2:∀e∈c.fams.map AP,∀v∈e,AG 7 v=true:=fun e he v hv=>by obtain⟨l,_,rfl⟩:=bc.1 he;simp only[AP,List.mem_cons,List.not_mem_nil,or_false]at hv;rcases hv with rfl|rfl|rfl|rfl<;>rfl
 unfold HR;simp only[AE,AC,bxC,FA]at q1 q2 qB qL|-;generalize c.chairs.map AO=R at *;generalize c.fams.map AP=S at *;cases R with
 |nil=>
  cases S with
  |nil=>
   simp at q1 q2
   simp[c21,AD,qB,qL,q1,q2,hg2,YE,slN,slC,AW,DJ,FE,BH,BJ,A0,D3,DO]
  |cons t S=>
   have s1:=eq_true (c2 t (by simp))
   have s2:=eq_true (fun e he=>c2 e (bj t he):∀e∈S,∀v∈e,AG 7 v=true)
   simp[YE]at q1 q2
   simp[c21,AD,qB,qL,q1,q2,s1,s2,hg2,YE,slN,slC,AW,DJ,FE,BH,BJ,A0,D3,DO]
 |cons r R=>
  have r1:=eq_true (c1 r (by simp))
  have r2:=eq_true (fun e he=>c1 e (bj r he):∀e∈R,∀v∈e,AG 7 v=true)
  cases S with
  |nil=>
   simp[YE]at q1 q2
   simp[c21,AD,qB,qL,q1,q2,r1,r2,hg2,YE,slN,slC,AW,DJ,FE,BH,BJ,A0,D3,DO]
  |cons t S=>
   have s1:=eq_true (c2 t (by simp))
   have s2:=eq_true (fun e he=>c2 e (bj t he):∀e∈S,∀v∈e,AG 7 v=true)
   simp[YE]at q1 q2
   simp[c21,AD,qB,qL,q1,q2,r1,r2,s1,s2,hg2,YE,slN,slC,AW,DJ,FE,BH,BJ,A0,D3,DO]
end Go.Proofs.Tryz.Op
namespace Go.Wind
end Go.Wind
namespace Go.Proofs.Tryz.Op
end Go.Proofs.Tryz.Op
namespace Go.Wind
end Go.Wind
namespace Go.Proofs.Tryz.Op
section
variable (c:AU)(G:List (Nat×Int))(ss:List (Int×Int))(t q:Nat)
end
end Go.Proofs.Tryz.Op
namespace Go.Wind
open Go.Proofs.Tryz.Op
theorem Q5{c:AU}(hc:CW c)(out:List Int):∀(k:Nat),k<=c.fams.length->∀g∈C7 c.fams out k,g.1<c.fams.length/\1<=g.2/\g.2<=4
 |0,_,g,hg=>by cases hg
 |k+1,hk,g,hg=>by
  simp only[C7,List.mem_append]at hg;rcases hg with hg|hg
  ·exact Q5 hc out k (by omega) g hg
  ·split at hg
   ·cases hg
   ·rw[List.mem_singleton]at hg;subst hg;have hk':k<c.fams.length:=by omega
    have e:c.fams.getD k ⟨0,0,false,false⟩=c.fams[k]:=by rw[List.getD_eq_getElem?_getD,List.getElem?_eq_getElem hk'];rfl
    have:=hc.fo _ (bg hk');simp only[e];exact⟨hk',this.1⟩
end Go.Wind
namespace Go.Proofs.Tryz.Op
theorem AME(c:AU)(hl:c.chairs.length<=100):∀(d k:Nat),k+d=c.chairs.length->∃fr,BS fr 1=some (true,.ptr 0 1 0 0) /\
  ∀n m,d<m->BT (AF cq ann kn (n+100) 76) SZ (ann 76 (CA SZ)) m ⟨1,[(1,true,.ptr 0 1 0 0),(4,true,i k)],⟨[],[(1,0,.box (AE c))]⟩⟩ =
   if (c.chairs.drop k).all (fun l=>decide ((l.length:Int)=c.beach.places))=true then some (.exit 0,⟨1,fr,⟨[],[(1,0,.box (AE c))]⟩⟩) else some (.ret,⟨1,[(2,true,i 1)],⟨[],[]⟩⟩)
 |0,k,hk=>by
  have:k=c.chairs.length:=by omega
  subst this;rw[bx];refine⟨?fr,?g1,fun n m hm=>?g2⟩;case g2=>
   obtain⟨m,rfl⟩:=qNz m (by omega)
   rw[AB]
   simp[AE]
   rfl
  case g1=>simp
 |d+1,k,hk=>by
  have hk':k<c.chairs.length:=by omega
  have hw:=CB (k:=k) (by omega);obtain⟨fr,e1,ih⟩:=AME c hl d (k+1) (by omega);rw[bq hk',bm];refine⟨fr,e1,fun n m hm=>?_⟩;obtain⟨m,rfl⟩:=qNz m (by omega);have ih:=ih n m (by omega);generalize e1:decide ((c.chairs[k].length:Int)=c.beach.places)=z1;generalize (c.chairs.drop (k+1)).all (fun l=>decide ((l.length:Int)=c.beach.places))=z at ih|-;rw[AB];simp only[AE]at ih|-;cases z1<;>cases z<;>(simp at ih;simp[AO,hk',hw,e1,ih])
theorem AMF(c:AU)(hl:c.fams.length<=100):∀(d k:Nat),k+d=c.fams.length->∃fr,
  ∀n m,d<m->BT (AF cq ann kn (n+200) 76) S0 (ann 76 (CA S0)) m ⟨1,[(1,true,.ptr 0 1 0 0),(5,true,i k)],⟨[],[(1,0,.box (AE c))]⟩⟩ =
   if (c.fams.drop k).all HF=true then some (.exit 2,⟨1,fr,⟨[],[(1,0,.box (AE c))]⟩⟩) else some (.ret,⟨1,[(2,true,i 1)],⟨[],[]⟩⟩)
 |0,k,hk=>by
  have:k=c.fams.length:=by omega
  subst this;rw[bx];refine⟨?fr,fun n m hm=>?g2⟩;case g2=>
   obtain⟨m,rfl⟩:=qNz m (by omega)
   rw[AB]
   simp[AE]
   rfl
 |d+1,k,hk=>by
  have hk':k<c.fams.length:=by omega
  have hw:=CB (k:=k) (by omega);obtain⟨fr,ih⟩:=AMF c hl d (k+1) (by omega);rw[bq hk',bm];refine⟨fr,fun n m hm=>?_⟩;obtain⟨m,rfl⟩:=qNz m (by omega);have ih:=ih n m (by omega);have ef:HF c.fams[k]=(IJ c.fams[k].size 1 4&&IJ c.fams[k].good 0 5):=rfl;have q1:=fun n=>kIn n c.fams[k].size 1 4;have q2:=fun n=>kIn n c.fams[k].good 0 5;rw[ef];generalize IJ c.fams[k].size 1 4=z1 at *;generalize IJ c.fams[k].good 0 5=z2 at *;generalize (c.fams.drop (k+1)).all HF=z at ih|-;rw[AB];simp only[AE]at ih|-;cases z1<;>cases z2<;>cases z<;>(simp at ih;simp[AP,hk',hw,q1,q2,ih])
theorem AHT(n:Nat)(c:AU)(hw:∀l∈c.beach.winds,l.length<=100)(hp:c.plan.length<=100)(hch:c.chairs.length<=100):BA cq kn (AF cq ann kn (n+2400)) 70 [.agg (AE c)]=some (i (DE c)):=by
 rw[AR rfl,AS Tryz.func70 b70 rfl (by simp[AE,AH,AM,AL,AO,AZ,AP])];have qf:=fun n=>AGY n c.beach hw;unfold DE;by_cases a1:3<c.fams.length
 ·have e1:(3:Int)<(c.fams.length:Int):=by omega
  rw[if_pos a1];simp only[AE];simp[c70,AD,e1]
 rw[if_neg a1];have e1:¬(3:Int)<(c.fams.length:Int):=by omega
 by_cases a2:DZ c.beach≠0
 ·rw[if_pos a2];simp only[AE,AC]at qf|-;simp[c70,AD,e1,qf,a2,AM,AH,AL]
 rw[if_neg a2];have a2:DZ c.beach=0:=by simpa using a2
 have hb:=TB a2;have qp:=fun n=>AGS n c.beach hb c.plan hp;have qt:=fun n=>xH n c.beach hb;rw[a2]at qf;by_cases a3:EP c.beach c.plan=false
 ·rw[if_pos a3];rw[a3]at qp;simp only[AE,AC]at qf qp|-;simp[c70,AD,e1,qf,qp,AM,AH,AL]
 rw[if_neg a3];have a3:EP c.beach c.plan=true:=by simpa using a3
 rw[a3]at qp;by_cases a4:CE c.beach=[]
 ·rw[if_pos a4];rw[a4]at qt;simp only[AE,AC]at qf qp qt|-;simp at qt;simp[c70,AD,e1,qf,qp,qt,AM,AH,AL]
 rw[if_neg a4];have a4':¬((CE c.beach).length:Int)=0:=fun h=>a4 (List.eq_nil_of_length_eq_zero (by omega));by_cases a5:(c.chairs.length:Int)=c.beach.rows
 ·have ec:FB c=c.chairs.all (fun l=>decide ((l.length:Int)=c.beach.places)):=by unfold FB;rw[decide_eq_true a5,Bool.true_and]
  rw[ec];obtain⟨f1,g1,q1⟩:=AME c hch c.chairs.length 0 (by omega);obtain⟨f2,q2⟩:=AMF c (by omega) c.fams.length 0 (by omega);have q1:=fun n m=>q1 n (m+101) (by omega);have q2:=fun n m=>q2 n (m+101) (by omega);rw[List.drop_zero]at q1 q2;generalize c.chairs.all (fun l=>decide ((l.length:Int)=c.beach.places))=y1 at *;generalize c.fams.all HF=y2 at *;generalize CE c.beach=T at *;simp only[AE,AC]at qf qp qt q1 q2|-;cases y1<;>cases y2<;>(simp at q1 q2;simp[c70,AD,e1,qf,qp,qt,a4,a4',a5,q1,q2,g1,AM,AH,AL])
 ·have ec:FB c=false:=by unfold FB;rw[decide_eq_false a5,Bool.false_and]
  rw[if_pos ec];generalize CE c.beach=T at *;simp only[AE,AC]at qf qp qt|-;simp[c70,AD,e1,qf,qp,qt,a4,a4',a5,AM,AH,AL]
end Go.Proofs.Tryz.Op
