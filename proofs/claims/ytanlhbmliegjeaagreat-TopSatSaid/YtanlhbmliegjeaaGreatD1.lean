/- The reference's test of a seating, one group after another, is the program's. No program in sight. -/
import Derived.Test.YtanlhbmliegjeaaGreatDe
import Derived.Test.YtanlhbmliegjeaaGreatEa
open Go.Proofs.Tryz renaming prog->ck
open List renaming mem_cons_of_mem->bj,take_succ_eq_append_getElem->bk,drop_eq_getElem_cons->bq,map_congr_left->bw,drop_length->bx,mem_map->bb,getElem_mem->bc,take_length->bf,length_take->bg,all_cons->bh,map_append->bm,length_map->bn,map_map->bp,map->cj
open Bool renaming not_eq_true'->bz
set_option maxRecDepth 100000
set_option linter.unusedSimpArgs false
namespace Go.Wind
open Go.Proofs.Tryz.Op
theorem W3{c:A0}(hc:CJ c)(out:List Int):∀(k:Nat),k<=c.fams.length->∀g∈DA c.fams out k,g.1<c.fams.length/\1<=g.2/\g.2<=4
 |0,_,g,hg=>by cases hg
 |k+1,hk,g,hg=>by
  simp only[DA,List.mem_append]at hg;rcases hg with hg|hg
  ·exact W3 hc out k (by omega) g hg
  ·split at hg
   ·cases hg
   ·rw[List.mem_singleton]at hg;subst hg;have hk':k<c.fams.length:=by omega
    have e:c.fams.getD k ⟨0,0,false,false⟩=c.fams[k]:=by rw[List.getD_eq_getElem?_getD,List.getElem?_eq_getElem hk'];rfl
    have:=hc.fo _ (bc hk');simp only[e];exact⟨hk',this.1⟩
end Go.Wind
open Go Go.Pg Go.Proofs Go.Wind
namespace Go.Proofs.Tryz.Op
def JK{α:Type}(l:List α):Bool:=!decide ((7:Int)<(l.length:Int))
def cZ(c:A0):Bool:=(VZ c.beach&&(JK c.plan&&(JK c.chairs&&!decide ((5:Int)<(c.fams.length:Int)))))&&(c.plan.all JK&&c.chairs.all JK)
theorem xI{α:Type}{l:List α}:JK l=true↔l.length<=7:=by simp only[JK,bz,decide_eq_false_iff_not];omega
theorem W4{c:A0}(h:cZ c=true):VZ c.beach=true/\c.plan.length<=7/\c.chairs.length<=7/\c.fams.length<=5/\(∀l∈c.plan,l.length<=7)/\∀l∈c.chairs,l.length<=7:=by simp only[cZ,Bool.and_eq_true,xI,List.all_eq_true,bz,decide_eq_false_iff_not]at h;exact⟨h.1.1,h.1.2.1,h.1.2.2.1,by omega,h.2.1,h.2.2⟩
theorem AZV(c:A0)(hl:c.plan.length<=100):∀(d k:Nat),k+d=c.plan.length->∃fr,BQ fr 1=some (true,.ptr 0 1 0 0) /\
  ∀n m,d<m->BG (AE ck ann kn (n+100) 55) jQ (ann 55 (BX jQ)) m ⟨1,[(1,true,.ptr 0 1 0 0),(3,true,i k)],⟨[],[(1,0,.box (AF c))]⟩⟩ =
   if (c.plan.drop k).all JK=true then some (.exit 0,⟨1,fr,⟨[],[(1,0,.box (AF c))]⟩⟩) else some (.ret,⟨1,[(2,true,.bool false)],⟨[],[]⟩⟩)
 |0,k,hk=>by
  have:k=c.plan.length:=by omega
  subst this;rw[bx];refine⟨?fr,?g1,fun n m hm=>?g2⟩;case g2=>
   obtain⟨m,rfl⟩:=qNz m (by omega)
   rw[AC]
   simp[AF]
   rfl
  case g1=>simp
 |d+1,k,hk=>by
  have hk':k<c.plan.length:=by omega
  have hw:=BS (k:=k) (by omega);obtain⟨fr,e1,ih⟩:=AZV c hl d (k+1) (by omega);rw[bq hk',bh];refine⟨fr,e1,fun n m hm=>?_⟩;obtain⟨m,rfl⟩:=qNz m (by omega);have ih:=ih n m (by omega);have es:JK c.plan[k]=!decide ((7:Int)<(c.plan[k].length:Int)):=rfl;rw[es];generalize e1:decide ((7:Int)<(c.plan[k].length:Int))=z1;generalize (c.plan.drop (k+1)).all JK=z at ih|-;rw[AC];simp only[AF]at ih|-;cases z1<;>cases z<;>(simp at ih;simp[AN,hk',hw,e1,ih])
theorem AZW(c:A0)(hl:c.chairs.length<=100):∀(d k:Nat),k+d=c.chairs.length->∃fr,BQ fr 1=some (true,.ptr 0 1 0 0) /\
  ∀n m,d<m->BG (AE ck ann kn (n+100) 55) jR (ann 55 (BX jR)) m ⟨1,[(1,true,.ptr 0 1 0 0),(4,true,i k)],⟨[],[(1,0,.box (AF c))]⟩⟩ =
   if (c.chairs.drop k).all JK=true then some (.exit 2,⟨1,fr,⟨[],[(1,0,.box (AF c))]⟩⟩) else some (.ret,⟨1,[(2,true,.bool false)],⟨[],[]⟩⟩)
 |0,k,hk=>by
  have:k=c.chairs.length:=by omega
  subst this;rw[bx];refine⟨?fr,?g1,fun n m hm=>?g2⟩;case g2=>
   obtain⟨m,rfl⟩:=qNz m (by omega)
   rw[AC]
   simp[AF]
   rfl
  case g1=>simp
 |d+1,k,hk=>by
  have hk':k<c.chairs.length:=by omega
  have hw:=BS (k:=k) (by omega);obtain⟨fr,e1,ih⟩:=AZW c hl d (k+1) (by omega);rw[bq hk',bh];refine⟨fr,e1,fun n m hm=>?_⟩;obtain⟨m,rfl⟩:=qNz m (by omega);have ih:=ih n m (by omega);have es:JK c.chairs[k]=!decide ((7:Int)<(c.chairs[k].length:Int)):=rfl;rw[es];generalize e1:decide ((7:Int)<(c.chairs[k].length:Int))=z1;generalize (c.chairs.drop (k+1)).all JK=z at ih|-;rw[AC];simp only[AF]at ih|-;cases z1<;>cases z<;>(simp at ih;simp[AS,hk',hw,e1,ih])
theorem AO5(n:Nat)(c:A0):AZ ck kn (AE ck ann kn (n+1400)) 4 [.agg (AF c)]=some (.bool (cZ c)):=by
 rw[AP rfl,AQ Tryz.func4 b4 rfl (by simp[AF,AH,AN,AM,AS,BD,AU])];have qT:=fun n=>A6M n c.beach;unfold cZ;have es:JK c.plan=!decide ((7:Int)<(c.plan.length:Int)):=rfl;have et:JK c.chairs=!decide ((7:Int)<(c.chairs.length:Int)):=rfl;rw[es,et];generalize e1:decide ((7:Int)<(c.plan.length:Int))=z1;generalize e2:decide ((7:Int)<(c.chairs.length:Int))=z2;generalize e3:decide ((5:Int)<(c.fams.length:Int))=z3;generalize VZ c.beach=z4 at *;simp only[AB]at qT;by_cases h:z4=true/\z1=false/\z2=false/\z3=false
 ·obtain⟨rfl,rfl,rfl,rfl⟩:=h;have h1:=of_decide_eq_false e1;have h2:=of_decide_eq_false e2;obtain⟨f1,g1,q1⟩:=AZV c (by omega) c.plan.length 0 (by omega);obtain⟨f2,g2,q2⟩:=AZW c (by omega) c.chairs.length 0 (by omega);have q1:=fun n m=>q1 n (m+100) (by omega);have q2:=fun n m=>q2 n (m+100) (by omega);rw[List.drop_zero]at q1 q2;generalize c.plan.all JK=y1 at *;generalize c.chairs.all JK=y2 at *;simp only[AF]at q1 q2|-;cases y1<;>cases y2<;>(simp at q1 q2;simp[c4,AD,qT,e1,e2,e3,q1,q2,g1,g2,AS,BD,AU,AM,AN,AH])
 ·simp only[AF]at|-;cases z4<;>cases z1<;>cases z2<;>cases z3<;>first|exact absurd ⟨rfl,rfl,rfl,rfl⟩ h|simp[c4,AD,qT,e1,e2,e3,AS,BD,AU,AM,AN,AH]
theorem AZX{k:Nat}(hk:k<=100000)(q g n:Nat):CG ck 22 k [[.vec 0 q g n]]=true:=by rw[C3 (by simp) (by simp)];simp[maxLen];omega
theorem AHG(l k:Nat)(o:Option (Nat×AX))(ls:List (List Int)):(ls.map AN).map (cj (BA l k o 3))=ls.map AN:=by rw[bp];exact bw fun x _=>rfl
theorem AZY(ls:List (List Int)):(ls.map AN).map (cj jB)=ls.map AN:=by rw[bp];exact bw fun x _=>rfl
theorem W5(k γ:Nat)(h:List V)(t:List (List V)):pv k γ (h::t)=.vec 0 k γ (t.length+1):=rfl
theorem slN:sl []=.nil:=rfl
theorem slC(e:List V)(es:List (List V)):sl (e::es)=.list false (e::es):=rfl
theorem O0(l k:Nat)(o:Option (Nat×AX))(f:Nat)(es:List (List V)):BA l k o f (sl es)=sl es:=by cases f<;>cases es<;>rfl
theorem AO6(ls:List (List Int))(h1:ls.length<=100)(h2:∀l∈ls,l.length<=100):∀(d k c γ:Nat),k+d=ls.length->∃fr c' γ',fr=[(8,true,V.bool false),(7,true,i ls.length),(6,true,H6 ls),(5,true,i ls.length),(0,true,H6 ls),(3,true,pv 18 γ' (ls.map AN)),(4,true,i ls.length)]/\∀n m,d<m->BG (AE ck ann kn (n+200) 20) YD (ann 20 (BX YD)) m ⟨c,[(0,true,H6 ls),(3,true,pv 18 γ ((ls.take k).map AN)),(4,true,i k)],⟨[],pl 18 γ 22 ((ls.take k).map AN)⟩⟩ =
  some (.exit 0,⟨c',fr,⟨[],pl 18 γ' 22 (ls.map AN)⟩⟩)
 |0,k,c,γ,hk=>by
  have:k=ls.length:=by omega
  subst this;rw[bf];refine⟨_,c,γ,rfl,fun n m hm=>?_⟩;obtain⟨m,rfl⟩:=qNz m (by omega);rw[AC];simp
 |d+1,k,c,γ,hk=>by
  have hk':k<ls.length:=by omega
  have hw:=BS (k:=k) (by omega);have h3:=h2 _ (bc hk');have hst:(ls.take (k+1)).map AN=(ls.take k).map AN++[AN ls[k]]:=by rw[bk hk',bm];rfl
  have hRl:((ls.take k).map AN).length=k:=by rw[bn,bg];omega
  have hto:=fun o=>AHG 0 16 o (ls.take k);have hR1:∀e∈(ls.take k).map AN,e.length=1:=fun e he=>by obtain⟨l,_,rfl⟩:=bb.1 he;rfl
  have hwk:=AZY (ls.take k);have ha:=fun q g n=>AZX (k:=((ls.take k).map AN).length) (by omega) q g n;have hai:=A6I (k:=0) (l:=ls[k]) (by omega);generalize hLk:ls[k]=L at *;cases L with
  |nil=>
   obtain⟨fr,c',γ',e1,ih⟩:=AO6 ls h1 h2 d (k+1) (c+1+1) (c+1) (by omega)
   refine⟨fr,c',γ',e1,fun n m hm=>?_⟩
   obtain⟨m,rfl⟩:=qNz m (by omega)
   have ih:=ih n m (by omega)
   rw[hst]at ih
   generalize ls.map AN=fin at *
   generalize (ls.take k).map AN=R at *
   rw[AC]
   simp[AN]at hai
   cases R with
   |nil=>simp[AN,li,W5]at ih ha;simp[show c+1+1=c+2 from rfl,hk',hw,hLk,AN,AH,ha,hai,ih,A2,ED,IL,ES,B8,CL,BM,F3,FD]
   |cons r R=>
    have hR2:=hR1 r (by simp)
    have hR3:=eq_true (fun e he=>hR1 e (bj r he):∀e∈R,e.length=1)
    simp[AN,li,W5]at ih ha hto hwk
    simp[show c+1+1=c+2 from rfl,hk',hw,hLk,AN,AH,ha,hai,ih,hto,hwk,hR2,hR3,O0,W5,A2,ED,IL,ES,B8,CL,BM,F3,FD]
  |cons x L=>
   obtain⟨fr,c',γ',e1,ih⟩:=AO6 ls h1 h2 d (k+1) (c+1+1) (c+1) (by omega)
   refine⟨fr,c',γ',e1,fun n m hm=>?_⟩
   obtain⟨m,rfl⟩:=qNz m (by omega)
   have ih:=ih n m (by omega)
   rw[hst]at ih
   generalize ls.map AN=fin at *
   generalize (ls.take k).map AN=R at *
   rw[AC]
   simp[AN,AH]at hai
   cases R with
   |nil=>simp[AN,AH,li,W5]at ih ha;simp[show c+1+1=c+2 from rfl,hk',hw,hLk,AN,AH,ha,hai,ih,A2,ED,IL,ES,B8,CL,BM,F3,FD]
   |cons r R=>
    have hR2:=hR1 r (by simp)
    have hR3:=eq_true (fun e he=>hR1 e (bj r he):∀e∈R,e.length=1)
    simp[AN,AH,li,W5]at ih ha hto hwk
    simp[show c+1+1=c+2 from rfl,hk',hw,hLk,AN,AH,ha,hai,ih,hto,hwk,hR2,hR3,O0,W5,A2,ED,IL,ES,B8,CL,BM,F3,FD]
theorem AHH(n:Nat)(ls:List (List Int))(h1:ls.length<=100)(h2:∀l∈ls,l.length<=100):AZ ck kn (AE ck ann kn (n+400)) 20 [H6 ls]=some (sl (ls.map AN)):=by rw[AP rfl,AQ Tryz.func20 b20 rfl (by simp[AH,AN])];obtain⟨fr,c',γ',e1,q⟩:=AO6 ls h1 h2 ls.length 0 0 0 (by omega);have q:=fun n m=>q n (m+200) (by omega);simp at q e1;simp[c20,AD,q,e1,AN,AH]
theorem AHI(l k:Nat)(o:Option (Nat×AX))(ls:List (List Bool)):(ls.map AS).map (cj (BA l k o 3))=ls.map AS:=by rw[bp];exact bw fun x _=>rfl
theorem AZZ(ls:List (List Bool)):(ls.map AS).map (cj jB)=ls.map AS:=by rw[bp];exact bw fun x _=>rfl
theorem LB{P:Program}{fr:Fr}{s:St}(e d c:Nat)(ys:List (List V))(h:CG P e 0 ys=true):adV P e d c fr s .nil ys=some (⟨c+1,(d,true,.vec s.up.length d c ys.length)::fr,s.put s.up.length d c (.vec e ys)⟩,[(s.up.length,d),(s.up.length,d+IL)]):=by unfold adV;simp[I2,h]
theorem AZ0{k:Nat}{l:List Bool}(h:k+l.length<=100000):CG ck 4 k (l.map BD)=true:=by rw[C3 (by simp) (by simp)];simp[maxLen,BD];omega
theorem AZ1{k:Nat}(hk:k<=100000)(q g n:Nat):CG ck 63 k [[.vec 0 q g n]]=true:=by rw[C3 (by simp) (by simp)];simp[maxLen];omega
theorem AZ2{k:Nat}{l:List TD}(h:k+l.length<=100000):CG ck 69 k (l.map AU)=true:=by rw[C3 (by simp) (by simp)];simp[maxLen,AU];omega
abbrev bxC(b:AL)(p:List (List Int))(v w:V):AX:=.box (IG b++[sl (p.map AN),v,w])
theorem AO7(c:A0)(h1:c.chairs.length<=100)(h2:∀l∈c.chairs,l.length<=100)(cs2:List V)(hcs:∀o,cs2.map (BA 0 28 o 3)=cs2):∀(d k g γ:Nat),k+d=c.chairs.length->2<g->∃g' γ',g<=g'/\∀n m,d<m->BG (AE ck ann kn (n+200) 59) jS (ann 59 (BX jS)) m ⟨g,[(1,true,.ptr 0 1 0 0),(2,true,.ptr 0 2 1 0),(3,true,.ptr 0 3 2 0),(4,true,i k)],⟨[],(1,0,.box (AF c))::(2,1,.box cs2)::(3,2,bxC c.beach c.plan (pv 30 γ ((c.chairs.take k).map AS)) .nil)::pl 30 γ 63 ((c.chairs.take k).map AS)⟩⟩ =
  some (.exit 0,⟨g',[(18,true,.bool false),(17,true,i c.chairs.length),(16,true,.list false (c.chairs.map AS)),(15,true,.ptr 0 1 0 10),(14,true,i c.chairs.length),(1,true,.ptr 0 1 0 0),(2,true,.ptr 0 2 1 0),(3,true,.ptr 0 3 2 0),(4,true,i c.chairs.length)],⟨[],(1,0,.box (AF c))::(2,1,.box cs2)::(3,2,bxC c.beach c.plan (pv 30 γ' (c.chairs.map AS)) .nil)::pl 30 γ' 63 (c.chairs.map AS)⟩⟩)
 |0,k,g,γ,hk,hg=>by
  have:k=c.chairs.length:=by omega
  subst this;rw[bf];refine⟨g,γ,Nat.le_refl _,fun n m hm=>?_⟩;obtain⟨m,rfl⟩:=qNz m (by omega);rw[AC];simp only[AF,bxC,IG];cases c.chairs<;>simp
 |d+1,k,g,γ,hk,hg=>by
  have hk':k<c.chairs.length:=by omega
  have hw:=BS (k:=k) (by omega);have h3:=h2 _ (bc hk');have hst:(c.chairs.take (k+1)).map AS=(c.chairs.take k).map AS++[AS c.chairs[k]]:=by rw[bk hk',bm];rfl
  have hRl:((c.chairs.take k).map AS).length=k:=by rw[bn,bg];omega
  have hto:=fun o=>AHI 0 28 o (c.chairs.take k);have hwk:=AZZ (c.chairs.take k);have hR1:∀e∈(c.chairs.take k).map AS,e.length=1:=fun e he=>by obtain⟨l,_,rfl⟩:=bb.1 he;rfl
  have ha:=fun q g n=>AZ1 (k:=((c.chairs.take k).map AS).length) (by omega) q g n;have hai:=AZ0 (k:=0) (l:=c.chairs[k]) (by omega);generalize hLk:c.chairs[k]=L at *;cases L with
  |nil=>
   obtain⟨g',γ',hgg,ih⟩:=AO7 c h1 h2 cs2 hcs d (k+1) (g+1+1) (g+1) (by omega) (by omega)
   refine⟨g',γ',by omega,fun n m hm=>?_⟩
   obtain⟨m,rfl⟩:=qNz m (by omega)
   have ih:=ih n m (by omega)
   rw[hst]at ih
   generalize (c.chairs.take k).map AS=R at *
   rw[AC]
   simp only[AF,bxC,IG]at ih|-
   simp[AS]at hai
   cases R with
   |nil=>simp[AS,lb,W5]at ih ha;simp[show g+1+1=g+2 from rfl,hk',hw,hLk,AS,BD,ha,hai,hcs,O0,ih,A2,ED,IL,LB,B8,CL,BM,F3,FD,show 2<g+2 by omega]
   |cons r R=>
    have hR2:=hR1 r (by simp)
    have hR3:=eq_true (fun e he=>hR1 e (bj r he):∀e∈R,e.length=1)
    simp[AS,lb,W5]at ih ha hto hwk
    simp[show g+1+1=g+2 from rfl,hk',hw,hLk,AS,BD,ha,hai,hcs,ih,hto,hwk,hR2,hR3,O0,W5,A2,ED,IL,LB,B8,CL,BM,F3,FD,show 2<g+2 by omega]
  |cons x L=>
   obtain⟨g',γ',hgg,ih⟩:=AO7 c h1 h2 cs2 hcs d (k+1) (g+1+1) (g+1) (by omega) (by omega)
   refine⟨g',γ',by omega,fun n m hm=>?_⟩
   obtain⟨m,rfl⟩:=qNz m (by omega)
   have ih:=ih n m (by omega)
   rw[hst]at ih
   generalize (c.chairs.take k).map AS=R at *
   rw[AC]
   simp only[AF,bxC,IG]at ih|-
   simp[AS,BD]at hai
   cases R with
   |nil=>simp[AS,BD,lb,W5]at ih ha;simp[show g+1+1=g+2 from rfl,hk',hw,hLk,AS,BD,ha,hai,hcs,O0,ih,A2,ED,IL,LB,B8,CL,BM,F3,FD,show 2<g+2 by omega]
   |cons r R=>
    have hR2:=hR1 r (by simp)
    have hR3:=eq_true (fun e he=>hR1 e (bj r he):∀e∈R,e.length=1)
    simp[AS,BD,lb,W5]at ih ha hto hwk
    simp[show g+1+1=g+2 from rfl,hk',hw,hLk,AS,BD,ha,hai,hcs,ih,hto,hwk,hR2,hR3,O0,W5,A2,ED,IL,LB,B8,CL,BM,F3,FD,show 2<g+2 by omega]
theorem AZ3(c:A0)(h1:c.fams.length<=100)(cs2:List V)(γ3:Nat)(R:List (List V)):∀(d k g γ:Nat),k+d=c.fams.length->2<g->∃g' γ',g<=g'/\∀n m,d<m->BG (AE ck ann kn (n+200) 59) jT (ann 59 (BX jT)) m ⟨g,[(1,true,.ptr 0 1 0 0),(2,true,.ptr 0 2 1 0),(3,true,.ptr 0 3 2 0),(5,true,i k)],⟨[],(1,0,.box (AF c))::(2,1,.box cs2)::(3,2,bxC c.beach c.plan (pv 30 γ3 R) (pv 56 γ ((c.fams.take k).map AU)))::(pl 30 γ3 63 R++pl 56 γ 69 ((c.fams.take k).map AU))⟩⟩ =
  some (.exit 2,⟨g',[(36,true,.bool false),(35,true,i c.fams.length),(34,true,.list false (c.fams.map AU)),(33,true,.ptr 0 1 0 11),(32,true,i c.fams.length),(1,true,.ptr 0 1 0 0),(2,true,.ptr 0 2 1 0),(3,true,.ptr 0 3 2 0),(5,true,i c.fams.length)],⟨[],(1,0,.box (AF c))::(2,1,.box cs2)::(3,2,bxC c.beach c.plan (pv 30 γ3 R) (pv 56 γ' (c.fams.map AU)))::(pl 30 γ3 63 R++pl 56 γ' 69 (c.fams.map AU))⟩⟩)
 |0,k,g,γ,hk,hg=>by
  have:k=c.fams.length:=by omega
  subst this;rw[bf];refine⟨g,γ,Nat.le_refl _,fun n m hm=>?_⟩;obtain⟨m,rfl⟩:=qNz m (by omega);rw[AC];simp only[AF,bxC,IG];cases R<;>cases c.fams<;>simp
 |d+1,k,g,γ,hk,hg=>by
  have hk':k<c.fams.length:=by omega
  have hw:=BS (k:=k) (by omega);have hst:(c.fams.take (k+1)).map AU=(c.fams.take k).map AU++[AU c.fams[k]]:=by rw[bk hk',bm];rfl
  have hRl:((c.fams.take k).map AU).length=k:=by rw[bn,bg];omega
  have hS1:∀e∈(c.fams.take k).map AU,e.length=4:=fun e he=>by obtain⟨l,_,rfl⟩:=bb.1 he;rfl
  have ha:=AZ2 (k:=((c.fams.take k).map AU).length) (l:=[c.fams[k]]) (by rw[hRl];simp;omega);obtain⟨g',γ',hgg,ih⟩:=AZ3 c h1 cs2 γ3 R d (k+1) (g+1+1) (g+1) (by omega) (by omega);refine⟨g',γ',by omega,fun n m hm=>?_⟩;obtain⟨m,rfl⟩:=qNz m (by omega);have ih:=ih n m (by omega);rw[hst]at ih;generalize (c.fams.take k).map AU=S at *;generalize hLk:c.fams[k]=f at *;rw[AC];simp only[AF,bxC,IG]at ih|-;cases S with
  |nil=>cases R<;>(simp[AU,W5]at ih ha;simp[hk',hw,hLk,AU,W5,ha,ih,A2,ED,IL,LB,B8,CL,BM,F3,FD,show 0<g by omega,show 1<g by omega,show 2<g by omega])
  |cons q S=>
   have hS2:=hS1 q (by simp)
   have hS3:=eq_true (fun e he=>hS1 e (bj q he):∀e∈S,e.length=4)
   cases R<;>(simp[AU,W5]at ih ha;simp[hk',hw,hLk,AU,W5,ha,ih,hS2,hS3,A2,ED,IL,LB,B8,CL,BM,F3,FD,show 0<g by omega,show 1<g by omega,show 2<g by omega])
def WB(c:A0):List V:=IG c.beach++[sl (c.plan.map AN),sl (c.chairs.map AS),sl (c.fams.map AU)]
theorem AO8(n:Nat)(c:A0)(ht:cZ c=true):AZ ck kn (AE ck ann kn (n+900)) 8 [.agg (AF c)]=some (.agg (WB c)):=by
 rw[AP rfl,AQ Tryz.func8 b8 rfl (by simp[AF,AH,AN,AM,AS,BD,AU])];obtain⟨t1,t2,t3,t4,t5,t6⟩:=W4 ht;simp only[VZ,Bool.and_eq_true,bz,Bool.or_eq_false_iff,Bool.not_eq_false',decide_eq_false_iff_not]at t1;obtain⟨⟨⟨⟨⟨u1,u2⟩,u3⟩,u4⟩,u5⟩,_⟩:=t1;obtain⟨u6,u7⟩:=U2 u3;have qB:=fun n=>AGF n c.beach (by omega) (by omega) (by omega) (fun l hl=>by have:=u7 l hl;omega) (by omega) (by omega);have qL:=fun n=>AHH n c.plan (by omega) (fun l hl=>by have:=t5 l hl;omega);have hz:∀o,([i 0,i 0,i 0,i 0,.nil,.nil,.nil,.nil,.nil,.nil,.nil,.nil]:List V).map (BA 0 28 o 3)=[i 0,i 0,i 0,i 0,.nil,.nil,.nil,.nil,.nil,.nil,.nil,.nil]:=fun o=>rfl;obtain⟨g1,γ1,h1,q1⟩:=AO7 c (by omega) (fun l hl=>by have:=t6 l hl;omega) _ hz c.chairs.length 0 3 0 (by omega) (by omega);obtain⟨g2,γ2,h2,q2⟩:=AZ3 c (by omega) [i 0,i 0,i 0,i 0,.nil,.nil,.nil,.nil,.nil,.nil,.nil,.nil] γ1 (c.chairs.map AS) c.fams.length 0 g1 0 (by omega) (by omega);have q1:=fun n m=>q1 n (m+100) (by omega);have q2:=fun n m=>q2 n (m+100) (by omega);rw[show(c.chairs.take 0).map AS=[] from rfl]at q1;rw[show(c.fams.take 0).map AU=[] from rfl]at q2;have hg2:1<g2:=by omega
 have c1:∀e∈c.chairs.map AS,∀v∈e,AG 7 v=true:=fun e he v hv=>by obtain⟨l,_,rfl⟩:=bb.1 he;simp only[AS,List.mem_cons,List.not_mem_nil,or_false]at hv;subst hv;simp[BD]
 have c2:∀e∈c.fams.map AU,∀v∈e,AG 7 v=true:=fun e he v hv=>by obtain⟨l,_,rfl⟩:=bb.1 he;simp only[AU,List.mem_cons,List.not_mem_nil,or_false]at hv;rcases hv with rfl|rfl|rfl|rfl<;>rfl
 unfold WB;simp only[AF,AB,bxC,IG]at q1 q2 qB qL|-;generalize c.chairs.map AS=R at *;generalize c.fams.map AU=S at *;cases R with
 |nil=>
  cases S with
  |nil=>
   simp at q1 q2
   simp[c8,AD,qB,qL,q1,q2,hg2,W5,slN,slC,A2,ED,IL,B8,CL,BM,F3,FD]
  |cons t S=>
   have s1:=eq_true (c2 t (by simp))
   have s2:=eq_true (fun e he=>c2 e (bj t he):∀e∈S,∀v∈e,AG 7 v=true)
   simp[W5]at q1 q2
   simp[c8,AD,qB,qL,q1,q2,s1,s2,hg2,W5,slN,slC,A2,ED,IL,B8,CL,BM,F3,FD]
 |cons r R=>
  have r1:=eq_true (c1 r (by simp))
  have r2:=eq_true (fun e he=>c1 e (bj r he):∀e∈R,∀v∈e,AG 7 v=true)
  cases S with
  |nil=>
   simp[W5]at q1 q2
   simp[c8,AD,qB,qL,q1,q2,r1,r2,hg2,W5,slN,slC,A2,ED,IL,B8,CL,BM,F3,FD]
  |cons t S=>
   have s1:=eq_true (c2 t (by simp))
   have s2:=eq_true (fun e he=>c2 e (bj t he):∀e∈S,∀v∈e,AG 7 v=true)
   simp[W5]at q1 q2
   simp[c8,AD,qB,qL,q1,q2,r1,r2,s1,s2,hg2,W5,slN,slC,A2,ED,IL,B8,CL,BM,F3,FD]
theorem AK7(c:A0)(hl:c.chairs.length<=100):∀(d k:Nat),k+d=c.chairs.length->∃fr,BQ fr 1=some (true,.ptr 0 1 0 0) /\
  ∀n m,d<m->BG (AE ck ann kn (n+100) 76) YE (ann 76 (BX YE)) m ⟨1,[(1,true,.ptr 0 1 0 0),(4,true,i k)],⟨[],[(1,0,.box (AF c))]⟩⟩ =
   if (c.chairs.drop k).all (fun l=>decide ((l.length:Int)=c.beach.places))=true then some (.exit 0,⟨1,fr,⟨[],[(1,0,.box (AF c))]⟩⟩) else some (.ret,⟨1,[(2,true,i 1)],⟨[],[]⟩⟩)
 |0,k,hk=>by
  have:k=c.chairs.length:=by omega
  subst this;rw[bx];refine⟨?fr,?g1,fun n m hm=>?g2⟩;case g2=>
   obtain⟨m,rfl⟩:=qNz m (by omega)
   rw[AC]
   simp[AF]
   rfl
  case g1=>simp
 |d+1,k,hk=>by
  have hk':k<c.chairs.length:=by omega
  have hw:=BS (k:=k) (by omega);obtain⟨fr,e1,ih⟩:=AK7 c hl d (k+1) (by omega);rw[bq hk',bh];refine⟨fr,e1,fun n m hm=>?_⟩;obtain⟨m,rfl⟩:=qNz m (by omega);have ih:=ih n m (by omega);generalize e1:decide ((c.chairs[k].length:Int)=c.beach.places)=z1;generalize (c.chairs.drop (k+1)).all (fun l=>decide ((l.length:Int)=c.beach.places))=z at ih|-;rw[AC];simp only[AF]at ih|-;cases z1<;>cases z<;>(simp at ih;simp[AS,hk',hw,e1,ih])
theorem AK8(c:A0)(hl:c.fams.length<=100):∀(d k:Nat),k+d=c.fams.length->∃fr,
  ∀n m,d<m->BG (AE ck ann kn (n+200) 76) YF (ann 76 (BX YF)) m ⟨1,[(1,true,.ptr 0 1 0 0),(5,true,i k)],⟨[],[(1,0,.box (AF c))]⟩⟩ =
   if (c.fams.drop k).all KO=true then some (.exit 2,⟨1,fr,⟨[],[(1,0,.box (AF c))]⟩⟩) else some (.ret,⟨1,[(2,true,i 1)],⟨[],[]⟩⟩)
 |0,k,hk=>by
  have:k=c.fams.length:=by omega
  subst this;rw[bx];refine⟨?fr,fun n m hm=>?g2⟩;case g2=>
   obtain⟨m,rfl⟩:=qNz m (by omega)
   rw[AC]
   simp[AF]
   rfl
 |d+1,k,hk=>by
  have hk':k<c.fams.length:=by omega
  have hw:=BS (k:=k) (by omega);obtain⟨fr,ih⟩:=AK8 c hl d (k+1) (by omega);rw[bq hk',bh];refine⟨fr,fun n m hm=>?_⟩;obtain⟨m,rfl⟩:=qNz m (by omega);have ih:=ih n m (by omega);have ef:KO c.fams[k]=(HB c.fams[k].size 1 4&&HB c.fams[k].good 0 5):=rfl;have q1:=fun n=>kIn n c.fams[k].size 1 4;have q2:=fun n=>kIn n c.fams[k].good 0 5;rw[ef];generalize HB c.fams[k].size 1 4=z1 at *;generalize HB c.fams[k].good 0 5=z2 at *;generalize (c.fams.drop (k+1)).all KO=z at ih|-;rw[AC];simp only[AF]at ih|-;cases z1<;>cases z2<;>cases z<;>(simp at ih;simp[AU,hk',hw,q1,q2,ih])
theorem AHJ(n:Nat)(c:A0)(hw:∀l∈c.beach.winds,l.length<=100)(hp:c.plan.length<=100)(hch:c.chairs.length<=100):AZ ck kn (AE ck ann kn (n+2400)) 5 [.agg (AF c)]=some (i (EQ c)):=by
 rw[AP rfl,AQ Tryz.func5 b5 rfl (by simp[AF,AH,AN,AM,AS,BD,AU])];have qf:=fun n=>AF3 n c.beach hw;unfold EQ;by_cases a1:3<c.fams.length
 ·have e1:(3:Int)<(c.fams.length:Int):=by omega
  rw[if_pos a1];simp only[AF];simp[c5,AD,e1]
 rw[if_neg a1];have e1:¬(3:Int)<(c.fams.length:Int):=by omega
 by_cases a2:C6 c.beach≠0
 ·rw[if_pos a2];simp only[AF,AB]at qf|-;simp[c5,AD,e1,qf,a2,AN,AH,AM]
 rw[if_neg a2];have a2:C6 c.beach=0:=by simpa using a2
 have hb:=LP a2;have qp:=fun n=>AFX n c.beach hb c.plan hp;have qt:=fun n=>dA n c.beach hb;rw[a2]at qf;by_cases a3:C5 c.beach c.plan=false
 ·rw[if_pos a3];rw[a3]at qp;simp only[AF,AB]at qf qp|-;simp[c5,AD,e1,qf,qp,AN,AH,AM]
 rw[if_neg a3];have a3:C5 c.beach c.plan=true:=by simpa using a3
 rw[a3]at qp;by_cases a4:BC c.beach=[]
 ·rw[if_pos a4];rw[a4]at qt;simp only[AF,AB]at qf qp qt|-;simp at qt;simp[c5,AD,e1,qf,qp,qt,AN,AH,AM]
 rw[if_neg a4];have a4':¬((BC c.beach).length:Int)=0:=fun h=>a4 (List.eq_nil_of_length_eq_zero (by omega));by_cases a5:(c.chairs.length:Int)=c.beach.rows
 ·have ec:G7 c=c.chairs.all (fun l=>decide ((l.length:Int)=c.beach.places)):=by unfold G7;rw[decide_eq_true a5,Bool.true_and]
  rw[ec];obtain⟨f1,g1,q1⟩:=AK7 c hch c.chairs.length 0 (by omega);obtain⟨f2,q2⟩:=AK8 c (by omega) c.fams.length 0 (by omega);have q1:=fun n m=>q1 n (m+101) (by omega);have q2:=fun n m=>q2 n (m+101) (by omega);rw[List.drop_zero]at q1 q2;generalize c.chairs.all (fun l=>decide ((l.length:Int)=c.beach.places))=y1 at *;generalize c.fams.all KO=y2 at *;generalize BC c.beach=T at *;simp only[AF,AB]at qf qp qt q1 q2|-;cases y1<;>cases y2<;>(simp at q1 q2;simp[c5,AD,e1,qf,qp,qt,a4,a4',a5,q1,q2,g1,AN,AH,AM])
 ·have ec:G7 c=false:=by unfold G7;rw[decide_eq_false a5,Bool.false_and]
  rw[if_pos ec];generalize BC c.beach=T at *;simp only[AF,AB]at qf qp qt|-;simp[c5,AD,e1,qf,qp,qt,a4,a4',a5,AN,AH,AM]
end Go.Proofs.Tryz.Op
