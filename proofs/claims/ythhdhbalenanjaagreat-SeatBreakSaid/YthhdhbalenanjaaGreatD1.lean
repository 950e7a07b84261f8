/- Contracts of the laws' own: Thin, lists, Spots. No condition but short lists. -/
import Derived.Test.YthhdhbalenanjaaGreatC1
import Derived.Test.YthhdhbalenanjaaGreatEa
open Go.Proofs.Tryz renaming prog->ck
open List renaming mem_cons_of_mem->bj,take_succ_eq_append_getElem->bk,drop_eq_getElem_cons->bq,map_congr_left->bw,drop_length->bx,mem_map->bb,take_length->bc,getElem_mem->bf,length_take->bg,all_cons->bh,map_append->bm,length_map->bn,map_map->bp,map->cj
open Bool renaming not_eq_true'->bz
set_option maxRecDepth 100000
set_option linter.unusedSimpArgs false
open Go Go.Pg Go.Proofs Go.Wind
namespace Go.Proofs.Tryz.Op
def JC{α:Type}(l:List α):Bool:=!decide ((7:Int)<(l.length:Int))
def M5(c:AP):Bool:=(QG c.beach&&(JC c.plan&&(JC c.chairs&&!decide ((5:Int)<(c.fams.length:Int)))))&&(c.plan.all JC&&c.chairs.all JC)
theorem wU{α:Type}{l:List α}:JC l=true↔l.length<=7:=by simp only[JC,bz,decide_eq_false_iff_not];omega
theorem GJ{c:AP}(h:M5 c=true):QG c.beach=true/\c.plan.length<=7/\c.chairs.length<=7/\c.fams.length<=5/\(∀l∈c.plan,l.length<=7)/\∀l∈c.chairs,l.length<=7:=by simp only[M5,Bool.and_eq_true,wU,List.all_eq_true,bz,decide_eq_false_iff_not]at h;exact⟨h.1.1,h.1.2.1,h.1.2.2.1,by omega,h.2.1,h.2.2⟩
theorem AYC(c:AP)(hl:c.plan.length<=100):∀(d k:Nat),k+d=c.plan.length->∃fr,BL fr 1=some (true,.ptr 0 1 0 0) /\
  ∀n m,d<m->BM (AF ck ann kn (n+100) 55) YK (ann 55 (CG YK)) m ⟨1,[(1,true,.ptr 0 1 0 0),(3,true,i k)],⟨[],[(1,0,.box (AE c))]⟩⟩ =
   if (c.plan.drop k).all JC=true then some (.exit 0,⟨1,fr,⟨[],[(1,0,.box (AE c))]⟩⟩) else some (.ret,⟨1,[(2,true,.bool false)],⟨[],[]⟩⟩)
 |0,k,hk=>by
  have:k=c.plan.length:=by omega
  subst this;rw[bx];refine⟨?fr,?g1,fun n m hm=>?g2⟩;case g2=>
   obtain⟨m,rfl⟩:=qNz m (by omega)
   rw[AB]
   simp[AE]
   rfl
  case g1=>simp
 |d+1,k,hk=>by
  have hk':k<c.plan.length:=by omega
  have hw:=B7 (k:=k) (by omega);obtain⟨fr,e1,ih⟩:=AYC c hl d (k+1) (by omega);rw[bq hk',bh];refine⟨fr,e1,fun n m hm=>?_⟩;obtain⟨m,rfl⟩:=qNz m (by omega);have ih:=ih n m (by omega);have es:JC c.plan[k]=!decide ((7:Int)<(c.plan[k].length:Int)):=rfl;rw[es];generalize e1:decide ((7:Int)<(c.plan[k].length:Int))=z1;generalize (c.plan.drop (k+1)).all JC=z at ih|-;rw[AB];simp only[AE]at ih|-;cases z1<;>cases z<;>(simp at ih;simp[AW,hk',hw,e1,ih])
theorem AYD(c:AP)(hl:c.chairs.length<=100):∀(d k:Nat),k+d=c.chairs.length->∃fr,BL fr 1=some (true,.ptr 0 1 0 0) /\
  ∀n m,d<m->BM (AF ck ann kn (n+100) 55) YL (ann 55 (CG YL)) m ⟨1,[(1,true,.ptr 0 1 0 0),(4,true,i k)],⟨[],[(1,0,.box (AE c))]⟩⟩ =
   if (c.chairs.drop k).all JC=true then some (.exit 2,⟨1,fr,⟨[],[(1,0,.box (AE c))]⟩⟩) else some (.ret,⟨1,[(2,true,.bool false)],⟨[],[]⟩⟩)
 |0,k,hk=>by
  have:k=c.chairs.length:=by omega
  subst this;rw[bx];refine⟨?fr,?g1,fun n m hm=>?g2⟩;case g2=>
   obtain⟨m,rfl⟩:=qNz m (by omega)
   rw[AB]
   simp[AE]
   rfl
  case g1=>simp
 |d+1,k,hk=>by
  have hk':k<c.chairs.length:=by omega
  have hw:=B7 (k:=k) (by omega);obtain⟨fr,e1,ih⟩:=AYD c hl d (k+1) (by omega);rw[bq hk',bh];refine⟨fr,e1,fun n m hm=>?_⟩;obtain⟨m,rfl⟩:=qNz m (by omega);have ih:=ih n m (by omega);have es:JC c.chairs[k]=!decide ((7:Int)<(c.chairs[k].length:Int)):=rfl;rw[es];generalize e1:decide ((7:Int)<(c.chairs[k].length:Int))=z1;generalize (c.chairs.drop (k+1)).all JC=z at ih|-;rw[AB];simp only[AE]at ih|-;cases z1<;>cases z<;>(simp at ih;simp[AS,hk',hw,e1,ih])
theorem AOK(n:Nat)(c:AP):A3 ck kn (AF ck ann kn (n+1400)) 18 [.agg (AE c)]=some (.bool (M5 c)):=by
 rw[AQ rfl,AR Tryz.func18 b18 rfl (by simp[AE,AS,BU,AU])];have qT:=fun n=>A5D n c.beach;unfold M5;have es:JC c.plan=!decide ((7:Int)<(c.plan.length:Int)):=rfl;have et:JC c.chairs=!decide ((7:Int)<(c.chairs.length:Int)):=rfl;rw[es,et];generalize e1:decide ((7:Int)<(c.plan.length:Int))=z1;generalize e2:decide ((7:Int)<(c.chairs.length:Int))=z2;generalize e3:decide ((5:Int)<(c.fams.length:Int))=z3;generalize QG c.beach=z4 at *;simp only[AC]at qT;by_cases h:z4=true/\z1=false/\z2=false/\z3=false
 ·obtain⟨rfl,rfl,rfl,rfl⟩:=h;have h1:=of_decide_eq_false e1;have h2:=of_decide_eq_false e2;obtain⟨f1,g1,q1⟩:=AYC c (by omega) c.plan.length 0 (by omega);obtain⟨f2,g2,q2⟩:=AYD c (by omega) c.chairs.length 0 (by omega);have q1:=fun n m=>q1 n (m+100) (by omega);have q2:=fun n m=>q2 n (m+100) (by omega);rw[List.drop_zero]at q1 q2;generalize c.plan.all JC=y1 at *;generalize c.chairs.all JC=y2 at *;simp only[AE]at q1 q2|-;cases y1<;>cases y2<;>(simp at q1 q2;simp[c18,AD,qT,e1,e2,e3,q1,q2,g1])
 ·simp only[AE]at|-;cases z4<;>cases z1<;>cases z2<;>cases z3<;>first|exact absurd ⟨rfl,rfl,rfl,rfl⟩ h|simp[c18,AD,qT,e1,e2,e3]
theorem AYE{k:Nat}(hk:k<=100000)(q g n:Nat):B0 ck 22 k [[.vec 0 q g n]]=true:=by rw[CC (by simp) (by simp)];simp[maxLen];omega
theorem AHD(l k:Nat)(o:Option (Nat×AV))(ls:List (List Int)):(ls.map AW).map (cj (BG l k o 3))=ls.map AW:=by rw[bp];exact bw fun x _=>rfl
theorem AYF(ls:List (List Int)):(ls.map AW).map (cj uR)=ls.map AW:=by rw[bp];exact bw fun x _=>rfl
theorem fL(k γ:Nat)(h:List V)(t:List (List V)):pv k γ (h::t)=.vec 0 k γ (t.length+1):=rfl
theorem slN:sl []=.nil:=rfl
theorem slC(e:List V)(es:List (List V)):sl (e::es)=.list false (e::es):=rfl
theorem AOL(ls:List (List Int))(h1:ls.length<=100)(h2:∀l∈ls,l.length<=100):∀(d k c γ:Nat),k+d=ls.length->∃fr c' γ',fr=[(8,true,V.bool false),(7,true,i ls.length),(6,true,I1 ls),(5,true,i ls.length),(0,true,I1 ls),(3,true,pv 18 γ' (ls.map AW)),(4,true,i ls.length)]/\∀n m,d<m->BM (AF ck ann kn (n+200) 20) YM (ann 20 (CG YM)) m ⟨c,[(0,true,I1 ls),(3,true,pv 18 γ ((ls.take k).map AW)),(4,true,i k)],⟨[],pl 18 γ 22 ((ls.take k).map AW)⟩⟩ =
  some (.exit 0,⟨c',fr,⟨[],pl 18 γ' 22 (ls.map AW)⟩⟩)
 |0,k,c,γ,hk=>by
  have:k=ls.length:=by omega
  subst this;rw[bc];refine⟨_,c,γ,rfl,fun n m hm=>?_⟩;obtain⟨m,rfl⟩:=qNz m (by omega);rw[AB];simp
 |d+1,k,c,γ,hk=>by
  have hk':k<ls.length:=by omega
  have hw:=B7 (k:=k) (by omega);have h3:=h2 _ (bf hk');have hst:(ls.take (k+1)).map AW=(ls.take k).map AW++[AW ls[k]]:=by rw[bk hk',bm];rfl
  have hRl:((ls.take k).map AW).length=k:=by rw[bn,bg];omega
  have hto:=fun o=>AHD 0 16 o (ls.take k);have hR1:∀e∈(ls.take k).map AW,e.length=1:=fun e he=>by obtain⟨l,_,rfl⟩:=bb.1 he;rfl
  have hwk:=AYF (ls.take k);have ha:=fun q g n=>AYE (k:=((ls.take k).map AW).length) (by omega) q g n;have hai:=A49 (k:=0) (l:=ls[k]) (by omega);generalize hLk:ls[k]=L at *;cases L with
  |nil=>
   obtain⟨fr,c',γ',e1,ih⟩:=AOL ls h1 h2 d (k+1) (c+1+1) (c+1) (by omega)
   refine⟨fr,c',γ',e1,fun n m hm=>?_⟩
   obtain⟨m,rfl⟩:=qNz m (by omega)
   have ih:=ih n m (by omega)
   rw[hst]at ih
   generalize ls.map AW=fin at *
   generalize (ls.take k).map AW=R at *
   rw[AB]
   simp at hai
   cases R with
   |nil=>simp[AW,li,fL]at ih ha;simp[show c+1+1=c+2 from rfl,hk',hw,hLk,AW,ha,hai,ih]
   |cons r R=>
    have hR2:=hR1 r (by simp)
    have hR3:=eq_true (fun e he=>hR1 e (bj r he):∀e∈R,e.length=1)
    simp[AW,li,fL]at ih ha hto hwk
    simp[show c+1+1=c+2 from rfl,hk',hw,hLk,AW,ha,hai,ih,hto,hwk,hR2,hR3,fL]
  |cons x L=>
   obtain⟨fr,c',γ',e1,ih⟩:=AOL ls h1 h2 d (k+1) (c+1+1) (c+1) (by omega)
   refine⟨fr,c',γ',e1,fun n m hm=>?_⟩
   obtain⟨m,rfl⟩:=qNz m (by omega)
   have ih:=ih n m (by omega)
   rw[hst]at ih
   generalize ls.map AW=fin at *
   generalize (ls.take k).map AW=R at *
   rw[AB]
   simp[AM]at hai
   cases R with
   |nil=>simp[AW,AM,li,fL]at ih ha;simp[show c+1+1=c+2 from rfl,hk',hw,hLk,AW,AM,ha,hai,ih]
   |cons r R=>
    have hR2:=hR1 r (by simp)
    have hR3:=eq_true (fun e he=>hR1 e (bj r he):∀e∈R,e.length=1)
    simp[AW,AM,li,fL]at ih ha hto hwk
    simp[show c+1+1=c+2 from rfl,hk',hw,hLk,AW,AM,ha,hai,ih,hto,hwk,hR2,hR3,fL]
theorem AHE(n:Nat)(ls:List (List Int))(h1:ls.length<=100)(h2:∀l∈ls,l.length<=100):A3 ck kn (AF ck ann kn (n+400)) 69 [I1 ls]=some (sl (ls.map AW)):=by rw[AQ rfl,AR Tryz.func69 b69 rfl (by simp)];obtain⟨fr,c',γ',e1,q⟩:=AOL ls h1 h2 ls.length 0 0 0 (by omega);have q:=fun n m=>q n (m+200) (by omega);simp at q e1;simp[c69,AD,q,e1]
theorem AHF(l k:Nat)(o:Option (Nat×AV))(ls:List (List Bool)):(ls.map AS).map (cj (BG l k o 3))=ls.map AS:=by rw[bp];exact bw fun x _=>rfl
theorem AYG(ls:List (List Bool)):(ls.map AS).map (cj uR)=ls.map AS:=by rw[bp];exact bw fun x _=>rfl
theorem RI{P:Program}{fr:Fr}{s:St}(e d c:Nat)(ys:List (List V))(h:B0 P e 0 ys=true):sB P e d c fr s .nil ys=some (⟨c+1,(d,true,.vec s.up.length d c ys.length)::fr,s.put s.up.length d c (.vec e ys)⟩,[(s.up.length,d),(s.up.length,d+IE)]):=by unfold sB;simp[H7,h]
theorem AYH{k:Nat}{l:List Bool}(h:k+l.length<=100000):B0 ck 4 k (l.map BU)=true:=by rw[CC (by simp) (by simp)];simp[maxLen,BU];omega
theorem AYI{k:Nat}(hk:k<=100000)(q g n:Nat):B0 ck 97 k [[.vec 0 q g n]]=true:=by rw[CC (by simp) (by simp)];simp[maxLen];omega
theorem AYJ{k:Nat}{l:List VX}(h:k+l.length<=100000):B0 ck 94 k (l.map AU)=true:=by rw[CC (by simp) (by simp)];simp[maxLen,AU];omega
abbrev bxC(b:AK)(p:List (List Int))(v w:V):AV:=.box (F0 b++[sl (p.map AW),v,w])
theorem AOM(c:AP)(h1:c.chairs.length<=100)(h2:∀l∈c.chairs,l.length<=100)(cs2:List V)(hcs:∀o,cs2.map (BG 0 28 o 3)=cs2):∀(d k g γ:Nat),k+d=c.chairs.length->2<g->∃g' γ',g<=g'/\∀n m,d<m->BM (AF ck ann kn (n+200) 59) YN (ann 59 (CG YN)) m ⟨g,[(1,true,.ptr 0 1 0 0),(2,true,.ptr 0 2 1 0),(3,true,.ptr 0 3 2 0),(4,true,i k)],⟨[],(1,0,.box (AE c))::(2,1,.box cs2)::(3,2,bxC c.beach c.plan (pv 30 γ ((c.chairs.take k).map AS)) .nil)::pl 30 γ 97 ((c.chairs.take k).map AS)⟩⟩ =
  some (.exit 0,⟨g',[(18,true,.bool false),(17,true,i c.chairs.length),(16,true,.list false (c.chairs.map AS)),(15,true,.ptr 0 1 0 10),(14,true,i c.chairs.length),(1,true,.ptr 0 1 0 0),(2,true,.ptr 0 2 1 0),(3,true,.ptr 0 3 2 0),(4,true,i c.chairs.length)],⟨[],(1,0,.box (AE c))::(2,1,.box cs2)::(3,2,bxC c.beach c.plan (pv 30 γ' (c.chairs.map AS)) .nil)::pl 30 γ' 97 (c.chairs.map AS)⟩⟩)
 |0,k,g,γ,hk,hg=>by
  have:k=c.chairs.length:=by omega
  subst this;rw[bc];refine⟨g,γ,Nat.le_refl _,fun n m hm=>?_⟩;obtain⟨m,rfl⟩:=qNz m (by omega);rw[AB];simp only[AE,bxC,F0];cases c.chairs<;>simp
 |d+1,k,g,γ,hk,hg=>by
  have hk':k<c.chairs.length:=by omega
  have hw:=B7 (k:=k) (by omega);have h3:=h2 _ (bf hk');have hst:(c.chairs.take (k+1)).map AS=(c.chairs.take k).map AS++[AS c.chairs[k]]:=by rw[bk hk',bm];rfl
  have hRl:((c.chairs.take k).map AS).length=k:=by rw[bn,bg];omega
  have hto:=fun o=>AHF 0 28 o (c.chairs.take k);have hwk:=AYG (c.chairs.take k);have hR1:∀e∈(c.chairs.take k).map AS,e.length=1:=fun e he=>by obtain⟨l,_,rfl⟩:=bb.1 he;rfl
  have ha:=fun q g n=>AYI (k:=((c.chairs.take k).map AS).length) (by omega) q g n;have hai:=AYH (k:=0) (l:=c.chairs[k]) (by omega);generalize hLk:c.chairs[k]=L at *;cases L with
  |nil=>
   obtain⟨g',γ',hgg,ih⟩:=AOM c h1 h2 cs2 hcs d (k+1) (g+1+1) (g+1) (by omega) (by omega)
   refine⟨g',γ',by omega,fun n m hm=>?_⟩
   obtain⟨m,rfl⟩:=qNz m (by omega)
   have ih:=ih n m (by omega)
   rw[hst]at ih
   generalize (c.chairs.take k).map AS=R at *
   rw[AB]
   simp only[AE,bxC,F0]at ih|-
   simp at hai
   cases R with
   |nil=>simp[AS,lb,fL]at ih ha;simp[show g+1+1=g+2 from rfl,hk',hw,hLk,AS,ha,hai,hcs,ih,IE,RI,B8,BO,GN,E7,show 2<g+2 by omega]
   |cons r R=>
    have hR2:=hR1 r (by simp)
    have hR3:=eq_true (fun e he=>hR1 e (bj r he):∀e∈R,e.length=1)
    simp[AS,lb,fL]at ih ha hto hwk
    simp[show g+1+1=g+2 from rfl,hk',hw,hLk,AS,ha,hai,hcs,ih,hto,hwk,hR2,hR3,fL,IE,RI,B8,BO,GN,E7,show 2<g+2 by omega]
  |cons x L=>
   obtain⟨g',γ',hgg,ih⟩:=AOM c h1 h2 cs2 hcs d (k+1) (g+1+1) (g+1) (by omega) (by omega)
   refine⟨g',γ',by omega,fun n m hm=>?_⟩
   obtain⟨m,rfl⟩:=qNz m (by omega)
   have ih:=ih n m (by omega)
   rw[hst]at ih
   generalize (c.chairs.take k).map AS=R at *
   rw[AB]
   simp only[AE,bxC,F0]at ih|-
   simp[BU]at hai
   cases R with
   |nil=>simp[AS,BU,lb,fL]at ih ha;simp[show g+1+1=g+2 from rfl,hk',hw,hLk,AS,BU,ha,hai,hcs,ih,IE,RI,B8,BO,GN,E7,show 2<g+2 by omega]
   |cons r R=>
    have hR2:=hR1 r (by simp)
    have hR3:=eq_true (fun e he=>hR1 e (bj r he):∀e∈R,e.length=1)
    simp[AS,BU,lb,fL]at ih ha hto hwk
    simp[show g+1+1=g+2 from rfl,hk',hw,hLk,AS,BU,ha,hai,hcs,ih,hto,hwk,hR2,hR3,fL,IE,RI,B8,BO,GN,E7,show 2<g+2 by omega]
theorem AYK(c:AP)(h1:c.fams.length<=100)(cs2:List V)(γ3:Nat)(R:List (List V)):∀(d k g γ:Nat),k+d=c.fams.length->2<g->∃g' γ',g<=g'/\∀n m,d<m->BM (AF ck ann kn (n+200) 59) YO (ann 59 (CG YO)) m ⟨g,[(1,true,.ptr 0 1 0 0),(2,true,.ptr 0 2 1 0),(3,true,.ptr 0 3 2 0),(5,true,i k)],⟨[],(1,0,.box (AE c))::(2,1,.box cs2)::(3,2,bxC c.beach c.plan (pv 30 γ3 R) (pv 56 γ ((c.fams.take k).map AU)))::(pl 30 γ3 97 R++pl 56 γ 94 ((c.fams.take k).map AU))⟩⟩ =
  some (.exit 2,⟨g',[(36,true,.bool false),(35,true,i c.fams.length),(34,true,.list false (c.fams.map AU)),(33,true,.ptr 0 1 0 11),(32,true,i c.fams.length),(1,true,.ptr 0 1 0 0),(2,true,.ptr 0 2 1 0),(3,true,.ptr 0 3 2 0),(5,true,i c.fams.length)],⟨[],(1,0,.box (AE c))::(2,1,.box cs2)::(3,2,bxC c.beach c.plan (pv 30 γ3 R) (pv 56 γ' (c.fams.map AU)))::(pl 30 γ3 97 R++pl 56 γ' 94 (c.fams.map AU))⟩⟩)
 |0,k,g,γ,hk,hg=>by
  have:k=c.fams.length:=by omega
  subst this;rw[bc];refine⟨g,γ,Nat.le_refl _,fun n m hm=>?_⟩;obtain⟨m,rfl⟩:=qNz m (by omega);rw[AB];simp only[AE,bxC,F0];cases R<;>cases c.fams<;>simp
 |d+1,k,g,γ,hk,hg=>by
  have hk':k<c.fams.length:=by omega
  have hw:=B7 (k:=k) (by omega);have hst:(c.fams.take (k+1)).map AU=(c.fams.take k).map AU++[AU c.fams[k]]:=by rw[bk hk',bm];rfl
  have hRl:((c.fams.take k).map AU).length=k:=by rw[bn,bg];omega
  have hS1:∀e∈(c.fams.take k).map AU,e.length=4:=fun e he=>by obtain⟨l,_,rfl⟩:=bb.1 he;rfl
  have ha:=AYJ (k:=((c.fams.take k).map AU).length) (l:=[c.fams[k]]) (by rw[hRl];simp;omega);obtain⟨g',γ',hgg,ih⟩:=AYK c h1 cs2 γ3 R d (k+1) (g+1+1) (g+1) (by omega) (by omega);refine⟨g',γ',by omega,fun n m hm=>?_⟩;obtain⟨m,rfl⟩:=qNz m (by omega);have ih:=ih n m (by omega);rw[hst]at ih;generalize (c.fams.take k).map AU=S at *;generalize hLk:c.fams[k]=f at *;rw[AB];simp only[AE,bxC,F0]at ih|-;cases S with
  |nil=>cases R<;>(simp[AU,fL]at ih ha;simp[hk',hw,hLk,AU,fL,ha,ih,show 0<g by omega])
  |cons q S=>
   have hS2:=hS1 q (by simp)
   have hS3:=eq_true (fun e he=>hS1 e (bj q he):∀e∈S,e.length=4)
   cases R<;>(simp[AU,fL]at ih ha;simp[hk',hw,hLk,AU,fL,ha,ih,hS2,hS3,show 0<g by omega])
def JE(c:AP):List V:=F0 c.beach++[sl (c.plan.map AW),sl (c.chairs.map AS),sl (c.fams.map AU)]
theorem fM(n:Nat)(c:AP)(ht:M5 c=true):A3 ck kn (AF ck ann kn (n+900)) 21 [.agg (AE c)]=some (.agg (JE c)):=by
 rw[AQ rfl,AR Tryz.func21 b21 rfl (by simp[AE,AS,BU,AU])];obtain⟨t1,t2,t3,t4,t5,t6⟩:=GJ ht;simp only[QG,Bool.and_eq_true,bz,Bool.or_eq_false_iff,Bool.not_eq_false',decide_eq_false_iff_not]at t1;obtain⟨⟨⟨⟨⟨u1,u2⟩,u3⟩,u4⟩,u5⟩,_⟩:=t1;obtain⟨u6,u7⟩:=VT u3;have qB:=fun n=>ATR n c.beach (by omega) (by omega) (by omega) (fun l hl=>by have:=u7 l hl;omega) (by omega) (by omega);have qL:=fun n=>AHE n c.plan (by omega) (fun l hl=>by have:=t5 l hl;omega);have hz:∀o,([i 0,i 0,i 0,i 0,.nil,.nil,.nil,.nil,.nil,.nil,.nil,.nil]:List V).map (BG 0 28 o 3)=[i 0,i 0,i 0,i 0,.nil,.nil,.nil,.nil,.nil,.nil,.nil,.nil]:=fun o=>rfl;obtain⟨g1,γ1,h1,q1⟩:=AOM c (by omega) (fun l hl=>by have:=t6 l hl;omega) _ hz c.chairs.length 0 3 0 (by omega) (by omega);obtain⟨g2,γ2,h2,q2⟩:=AYK c (by omega) [i 0,i 0,i 0,i 0,.nil,.nil,.nil,.nil,.nil,.nil,.nil,.nil] γ1 (c.chairs.map AS) c.fams.length 0 g1 0 (by omega) (by omega);have q1:=fun n m=>q1 n (m+100) (by omega);have q2:=fun n m=>q2 n (m+100) (by omega);rw[show(c.chairs.take 0).map AS=[] from rfl]at q1;rw[show(c.fams.take 0).map AU=[] from rfl]at q2;have hg2:1<g2:=by omega
 have c1:∀e∈c.chairs.map AS,∀v∈e,AG 7 v=true:=fun e he v hv=>by obtain⟨l,_,rfl⟩:=bb.1 he;simp only[AS,List.mem_cons,List.not_mem_nil,or_false]at hv;subst hv;simp[BU]
 have c2:∀e∈c.fams.map AU,∀v∈e,AG 7 v=true:=fun e he v hv=>by obtain⟨l,_,rfl⟩:=bb.1 he;simp only[AU,List.mem_cons,List.not_mem_nil,or_false]at hv;rcases hv with rfl|rfl|rfl|rfl<;>rfl
 unfold JE;simp only[AE,AC,bxC,F0]at q1 q2 qB qL|-;generalize c.chairs.map AS=R at *;generalize c.fams.map AU=S at *;cases R with
 |nil=>
  cases S with
  |nil=>
   simp at q1 q2
   simp[c21,AD,qB,qL,q1,q2,hg2,slN]
  |cons t S=>
   have s1:=eq_true (c2 t (by simp))
   have s2:=eq_true (fun e he=>c2 e (bj t he):∀e∈S,∀v∈e,AG 7 v=true)
   simp[fL]at q1 q2
   simp[c21,AD,qB,qL,q1,q2,s1,s2,hg2,slN,slC]
 |cons r R=>
  have r1:=eq_true (c1 r (by simp))
  have r2:=eq_true (fun e he=>c1 e (bj r he):∀e∈R,∀v∈e,AG 7 v=true)
  cases S with
  |nil=>
   simp[fL]at q1 q2
   simp[c21,AD,qB,qL,q1,q2,r1,r2,hg2,slN,slC]
  |cons t S=>
   have s1:=eq_true (c2 t (by simp))
   have s2:=eq_true (fun e he=>c2 e (bj t he):∀e∈S,∀v∈e,AG 7 v=true)
   simp[fL]at q1 q2
   simp[c21,AD,qB,qL,q1,q2,r1,r2,s1,s2,hg2,slC]
end Go.Proofs.Tryz.Op
namespace Go.Wind
end Go.Wind
namespace Go.Proofs.Tryz.Op
end Go.Proofs.Tryz.Op
namespace Go.Wind
def A8V(G:List (Nat×Int))(ss:List (Int×Int))(k:Nat):Sp:=⟨(G.getD k (0,0)).1,(G.getD k (0,0)).2,(ss.getD k (0,0)).1,(ss.getD k (0,0)).2⟩
end Go.Wind
namespace Go.Proofs.Tryz.Op
section
variable (c:AP)(G:List (Nat×Int))(ss:List (Int×Int))(t q:Nat)
end
end Go.Proofs.Tryz.Op
namespace Go.Wind
open Go.Proofs.Tryz.Op
theorem QN{c:AP}(hc:BZ c)(out:List Int):∀(k:Nat),k<=c.fams.length->∀g∈CW c.fams out k,g.1<c.fams.length/\1<=g.2/\g.2<=4
 |0,_,g,hg=>by cases hg
 |k+1,hk,g,hg=>by
  simp only[CW,List.mem_append]at hg;rcases hg with hg|hg
  ·exact QN hc out k (by omega) g hg
  ·split at hg
   ·cases hg
   ·rw[List.mem_singleton]at hg;subst hg;have hk':k<c.fams.length:=by omega
    have e:c.fams.getD k ⟨0,0,false,false⟩=c.fams[k]:=by rw[List.getD_eq_getElem?_getD,List.getElem?_eq_getElem hk'];rfl
    have:=hc.fo _ (bf hk');simp only[e];exact⟨hk',this.1⟩
end Go.Wind
namespace Go.Proofs.Tryz.Op
theorem ALX(c:AP)(hl:c.chairs.length<=100):∀(d k:Nat),k+d=c.chairs.length->∃fr,BL fr 1=some (true,.ptr 0 1 0 0) /\
  ∀n m,d<m->BM (AF ck ann kn (n+100) 76) SK (ann 76 (CG SK)) m ⟨1,[(1,true,.ptr 0 1 0 0),(4,true,i k)],⟨[],[(1,0,.box (AE c))]⟩⟩ =
   if (c.chairs.drop k).all (fun l=>decide ((l.length:Int)=c.beach.places))=true then some (.exit 0,⟨1,fr,⟨[],[(1,0,.box (AE c))]⟩⟩) else some (.ret,⟨1,[(2,true,i 1)],⟨[],[]⟩⟩)
 |0,k,hk=>by
  have:k=c.chairs.length:=by omega
  subst this;rw[bx];refine⟨?fr,?g1,fun n m hm=>?g2⟩;case g2=>
   obtain⟨m,rfl⟩:=qNz m (by omega)
   rw[AB]
   simp[AE]
   rfl
  case g1=>simp
 |d+1,k,hk=>by
  have hk':k<c.chairs.length:=by omega
  have hw:=B7 (k:=k) (by omega);obtain⟨fr,e1,ih⟩:=ALX c hl d (k+1) (by omega);rw[bq hk',bh];refine⟨fr,e1,fun n m hm=>?_⟩;obtain⟨m,rfl⟩:=qNz m (by omega);have ih:=ih n m (by omega);generalize e1:decide ((c.chairs[k].length:Int)=c.beach.places)=z1;generalize (c.chairs.drop (k+1)).all (fun l=>decide ((l.length:Int)=c.beach.places))=z at ih|-;rw[AB];simp only[AE]at ih|-;cases z1<;>cases z<;>(simp at ih;simp[AS,hk',hw,e1,ih])
theorem ALY(c:AP)(hl:c.fams.length<=100):∀(d k:Nat),k+d=c.fams.length->∃fr,
  ∀n m,d<m->BM (AF ck ann kn (n+200) 76) SL (ann 76 (CG SL)) m ⟨1,[(1,true,.ptr 0 1 0 0),(5,true,i k)],⟨[],[(1,0,.box (AE c))]⟩⟩ =
   if (c.fams.drop k).all HZ=true then some (.exit 2,⟨1,fr,⟨[],[(1,0,.box (AE c))]⟩⟩) else some (.ret,⟨1,[(2,true,i 1)],⟨[],[]⟩⟩)
 |0,k,hk=>by
  have:k=c.fams.length:=by omega
  subst this;rw[bx];refine⟨?fr,fun n m hm=>?g2⟩;case g2=>
   obtain⟨m,rfl⟩:=qNz m (by omega)
   rw[AB]
   simp[AE]
   rfl
 |d+1,k,hk=>by
  have hk':k<c.fams.length:=by omega
  have hw:=B7 (k:=k) (by omega);obtain⟨fr,ih⟩:=ALY c hl d (k+1) (by omega);rw[bq hk',bh];refine⟨fr,fun n m hm=>?_⟩;obtain⟨m,rfl⟩:=qNz m (by omega);have ih:=ih n m (by omega);have ef:HZ c.fams[k]=(HW c.fams[k].size 1 4&&HW c.fams[k].good 0 5):=rfl;have q1:=fun n=>kIn n c.fams[k].size 1 4;have q2:=fun n=>kIn n c.fams[k].good 0 5;rw[ef];generalize HW c.fams[k].size 1 4=z1 at *;generalize HW c.fams[k].good 0 5=z2 at *;generalize (c.fams.drop (k+1)).all HZ=z at ih|-;rw[AB];simp only[AE]at ih|-;cases z1<;>cases z2<;>cases z<;>(simp at ih;simp[AU,hk',hw,q1,q2,ih])
theorem AHG(n:Nat)(c:AP)(hw:∀l∈c.beach.winds,l.length<=100)(hp:c.plan.length<=100)(hch:c.chairs.length<=100):A3 ck kn (AF ck ann kn (n+2400)) 70 [.agg (AE c)]=some (i (CZ c)):=by
 rw[AQ rfl,AR Tryz.func70 b70 rfl (by simp[AE,AS,BU,AU])];have qf:=fun n=>AGK n c.beach hw;unfold CZ;by_cases a1:3<c.fams.length
 ·have e1:(3:Int)<(c.fams.length:Int):=by omega
  rw[if_pos a1];simp only[AE];simp[c70,AD,e1]
 rw[if_neg a1];have e1:¬(3:Int)<(c.fams.length:Int):=by omega
 by_cases a2:DJ c.beach≠0
 ·rw[if_pos a2];simp only[AE,AC]at qf|-;simp[c70,AD,e1,qf,a2]
 rw[if_neg a2];have a2:DJ c.beach=0:=by simpa using a2
 have hb:=SV a2;have qp:=fun n=>AGE n c.beach hb c.plan hp;have qt:=fun n=>wV n c.beach hb;rw[a2]at qf;by_cases a3:DV c.beach c.plan=false
 ·rw[if_pos a3];rw[a3]at qp;simp only[AE,AC]at qf qp|-;simp[c70,AD,e1,qf,qp]
 rw[if_neg a3];have a3:DV c.beach c.plan=true:=by simpa using a3
 rw[a3]at qp;by_cases a4:CE c.beach=[]
 ·rw[if_pos a4];rw[a4]at qt;simp only[AE,AC]at qf qp qt|-;simp at qt;simp[c70,AD,e1,qf,qp,qt]
 rw[if_neg a4];have a4':¬((CE c.beach).length:Int)=0:=fun h=>a4 (List.eq_nil_of_length_eq_zero (by omega));by_cases a5:(c.chairs.length:Int)=c.beach.rows
 ·have ec:EN c=c.chairs.all (fun l=>decide ((l.length:Int)=c.beach.places)):=by unfold EN;rw[decide_eq_true a5,Bool.true_and]
  rw[ec];obtain⟨f1,g1,q1⟩:=ALX c hch c.chairs.length 0 (by omega);obtain⟨f2,q2⟩:=ALY c (by omega) c.fams.length 0 (by omega);have q1:=fun n m=>q1 n (m+101) (by omega);have q2:=fun n m=>q2 n (m+101) (by omega);rw[List.drop_zero]at q1 q2;generalize c.chairs.all (fun l=>decide ((l.length:Int)=c.beach.places))=y1 at *;generalize c.fams.all HZ=y2 at *;generalize CE c.beach=T at *;simp only[AE,AC]at qf qp qt q1 q2|-;cases y1<;>cases y2<;>(simp at q1 q2;simp[c70,AD,e1,qf,qp,qt,a4,a5,q1,q2,g1])
 ·have ec:EN c=false:=by unfold EN;rw[decide_eq_false a5,Bool.false_and]
  rw[if_pos ec];generalize CE c.beach=T at *;simp only[AE,AC]at qf qp qt|-;simp[c70,AD,e1,qf,qp,qt,a4,a5]
end Go.Proofs.Tryz.Op
