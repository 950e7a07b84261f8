/- The level of one who asks for the winds of all truths. No condition. -/
import Derived.Test.YtanlhbmliegjeaaGreatO1
import Derived.Test.YtanlhbmliegjeaaGreatI1
noncomputable section
open Go.Proofs.Tryz renaming prog->cz,func24->cd
open List renaming getD_eq_getElem?_getD->bj,replicate->bq,getD_cons_zero->bw,getD_cons_succ->bx,getElem?_eq_getElem->bb,cons_append->bc,eq_of_mem_replicate->bg,getElem?_replicate->bh,ext_getElem->bm,length_singleton->bn,getElem?_eq_none->bp,map_cons->cj,nil_append->ck,map_nil->cq,ne_nil_of_mem->cw,map->cx
open Nat renaming reduceAdd->bk,add_assoc->bz,add_zero->bf
set_option maxRecDepth 100000
set_option linter.unusedSimpArgs false
open Go Go.Pg Go.Proofs Go.Wind
namespace Go.Proofs.Tryz.Op
def jW(γ h:Nat):List Int->V
 |[]=>.nil
 |w=>.vec 1 (800+h) γ w.length
@[simp] theorem ACA(γ h:Nat):jW γ h []=.nil:=rfl
theorem KS{γ h:Nat}{w:List Int}(hw:w≠[]):jW γ h w=.vec 1 (800+h) γ w.length:=by
 cases w with
 |nil=>exact absurd rfl hw
 |cons x w=>rfl
def D8(γs:Nat->Nat)(ws:List (List Int)):List (List V):=ws.mapIdx fun h w=>[jW (γs h) h w]
def QI:Code:=.block 1 (.seq (JA 2399) (.seq (JA 5471) (.block 2 (.loop MG))))
@[simp] theorem uAs(n:Nat)(st:XS):AE cz ann kn n 69 QI st=AE cz ann kn n 69 (.block 1 (.seq (JA 2399) (.seq (JA 5471) (.block 2 (.loop MG))))) st:=rfl
def fL(b:AL)(c0:Nat):Fr:=[(30,true,.fn 84 [] [.ref (AB b),.ref [li []]]),(29,true,.agg (AB b)),(2,true,.ptr 1 2 c0 0),(7,true,.ptr 1 7 (c0+5) 0),(8,true,.ptr 1 8 (c0+6) 0)]
def H7(b:AL)(c0:Nat)(ls:LS):AX:=.loop (fL b c0) [31] (JA 607) QI 69 ls
structure RwA(c0 c:Nat)(ws:List (List Int))(L:AA)(γs:Nat->Nat):Prop where
 p24:L.get 24=some (c0+1,.vec 22 (D8 γs ws))
 row:∀h,ws.getD h []≠[]->L.get (800+h)=some (γs h,.vec 3 ((ws.getD h []).map AH))/\γs h<c
 no:∀h,h<5->ws.getD h []=[]->L.get (800+h)=none
structure uB(b:AL)(c0:Nat)(ls:LS)(c:Nat)(s:Bool)(ws:List (List Int))(L:AA):Prop where
 p7:L.get 7=some (c0+5,.box [.ptr 1 28 (c0+4) 0])
 p28:L.get 28=some (c0+4,.box (AB b++[.vec 1 24 (c0+1) b.winds.length,.mp 1 25 (c0+2),.mp 1 26 (c0+3)]))
 p25:L.get 25=some (c0+2,.map [])
 p26:L.get 26=some (c0+3,.map [])
 p8:L.get 8=some (c0+6,.box [.bool s])
 rows:∃γs,RwA c0 c ws L γs
 pr:L.get BJ=some (c0+7,H7 b c0 ls)
 len:ws.length=b.winds.length
 st:∀t:St,2<=t.up.length->t.loc.get 63=none->AJ t L=L
 pp:L.get 2=some (c0,.box (AB b))/\L.get 30=none/\L.get 63=none
theorem RwA.mono{c0 c c1:Nat}{ws:List (List Int)}{L:AA}{γs:Nat->Nat}(h:RwA c0 c ws L γs)(hc:c<=c1):RwA c0 c1 ws L γs :=
 ⟨h.p24,fun k hk=>⟨(h.row k hk).1,Nat.lt_of_lt_of_le (h.row k hk).2 hc⟩,h.no⟩
theorem uB.mono{b:AL}{c0 c c1:Nat}{ls:LS}{s:Bool}{ws:List (List Int)}{L:AA}(h:uB b c0 ls c s ws L)(hc:c<=c1):uB b c0 ls c1 s ws L :=
 ⟨h.p7,h.p28,h.p25,h.p26,h.p8,by obtain⟨γs,hr⟩:=h.rows;exact⟨γs,hr.mono hc⟩,h.pr,h.len,h.st,h.pp⟩
theorem MI(st:XS)(v:V)(hv:∀l k o,BA l k o 3 v=v):∀ks,H3 st ks v=v
 |[]=>rfl
 |k::ks=>by
  have ih:=MI st v hv ks;obtain⟨c,fr,up,loc⟩:=st;by_cases h:k<10000
  ·rw[sE _ _ _ _ _ _ _ h,hv,ih]
  ·rw[F0 _ _ _ _ h,hv,ih]
theorem LC{c0 c:Nat}{ws:List (List Int)}{L:AA}{γs:Nat->Nat}(h:RwA c0 c ws L γs){k:Nat}(hk:k<=4)(hne:ws.getD k []≠[])(B:AA)(R:List AA)(c1:Nat)(fr:Fr)(loc:AA) :
  H3 ⟨c1,fr,⟨B::L::R,loc⟩⟩ [20800,20801,20802,20803,20804] (.vec 1 (800+k) (γs k) (ws.getD k []).length)=li (ws.getD k []):=by
 have hr:=(h.row k hne).1
 have e1:¬1=R.length+1+1:=by omega
 have:k=0\/k=1\/k=2\/k=3\/k=4:=by omega
 generalize ws.getD k []=w at hr hne|-
 have hget:∀j,St.get ⟨B::L::R,loc⟩ 1 j=L.get j:=fun j=>by simp[St.get]
 simp only[F0 _ _ _ _ (show ¬20800<10000 by decide),F0 _ _ _ _ (show ¬20801<10000 by decide),F0 _ _ _ _ (show ¬20802<10000 by decide),F0 _ _ _ _ (show ¬20803<10000 by decide),F0 _ _ _ _ (show ¬20804<10000 by decide),zX,Nat.reduceDiv,Nat.reduceMod,Nat.reduceSub,hget]
 have skip:∀a o,a≠800+k->BA 1 a o 3 (.vec 1 (800+k) (γs k) w.length)=.vec 1 (800+k) (γs k) w.length:=fun a o ha=>by
  simp only[BA];split
  ·rw[if_neg fun e=>ha e.2.1.symm]
  ·rfl
 have hit:BA 1 (800+k) (L.get (800+k)) 3 (.vec 1 (800+k) (γs k) w.length)=li w:=by rw[hr];simp[BA]
 rcases this with rfl|rfl|rfl|rfl|rfl
 ·rw[hit];simp
 ·rw[skip 800 _ (by decide),hit];simp
 ·rw[skip 800 _ (by decide),skip 801 _ (by decide),hit];simp
 ·rw[skip 800 _ (by decide),skip 801 _ (by decide),skip 802 _ (by decide),hit];simp
 ·rw[skip 800 _ (by decide),skip 801 _ (by decide),skip 802 _ (by decide),skip 803 _ (by decide),hit]
theorem LD(γs:Nat->Nat)(ws:List (List Int)):(D8 γs ws).length=ws.length:=by unfold D8;simp
theorem LF{γs:Nat->Nat}{ws:List (List Int)}{h:Nat}(h1:h<(D8 γs ws).length)(h2:h<ws.length):(D8 γs ws)[h]=[jW (γs h) h ws[h]]:=by simp only[D8,List.getElem_mapIdx]
def V2(γs:Nat->Nat)(h c:Nat):Nat->Nat:=fun j=>if j=h then c else γs j
theorem dE{γs:Nat->Nat}{ws:List (List Int)}{h:Nat}(_:h<ws.length)(c:Nat){w:List Int}(hw:w≠[]):(D8 γs ws).set h [.vec 1 (800+h) c w.length]=D8 (V2 γs h c) (ws.set h w):=by
 apply bm (by simp[LD]);intro j h1 h2;have hj:j<ws.length:=by simpa [LD]using h1
 rw[List.getElem_set,LF h2 (by simpa using hj),List.getElem_set];by_cases e:h=j
 ·subst e;rw[if_pos rfl,if_pos rfl,KS hw,V2,if_pos rfl]
 ·rw[if_neg e,if_neg e,LF _ hj,V2,if_neg fun h=>e h.symm]
theorem AQE{n d γ j:Nat}{w:List Int}:KG n 63 1 d 3 (jW γ j w)=jW γ j w:=by
 cases w with
 |nil=>rfl
 |cons x w=>
  show(if 1=n/\800+j=63 then _ else _)=_
  rw[if_neg (by omega)]
theorem ACB{γs:Nat->Nat}{ws:List (List Int)}{h:Nat}(hh:h<ws.length)(n c:Nat){w:List Int}(hw:w≠[]):((D8 γs ws).set h [.vec n 63 c w.length]).map (cx (KG n 63 1 (800+h) 3))=D8 (V2 γs h c) (ws.set h w):=by
 rw[<-dE hh c hw,List.map_set];congr 1
 ·apply bm (by simp);intro j h1 h2;have hj:j<ws.length:=by simpa [LD]using h1
  rw[List.getElem_map,LF _ hj];exact congrArg (fun v=>[v]) AQE
 ·simp[KG]
theorem dF(ws:List (List Int))(h:Nat)(l:List Int)(j:Nat)(hh:h<ws.length):(ws.set h l).getD j []=if j=h then l else ws.getD j []:=by
 simp only[bj,List.getElem?_set];by_cases e:h=j
 ·subst e;simp[hh]
 ·rw[if_neg e,if_neg fun h=>e h.symm]
theorem RwA.put{c0 c:Nat}{ws:List (List Int)}{L:AA}{γs:Nat->Nat}(hr:RwA c0 c ws L γs){h:Nat}(hh:h<ws.length){w:List Int}(hw:w≠[]){L':AA}
  (h24:L'.get 24=some (c0+1,.vec 22 (D8 (V2 γs h c) (ws.set h w)))) (h800:L'.get (800+h)=some (c,.vec 3 (w.map AH))) (hot:∀j,j≠h->L'.get (800+j)=L.get (800+j)):RwA c0 (c+1) (ws.set h w) L' (V2 γs h c):=by
 refine⟨h24,fun j hj=>?_,fun j hj5 hj=>?_⟩
 ·rw[dF _ _ _ _ hh]at hj|-;by_cases e:j=h
  ·subst e;rw[if_pos rfl,V2,if_pos rfl];exact⟨h800,Nat.lt_succ_self _⟩
  ·rw[if_neg e]at hj|-;rw[hot j e,V2,if_neg e];exact⟨(hr.row j hj).1,Nat.lt_succ_of_lt (hr.row j hj).2⟩
 ·rw[dF _ _ _ _ hh]at hj;by_cases e:j=h
  ·subst e;rw[if_pos rfl]at hj;exact absurd hj hw
  ·rw[if_neg e]at hj;rw[hot j e];exact hr.no j hj5 hj
theorem jX{t:St}{l k γ m:Nat}(h:¬l=t.up.length):BV t (.vec l k γ m)=some (.vec l k γ m):=by obtain⟨up,loc⟩:=t;rw[oA,bE,if_neg h]
theorem TL{t:St}(ht:2<=t.up.length)(γs:Nat->Nat)(ws:List (List Int)):CC t (.vec 22 (D8 γs ws))=.vec 22 (D8 γs ws):=by
 refine L9 fun e he v hv=>?_;obtain⟨j,hj,rfl⟩:=List.getElem_of_mem he;rw[LF hj (by simpa [LD]using hj)]at hv;simp only[List.mem_cons,List.not_mem_nil,or_false]at hv;subst hv;have hne:¬1=t.up.length:=by omega
 cases ws[j]'(by simpa [LD]using hj)with
 |nil=>rfl
 |cons x w=>exact jX hne
theorem AML(st:XS):K7 [25008011801063] st=cI 63 (L7 8 st) (rO 800 11 st) [24] st:=rfl
theorem ACC(c:Nat)(fr:Fr)(up:List AA):K7 [25008011801063] ⟨c,fr,⟨up,[]⟩⟩=⟨c,fr,⟨up,[]⟩⟩:=by rw[AML];rfl
theorem LG{n k l d:Nat}(fr:Fr)(j:Nat):BQ (vA n k l d fr) j=(BQ fr j).map fun x=>(x.1,KG n k l d 3 x.2):=by rw[FG,FG,gY]
@[simp] theorem AVM(u:Nat)(L:AA)(j:Nat):(I7 u L).get j=if j=u then none else L.get j:=aN u L j
theorem RQ(t:St)(u:Nat):∀L:AA,AJ t (I7 u L)=I7 u (AJ t L)
 |[]=>rfl
 |(q,g,r)::L=>by
  have ih:=RQ t u L;rw[A6];unfold I7;by_cases h:q=u
  ·rw[if_pos h,if_pos h,ih]
  ·rw[if_neg h,if_neg h,A6,ih]
theorem JT(u g:Nat)(r:AX)(L:AA):I7 u ((u,g,r)::L)=I7 u L:=by show(if u=u then I7 u L else _)=_;rw[if_pos rfl]
theorem AQF(c γ h g7 o7 JA:Nat)(T:TypeId)(es:List (List V))(fr:Fr)(B L:AA)(R:List AA)(r24:AX)(h7:BQ fr 7=some (true,.ptr 1 7 g7 o7))(h10:BQ fr 10=some (true,.int .i64 h))(h24:L.get 24=some (JA,r24)) :
  K7 [25008011801063] ⟨c,fr,⟨B::L::R,[(63,γ,.vec T es)]⟩⟩=⟨c,vA (R.length+1+1) 63 1 (800+h) fr,⟨B::((800+h,γ,Q7 (R.length+1+1) 63 1 (800+h) (.vec T es))::(24,JA,Q7 (R.length+1+1) 63 1 (800+h) r24)::I7 24 L)::R,[]⟩⟩:=by
 rw[AML]
 have e1:L7 8 ⟨c,fr,⟨B::L::R,[(63,γ,.vec T es)]⟩⟩=1:=by show(match BQ fr 7 with|some (true,.ptr l _ _ _)=>l|_=>0)=1;rw[h7]
 have e2:rO 800 11 ⟨c,fr,⟨B::L::R,[(63,γ,.vec T es)]⟩⟩=800+h:=by show(match BQ fr 10 with|some (true,.int _ n)=>800+n.toNat|_=>800)=800+h;rw[h10];simp
 rw[e1,e2]
 unfold cI
 have e3:QZ 1 (B::L::R).length (AA.get [(63,γ,.vec T es)] 63)=true:=by simp[QZ,AA.get,bN]
 simp only[e3]
 simp[vB,AA.get,zI,h24,jA,St.put,DB]
theorem GF{n k l d:Nat}(f:Nat)(q:IntKind)(x:Int):KG n k l d f (.int q x)=.int q x:=by cases f<;>rfl
theorem LI{n k l d a b g o:Nat}(f:Nat)(h:¬b=k):KG n k l d f (.ptr a b g o)=.ptr a b g o:=by
 cases f with
 |zero=>rfl
 |succ f=>simp only[KG];rw[if_neg fun e=>h e.2]
theorem JX{n k l d a b g o:Nat}(f:Nat)(h:¬b=k):KG n k l d f (.vec a b g o)=.vec a b g o:=by
 cases f with
 |zero=>rfl
 |succ f=>simp only[KG];rw[if_neg fun e=>h e.2]
theorem GG{n k l d:Nat}(T:TypeId)(es:List (List V)):Q7 n k l d (.vec T es)=.vec T (es.map (cx (KG n k l d 3))):=rfl
theorem A1V{k:Nat}{x:Int}(h:k<=10000):CG cz 3 k [[.int .i64 x]]=true:=by rw[C3 (by simp) (by simp)];simp[maxLen];omega
theorem AHW{P:Program}{fr:Fr}{s:St}(e d c:Nat)(y:List V)(ys:List (List V))(h:CG P e 0 (y::ys)=true):adV P e d c fr s .nil (y::ys)=some (⟨c+1,(d,true,.vec s.up.length d c (ys.length+1))::fr,s.put s.up.length d c (.vec e (y::ys))⟩,[(s.up.length,d),(s.up.length,d+IL)]):=by unfold adV;simp[I2,h]
theorem lAs(b:AL)(c0:Nat)(h5:b.winds.length<=5)(s:Bool)(t:List Int)(ht:t.length=b.winds.length)(hn:∀n∈t,0<=n/\n<=3)(B:AA)(L1:AA)(R:List AA)(g9:Nat)(p9:L1.get 9=some (g9,.vec 3 (t.map AH))) :
  ∀(d h c:Nat) (ws:List (List Int)) (L:AA),h+d=t.length->uB b c0 .busy c s ws L->c0+8<=c->DD ws ->
  ∃fr' c' L',uB b c0 .busy c' s (JZ ws h (t.drop h)) L'/\c<=c'/\∀n m,d<m->BG (AE cz ann kn (n+1400) 69) MG (ann 69 (BX MG)) m ⟨c,[(7,true,.ptr 1 7 (c0+5) 0),(32,true,.vec 2 9 g9 t.length),(33,true,i t.length),(34,true,i h)],⟨B::L::L1::R,[]⟩⟩ =
   some (.exit 2,⟨c',fr',⟨B::L'::L1::R,[]⟩⟩)
 |0,h,c,ws,L,hd,hL,hc,hok=>by
  have:h=t.length:=by omega
  subst this;refine⟨?fr,c,L,by simpa [JZ]using hL,Nat.le_refl _,fun n m hm=>?g⟩;case g=>
   obtain⟨m,rfl⟩:=qNz m (by omega)
   rw[AC]
   simp
   rfl
 |d+1,h,c,ws,L,hd,hL,hc,hok=>by
  have hh:h<t.length:=by omega
  have hw:=BS (k:=h) (by omega);have hdrop:t.drop h=t[h]::t.drop (h+1):=List.drop_eq_getElem_cons hh;have hLo:=hL;obtain⟨p7,p28,p25,p26,p8,⟨γs,hr⟩,pr,hlen,pst,pp⟩:=hL;have hg:ws.getD h []=ws[h]'(by omega):=by rw[bj,bb (by omega)];rfl
  have hl4:(ws.getD h []).length<=4:=by rw[hg];exact hok.len _ (List.getElem_mem _)
  have qc:=fun n=>PN n (ws.getD h []) t[h] (by omega);have h24:=hr.p24;have hra:(D8 γs ws)[h]? = some [jW (γs h) h (ws.getD h [])]:=by unfold D8;rw[List.getElem?_mapIdx,bb (by omega),hg];rfl
  have hrl:(D8 γs ws).length=ws.length:=by unfold D8;simp
  have hrx:(D8 γs ws)[h]'(by omega)=[jW (γs h) h (ws.getD h [])]:=by have:=hra;rw[bb (by omega),Option.some.injEq]at this;exact this
  have hhw:h<b.winds.length:=by omega
  have hhr:h<(D8 γs ws).length:=by omega
  have ha0:CG cz 3 0 [[.int .i64 t[h]]]=true:=A1V (by omega);have hc0:c0<c:=by omega
  have hws:h<ws.length:=by omega
  have hx3:=hn t[h] (List.getElem_mem hh);have hka:∀k,900<=k->(800+h=k)=False:=fun k hk=>by simp;omega
  have hkb:∀k,k<800->(800+h=k)=False:=fun k hk=>by simp;omega
  have hkc:∀k,k<800->(k=800+h)=False:=fun k hk=>by simp;omega
  have hkd:∀k,900<=k->(k=800+h)=False:=fun k hk=>by simp;omega
  have hrb:b.winds.length<=(D8 γs ws).length:=by omega
  by_cases hm:t[h]∈ws.getD h []
  ·have hmd:decide (t[h]∈ws.getD h [])=true:=decide_eq_true hm;rw[hmd]at qc;have hne:ws.getD h []≠[]:=cw hm;have hwv:=KS (γ:=γs h) (h:=h) hne;have hrt:=fun c1 fr loc=>LC hr (k:=h) (by omega) hne B (L1::R) c1 fr loc;obtain⟨fr',c',L',i1,i2,ih⟩:=lAs b c0 h5 s t ht hn B L1 R g9 p9 d (h+1) c ws L (by omega) hLo hc hok;have hadd:JZ ws h (t.drop h)=JZ ws (h+1) (t.drop (h+1)):=by rw[hdrop];show JZ (NY ws h t[h]) (h+1) (t.drop (h+1))=_;rw[NY,if_pos hm]
   rw[hadd];refine⟨fr',c',L',i1,i2,fun n m hm'=>?_⟩;obtain⟨m,rfl⟩:=qNz m (by omega);have ih:=ih n m (by omega);have hfl:∀st x,H3 st [20800,20801,20802,20803,20804] (.int .i64 x)=.int .i64 x:=fun st x=>MI st _ (fun _ _ _=>eS _ _ _) _;rw[hwv]at hrx;generalize ws.getD h []=w at *;rw[AC];simp only[AB,AH]at p28 qc ih|-;simp at ih;simp[-F0,hh,hw,AH,p7,p28,p9,h24,hhr,hhw,hrb,hrx,hrt,hfl,qc,ACC,ih]
  ·have hmd:decide (t[h]∈ws.getD h [])=false:=decide_eq_false hm;rw[hmd]at qc;have hfl:∀st x,H3 st [20800,20801,20802,20803,20804] (.int .i64 x)=.int .i64 x:=fun st x=>MI st _ (fun _ _ _=>eS _ _ _) _;have hfn:∀st,H3 st [20800,20801,20802,20803,20804] .nil=.nil:=fun st=>MI st _ (fun _ _ _=>zV _) _;by_cases hne:ws.getD h []=[]
   ·rw[hne]at hrx qc;rw[ACA]at hrx;have hne1:([t[h]]:List Int)≠[]:=by simp
    have hadd:NY ws h t[h]=ws.set h [t[h]]:=by rw[NY,if_neg hm,hne];rfl
    have hrs:=ACB (γs:=γs) hws (R.length+1+1+1) c hne1;have hL':uB b c0 .busy (c+1) s (ws.set h [t[h]]) ((800+h,c,.vec 3 [[.int .i64 t[h]]])::(24,c0+1,.vec 22 (D8 (V2 γs h c) (ws.set h [t[h]])))::I7 24 L):=by
     refine⟨?_,?_,?_,?_,?_,⟨V2 γs h c,hr.put hws hne1 (by simp;omega) (by simp[AH]) fun j hj=>by simp[hj,show ¬800+j=24 by omega]⟩,?_,by simpa using hlen,fun T h1 h2=>?_,by simpa [hkc]using pp⟩
     ·simpa [hkc]using p7
     ·simpa [hkc]using p28
     ·simpa [hkc]using p25
     ·simpa [hkc]using p26
     ·simpa [hkc]using p8
     ·simpa [BJ,hkd]using pr
     ·rw[A6,A6,RQ,TL h1,pst T h1 h2,show[[V.int .i64 t[h]]]=[t[h]].map AH from rfl,O7]
    obtain⟨fr',c',L',i1,i2,ih⟩:=lAs b c0 h5 s t ht hn B L1 R g9 p9 d (h+1) (c+1) _ _ (by omega) hL' (by omega) (by rw[<-hadd];exact hok.add h _ hx3);have hadw:JZ ws h (t.drop h)=JZ (ws.set h [t[h]]) (h+1) (t.drop (h+1)):=by rw[hdrop,<-hadd];rfl
    rw[hadw];refine⟨fr',c',L',i1,by omega,fun n m hm'=>?_⟩;obtain⟨m,rfl⟩:=qNz m (by omega);have ih:=ih n m (by omega);rw[AC];simp only[bn]at hrs;have hgh:=fun c1 fr (h7:BQ fr 7=some (true,.ptr 1 7 (c0+5) 0)) (h10:BQ fr 10=some (true,.int .i64 h))=>AQF c1 c h _ _ (c0+1) 3 [[.int .i64 t[h]]] fr B ((24,c0+1,.vec 22 ((D8 γs ws).set h [.vec (R.length+1+1+1) 63 c 1]))::L) (L1::R) _ h7 h10 rfl;simp only[AB,AH,li,cq]at p28 qc ih|-;simp at ih;simp[-F0,hh,hw,AH,p7,p28,p9,h24,hhr,hhw,hrb,hrx,hfl,hfn,qc,AHW,ha0,hka,hkb,hkc,hkd,IL,DB,hc0,LG,hgh,JT,hrs,GF,LI,JX,GG,ih]
   ·have hwv:=KS (γ:=γs h) (h:=h) hne;have hrt:=fun c1 fr loc=>LC hr (k:=h) (by omega) hne B (L1::R) c1 fr loc;have hrow:=(hr.row h hne).1;have hγ:=(hr.row h hne).2;rw[hwv]at hrx;have ha1:CG cz 3 (ws.getD h []).length [[.int .i64 t[h]]]=true:=A1V (by omega);have hadd:NY ws h t[h]=ws.set h (ws.getD h []++[t[h]]):=by rw[NY,if_neg hm]
    generalize ws.getD h []=w at *;have hne1:w++[t[h]]≠[]:=by simp
    have hrs:=dE (γs:=γs) hws c hne1;simp only[List.length_append,bn]at hrs;have hL':uB b c0 .busy (c+1) s (ws.set h (w++[t[h]])) ((24,c0+1,.vec 22 (D8 (V2 γs h c) (ws.set h (w++[t[h]]))))::(800+h,c,.vec 3 (w.map AH++[[.int .i64 t[h]]]))::L):=by
     refine⟨?_,?_,?_,?_,?_,⟨V2 γs h c,hr.put hws hne1 (by simp) (by simp[AH,show ¬800+h=24 by omega]) fun j hj=>by simp[hj,show ¬800+j=24 by omega]⟩,?_,by simpa using hlen,fun T h1 h2=>?_,by simpa [hkc]using pp⟩
     ·simpa [hkc]using p7
     ·simpa [hkc]using p28
     ·simpa [hkc]using p25
     ·simpa [hkc]using p26
     ·simpa [hkc]using p8
     ·simpa [BJ,hkd]using pr
     ·have e:(w.map AH++[[V.int .i64 t[h]]])=(w++[t[h]]).map AH:=by simp[AH]
      rw[A6,A6,TL h1,e,O7,pst T h1 h2]
    obtain⟨fr',c',L',i1,i2,ih⟩:=lAs b c0 h5 s t ht hn B L1 R g9 p9 d (h+1) (c+1) _ _ (by omega) hL' (by omega) (by rw[<-hadd];exact hok.add h _ hx3);have hadw:JZ ws h (t.drop h)=JZ (ws.set h (w++[t[h]])) (h+1) (t.drop (h+1)):=by rw[hdrop,<-hadd];rfl
    rw[hadw];refine⟨fr',c',L',i1,by omega,fun n m hm'=>?_⟩;obtain⟨m,rfl⟩:=qNz m (by omega);have ih:=ih n m (by omega);rw[AC];simp only[AB,AH]at p28 qc ih|-;simp at ih;simp[-F0,hh,hw,AH,p7,p28,p9,h24,hhr,hhw,hrb,hrx,hrt,hfl,qc,hrow,hγ,ha1,hka,hkb,hkc,hkd,IL,DB,hc0,hrs,ACC,ih]
structure A1W(b:AL)(c0:Nat)(c:Nat)(g:Bool)(a:Bool×List (List Int))(L:AA):Prop where
 go:g=true
 lv:uB b c0 .ready c a.1 a.2 L
 ok:DD a.2
def uC(a:Bool×List (List Int))(t:List Int):(Bool×List (List Int))×Bool:=((true,JZ a.2 0 t),true)
theorem uB.put{b:AL}{c0 c:Nat}{ls ls':LS}{s s':Bool}{ws:List (List Int)}{L:AA}(h:uB b c0 ls c s ws L)(h5:b.winds.length<=5):uB b c0 ls' c s' ws ((8,c0+6,.box [.bool s'])::(BJ,c0+7,H7 b c0 ls')::L):=by
 obtain⟨p7,p28,p25,p26,p8,⟨γs,hr⟩,pr,hlen,pst,pp⟩:=h;refine⟨by simpa [BJ]using p7,by simpa [BJ]using p28,by simpa [BJ]using p25,by simpa [BJ]using p26,by simp,⟨γs,by simpa [BJ]using hr.p24,fun j hj=>?_,fun j hj5 hj=>?_⟩,by simp[BJ],hlen,fun t h1 h2=>?_,by simpa [BJ]using pp⟩
 ·have hj4:(j:Nat)<ws.length:=by
   rcases Nat.lt_or_ge j ws.length with h|h
   ·exact h
   ·exact absurd (by rw[bj,bp h];rfl) hj
  have e1:¬800+j=8:=by omega
  have e2:¬800+j=1000000:=by omega
  have:=hr.row j hj;simpa [BJ,e1,e2]using this
 ·have e1:¬800+j=8:=by omega
  have e2:¬800+j=1000000:=by omega
  have:=hr.no j hj5 hj;simpa [BJ,e1,e2]using this
 ·rw[A6,A6,pst t h1 h2];simp[H7]
theorem uB.back{b:AL}{c0 c:Nat}{ls ls':LS}{s:Bool}{ws:List (List Int)}{L:AA}(h:uB b c0 ls c s ws L)(h5:b.winds.length<=5):uB b c0 ls' c s ws ((BJ,c0+7,H7 b c0 ls')::L):=by
 obtain⟨p7,p28,p25,p26,p8,⟨γs,hr⟩,pr,hlen,pst,pp⟩:=h;refine⟨by simpa [BJ]using p7,by simpa [BJ]using p28,by simpa [BJ]using p25,by simpa [BJ]using p26,by simpa [BJ]using p8,⟨γs,by simpa [BJ]using hr.p24,fun j hj=>?_,fun j hj5 hj=>?_⟩,by simp[BJ],hlen,fun t h1 h2=>?_,by simpa [BJ]using pp⟩
 ·have hj4:(j:Nat)<ws.length:=by
   rcases Nat.lt_or_ge j ws.length with h|h
   ·exact h
   ·exact absurd (by rw[bj,bp h];rfl) hj
  have e2:¬800+j=1000000:=by omega
  have:=hr.row j hj;simpa [BJ,e2]using this
 ·have e2:¬800+j=1000000:=by omega
  have:=hr.no j hj5 hj;simpa [BJ,e2]using this
 ·rw[A6,pst t h1 h2];simp[H7]
theorem ACD(b:AL)(hb:Valid b)(c0:Nat)(B:AA)(hB:∀t:St,1<=t.up.length->AJ t B=B):fT B b (A1W b c0) uC (c0+7) 1500:=by
 intro a L L1 rest loc c fr t g9 hL hc ht p9 hst;obtain⟨_,hL,hok⟩:=hL;have hL0:=hL.put (ls':=.busy) (s':=true) hb.hl;have hlt:=CK ht;obtain⟨fr',c',L',i1,i2,ih⟩:=lAs b c0 hb.hl true t hlt (KT hb ht) B L1 (rest++[loc]) g9 p9 t.length 0 c a.2 _ (by omega) hL0 (by omega) hok;rw[List.drop_zero]at i1;have i1':=i1;obtain⟨q7,q28,q25,q26,q8,hrr,qr,qlen,qst,qpp⟩:=i1;have p8:=hL.p8;have pr:=hL.pr;have e1:c0+7<c:=by omega
 have e2:c0+7<c':=by omega
 have e3:c0+6<c:=by omega
 have e4:c0<c:=by omega
 have hun:∀A A':AA,CM (A::A'::L1::(rest++[loc]))=some (A::A'::L1::rest,loc):=fun A A'=>by rw[<-bc,<-bc,<-bc,C9]
 have hst':=fun t h=>hst t h;simp only[cj,List.map_append,cq,List.cons.injEq]at hst';have hsr:∀t:St,(L1::(rest++[loc])).length+2<=t.up.length->(rest.map (AJ t)=rest/\AJ t loc=loc):=fun t h=>by have:=(hst' t h).2;exact⟨List.append_inj_left' this rfl,by simpa using List.append_inj_right' this rfl⟩
 have h1s:∀t:St,(L1::(rest++[loc])).length+2<=t.up.length->AJ t L1=L1:=fun t h=>(hst' t h).1;refine⟨?L,c',⟨rfl,?lv,DD.adds t hok 0 (KT hb ht)⟩,i2,fun n=>?g⟩;case g=>
  rw[WO (by simpa [H7]using pr) rfl (by omega)]
  simp only[JL,Fr.put,fL]
  have h5:=hb.hl
  have ih:=ih (n+95) (n+1495) (by omega)
  rw[show n+95+1400=n+1495 by omega]at ih
  simp
  rw[IM (fr0:=fL b c0) (ps:=[31]) (asg:=(JA 607)) (body':=QI) (N:=69) (by simpa [H7]using pr) e1]
  rw[show AX.loop (fL b c0) [31] (JA 607) QI 69 LS.busy=H7 b c0 .busy from rfl]
  simp[BJ]at ih
  simp[p8,AA.put,BJ,e3]
  rw[show(33,true,V.int IntKind.i64 (b.winds.length:Int))=(33,true,V.int IntKind.i64 (t.length:Int)) by rw[hlt],<-hlt]
  rw[ih]
  simp
  rw[show(1000000:Nat)=BJ from rfl,QB (fr0:=fL b c0) (ps:=[31]) (asg:=(JA 607)) (body:=QI) (N:=69) (by simpa [H7]using qr) (hun _ _) (by simp) e2]
  have s1:AJ ⟨B::L'::L1::(rest++[loc]),[]⟩ L'=L':=qst _ (by simp) rfl
  have s2:=h1s ⟨B::L'::L1::(rest++[loc]),[]⟩ (by simp)
  have s3:=hsr ⟨B::L'::L1::(rest++[loc]),[]⟩ (by simp)
  rw[cj,cj,cj,hB _ (by simp),s1,s2,s3.1,s3.2]
  rfl
 case lv=>exact i1'.back hb.hl
theorem AQG:∀(T:List (List Int)) (a:Bool×List (List Int)),runG uC a T=((a.1||!T.isEmpty,T.foldl (fun ws t=>JZ ws 0 t) a.2),true)
 |[],a=>by simp[runG]
 |t::T,a=>by have e:(uC a t).2=true:=rfl;rw[runG,if_pos e,AQG T];simp[uC]
def DZ(b:AL):List (List Int):=bS b.winds.length (EU b [] b.winds [])
def YJ(b:AL)(B:AA)(ff:FuncId)(cap:List V)(c0:Nat)(z:Bool):Prop:=∀n d fr,GH (BH cz ann kn (n+1200)) (some d) ⟨c0+1,fr,⟨[B],[(2,c0,.box (AB b))]⟩⟩ ff cap=some ⟨c0+1,(d,true,.bool z)::fr,⟨[B],[(2,c0,.box (AB b))]⟩⟩
@[simp] theorem AQH:CV (.pointer none)=some (.raw (.pointer none)):=rfl
@[simp] theorem AMM(s:St)(f:Nat):A1 s (f+1) (.raw (.pointer none))=some (.raw (.pointer none)):=rfl
theorem _root_.Go.Wind.Valid.w40{b:AL}(hb:Valid b):∀l∈b.winds,l.length<=40:=fun l hl=>by have:=(hb.wl l hl).2;omega
section
variable {b:AL}{B:AA}{ff:FuncId}{cap:List V}
theorem VB(h40:∀l∈b.winds,l.length<=40)(hB:∀t:St,1<=t.up.length->AJ t B=B)(hco:cap.all (AG 8)=false)(h:¬C6 b=0)(c d:Nat)(fr:Fr):∀n,GH (BH cz ann kn (n+6000)) (some d) ⟨c,fr,⟨[],B⟩⟩ 24 [.agg (AB b),.fn ff [] cap] =
  some ⟨c+1,(d,true,.tup [.raw (.pointer none),i (C6 b)])::fr,⟨[],B⟩⟩:=by
 intro n
 rw[A3 cd b24 rfl (by simp[AB,AH,AN,AM,hco])]
 have q1:=fun n=>bG n b h40
 simp only[AB]at q1|-
 simp[c24,AD,AH,AN,AM,q1,h,hB]
theorem YK(hb:Valid b)(hB:∀t:St,1<=t.up.length->AJ t B=B)(hcw:cap.map weakV=cap)(hco:cap.all (AG 8)=false)(c d:Nat)(hf:YJ b B ff cap c false)(fr:Fr):∀n,GH (BH cz ann kn (n+6000)) (some d) ⟨c,fr,⟨[],B⟩⟩ 24 [.agg (AB b),.fn ff [] cap] =
  some ⟨c+1,(d,true,.tup [.raw (.pointer none),i 2])::fr,⟨[],B⟩⟩:=by
 intro n
 rw[A3 cd b24 rfl (by simp[AB,AH,AN,AM,hco])]
 have q1:=fun n=>bG n b hb.w40
 have hf:=fun n d fr=>hf (n+4795) d fr
 rw[IX hb]at q1
 simp only[AB,bz,bk]at q1 hf|-
 simp[c24,AD,AH,AN,AM,q1,hB,hcw,hf]
theorem VC(γs:Nat->Nat)(k:Nat):D8 γs (bq k [])=bq k [.nil]:=by apply bm (by simp[D8]);intro j h1 h2;rw[LF h1 (by simpa [D8]using h1)];simp
def pD(b:AL)(c:Nat):AA:=[(BJ,c+7,H7 b c .ready),(2,c,.box (AB b)),(7,c+5,.box [.ptr 1 28 (c+4) 0]),(8,c+6,.box [.bool false]),(24,c+1,.vec 22 (bq b.winds.length [.nil])),(25,c+2,.map []),(26,c+3,.map []),
 (28,c+4,.box (AB b++[.vec 1 24 (c+1) b.winds.length,.mp 1 25 (c+2),.mp 1 26 (c+3)]))]
theorem jY:∀(L:AA) (k:Nat),(∀e∈L,e.1≠k)->L.get k=none
 |[],_,_=>rfl
 |(j,x)::L,k,h=>by have h1:=h (j,x) (by simp);rw[AA.get,if_neg fun e=>h1 e.symm];exact jY L k fun e he=>h e (by simp[he])
theorem dG(hb:Valid b)(c:Nat):A1W b c (c+8) true (false,bq b.winds.length []) (pD b c):=by
 have h5:=hb.hl;refine⟨rfl,⟨rfl,rfl,rfl,rfl,rfl,⟨fun _=>0,?_,fun h hh=>?_,fun h h5 _=>?_⟩,rfl,by simp,fun t h1 h2=>?_,rfl,rfl,rfl⟩,⟨fun l hl=>?_,fun l hl x hx=>?_⟩⟩
 ·rw[VC];rfl
 ·exfalso;refine hh ?_;simp only[bj,bh];split<;>rfl
 ·refine jY _ _ fun e he=>?_;simp only[pD,List.mem_cons,List.not_mem_nil,or_false]at he;rcases he with rfl|rfl|rfl|rfl|rfl|rfl|rfl|rfl<;>simp only[BJ]<;>omega
 ·have e1:¬1=t.up.length:=by omega
  have hs:=TL (t:=t) h1 (fun _=>0) (bq b.winds.length []);rw[VC]at hs;unfold pD;simp only[A6,E5,hs];obtain⟨up,loc⟩:=t;simp only at e1;have hm:CC ⟨up,loc⟩ (.map [])=.map []:=rfl;simp[H7,AB,AH,AN,AM,e1,hm]
 ·rw[bg hl];simp
 ·rw[bg hl]at hx;cases hx
theorem YL(hb:Valid b)(hB:∀t:St,1<=t.up.length->AJ t B=B)(hcw:cap.map weakV=cap)(hco:cap.all (AG 8)=false)(c d:Nat)(hf:YJ b B ff cap c true)(hT:EU b [] b.winds []=[])(fr:Fr):∃c',c<=c'/\∀n,GH (BH cz ann kn (n+6000)) (some d) ⟨c,fr,⟨[],B⟩⟩ 24 [.agg (AB b),.fn ff [] cap] =
  some ⟨c',(d,true,.tup [.raw (.pointer none),i 11])::fr,⟨[],B⟩⟩:=by
 have q1:=fun n=>bG n b hb.w40
 rw[IX hb]at q1
 have hf:=fun n d fr=>hf (n+4795) d fr
 have q79:=fun n=>uO n b []
 have hwi:=hb.wi
 have hla:=hb.la
 have hw:IntKind.i64.wrap (b.last+1)=(b.winds.length:Int):=by rw[AW (by omega) (by omega)];omega
 have m1:b.winds.length*24<=140737488355328:=by omega
 have m2:b.winds.length<=maxLen:=by unfold maxLen;omega
 obtain⟨L',c',r1,r2,r3⟩:=kT (out:=[]) hb (by simp) hB (fun c c1 g a L hc h=>⟨h.go,h.lv.mono hc,h.ok⟩) (fun c g a L h=>h.lv.st) (ACD b hb c B hB) (false,bq b.winds.length []) (pD b c) (dG hb c) (fL b c)
 rw[AQG,hT]at r1
 obtain⟨_,⟨p7,p28,p25,p26,p8,hrr,pr,plen,pst,p2,p30,p63⟩,rok⟩:=r1
 have r3:=fun n=>r3 (n+1491)
 refine⟨c',by omega,fun n=>?_⟩
 rw[A3 cd b24 rfl (by simp[AB,AH,AN,AM,hco])]
 simp only[AB,li,cq,pD,H7,fL,QI,BJ,bc,ck,bz,bk]at q1 hf q79 r3 p28 pr|-
 simp[c24,AD,AH,AN,AM,q1,hB,hcw,hf,q79,hw,m1,m2,Q3,bz]
 rw[UV rfl]
 simp[BJ,bz]
 rw[r3,aY (by simpa [BJ]using pr) (by omega)]
 simp only[List.isEmpty_nil,Bool.not_true,Bool.or_false]at p8
 obtain⟨γs,p24,rrow,rno⟩:=hrr
 have rn:∀h,h<5->L'.get (800+h)=none:=fun h hh=>rno h hh (by
  simp only[List.foldl_nil,bj,bh];split <;> rfl)
 have r0:=rn 0 (by omega)
 have r1:=rn 1 (by omega)
 have r2:=rn 2 (by omega)
 have r3:=rn 3 (by omega)
 have r4:=rn 4 (by omega)
 simp only[bf,bk]at r0 r1 r2 r3 r4
 simp[p2,p7,p8,p24,p25,p26,p28,p30,p63,r0,r1,r2,r3,r4,AA.put,BJ,hB]
end
theorem ACE(st:XS):K7 [1000000000000024,24,901025,902026,903028] st =
  (fun s=>cI 28 (L7 0 s) 902 [] s) ((fun s=>cI 26 (L7 0 s) 901 [] s) ((fun s=>cI 25 (L7 0 s) 900 [] s) (H2 24 (AD8 24 st)))):=rfl
def mvZ(k d c:Nat)(fr:Fr)(B loc:AA):Option (Nat×AX)->XS
 |some (γ,r)=>⟨c,vA 1 k 0 d fr,⟨[(d,γ,Q7 1 k 0 d r)::B],jA 1 k 0 d loc⟩⟩
 |none=>⟨c,fr,⟨[B],loc⟩⟩
@[simp] theorem A1X(k d c γ:Nat)(fr:Fr)(B loc:AA)(r:AX):mvZ k d c fr B loc (some (γ,r))=⟨c,vA 1 k 0 d fr,⟨[(d,γ,Q7 1 k 0 d r)::B],jA 1 k 0 d loc⟩⟩:=rfl
def plO:Option (Nat×AX)->Bool
 |some x=>bN x.2
 |none=>true
theorem JY(γ:Nat)(r:AX):plO (some (γ,r))=bN r:=rfl
theorem TM{k d c:Nat}{fr:Fr}{B loc:AA}(hp:plO (loc.get k)=true):cI k 0 d [] ⟨c,fr,⟨[B],loc⟩⟩=mvZ k d c fr B loc (loc.get k):=by
 unfold cI;cases h:loc.get k with
 |none=>simp[mvZ,QZ,h]
 |some x=>
  obtain⟨γ,r⟩:=x
  rw[h,JY]at hp
  have e3:QZ 0 [B].length (some (γ,r))=true:=by simp[QZ,hp]
  simp only[h,e3]
  simp[vB,h,zI,St.put,DB]
theorem TN(c:Nat)(fr:Fr)(B loc:AA):L7 0 ⟨c,fr,⟨[B],loc⟩⟩=0:=rfl
theorem NX(k c:Nat)(fr:Fr)(up:List AA)(loc:AA):AD8 k ⟨c,fr,⟨up,loc⟩⟩=OP (rN up.length (loc.get k)) ⟨c,fr,⟨up,loc⟩⟩:=rfl
theorem IU(n γ:Nat)(T:TypeId)(es:List (List V)):rN n (some (γ,.vec T es))=es.filterMap fun e=>match e with
  |[.vec l k _ _]=>if l=n then some k else none
  |_=>none:=rfl
theorem TO(l k f:Nat)(o:Option (Nat×AX))(a:Int):cx (BA l k o f) (AH a)=AH a:=by simp[AH]
theorem RT(l k f:Nat)(o:Option (Nat×AX))(w:List Int):cx (cx (BA l k o f)∘AH) w=w.map AH:=List.map_congr_left fun a _=>TO l k f o a
theorem H8(t:St):CC t (.map [])=.map []:=rfl
theorem O1{n k l d:Nat}:vA n k l d []=[]:=rfl
theorem LJ{n k l d:Nat}(j:Nat)(c:Bool)(v:V)(fr:Fr):vA n k l d ((j,c,v)::fr)=(j,c,KG n k l d 3 v)::vA n k l d fr:=rfl
theorem O2{n k l d:Nat}:jA n k l d []=[]:=rfl
theorem LK{n k l d:Nat}(j g:Nat)(r:AX)(L:AA):jA n k l d ((j,g,r)::L)=if j=k then jA n k l d L else(j,g,Q7 n k l d r)::jA n k l d L:=rfl
theorem LL{n k l d:Nat}(f:Nat)(x:Bool):KG n k l d f (.bool x)=.bool x:=by cases f<;>rfl
theorem F5{n k l d:Nat}(f:Nat)(x:Bool)(es:List (List V)):KG n k l d f (.list x es)=.list x es:=by cases f<;>rfl
theorem O3{n k l d a b g o:Nat}(f:Nat):KG n k l d (f+1) (.ptr a b g o)=if a=n/\b=k then .ptr l d g o else .ptr a b g o:=rfl
theorem TP{n k l d a b g:Nat}(f:Nat):KG n k l d (f+1) (.mp a b g)=if a=n/\b=k then .mp l d g else .mp a b g:=rfl
theorem G9{n k l d:Nat}(cs:List V):Q7 n k l d (.box cs)=.box (cs.map (KG n k l d 3)):=rfl
theorem O4{n k l d:Nat}(es:List (V×V)):Q7 n k l d (.map es)=.map es:=rfl
theorem LM(k c:Nat)(fr:Fr)(up:List AA)(loc:AA):H2 k ⟨c,fr,⟨up,loc⟩⟩=⟨c,NK up.length k (loc.get k) fr,⟨up,FI up.length k (loc.get k) loc⟩⟩:=rfl
theorem LN(k:Nat)(ks:List Nat)(st:XS):OP (k::ks) st=OP ks (H2 k st):=rfl
theorem AHX{b:AL}{T:List (List Int)}(hT:T≠[])(hl:∀t∈T,t.length=b.winds.length){h:Nat}(hh:h<b.winds.length):(bS b.winds.length T).getD h []≠[]:=by obtain⟨t,ht⟩:=List.exists_mem_of_ne_nil _ hT;exact cw ((uD hh).2 ⟨t,ht,by rw[hl t ht];exact hh,rfl⟩)
section
variable {b:AL}{B:AA}{ff:FuncId}{cap:List V}
theorem AHY{b:AL}:∀t∈EU b [] b.winds [],t.length=b.winds.length:=fun t ht=>by rw[fS]at ht;simp only[ck,List.map_id',List.mem_filter]at ht;exact CK (O6.1 ht.1)
theorem jZ(hb:Valid b)(hB:∀t:St,1<=t.up.length->AJ t B=B)(hcw:cap.map weakV=cap)(hco:cap.all (AG 8)=false)(c d:Nat)(hf:YJ b B ff cap c true)(hT:EU b [] b.winds []≠[])(fr:Fr):∃c',c+8<=c'/\∀n,GH (BH cz ann kn (n+6000)) (some d) ⟨c,fr,⟨[],B⟩⟩ 24 [.agg (AB b),.fn ff [] cap] =
  some ⟨c',(d,true,.tup [.ptr 0 902 (c+4) 0,i 0])::fr,⟨[],(902,c+4,.box (AB b++[H6 (DZ b),.mp 0 900 (c+2),.mp 0 901 (c+3)]))::(901,c+3,.map [])::(900,c+2,.map [])::B⟩⟩:=by
 have q1:=fun n=>bG n b hb.w40
 rw[IX hb]at q1
 have hf:=fun n d fr=>hf (n+4795) d fr
 have q79:=fun n=>uO n b []
 have hwi:=hb.wi
 have hla:=hb.la
 have hw:IntKind.i64.wrap (b.last+1)=(b.winds.length:Int):=by rw[AW (by omega) (by omega)];omega
 have m1:b.winds.length*24<=140737488355328:=by omega
 have m2:b.winds.length<=maxLen:=by unfold maxLen;omega
 obtain⟨L',c',r1,r2,r3⟩:=kT (out:=[]) hb (by simp) hB (fun c c1 g a L hc h=>⟨h.go,h.lv.mono hc,h.ok⟩) (fun c g a L h=>h.lv.st) (ACD b hb c B hB) (false,bq b.winds.length []) (pD b c) (dG hb c) (fL b c)
 rw[AQG]at r1
 have hTe:(EU b [] b.winds []).isEmpty=false:=by cases h:EU b [] b.winds []with|nil=>exact absurd h hT|cons x l=>rfl
 rw[hTe]at r1
 obtain⟨_,⟨p7,p28,p25,p26,p8,hrr,pr,plen,pst,p2,p30,p63⟩,rok⟩:=r1
 have hws:List.foldl (fun ws t=>JZ ws 0 t) (bq b.winds.length []) (EU b [] b.winds [])=DZ b:=rfl
 have hne:=fun h (hh:h<b.winds.length)=>AHX hT AHY hh
 have hwd:bS b.winds.length (EU b [] b.winds [])=DZ b:=rfl
 rw[hwd]at hne
 simp only[hws]at hrr plen
 have h5:=hb.hl
 have r3:=fun n=>r3 (n+1491)
 refine⟨c',by omega,fun n=>?_⟩
 rw[A3 cd b24 rfl (by simp[AB,AH,AN,AM,hco])]
 simp only[AB,li,cq,pD,H7,fL,QI,BJ,bc,ck,bz,bk]at q1 hf q79 r3 p2 p28 pr|-
 simp[c24,AD,AH,AN,AM,q1,hB,hcw,hf,q79,hw,m1,m2,Q3,bz]
 rw[UV rfl]
 simp[BJ,bz]
 rw[r3,aY (by simpa [BJ]using pr) (by omega)]
 simp only[Bool.not_false,Bool.or_true]at p8
 obtain⟨γs,p24,rrow,rno⟩:=hrr
 generalize DZ b=ws at *
 have hlen:ws.length=1\/ws.length=2\/ws.length=3\/ws.length=4\/ws.length=5:=by omega
 rcases hlen with hl|hl|hl|hl|hl
 ·match ws,hl with
  |[w0],_=>
   have hk1:b.winds.length=1:=plen.symm
   have n0:=hne 0 (by omega)
   have r0:=(rrow 0 n0).1
   have r1:=rno 1 (by omega) rfl
   have r2:=rno 2 (by omega) rfl
   have r3:=rno 3 (by omega) rfl
   have r4:=rno 4 (by omega) rfl
   simp only[bw,bx]at n0 r0
   simp only[bf,bk]at r0 r1 r2 r3 r4
   simp[D8,KS,n0,p2,p7,p8,p24,p25,p26,p28,p30,p63,r0,r1,r2,r3,r4,AA.put,BJ,hB,ACE,NX,IU,LN,LM,TN,TM,JY,bN,hk1,O1,LJ,O2,LK,LL,F5,O3,TP,GF,G9,O4,GG,JX,H8,AN,TO,RT]
 ·match ws,hl with
  |[w0,w1],_=>
   have hk1:b.winds.length=2:=plen.symm
   have n0:=hne 0 (by omega)
   have r0:=(rrow 0 n0).1
   have n1:=hne 1 (by omega)
   have r1:=(rrow 1 n1).1
   have r2:=rno 2 (by omega) rfl
   have r3:=rno 3 (by omega) rfl
   have r4:=rno 4 (by omega) rfl
   simp only[bw,bx]at n0 n1 r0 r1
   simp only[bf,bk]at r0 r1 r2 r3 r4
   simp[D8,KS,n0,n1,p2,p7,p8,p24,p25,p26,p28,p30,p63,r0,r1,r2,r3,r4,AA.put,BJ,hB,ACE,NX,IU,LN,LM,TN,TM,JY,bN,hk1,O1,LJ,O2,LK,LL,F5,O3,TP,GF,G9,O4,GG,JX,H8,AN,TO,RT]
 ·match ws,hl with
  |[w0,w1,w2],_=>
   have hk1:b.winds.length=3:=plen.symm
   have n0:=hne 0 (by omega)
   have r0:=(rrow 0 n0).1
   have n1:=hne 1 (by omega)
   have r1:=(rrow 1 n1).1
   have n2:=hne 2 (by omega)
   have r2:=(rrow 2 n2).1
   have r3:=rno 3 (by omega) rfl
   have r4:=rno 4 (by omega) rfl
   simp only[bw,bx]at n0 n1 n2 r0 r1 r2
   simp only[bf,bk]at r0 r1 r2 r3 r4
   simp[D8,KS,n0,n1,n2,p2,p7,p8,p24,p25,p26,p28,p30,p63,r0,r1,r2,r3,r4,AA.put,BJ,hB,ACE,NX,IU,LN,LM,TN,TM,JY,bN,hk1,O1,LJ,O2,LK,LL,F5,O3,TP,GF,G9,O4,GG,JX,H8,AN,TO,RT]
 ·match ws,hl with
  |[w0,w1,w2,w3],_=>
   have hk1:b.winds.length=4:=plen.symm
   have n0:=hne 0 (by omega)
   have r0:=(rrow 0 n0).1
   have n1:=hne 1 (by omega)
   have r1:=(rrow 1 n1).1
   have n2:=hne 2 (by omega)
   have r2:=(rrow 2 n2).1
   have n3:=hne 3 (by omega)
   have r3:=(rrow 3 n3).1
   have r4:=rno 4 (by omega) rfl
   simp only[bw,bx]at n0 n1 n2 n3 r0 r1 r2 r3
   simp only[bf,bk]at r0 r1 r2 r3 r4
   simp[D8,KS,n0,n1,n2,n3,p2,p7,p8,p24,p25,p26,p28,p30,p63,r0,r1,r2,r3,r4,AA.put,BJ,hB,ACE,NX,IU,LN,LM,TN,TM,JY,bN,hk1,O1,LJ,O2,LK,LL,F5,O3,TP,GF,G9,O4,GG,JX,H8,AN,TO,RT]
 ·match ws,hl with
  |[w0,w1,w2,w3,w4],_=>
   have hk1:b.winds.length=5:=plen.symm
   have n0:=hne 0 (by omega)
   have r0:=(rrow 0 n0).1
   have n1:=hne 1 (by omega)
   have r1:=(rrow 1 n1).1
   have n2:=hne 2 (by omega)
   have r2:=(rrow 2 n2).1
   have n3:=hne 3 (by omega)
   have r3:=(rrow 3 n3).1
   have n4:=hne 4 (by omega)
   have r4:=(rrow 4 n4).1
   simp only[bw,bx]at n0 n1 n2 n3 n4 r0 r1 r2 r3 r4
   simp only[bf,bk]at r0 r1 r2 r3 r4
   simp[D8,KS,n0,n1,n2,n3,n4,p2,p7,p8,p24,p25,p26,p28,p30,p63,r0,r1,r2,r3,r4,AA.put,BJ,hB,ACE,NX,IU,LN,LM,TN,TM,JY,bN,hk1,O1,LJ,O2,LK,LL,F5,O3,TP,GF,G9,O4,GG,JX,H8,AN,TO,RT]
end
end Go.Proofs.Tryz.Op
