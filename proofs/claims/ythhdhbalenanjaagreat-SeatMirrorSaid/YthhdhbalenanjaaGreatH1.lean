/- The level of one who asks for the winds of all truths. No condition. -/
import Derived.Test.YthhdhbalenanjaaGreatO1
import Derived.Test.YthhdhbalenanjaaGreatI1
noncomputable section
open Go.Proofs.Tryz renaming prog->cz,func154->cd
open List renaming getD_eq_getElem?_getD->bj,replicate->bq,getD_cons_zero->bw,getElem?_eq_getElem->bz,getD_cons_succ->bb,cons_append->bc,eq_of_mem_replicate->bg,getElem?_replicate->bh,ext_getElem->bm,length_singleton->bn,getElem?_eq_none->bp,map_cons->cj,nil_append->ck,map_nil->cq,ne_nil_of_mem->cw,map->cx
open Nat renaming reduceAdd->bk,add_assoc->bx,add_zero->bf
set_option maxRecDepth 100000
set_option linter.unusedSimpArgs false
open Go Go.Pg Go.Proofs Go.Wind
namespace Go.Proofs.Tryz.Op
def lA(γ h:Nat):List Int->V
 |[]=>.nil
 |w=>.vec 1 (800+h) γ w.length
@[simp] theorem AEM(γ h:Nat):lA γ h []=.nil:=rfl
theorem KT{γ h:Nat}{w:List Int}(hw:w≠[]):lA γ h w=.vec 1 (800+h) γ w.length:=by
 cases w with
 |nil=>exact absurd rfl hw
 |cons x w=>rfl
def D6(γs:Nat->Nat)(ws:List (List Int)):List (List V):=ws.mapIdx fun h w=>[lA (γs h) h w]
def Q8:Code:=.block 1 (.seq (D3 2399) (.seq (D3 5471) (.block 2 (.loop J7))))
@[simp] theorem uAs(n:Nat)(st:XS):AE cz ann kn n 69 Q8 st=AE cz ann kn n 69 (.block 1 (.seq (D3 2399) (.seq (D3 5471) (.block 2 (.loop J7))))) st:=rfl
def gV(b:AL)(c0:Nat):Fr:=[(30,true,.fn 196 [] [.ref (AC b),.ref [li []]]),(29,true,.agg (AC b)),(2,true,.ptr 1 2 c0 0),(7,true,.ptr 1 7 (c0+5) 0),(8,true,.ptr 1 8 (c0+6) 0)]
def IE(b:AL)(c0:Nat)(ls:LS):AX:=.loop (gV b c0) [31] (D3 607) Q8 69 ls
structure RwA(c0 c:Nat)(ws:List (List Int))(L:AA)(γs:Nat->Nat):Prop where
 p24:L.get 24=some (c0+1,.vec 22 (D6 γs ws))
 row:∀h,ws.getD h []≠[]->L.get (800+h)=some (γs h,.vec 3 ((ws.getD h []).map AJ))/\γs h<c
 no:∀h,h<5->ws.getD h []=[]->L.get (800+h)=none
structure vM(b:AL)(c0:Nat)(ls:LS)(c:Nat)(s:Bool)(ws:List (List Int))(L:AA):Prop where
 p7:L.get 7=some (c0+5,.box [.ptr 1 28 (c0+4) 0])
 p28:L.get 28=some (c0+4,.box (AC b++[.vec 1 24 (c0+1) b.winds.length,.mp 1 25 (c0+2),.mp 1 26 (c0+3)]))
 p25:L.get 25=some (c0+2,.map [])
 p26:L.get 26=some (c0+3,.map [])
 p8:L.get 8=some (c0+6,.box [.bool s])
 rows:∃γs,RwA c0 c ws L γs
 pr:L.get BA=some (c0+7,IE b c0 ls)
 len:ws.length=b.winds.length
 st:∀t:St,2<=t.up.length->t.loc.get 63=none->AH t L=L
 pp:L.get 2=some (c0,.box (AC b))/\L.get 30=none/\L.get 63=none
theorem RwA.mono{c0 c c1:Nat}{ws:List (List Int)}{L:AA}{γs:Nat->Nat}(h:RwA c0 c ws L γs)(hc:c<=c1):RwA c0 c1 ws L γs :=
 ⟨h.p24,fun k hk=>⟨(h.row k hk).1,Nat.lt_of_lt_of_le (h.row k hk).2 hc⟩,h.no⟩
theorem vM.mono{b:AL}{c0 c c1:Nat}{ls:LS}{s:Bool}{ws:List (List Int)}{L:AA}(h:vM b c0 ls c s ws L)(hc:c<=c1):vM b c0 ls c1 s ws L :=
 ⟨h.p7,h.p28,h.p25,h.p26,h.p8,by obtain⟨γs,hr⟩:=h.rows;exact⟨γs,hr.mono hc⟩,h.pr,h.len,h.st,h.pp⟩
theorem MO(st:XS)(v:V)(hv:∀l k o,BC l k o 3 v=v):∀ks,IC st ks v=v
 |[]=>rfl
 |k::ks=>by
  have ih:=MO st v hv ks;obtain⟨c,fr,up,loc⟩:=st;by_cases h:k<10000
  ·rw[tW _ _ _ _ _ _ _ h,hv,ih]
  ·rw[F7 _ _ _ _ h,hv,ih]
theorem LJ{c0 c:Nat}{ws:List (List Int)}{L:AA}{γs:Nat->Nat}(h:RwA c0 c ws L γs){k:Nat}(hk:k<=4)(hne:ws.getD k []≠[])(B:AA)(R:List AA)(c1:Nat)(fr:Fr)(loc:AA) :
  IC ⟨c1,fr,⟨B::L::R,loc⟩⟩ [20800,20801,20802,20803,20804] (.vec 1 (800+k) (γs k) (ws.getD k []).length)=li (ws.getD k []):=by
 have hr:=(h.row k hne).1
 have e1:¬1=R.length+1+1:=by omega
 have:k=0\/k=1\/k=2\/k=3\/k=4:=by omega
 generalize ws.getD k []=w at hr hne|-
 have hget:∀j,St.get ⟨B::L::R,loc⟩ 1 j=L.get j:=fun j=>by simp[St.get]
 simp only[F7 _ _ _ _ (show ¬20800<10000 by decide),F7 _ _ _ _ (show ¬20801<10000 by decide),F7 _ _ _ _ (show ¬20802<10000 by decide),F7 _ _ _ _ (show ¬20803<10000 by decide),F7 _ _ _ _ (show ¬20804<10000 by decide),ABC,Nat.reduceDiv,Nat.reduceMod,Nat.reduceSub,hget]
 have skip:∀a o,a≠800+k->BC 1 a o 3 (.vec 1 (800+k) (γs k) w.length)=.vec 1 (800+k) (γs k) w.length:=fun a o ha=>by
  simp only[BC];split
  ·rw[if_neg fun e=>ha e.2.1.symm]
  ·rfl
 have hit:BC 1 (800+k) (L.get (800+k)) 3 (.vec 1 (800+k) (γs k) w.length)=li w:=by rw[hr];simp[BC]
 rcases this with rfl|rfl|rfl|rfl|rfl
 ·rw[hit];simp
 ·rw[skip 800 _ (by decide),hit];simp
 ·rw[skip 800 _ (by decide),skip 801 _ (by decide),hit];simp
 ·rw[skip 800 _ (by decide),skip 801 _ (by decide),skip 802 _ (by decide),hit];simp
 ·rw[skip 800 _ (by decide),skip 801 _ (by decide),skip 802 _ (by decide),skip 803 _ (by decide),hit]
theorem LK(γs:Nat->Nat)(ws:List (List Int)):(D6 γs ws).length=ws.length:=by unfold D6;simp
theorem LL{γs:Nat->Nat}{ws:List (List Int)}{h:Nat}(h1:h<(D6 γs ws).length)(h2:h<ws.length):(D6 γs ws)[h]=[lA (γs h) h ws[h]]:=by simp only[D6,List.getElem_mapIdx]
def XI(γs:Nat->Nat)(h c:Nat):Nat->Nat:=fun j=>if j=h then c else γs j
theorem eI{γs:Nat->Nat}{ws:List (List Int)}{h:Nat}(_:h<ws.length)(c:Nat){w:List Int}(hw:w≠[]):(D6 γs ws).set h [.vec 1 (800+h) c w.length]=D6 (XI γs h c) (ws.set h w):=by
 apply bm (by simp[LK]);intro j h1 h2;have hj:j<ws.length:=by simpa [LK]using h1
 rw[List.getElem_set,LL h2 (by simpa using hj),List.getElem_set];by_cases e:h=j
 ·subst e;rw[if_pos rfl,if_pos rfl,KT hw,XI,if_pos rfl]
 ·rw[if_neg e,if_neg e,LL _ hj,XI,if_neg fun h=>e h.symm]
theorem AR4{n d γ j:Nat}{w:List Int}:KI n 63 1 d 3 (lA γ j w)=lA γ j w:=by
 cases w with
 |nil=>rfl
 |cons x w=>
  show(if 1=n/\800+j=63 then _ else _)=_
  rw[if_neg (by omega)]
theorem AEN{γs:Nat->Nat}{ws:List (List Int)}{h:Nat}(hh:h<ws.length)(n c:Nat){w:List Int}(hw:w≠[]):((D6 γs ws).set h [.vec n 63 c w.length]).map (cx (KI n 63 1 (800+h) 3))=D6 (XI γs h c) (ws.set h w):=by
 rw[<-eI hh c hw,List.map_set];congr 1
 ·apply bm (by simp);intro j h1 h2;have hj:j<ws.length:=by simpa [LK]using h1
  rw[List.getElem_map,LL _ hj];exact congrArg (fun v=>[v]) AR4
 ·simp[KI]
theorem eJ(ws:List (List Int))(h:Nat)(l:List Int)(j:Nat)(hh:h<ws.length):(ws.set h l).getD j []=if j=h then l else ws.getD j []:=by
 simp only[bj,List.getElem?_set];by_cases e:h=j
 ·subst e;simp[hh]
 ·rw[if_neg e,if_neg fun h=>e h.symm]
theorem RwA.put{c0 c:Nat}{ws:List (List Int)}{L:AA}{γs:Nat->Nat}(hr:RwA c0 c ws L γs){h:Nat}(hh:h<ws.length){w:List Int}(hw:w≠[]){L':AA}
  (h24:L'.get 24=some (c0+1,.vec 22 (D6 (XI γs h c) (ws.set h w)))) (h800:L'.get (800+h)=some (c,.vec 3 (w.map AJ))) (hot:∀j,j≠h->L'.get (800+j)=L.get (800+j)):RwA c0 (c+1) (ws.set h w) L' (XI γs h c):=by
 refine⟨h24,fun j hj=>?_,fun j hj5 hj=>?_⟩
 ·rw[eJ _ _ _ _ hh]at hj|-;by_cases e:j=h
  ·subst e;rw[if_pos rfl,XI,if_pos rfl];exact⟨h800,Nat.lt_succ_self _⟩
  ·rw[if_neg e]at hj|-;rw[hot j e,XI,if_neg e];exact⟨(hr.row j hj).1,Nat.lt_succ_of_lt (hr.row j hj).2⟩
 ·rw[eJ _ _ _ _ hh]at hj;by_cases e:j=h
  ·subst e;rw[if_pos rfl]at hj;exact absurd hj hw
  ·rw[if_neg e]at hj;rw[hot j e];exact hr.no j hj5 hj
theorem lB{t:St}{l k γ m:Nat}(h:¬l=t.up.length):BZ t (.vec l k γ m)=some (.vec l k γ m):=by obtain⟨up,loc⟩:=t;rw[pF,cK,if_neg h]
theorem VD{t:St}(ht:2<=t.up.length)(γs:Nat->Nat)(ws:List (List Int)):CG t (.vec 22 (D6 γs ws))=.vec 22 (D6 γs ws):=by
 refine MF fun e he v hv=>?_;obtain⟨j,hj,rfl⟩:=List.getElem_of_mem he;rw[LL hj (by simpa [LK]using hj)]at hv;simp only[List.mem_cons,List.not_mem_nil,or_false]at hv;subst hv;have hne:¬1=t.up.length:=by omega
 cases ws[j]'(by simpa [LK]using hj)with
 |nil=>rfl
 |cons x w=>exact lB hne
theorem AOK(st:XS):MC [25008011801063] st=dN 63 (MB 8 st) (tF 800 11 st) [24] st:=rfl
theorem AEO(c:Nat)(fr:Fr)(up:List AA):MC [25008011801063] ⟨c,fr,⟨up,[]⟩⟩=⟨c,fr,⟨up,[]⟩⟩:=by rw[AOK];rfl
theorem LM{n k l d:Nat}(fr:Fr)(j:Nat):BD (wJ n k l d fr) j=(BD fr j).map fun x=>(x.1,KI n k l d 3 x.2):=by rw[FJ,FJ,jC]
@[simp] theorem AWZ(u:Nat)(L:AA)(j:Nat):(JC u L).get j=if j=u then none else L.get j:=bQ u L j
theorem TN(t:St)(u:Nat):∀L:AA,AH t (JC u L)=JC u (AH t L)
 |[]=>rfl
 |(q,g,r)::L=>by
  have ih:=TN t u L;rw[A0];unfold JC;by_cases h:q=u
  ·rw[if_pos h,if_pos h,ih]
  ·rw[if_neg h,if_neg h,A0,ih]
theorem JW(u g:Nat)(r:AX)(L:AA):JC u ((u,g,r)::L)=JC u L:=by show(if u=u then JC u L else _)=_;rw[if_pos rfl]
theorem AR5(c γ h g7 o7 g24:Nat)(T:TypeId)(es:List (List V))(fr:Fr)(B L:AA)(R:List AA)(r24:AX)(h7:BD fr 7=some (true,.ptr 1 7 g7 o7))(h10:BD fr 10=some (true,.int .i64 h))(h24:L.get 24=some (g24,r24)) :
  MC [25008011801063] ⟨c,fr,⟨B::L::R,[(63,γ,.vec T es)]⟩⟩=⟨c,wJ (R.length+1+1) 63 1 (800+h) fr,⟨B::((800+h,γ,RZ (R.length+1+1) 63 1 (800+h) (.vec T es))::(24,g24,RZ (R.length+1+1) 63 1 (800+h) r24)::JC 24 L)::R,[]⟩⟩:=by
 rw[AOK]
 have e1:MB 8 ⟨c,fr,⟨B::L::R,[(63,γ,.vec T es)]⟩⟩=1:=by show(match BD fr 7 with|some (true,.ptr l _ _ _)=>l|_=>0)=1;rw[h7]
 have e2:tF 800 11 ⟨c,fr,⟨B::L::R,[(63,γ,.vec T es)]⟩⟩=800+h:=by show(match BD fr 10 with|some (true,.int _ n)=>800+n.toNat|_=>800)=800+h;rw[h10];simp
 rw[e1,e2]
 unfold dN
 have e3:RQ 1 (B::L::R).length (AA.get [(63,γ,.vec T es)] 63)=true:=by simp[RQ,AA.get,dK]
 simp only[e3]
 simp[wK,AA.get,mvU,h24,kE,St.put,DY]
theorem GL{n k l d:Nat}(f:Nat)(q:IntKind)(x:Int):KI n k l d f (.int q x)=.int q x:=by cases f<;>rfl
theorem LN{n k l d a b g o:Nat}(f:Nat)(h:¬b=k):KI n k l d f (.ptr a b g o)=.ptr a b g o:=by
 cases f with
 |zero=>rfl
 |succ f=>simp only[KI];rw[if_neg fun e=>h e.2]
theorem AEP{n k l d a b g o:Nat}(f:Nat)(h:¬b=k):KI n k l d f (.vec a b g o)=.vec a b g o:=by
 cases f with
 |zero=>rfl
 |succ f=>simp only[KI];rw[if_neg fun e=>h e.2]
theorem PL{n k l d:Nat}(T:TypeId)(es:List (List V)):RZ n k l d (.vec T es)=.vec T (es.map (cx (KI n k l d 3))):=rfl
theorem A3F{k:Nat}{x:Int}(h:k<=10000):BV cz 3 k [[.int .i64 x]]=true:=by rw[BS (by simp) (by simp)];simp[maxLen];omega
theorem AKS{P:Program}{fr:Fr}{s:St}(e d c:Nat)(y:List V)(ys:List (List V))(h:BV P e 0 (y::ys)=true):adV P e d c fr s .nil (y::ys)=some (⟨c+1,(d,true,.vec s.up.length d c (ys.length+1))::fr,s.put s.up.length d c (.vec e (y::ys))⟩,[(s.up.length,d),(s.up.length,d+JF)]):=by unfold adV;simp[I6,h]
theorem lAs(b:AL)(c0:Nat)(h5:b.winds.length<=5)(s:Bool)(t:List Int)(ht:t.length=b.winds.length)(hn:∀n∈t,0<=n/\n<=3)(B:AA)(L1:AA)(R:List AA)(g9:Nat)(p9:L1.get 9=some (g9,.vec 3 (t.map AJ))) :
  ∀(d h c:Nat) (ws:List (List Int)) (L:AA),h+d=t.length->vM b c0 .busy c s ws L->c0+8<=c->DG ws ->
  ∃fr' c' L',vM b c0 .busy c' s (J9 ws h (t.drop h)) L'/\c<=c'/\∀n m,d<m->BJ (AE cz ann kn (n+1400) 69) J7 (ann 69 (B9 J7)) m ⟨c,[(7,true,.ptr 1 7 (c0+5) 0),(32,true,.vec 2 9 g9 t.length),(33,true,i t.length),(34,true,i h)],⟨B::L::L1::R,[]⟩⟩ =
   some (.exit 2,⟨c',fr',⟨B::L'::L1::R,[]⟩⟩)
 |0,h,c,ws,L,hd,hL,hc,hok=>by
  have:h=t.length:=by omega
  subst this;refine⟨?fr,c,L,by simpa [J9]using hL,Nat.le_refl _,fun n m hm=>?g⟩;case g=>
   obtain⟨m,rfl⟩:=qNz m (by omega)
   rw[AB]
   simp
   rfl
 |d+1,h,c,ws,L,hd,hL,hc,hok=>by
  have hh:h<t.length:=by omega
  have hw:=BW (k:=h) (by omega);have hdrop:t.drop h=t[h]::t.drop (h+1):=List.drop_eq_getElem_cons hh;have hLo:=hL;obtain⟨p7,p28,p25,p26,p8,⟨γs,hr⟩,pr,hlen,pst,pp⟩:=hL;have hg:ws.getD h []=ws[h]'(by omega):=by rw[bj,bz (by omega)];rfl
  have hl4:(ws.getD h []).length<=4:=by rw[hg];exact hok.len _ (List.getElem_mem _)
  have qc:=fun n=>WJ n (ws.getD h []) t[h] (by omega);have h24:=hr.p24;have hra:(D6 γs ws)[h]? = some [lA (γs h) h (ws.getD h [])]:=by unfold D6;rw[List.getElem?_mapIdx,bz (by omega),hg];rfl
  have hrl:(D6 γs ws).length=ws.length:=by unfold D6;simp
  have hrx:(D6 γs ws)[h]'(by omega)=[lA (γs h) h (ws.getD h [])]:=by have:=hra;rw[bz (by omega),Option.some.injEq]at this;exact this
  have hhw:h<b.winds.length:=by omega
  have hhr:h<(D6 γs ws).length:=by omega
  have ha0:BV cz 3 0 [[.int .i64 t[h]]]=true:=A3F (by omega);have hc0:c0<c:=by omega
  have hws:h<ws.length:=by omega
  have hx3:=hn t[h] (List.getElem_mem hh);have hka:∀k,900<=k->(800+h=k)=False:=fun k hk=>by simp;omega
  have hkb:∀k,k<800->(800+h=k)=False:=fun k hk=>by simp;omega
  have hkc:∀k,k<800->(k=800+h)=False:=fun k hk=>by simp;omega
  have hkd:∀k,900<=k->(k=800+h)=False:=fun k hk=>by simp;omega
  have hrb:b.winds.length<=(D6 γs ws).length:=by omega
  by_cases hm:t[h]∈ws.getD h []
  ·have hmd:decide (t[h]∈ws.getD h [])=true:=decide_eq_true hm;rw[hmd]at qc;have hne:ws.getD h []≠[]:=cw hm;have hwv:=KT (γ:=γs h) (h:=h) hne;have hrt:=fun c1 fr loc=>LJ hr (k:=h) (by omega) hne B (L1::R) c1 fr loc;obtain⟨fr',c',L',i1,i2,ih⟩:=lAs b c0 h5 s t ht hn B L1 R g9 p9 d (h+1) c ws L (by omega) hLo hc hok;have hadd:J9 ws h (t.drop h)=J9 ws (h+1) (t.drop (h+1)):=by rw[hdrop];show J9 (OL ws h t[h]) (h+1) (t.drop (h+1))=_;rw[OL,if_pos hm]
   rw[hadd];refine⟨fr',c',L',i1,i2,fun n m hm'=>?_⟩;obtain⟨m,rfl⟩:=qNz m (by omega);have ih:=ih n m (by omega);have hfl:∀st x,IC st [20800,20801,20802,20803,20804] (.int .i64 x)=.int .i64 x:=fun st x=>MO st _ (fun _ _ _=>fY _ _ _) _;rw[hwv]at hrx;generalize ws.getD h []=w at *;rw[AB];simp only[AC]at p28 qc ih|-;simp at ih;simp[-F7,hh,hw,AJ,p7,p28,p9,h24,hhr,hhw,hrb,hrx,hrt,hfl,qc,AEO,ih]
  ·have hmd:decide (t[h]∈ws.getD h [])=false:=decide_eq_false hm;rw[hmd]at qc;have hfl:∀st x,IC st [20800,20801,20802,20803,20804] (.int .i64 x)=.int .i64 x:=fun st x=>MO st _ (fun _ _ _=>fY _ _ _) _;have hfn:∀st,IC st [20800,20801,20802,20803,20804] .nil=.nil:=fun st=>MO st _ (fun _ _ _=>ABA _) _;by_cases hne:ws.getD h []=[]
   ·rw[hne]at hrx qc;rw[AEM]at hrx;have hne1:([t[h]]:List Int)≠[]:=by simp
    have hadd:OL ws h t[h]=ws.set h [t[h]]:=by rw[OL,if_neg hm,hne];rfl
    have hrs:=AEN (γs:=γs) hws (R.length+1+1+1) c hne1;have hL':vM b c0 .busy (c+1) s (ws.set h [t[h]]) ((800+h,c,.vec 3 [[.int .i64 t[h]]])::(24,c0+1,.vec 22 (D6 (XI γs h c) (ws.set h [t[h]])))::JC 24 L):=by
     refine⟨?_,?_,?_,?_,?_,⟨XI γs h c,hr.put hws hne1 (by simp;omega) (by simp[AJ]) fun j hj=>by simp[hj,show ¬800+j=24 by omega]⟩,?_,by simpa using hlen,fun T h1 h2=>?_,by simpa [hkc]using pp⟩
     ·simpa [hkc]using p7
     ·simpa [hkc]using p28
     ·simpa [hkc]using p25
     ·simpa [hkc]using p26
     ·simpa [hkc]using p8
     ·simpa [BA,hkd]using pr
     ·rw[A0,A0,TN,VD h1,pst T h1 h2,show[[V.int .i64 t[h]]]=[t[h]].map AJ from rfl,LY]
    obtain⟨fr',c',L',i1,i2,ih⟩:=lAs b c0 h5 s t ht hn B L1 R g9 p9 d (h+1) (c+1) _ _ (by omega) hL' (by omega) (by rw[<-hadd];exact hok.add h _ hx3);have hadw:J9 ws h (t.drop h)=J9 (ws.set h [t[h]]) (h+1) (t.drop (h+1)):=by rw[hdrop,<-hadd];rfl
    rw[hadw];refine⟨fr',c',L',i1,by omega,fun n m hm'=>?_⟩;obtain⟨m,rfl⟩:=qNz m (by omega);have ih:=ih n m (by omega);rw[AB];simp only[bn]at hrs;have hgh:=fun c1 fr (h7:BD fr 7=some (true,.ptr 1 7 (c0+5) 0)) (h10:BD fr 10=some (true,.int .i64 h))=>AR5 c1 c h _ _ (c0+1) 3 [[.int .i64 t[h]]] fr B ((24,c0+1,.vec 22 ((D6 γs ws).set h [.vec (R.length+1+1+1) 63 c 1]))::L) (L1::R) _ h7 h10 rfl;simp only[AC,li,cq]at p28 qc ih|-;simp at ih;simp[-F7,hh,hw,AJ,p7,p28,p9,h24,hhr,hhw,hrb,hrx,hfl,hfn,qc,AKS,ha0,JF,DY,hc0,LM,hgh,JW,hrs,GL,LN,AEP,PL,ih]
   ·have hwv:=KT (γ:=γs h) (h:=h) hne;have hrt:=fun c1 fr loc=>LJ hr (k:=h) (by omega) hne B (L1::R) c1 fr loc;have hrow:=(hr.row h hne).1;have hγ:=(hr.row h hne).2;rw[hwv]at hrx;have ha1:BV cz 3 (ws.getD h []).length [[.int .i64 t[h]]]=true:=A3F (by omega);have hadd:OL ws h t[h]=ws.set h (ws.getD h []++[t[h]]):=by rw[OL,if_neg hm]
    generalize ws.getD h []=w at *;have hne1:w++[t[h]]≠[]:=by simp
    have hrs:=eI (γs:=γs) hws c hne1;simp only[List.length_append,bn]at hrs;have hL':vM b c0 .busy (c+1) s (ws.set h (w++[t[h]])) ((24,c0+1,.vec 22 (D6 (XI γs h c) (ws.set h (w++[t[h]]))))::(800+h,c,.vec 3 (w.map AJ++[[.int .i64 t[h]]]))::L):=by
     refine⟨?_,?_,?_,?_,?_,⟨XI γs h c,hr.put hws hne1 (by simp) (by simp[AJ,show ¬800+h=24 by omega]) fun j hj=>by simp[hj,show ¬800+j=24 by omega]⟩,?_,by simpa using hlen,fun T h1 h2=>?_,by simpa [hkc]using pp⟩
     ·simpa [hkc]using p7
     ·simpa [hkc]using p28
     ·simpa [hkc]using p25
     ·simpa [hkc]using p26
     ·simpa [hkc]using p8
     ·simpa [BA,hkd]using pr
     ·have e:(w.map AJ++[[V.int .i64 t[h]]])=(w++[t[h]]).map AJ:=by simp[AJ]
      rw[A0,A0,VD h1,e,LY,pst T h1 h2]
    obtain⟨fr',c',L',i1,i2,ih⟩:=lAs b c0 h5 s t ht hn B L1 R g9 p9 d (h+1) (c+1) _ _ (by omega) hL' (by omega) (by rw[<-hadd];exact hok.add h _ hx3);have hadw:J9 ws h (t.drop h)=J9 (ws.set h (w++[t[h]])) (h+1) (t.drop (h+1)):=by rw[hdrop,<-hadd];rfl
    rw[hadw];refine⟨fr',c',L',i1,by omega,fun n m hm'=>?_⟩;obtain⟨m,rfl⟩:=qNz m (by omega);have ih:=ih n m (by omega);rw[AB];simp only[AC]at p28 qc ih|-;simp at ih;simp[-F7,hh,hw,AJ,p7,p28,p9,h24,hhr,hhw,hrb,hrx,hrt,hfl,qc,hrow,ha1,hka,hkb,hkc,JF,DY,hc0,hrs,AEO,ih]
structure A3G(b:AL)(c0:Nat)(c:Nat)(g:Bool)(a:Bool×List (List Int))(L:AA):Prop where
 go:g=true
 lv:vM b c0 .ready c a.1 a.2 L
 ok:DG a.2
def vN(a:Bool×List (List Int))(t:List Int):(Bool×List (List Int))×Bool:=((true,J9 a.2 0 t),true)
theorem vM.put{b:AL}{c0 c:Nat}{ls ls':LS}{s s':Bool}{ws:List (List Int)}{L:AA}(h:vM b c0 ls c s ws L)(h5:b.winds.length<=5):vM b c0 ls' c s' ws ((8,c0+6,.box [.bool s'])::(BA,c0+7,IE b c0 ls')::L):=by
 obtain⟨p7,p28,p25,p26,p8,⟨γs,hr⟩,pr,hlen,pst,pp⟩:=h;refine⟨by simpa [BA]using p7,by simpa [BA]using p28,by simpa [BA]using p25,by simpa [BA]using p26,by simp,⟨γs,by simpa [BA]using hr.p24,fun j hj=>?_,fun j hj5 hj=>?_⟩,by simp[BA],hlen,fun t h1 h2=>?_,by simpa [BA]using pp⟩
 ·have hj4:(j:Nat)<ws.length:=by
   rcases Nat.lt_or_ge j ws.length with h|h
   ·exact h
   ·exact absurd (by rw[bj,bp h];rfl) hj
  have e1:¬800+j=8:=by omega
  have e2:¬800+j=1000000:=by omega
  have:=hr.row j hj;simpa [BA,e1,e2]using this
 ·have e1:¬800+j=8:=by omega
  have e2:¬800+j=1000000:=by omega
  have:=hr.no j hj5 hj;simpa [BA,e1,e2]using this
 ·rw[A0,A0,pst t h1 h2];simp[IE]
theorem vM.back{b:AL}{c0 c:Nat}{ls ls':LS}{s:Bool}{ws:List (List Int)}{L:AA}(h:vM b c0 ls c s ws L)(h5:b.winds.length<=5):vM b c0 ls' c s ws ((BA,c0+7,IE b c0 ls')::L):=by
 obtain⟨p7,p28,p25,p26,p8,⟨γs,hr⟩,pr,hlen,pst,pp⟩:=h;refine⟨by simpa [BA]using p7,by simpa [BA]using p28,by simpa [BA]using p25,by simpa [BA]using p26,by simpa [BA]using p8,⟨γs,by simpa [BA]using hr.p24,fun j hj=>?_,fun j hj5 hj=>?_⟩,by simp[BA],hlen,fun t h1 h2=>?_,by simpa [BA]using pp⟩
 ·have hj4:(j:Nat)<ws.length:=by
   rcases Nat.lt_or_ge j ws.length with h|h
   ·exact h
   ·exact absurd (by rw[bj,bp h];rfl) hj
  have e2:¬800+j=1000000:=by omega
  have:=hr.row j hj;simpa [BA,e2]using this
 ·have e2:¬800+j=1000000:=by omega
  have:=hr.no j hj5 hj;simpa [BA,e2]using this
 ·rw[A0,pst t h1 h2];simp[IE]
theorem AEQ(b:AL)(hb:Valid b)(c0:Nat)(B:AA)(hB:∀t:St,1<=t.up.length->AH t B=B):hJ B b (A3G b c0) vN (c0+7) 1500:=by
 intro a L L1 rest loc c fr t g9 hL hc ht p9 hst;obtain⟨_,hL,hok⟩:=hL;have hL0:=hL.put (ls':=.busy) (s':=true) hb.hl;have hlt:=C6 ht;obtain⟨fr',c',L',i1,i2,ih⟩:=lAs b c0 hb.hl true t hlt (KU hb ht) B L1 (rest++[loc]) g9 p9 t.length 0 c a.2 _ (by omega) hL0 (by omega) hok;rw[List.drop_zero]at i1;have i1':=i1;obtain⟨q7,q28,q25,q26,q8,hrr,qr,qlen,qst,qpp⟩:=i1;have p8:=hL.p8;have pr:=hL.pr;have e1:c0+7<c:=by omega
 have e2:c0+7<c':=by omega
 have e3:c0+6<c:=by omega
 have e4:c0<c:=by omega
 have hun:∀A A':AA,B8 (A::A'::L1::(rest++[loc]))=some (A::A'::L1::rest,loc):=fun A A'=>by rw[<-bc,<-bc,<-bc,unsnoc_snoc]
 have hst':=fun t h=>hst t h;simp only[cj,List.map_append,cq,List.cons.injEq]at hst';have hsr:∀t:St,(L1::(rest++[loc])).length+2<=t.up.length->(rest.map (AH t)=rest/\AH t loc=loc):=fun t h=>by have:=(hst' t h).2;exact⟨List.append_inj_left' this rfl,by simpa using List.append_inj_right' this rfl⟩
 have h1s:∀t:St,(L1::(rest++[loc])).length+2<=t.up.length->AH t L1=L1:=fun t h=>(hst' t h).1;refine⟨?L,c',⟨rfl,?lv,DG.adds t hok 0 (KU hb ht)⟩,i2,fun n=>?g⟩;case g=>
  rw[UV (by simpa [IE]using pr) rfl (by omega)]
  simp only[I5,Fr.put,gV]
  have h5:=hb.hl
  have ih:=ih (n+95) (n+1495) (by omega)
  rw[show n+95+1400=n+1495 by omega]at ih
  simp
  rw[GJ (fr0:=gV b c0) (ps:=[31]) (asg:=(D3 607)) (body':=Q8) (N:=69) (by simpa [IE]using pr) e1]
  rw[show AX.loop (gV b c0) [31] (D3 607) Q8 69 LS.busy=IE b c0 .busy from rfl]
  simp[BA]at ih
  simp[p8,AA.put,BA,e3]
  rw[show(33,true,V.int IntKind.i64 (b.winds.length:Int))=(33,true,V.int IntKind.i64 (t.length:Int)) by rw[hlt],<-hlt]
  rw[ih]
  simp
  rw[show(1000000:Nat)=BA from rfl,Q0 (fr0:=gV b c0) (ps:=[31]) (asg:=(D3 607)) (body:=Q8) (N:=69) (by simpa [IE]using qr) (hun _ _) (by simp) e2]
  have s1:AH ⟨B::L'::L1::(rest++[loc]),[]⟩ L'=L':=qst _ (by simp) rfl
  have s2:=h1s ⟨B::L'::L1::(rest++[loc]),[]⟩ (by simp)
  have s3:=hsr ⟨B::L'::L1::(rest++[loc]),[]⟩ (by simp)
  rw[cj,cj,cj,hB _ (by simp),s1,s2,s3.1,s3.2]
  rfl
 case lv=>exact i1'.back hb.hl
theorem AR6:∀(T:List (List Int)) (a:Bool×List (List Int)),runG vN a T=((a.1||!T.isEmpty,T.foldl (fun ws t=>J9 ws 0 t) a.2),true)
 |[],a=>by simp[runG]
 |t::T,a=>by have e:(vN a t).2=true:=rfl;rw[runG,if_pos e,AR6 T];simp[vN]
def E1(b:AL):List (List Int):=cY b.winds.length (FH b [] b.winds [])
def gW(b:AL)(B:AA)(ff:FuncId)(cap:List V)(c0:Nat)(z:Bool):Prop:=∀n d fr,HC (BG cz ann kn (n+1200)) (some d) ⟨c0+1,fr,⟨[B],[(2,c0,.box (AC b))]⟩⟩ ff cap=some ⟨c0+1,(d,true,.bool z)::fr,⟨[B],[(2,c0,.box (AC b))]⟩⟩
@[simp] theorem AR7:CQ (.pointer none)=some (.raw (.pointer none)):=rfl
@[simp] theorem AOL(s:St)(f:Nat):A1 s (f+1) (.raw (.pointer none))=some (.raw (.pointer none)):=rfl
theorem _root_.Go.Wind.Valid.w40{b:AL}(hb:Valid b):∀l∈b.winds,l.length<=40:=fun l hl=>by have:=(hb.wl l hl).2;omega
section
variable {b:AL}{B:AA}{ff:FuncId}{cap:List V}
theorem lC(h40:∀l∈b.winds,l.length<=40)(hB:∀t:St,1<=t.up.length->AH t B=B)(hco:cap.all (AG 8)=false)(h:¬DH b=0)(c d:Nat)(fr:Fr):∀n,HC (BG cz ann kn (n+6000)) (some d) ⟨c,fr,⟨[],B⟩⟩ 154 [.agg (AC b),.fn ff [] cap] =
  some ⟨c+1,(d,true,.tup [.raw (.pointer none),i (DH b)])::fr,⟨[],B⟩⟩:=by
 intro n
 rw[A3 cd b154 rfl (by simp[AC,hco])]
 have q1:=fun n=>jR n b h40
 simp only[AC]at q1|-
 simp[ADM,AD,AJ,AQ,AM,q1,h,hB]
theorem qX(hb:Valid b)(hB:∀t:St,1<=t.up.length->AH t B=B)(hcw:cap.map weakV=cap)(hco:cap.all (AG 8)=false)(c d:Nat)(hf:gW b B ff cap c false)(fr:Fr):∀n,HC (BG cz ann kn (n+6000)) (some d) ⟨c,fr,⟨[],B⟩⟩ 154 [.agg (AC b),.fn ff [] cap] =
  some ⟨c+1,(d,true,.tup [.raw (.pointer none),i 2])::fr,⟨[],B⟩⟩:=by
 intro n
 rw[A3 cd b154 rfl (by simp[AC,hco])]
 have q1:=fun n=>jR n b hb.w40
 have hf:=fun n d fr=>hf (n+4795) d fr
 rw[I0 hb]at q1
 simp only[AC,bx,bk]at q1 hf|-
 simp[ADM,AD,AJ,AQ,AM,q1,hB,hcw,hf]
theorem WS(γs:Nat->Nat)(k:Nat):D6 γs (bq k [])=bq k [.nil]:=by apply bm (by simp[D6]);intro j h1 h2;rw[LL h1 (by simpa [D6]using h1)];simp
def qY(b:AL)(c:Nat):AA:=[(BA,c+7,IE b c .ready),(2,c,.box (AC b)),(7,c+5,.box [.ptr 1 28 (c+4) 0]),(8,c+6,.box [.bool false]),(24,c+1,.vec 22 (bq b.winds.length [.nil])),(25,c+2,.map []),(26,c+3,.map []),
 (28,c+4,.box (AC b++[.vec 1 24 (c+1) b.winds.length,.mp 1 25 (c+2),.mp 1 26 (c+3)]))]
theorem lD:∀(L:AA) (k:Nat),(∀e∈L,e.1≠k)->L.get k=none
 |[],_,_=>rfl
 |(j,x)::L,k,h=>by have h1:=h (j,x) (by simp);rw[AA.get,if_neg fun e=>h1 e.symm];exact lD L k fun e he=>h e (by simp[he])
theorem eK(hb:Valid b)(c:Nat):A3G b c (c+8) true (false,bq b.winds.length []) (qY b c):=by
 have h5:=hb.hl;refine⟨rfl,⟨rfl,rfl,rfl,rfl,rfl,⟨fun _=>0,?_,fun h hh=>?_,fun h h5 _=>?_⟩,rfl,by simp,fun t h1 h2=>?_,rfl,rfl,rfl⟩,⟨fun l hl=>?_,fun l hl x hx=>?_⟩⟩
 ·rw[WS];rfl
 ·exfalso;refine hh ?_;simp only[bj,bh];split<;>rfl
 ·refine lD _ _ fun e he=>?_;simp only[qY,List.mem_cons,List.not_mem_nil,or_false]at he;rcases he with rfl|rfl|rfl|rfl|rfl|rfl|rfl|rfl<;>simp only[BA]<;>omega
 ·have e1:¬1=t.up.length:=by omega
  have hs:=VD (t:=t) h1 (fun _=>0) (bq b.winds.length []);rw[WS]at hs;unfold qY;simp only[A0,FY,hs];obtain⟨up,loc⟩:=t;simp only at e1;have hm:CG ⟨up,loc⟩ (.map [])=.map []:=rfl;simp[IE,AC,e1,hm]
 ·rw[bg hl];simp
 ·rw[bg hl]at hx;cases hx
theorem qZ(hb:Valid b)(hB:∀t:St,1<=t.up.length->AH t B=B)(hcw:cap.map weakV=cap)(hco:cap.all (AG 8)=false)(c d:Nat)(hf:gW b B ff cap c true)(hT:FH b [] b.winds []=[])(fr:Fr):∃c',c<=c'/\∀n,HC (BG cz ann kn (n+6000)) (some d) ⟨c,fr,⟨[],B⟩⟩ 154 [.agg (AC b),.fn ff [] cap] =
  some ⟨c',(d,true,.tup [.raw (.pointer none),i 11])::fr,⟨[],B⟩⟩:=by
 have q1:=fun n=>jR n b hb.w40
 rw[I0 hb]at q1
 have hf:=fun n d fr=>hf (n+4795) d fr
 have q79:=fun n=>vZ n b []
 have hwi:=hb.wi
 have hla:=hb.la
 have hw:IntKind.i64.wrap (b.last+1)=(b.winds.length:Int):=by rw[AW (by omega) (by omega)];omega
 have m1:b.winds.length*24<=140737488355328:=by omega
 have m2:b.winds.length<=maxLen:=by unfold maxLen;omega
 obtain⟨L',c',r1,r2,r3⟩:=lU (out:=[]) hb (by simp) hB (fun c c1 g a L hc h=>⟨h.go,h.lv.mono hc,h.ok⟩) (fun c g a L h=>h.lv.st) (AEQ b hb c B hB) (false,bq b.winds.length []) (qY b c) (eK hb c) (gV b c)
 rw[AR6,hT]at r1
 obtain⟨_,⟨p7,p28,p25,p26,p8,hrr,pr,plen,pst,p2,p30,p63⟩,rok⟩:=r1
 have r3:=fun n=>r3 (n+1491)
 refine⟨c',by omega,fun n=>?_⟩
 rw[A3 cd b154 rfl (by simp[AC,hco])]
 simp only[AC,li,cq,qY,IE,gV,Q8,BA,bc,ck,bx,bk]at q1 hf q79 r3 p28 pr|-
 simp[ADM,AD,AJ,AQ,AM,q1,hcw,hf,q79,hw,m1,m2,NH,bx]
 rw[P6 rfl]
 simp[BA,bx]
 rw[r3,UU (by simpa [BA]using pr) (by omega)]
 simp only[List.isEmpty_nil,Bool.not_true,Bool.or_false]at p8
 obtain⟨γs,p24,rrow,rno⟩:=hrr
 have rn:∀h,h<5->L'.get (800+h)=none:=fun h hh=>rno h hh (by
  simp only[List.foldl_nil,bj,bh];split <;> rfl)
 have r0:=rn 0 (by omega)
 have r1:=rn 1 (by omega)
 have r2:=rn 2 (by omega)
 have r3:=rn 3 (by omega)
 have r4:=rn 4 (by omega)
 simp only[bf,bk]at r0 r1 r2 r3 r4
 simp[p2,p7,p8,p24,p25,p26,p28,p30,p63,r0,r1,r2,r3,r4,BA,hB]
end
theorem AER(st:XS):MC [1000000000000024,24,901025,902026,903028] st =
  (fun s=>dN 28 (MB 0 s) 902 [] s) ((fun s=>dN 26 (MB 0 s) 901 [] s) ((fun s=>dN 25 (MB 0 s) 900 [] s) (IB 24 (AGO 24 st)))):=rfl
def mvZ(k d c:Nat)(fr:Fr)(B loc:AA):Option (Nat×AX)->XS
 |some (γ,r)=>⟨c,wJ 1 k 0 d fr,⟨[(d,γ,RZ 1 k 0 d r)::B],kE 1 k 0 d loc⟩⟩
 |none=>⟨c,fr,⟨[B],loc⟩⟩
@[simp] theorem A3H(k d c γ:Nat)(fr:Fr)(B loc:AA)(r:AX):mvZ k d c fr B loc (some (γ,r))=⟨c,wJ 1 k 0 d fr,⟨[(d,γ,RZ 1 k 0 d r)::B],kE 1 k 0 d loc⟩⟩:=rfl
def plO:Option (Nat×AX)->Bool
 |some x=>dK x.2
 |none=>true
theorem J8(γ:Nat)(r:AX):plO (some (γ,r))=dK r:=rfl
theorem VE{k d c:Nat}{fr:Fr}{B loc:AA}(hp:plO (loc.get k)=true):dN k 0 d [] ⟨c,fr,⟨[B],loc⟩⟩=mvZ k d c fr B loc (loc.get k):=by
 unfold dN;cases h:loc.get k with
 |none=>simp[mvZ,RQ]
 |some x=>
  obtain⟨γ,r⟩:=x
  rw[h,J8]at hp
  have e3:RQ 0 [B].length (some (γ,r))=true:=by simp[RQ,hp]
  simp only[e3]
  simp[wK,mvU,St.put,DY]
theorem VF(c:Nat)(fr:Fr)(B loc:AA):MB 0 ⟨c,fr,⟨[B],loc⟩⟩=0:=rfl
theorem OJ(k c:Nat)(fr:Fr)(up:List AA)(loc:AA):AGO k ⟨c,fr,⟨up,loc⟩⟩=UN (tE up.length (loc.get k)) ⟨c,fr,⟨up,loc⟩⟩:=rfl
theorem IY(n γ:Nat)(T:TypeId)(es:List (List V)):tE n (some (γ,.vec T es))=es.filterMap fun e=>match e with
  |[.vec l k _ _]=>if l=n then some k else none
  |_=>none:=rfl
theorem AR8(l k f:Nat)(o:Option (Nat×AX))(a:Int):cx (BC l k o f) (AJ a)=AJ a:=by simp[AJ]
theorem XY(l k f:Nat)(o:Option (Nat×AX))(w:List Int):cx (cx (BC l k o f)∘AJ) w=w.map AJ:=List.map_congr_left fun a _=>AR8 l k f o a
theorem IF(t:St):CG t (.map [])=.map []:=rfl
theorem PM{n k l d:Nat}:wJ n k l d []=[]:=rfl
theorem LO{n k l d:Nat}(j:Nat)(c:Bool)(v:V)(fr:Fr):wJ n k l d ((j,c,v)::fr)=(j,c,KI n k l d 3 v)::wJ n k l d fr:=rfl
theorem PN{n k l d:Nat}:kE n k l d []=[]:=rfl
theorem LP{n k l d:Nat}(j g:Nat)(r:AX)(L:AA):kE n k l d ((j,g,r)::L)=if j=k then kE n k l d L else(j,g,RZ n k l d r)::kE n k l d L:=rfl
theorem LQ{n k l d:Nat}(f:Nat)(x:Bool):KI n k l d f (.bool x)=.bool x:=by cases f<;>rfl
theorem LR{n k l d:Nat}(f:Nat)(x:Bool)(es:List (List V)):KI n k l d f (.list x es)=.list x es:=by cases f<;>rfl
theorem PO{n k l d a b g o:Nat}(f:Nat):KI n k l d (f+1) (.ptr a b g o)=if a=n/\b=k then .ptr l d g o else .ptr a b g o:=rfl
theorem VG{n k l d a b g:Nat}(f:Nat):KI n k l d (f+1) (.mp a b g)=if a=n/\b=k then .mp l d g else .mp a b g:=rfl
theorem HG{n k l d:Nat}(cs:List V):RZ n k l d (.box cs)=.box (cs.map (KI n k l d 3)):=rfl
theorem PQ{n k l d:Nat}(es:List (V×V)):RZ n k l d (.map es)=.map es:=rfl
theorem OK(k c:Nat)(fr:Fr)(up:List AA)(loc:AA):IB k ⟨c,fr,⟨up,loc⟩⟩=⟨c,PA up.length k (loc.get k) fr,⟨up,GH up.length k (loc.get k) loc⟩⟩:=rfl
theorem LU(k:Nat)(ks:List Nat)(st:XS):UN (k::ks) st=UN ks (IB k st):=rfl
theorem AKT{b:AL}{T:List (List Int)}(hT:T≠[])(hl:∀t∈T,t.length=b.winds.length){h:Nat}(hh:h<b.winds.length):(cY b.winds.length T).getD h []≠[]:=by obtain⟨t,ht⟩:=List.exists_mem_of_ne_nil _ hT;exact cw ((vO hh).2 ⟨t,ht,by rw[hl t ht];exact hh,rfl⟩)
section
variable {b:AL}{B:AA}{ff:FuncId}{cap:List V}
theorem AKU{b:AL}:∀t∈FH b [] b.winds [],t.length=b.winds.length:=fun t ht=>by rw[hH]at ht;simp only[ck,List.map_id',List.mem_filter]at ht;exact C6 (PR.1 ht.1)
theorem AES(hb:Valid b)(hB:∀t:St,1<=t.up.length->AH t B=B)(hcw:cap.map weakV=cap)(hco:cap.all (AG 8)=false)(c d:Nat)(hf:gW b B ff cap c true)(hT:FH b [] b.winds []≠[])(fr:Fr):∃c',c+8<=c'/\∀n,HC (BG cz ann kn (n+6000)) (some d) ⟨c,fr,⟨[],B⟩⟩ 154 [.agg (AC b),.fn ff [] cap] =
  some ⟨c',(d,true,.tup [.ptr 0 902 (c+4) 0,i 0])::fr,⟨[],(902,c+4,.box (AC b++[J1 (E1 b),.mp 0 900 (c+2),.mp 0 901 (c+3)]))::(901,c+3,.map [])::(900,c+2,.map [])::B⟩⟩:=by
 have q1:=fun n=>jR n b hb.w40
 rw[I0 hb]at q1
 have hf:=fun n d fr=>hf (n+4795) d fr
 have q79:=fun n=>vZ n b []
 have hwi:=hb.wi
 have hla:=hb.la
 have hw:IntKind.i64.wrap (b.last+1)=(b.winds.length:Int):=by rw[AW (by omega) (by omega)];omega
 have m1:b.winds.length*24<=140737488355328:=by omega
 have m2:b.winds.length<=maxLen:=by unfold maxLen;omega
 obtain⟨L',c',r1,r2,r3⟩:=lU (out:=[]) hb (by simp) hB (fun c c1 g a L hc h=>⟨h.go,h.lv.mono hc,h.ok⟩) (fun c g a L h=>h.lv.st) (AEQ b hb c B hB) (false,bq b.winds.length []) (qY b c) (eK hb c) (gV b c)
 rw[AR6]at r1
 have hTe:(FH b [] b.winds []).isEmpty=false:=by cases h:FH b [] b.winds []with|nil=>exact absurd h hT|cons x l=>rfl
 rw[hTe]at r1
 obtain⟨_,⟨p7,p28,p25,p26,p8,hrr,pr,plen,pst,p2,p30,p63⟩,rok⟩:=r1
 have hws:List.foldl (fun ws t=>J9 ws 0 t) (bq b.winds.length []) (FH b [] b.winds [])=E1 b:=rfl
 have hne:=fun h (hh:h<b.winds.length)=>AKT hT AKU hh
 have hwd:cY b.winds.length (FH b [] b.winds [])=E1 b:=rfl
 rw[hwd]at hne
 simp only[hws]at hrr plen
 have h5:=hb.hl
 have r3:=fun n=>r3 (n+1491)
 refine⟨c',by omega,fun n=>?_⟩
 rw[A3 cd b154 rfl (by simp[AC,hco])]
 simp only[AC,li,cq,qY,IE,gV,Q8,BA,bc,ck,bx,bk]at q1 hf q79 r3 p2 p28 pr|-
 simp[ADM,AD,AJ,AQ,AM,q1,hcw,hf,q79,hw,m1,m2,NH,bx]
 rw[P6 rfl]
 simp[BA,bx]
 rw[r3,UU (by simpa [BA]using pr) (by omega)]
 simp only[Bool.not_false,Bool.or_true]at p8
 obtain⟨γs,p24,rrow,rno⟩:=hrr
 generalize E1 b=ws at *
 have hlen:ws.length=1\/ws.length=2\/ws.length=3\/ws.length=4\/ws.length=5:=by omega
 rcases hlen with hl|hl|hl|hl|hl
 ·match ws,hl with
  |[w0],_=>
   have hk1:b.winds.length=1:=plen.symm
   have n0:=hne 0 (by omega)
   have r0:=(rrow 0 n0).1
   have r1:=rno 1 (by omega) rfl
   have r2:=rno 2 (by omega) rfl
   have r3:=rno 3 (by omega) rfl
   have r4:=rno 4 (by omega) rfl
   simp only[bw]at n0 r0
   simp only[bf,bk]at r0 r1 r2 r3 r4
   simp[D6,KT,n0,p2,p7,p8,p24,p25,p26,p28,p30,p63,r0,r1,r2,r3,r4,BA,hB,AER,OJ,IY,LU,OK,VF,VE,J8,dK,hk1,PM,LO,PN,LP,LQ,LR,PO,VG,GL,HG,PQ,IF,AQ]
 ·match ws,hl with
  |[w0,w1],_=>
   have hk1:b.winds.length=2:=plen.symm
   have n0:=hne 0 (by omega)
   have r0:=(rrow 0 n0).1
   have n1:=hne 1 (by omega)
   have r1:=(rrow 1 n1).1
   have r2:=rno 2 (by omega) rfl
   have r3:=rno 3 (by omega) rfl
   have r4:=rno 4 (by omega) rfl
   simp only[bw,bb]at n0 n1 r0 r1
   simp only[bf,bk]at r0 r1 r2 r3 r4
   simp[D6,KT,n0,n1,p2,p7,p8,p24,p25,p26,p28,p30,p63,r0,r1,r2,r3,r4,BA,hB,AER,OJ,IY,LU,OK,VF,VE,J8,dK,hk1,PM,LO,PN,LP,LQ,LR,PO,VG,GL,HG,PQ,IF,AQ,XY]
 ·match ws,hl with
  |[w0,w1,w2],_=>
   have hk1:b.winds.length=3:=plen.symm
   have n0:=hne 0 (by omega)
   have r0:=(rrow 0 n0).1
   have n1:=hne 1 (by omega)
   have r1:=(rrow 1 n1).1
   have n2:=hne 2 (by omega)
   have r2:=(rrow 2 n2).1
   have r3:=rno 3 (by omega) rfl
   have r4:=rno 4 (by omega) rfl
   simp only[bw,bb]at n0 n1 n2 r0 r1 r2
   simp only[bf,bk]at r0 r1 r2 r3 r4
   simp[D6,KT,n0,n1,n2,p2,p7,p8,p24,p25,p26,p28,p30,p63,r0,r1,r2,r3,r4,BA,hB,AER,OJ,IY,LU,OK,VF,VE,J8,dK,hk1,PM,LO,PN,LP,LQ,LR,PO,VG,GL,HG,PQ,IF,AQ,XY]
 ·match ws,hl with
  |[w0,w1,w2,w3],_=>
   have hk1:b.winds.length=4:=plen.symm
   have n0:=hne 0 (by omega)
   have r0:=(rrow 0 n0).1
   have n1:=hne 1 (by omega)
   have r1:=(rrow 1 n1).1
   have n2:=hne 2 (by omega)
   have r2:=(rrow 2 n2).1
   have n3:=hne 3 (by omega)
   have r3:=(rrow 3 n3).1
   have r4:=rno 4 (by omega) rfl
   simp only[bw,bb]at n0 n1 n2 n3 r0 r1 r2 r3
   simp only[bf,bk]at r0 r1 r2 r3 r4
   simp[D6,KT,n0,n1,n2,n3,p2,p7,p8,p24,p25,p26,p28,p30,p63,r0,r1,r2,r3,r4,BA,hB,AER,OJ,IY,LU,OK,VF,VE,J8,dK,hk1,PM,LO,PN,LP,LQ,LR,PO,VG,GL,HG,PQ,IF,AQ,XY]
 ·match ws,hl with
  |[w0,w1,w2,w3,w4],_=>
   have hk1:b.winds.length=5:=plen.symm
   have n0:=hne 0 (by omega)
   have r0:=(rrow 0 n0).1
   have n1:=hne 1 (by omega)
   have r1:=(rrow 1 n1).1
   have n2:=hne 2 (by omega)
   have r2:=(rrow 2 n2).1
   have n3:=hne 3 (by omega)
   have r3:=(rrow 3 n3).1
   have n4:=hne 4 (by omega)
   have r4:=(rrow 4 n4).1
   simp only[bw,bb]at n0 n1 n2 n3 n4 r0 r1 r2 r3 r4
   simp only[bf,bk]at r0 r1 r2 r3 r4
   simp[D6,KT,n0,n1,n2,n3,n4,p2,p7,p8,p24,p25,p26,p28,p30,p63,r0,r1,r2,r3,r4,BA,hB,AER,OJ,IY,LU,OK,VF,VE,J8,dK,hk1,PM,LO,PN,LP,LQ,LR,PO,VG,GL,HG,PQ,IF,AQ,XY]
end
end Go.Proofs.Tryz.Op
