/- The level of one who asks for the winds of all truths. No condition. -/
import Derived.Test.YthhdhbalenanjaaGreatO1
import Derived.Test.YthhdhbalenanjaaGreatI1
noncomputable section
open Go.Proofs.Tryz renaming prog->cd,func154->cg
open List renaming getD_eq_getElem?_getD->bj,replicate->bq,getD_cons_zero->bw,getD_cons_succ->bx,getElem?_eq_getElem->bc,cons_append->bf,eq_of_mem_replicate->bh,getElem?_replicate->bm,ext_getElem->bn,length_singleton->bp,getElem?_eq_none->cj,map_cons->ck,nil_append->cq,map_nil->cw,ne_nil_of_mem->cx,map->cz
open Nat renaming reduceAdd->bk,add_assoc->bz,add_zero->bg
set_option maxRecDepth 100000
set_option linter.unusedSimpArgs false
open Go Go.Pg Go.Proofs Go.Wind
namespace Go.Proofs.Tryz.Op
def jW(γ h:Nat):List Int->V
 |[]=>.nil
 |w=>.vec 1 (800+h) γ w.length
@[simp] theorem AC8(γ h:Nat):jW γ h []=.nil:=rfl
theorem K9{γ h:Nat}{w:List Int}(hw:w≠[]):jW γ h w=.vec 1 (800+h) γ w.length:=by
 cases w with
 |nil=>exact absurd rfl hw
 |cons x w=>rfl
def EE(γs:Nat->Nat)(ws:List (List Int)):List (List V):=ws.mapIdx fun h w=>[jW (γs h) h w]
def Q6:Code:=.block 1 (.seq (EB 2399) (.seq (EB 5471) (.block 2 (.loop KH))))
@[simp] theorem uAs(n:Nat)(st:XS):AF cd ann kn n 69 Q6 st=AF cd ann kn n 69 (.block 1 (.seq (EB 2399) (.seq (EB 5471) (.block 2 (.loop KH))))) st:=rfl
def gA(b:AN)(c0:Nat):Fr:=[(30,true,.fn 196 [] [.ref (AC b),.ref [li []]]),(29,true,.agg (AC b)),(2,true,.ptr 1 2 c0 0),(7,true,.ptr 1 7 (c0+5) 0),(8,true,.ptr 1 8 (c0+6) 0)]
def IZ(b:AN)(c0:Nat)(ls:LS):AX:=.loop (gA b c0) [31] (EB 607) Q6 69 ls
structure RwA(c0 c:Nat)(ws:List (List Int))(L:AA)(γs:Nat->Nat):Prop where
 p24:L.get 24=some (c0+1,.vec 22 (EE γs ws))
 row:∀h,ws.getD h []≠[]->L.get (800+h)=some (γs h,.vec 3 ((ws.getD h []).map AH))/\γs h<c
 no:∀h,h<5->ws.getD h []=[]->L.get (800+h)=none
structure tZ(b:AN)(c0:Nat)(ls:LS)(c:Nat)(s:Bool)(ws:List (List Int))(L:AA):Prop where
 p7:L.get 7=some (c0+5,.box [.ptr 1 28 (c0+4) 0])
 p28:L.get 28=some (c0+4,.box (AC b++[.vec 1 24 (c0+1) b.winds.length,.mp 1 25 (c0+2),.mp 1 26 (c0+3)]))
 p25:L.get 25=some (c0+2,.map [])
 p26:L.get 26=some (c0+3,.map [])
 p8:L.get 8=some (c0+6,.box [.bool s])
 rows:∃γs,RwA c0 c ws L γs
 pr:L.get BE=some (c0+7,IZ b c0 ls)
 len:ws.length=b.winds.length
 st:∀t:St,2<=t.up.length->t.loc.get 63=none->AJ t L=L
 pp:L.get 2=some (c0,.box (AC b))/\L.get 30=none/\L.get 63=none
theorem RwA.mono{c0 c c1:Nat}{ws:List (List Int)}{L:AA}{γs:Nat->Nat}(h:RwA c0 c ws L γs)(hc:c<=c1):RwA c0 c1 ws L γs :=
 ⟨h.p24,fun k hk=>⟨(h.row k hk).1,Nat.lt_of_lt_of_le (h.row k hk).2 hc⟩,h.no⟩
theorem tZ.mono{b:AN}{c0 c c1:Nat}{ls:LS}{s:Bool}{ws:List (List Int)}{L:AA}(h:tZ b c0 ls c s ws L)(hc:c<=c1):tZ b c0 ls c1 s ws L :=
 ⟨h.p7,h.p28,h.p25,h.p26,h.p8,by obtain⟨γs,hr⟩:=h.rows;exact⟨γs,hr.mono hc⟩,h.pr,h.len,h.st,h.pp⟩
theorem MR(st:XS)(v:V)(hv:∀l k o,BF l k o 3 v=v):∀ks,IW st ks v=v
 |[]=>rfl
 |k::ks=>by
  have ih:=MR st v hv ks;obtain⟨c,fr,up,loc⟩:=st;by_cases h:k<10000
  ·rw[rV _ _ _ _ _ _ _ h,hv,ih]
  ·rw[GD _ _ _ _ h,hv,ih]
theorem LV{c0 c:Nat}{ws:List (List Int)}{L:AA}{γs:Nat->Nat}(h:RwA c0 c ws L γs){k:Nat}(hk:k<=4)(hne:ws.getD k []≠[])(B:AA)(R:List AA)(c1:Nat)(fr:Fr)(loc:AA) :
  IW ⟨c1,fr,⟨B::L::R,loc⟩⟩ [20800,20801,20802,20803,20804] (.vec 1 (800+k) (γs k) (ws.getD k []).length)=li (ws.getD k []):=by
 have hr:=(h.row k hne).1
 have e1:¬1=R.length+1+1:=by omega
 have:k=0\/k=1\/k=2\/k=3\/k=4:=by omega
 generalize ws.getD k []=w at hr hne|-
 have hget:∀j,St.get ⟨B::L::R,loc⟩ 1 j=L.get j:=fun j=>by simp[St.get]
 simp only[GD _ _ _ _ (show ¬20800<10000 by decide),GD _ _ _ _ (show ¬20801<10000 by decide),GD _ _ _ _ (show ¬20802<10000 by decide),GD _ _ _ _ (show ¬20803<10000 by decide),GD _ _ _ _ (show ¬20804<10000 by decide),zW,Nat.reduceDiv,Nat.reduceMod,Nat.reduceSub,hget]
 have skip:∀a o,a≠800+k->BF 1 a o 3 (.vec 1 (800+k) (γs k) w.length)=.vec 1 (800+k) (γs k) w.length:=fun a o ha=>by
  simp only[BF];split
  ·rw[if_neg fun e=>ha e.2.1.symm]
  ·rfl
 have hit:BF 1 (800+k) (L.get (800+k)) 3 (.vec 1 (800+k) (γs k) w.length)=li w:=by rw[hr];simp[BF]
 rcases this with rfl|rfl|rfl|rfl|rfl
 ·rw[hit];simp
 ·rw[skip 800 _ (by decide),hit];simp
 ·rw[skip 800 _ (by decide),skip 801 _ (by decide),hit];simp
 ·rw[skip 800 _ (by decide),skip 801 _ (by decide),skip 802 _ (by decide),hit];simp
 ·rw[skip 800 _ (by decide),skip 801 _ (by decide),skip 802 _ (by decide),skip 803 _ (by decide),hit]
theorem LW(γs:Nat->Nat)(ws:List (List Int)):(EE γs ws).length=ws.length:=by unfold EE;simp
theorem LY{γs:Nat->Nat}{ws:List (List Int)}{h:Nat}(h1:h<(EE γs ws).length)(h2:h<ws.length):(EE γs ws)[h]=[jW (γs h) h ws[h]]:=by simp only[EE,List.getElem_mapIdx]
def W6(γs:Nat->Nat)(h c:Nat):Nat->Nat:=fun j=>if j=h then c else γs j
theorem dP{γs:Nat->Nat}{ws:List (List Int)}{h:Nat}(_:h<ws.length)(c:Nat){w:List Int}(hw:w≠[]):(EE γs ws).set h [.vec 1 (800+h) c w.length]=EE (W6 γs h c) (ws.set h w):=by
 apply bn (by simp[LW]);intro j h1 h2;have hj:j<ws.length:=by simpa [LW]using h1
 rw[List.getElem_set,LY h2 (by simpa using hj),List.getElem_set];by_cases e:h=j
 ·subst e;rw[if_pos rfl,if_pos rfl,K9 hw,W6,if_pos rfl]
 ·rw[if_neg e,if_neg e,LY _ hj,W6,if_neg fun h=>e h.symm]
theorem AQU{n d γ j:Nat}{w:List Int}:JX n 63 1 d 3 (jW γ j w)=jW γ j w:=by
 cases w with
 |nil=>rfl
 |cons x w=>
  show(if 1=n/\800+j=63 then _ else _)=_
  rw[if_neg (by omega)]
theorem AC9{γs:Nat->Nat}{ws:List (List Int)}{h:Nat}(hh:h<ws.length)(n c:Nat){w:List Int}(hw:w≠[]):((EE γs ws).set h [.vec n 63 c w.length]).map (cz (JX n 63 1 (800+h) 3))=EE (W6 γs h c) (ws.set h w):=by
 rw[<-dP hh c hw,List.map_set];congr 1
 ·apply bn (by simp);intro j h1 h2;have hj:j<ws.length:=by simpa [LW]using h1
  rw[List.getElem_map,LY _ hj];exact congrArg (fun v=>[v]) AQU
 ·simp[JX]
theorem dQ(ws:List (List Int))(h:Nat)(l:List Int)(j:Nat)(hh:h<ws.length):(ws.set h l).getD j []=if j=h then l else ws.getD j []:=by
 simp only[bj,List.getElem?_set];by_cases e:h=j
 ·subst e;simp[hh]
 ·rw[if_neg e,if_neg fun h=>e h.symm]
theorem RwA.put{c0 c:Nat}{ws:List (List Int)}{L:AA}{γs:Nat->Nat}(hr:RwA c0 c ws L γs){h:Nat}(hh:h<ws.length){w:List Int}(hw:w≠[]){L':AA}
  (h24:L'.get 24=some (c0+1,.vec 22 (EE (W6 γs h c) (ws.set h w)))) (h800:L'.get (800+h)=some (c,.vec 3 (w.map AH))) (hot:∀j,j≠h->L'.get (800+j)=L.get (800+j)):RwA c0 (c+1) (ws.set h w) L' (W6 γs h c):=by
 refine⟨h24,fun j hj=>?_,fun j hj5 hj=>?_⟩
 ·rw[dQ _ _ _ _ hh]at hj|-;by_cases e:j=h
  ·subst e;rw[if_pos rfl,W6,if_pos rfl];exact⟨h800,Nat.lt_succ_self _⟩
  ·rw[if_neg e]at hj|-;rw[hot j e,W6,if_neg e];exact⟨(hr.row j hj).1,Nat.lt_succ_of_lt (hr.row j hj).2⟩
 ·rw[dQ _ _ _ _ hh]at hj;by_cases e:j=h
  ·subst e;rw[if_pos rfl]at hj;exact absurd hj hw
  ·rw[if_neg e]at hj;rw[hot j e];exact hr.no j hj5 hj
theorem jX{t:St}{l k γ m:Nat}(h:¬l=t.up.length):BV t (.vec l k γ m)=some (.vec l k γ m):=by obtain⟨up,loc⟩:=t;rw[oA,bS,if_neg h]
theorem US{t:St}(ht:2<=t.up.length)(γs:Nat->Nat)(ws:List (List Int)):CG t (.vec 22 (EE γs ws))=.vec 22 (EE γs ws):=by
 refine PC fun e he v hv=>?_;obtain⟨j,hj,rfl⟩:=List.getElem_of_mem he;rw[LY hj (by simpa [LW]using hj)]at hv;simp only[List.mem_cons,List.not_mem_nil,or_false]at hv;subst hv;have hne:¬1=t.up.length:=by omega
 cases ws[j]'(by simpa [LW]using hj)with
 |nil=>rfl
 |cons x w=>exact jX hne
theorem AM0(st:XS):LR [25008011801063] st=aW 63 (KY 8 st) (aZ 800 11 st) [24] st:=rfl
theorem ADA(c:Nat)(fr:Fr)(up:List AA):LR [25008011801063] ⟨c,fr,⟨up,[]⟩⟩=⟨c,fr,⟨up,[]⟩⟩:=by rw[AM0];rfl
theorem LZ{n k l d:Nat}(fr:Fr)(j:Nat):BS (jH n k l d fr) j=(BS fr j).map fun x=>(x.1,JX n k l d 3 x.2):=by rw[FM,FM,iJ]
@[simp] theorem AV9(u:Nat)(L:AA)(j:Nat):(JP u L).get j=if j=u then none else L.get j:=aX u L j
theorem S8(t:St)(u:Nat):∀L:AA,AJ t (JP u L)=JP u (AJ t L)
 |[]=>rfl
 |(q,g,r)::L=>by
  have ih:=S8 t u L;rw[A4];unfold JP;by_cases h:q=u
  ·rw[if_pos h,if_pos h,ih]
  ·rw[if_neg h,if_neg h,A4,ih]
theorem J9(u g:Nat)(r:AX)(L:AA):JP u ((u,g,r)::L)=JP u L:=by show(if u=u then JP u L else _)=_;rw[if_pos rfl]
theorem AQV(c γ h g7 o7 g24:Nat)(T:TypeId)(es:List (List V))(fr:Fr)(B L:AA)(R:List AA)(r24:AX)(h7:BS fr 7=some (true,.ptr 1 7 g7 o7))(h10:BS fr 10=some (true,.int .i64 h))(h24:L.get 24=some (g24,r24)) :
  LR [25008011801063] ⟨c,fr,⟨B::L::R,[(63,γ,.vec T es)]⟩⟩=⟨c,jH (R.length+1+1) 63 1 (800+h) fr,⟨B::((800+h,γ,QX (R.length+1+1) 63 1 (800+h) (.vec T es))::(24,g24,QX (R.length+1+1) 63 1 (800+h) r24)::JP 24 L)::R,[]⟩⟩:=by
 rw[AM0]
 have e1:KY 8 ⟨c,fr,⟨B::L::R,[(63,γ,.vec T es)]⟩⟩=1:=by show(match BS fr 7 with|some (true,.ptr l _ _ _)=>l|_=>0)=1;rw[h7]
 have e2:aZ 800 11 ⟨c,fr,⟨B::L::R,[(63,γ,.vec T es)]⟩⟩=800+h:=by show(match BS fr 10 with|some (true,.int _ n)=>800+n.toNat|_=>800)=800+h;rw[h10];simp
 rw[e1,e2]
 unfold aW
 have e3:QK 1 (B::L::R).length (AA.get [(63,γ,.vec T es)] 63)=true:=by simp[QK,AA.get,cA]
 simp only[e3]
 simp[qY,AA.get,zG,h24,aV,St.put,C8]
theorem CO{n k l d:Nat}(f:Nat)(q:IntKind)(x:Int):JX n k l d f (.int q x)=.int q x:=by cases f<;>rfl
theorem L5{n k l d a b g o:Nat}(f:Nat)(h:¬b=k):JX n k l d f (.ptr a b g o)=.ptr a b g o:=by
 cases f with
 |zero=>rfl
 |succ f=>simp only[JX];rw[if_neg fun e=>h e.2]
theorem KI{n k l d a b g o:Nat}(f:Nat)(h:¬b=k):JX n k l d f (.vec a b g o)=.vec a b g o:=by
 cases f with
 |zero=>rfl
 |succ f=>simp only[JX];rw[if_neg fun e=>h e.2]
theorem CV{n k l d:Nat}(T:TypeId)(es:List (List V)):QX n k l d (.vec T es)=.vec T (es.map (cz (JX n k l d 3))):=rfl
theorem A3B{k:Nat}{x:Int}(h:k<=10000):BZ cd 3 k [[.int .i64 x]]=true:=by rw[CC (by simp) (by simp)];simp[maxLen];omega
theorem AJA{P:Program}{fr:Fr}{s:St}(e d c:Nat)(y:List V)(ys:List (List V))(h:BZ P e 0 (y::ys)=true):sH P e d c fr s .nil (y::ys)=some (⟨c+1,(d,true,.vec s.up.length d c (ys.length+1))::fr,s.put s.up.length d c (.vec e (y::ys))⟩,[(s.up.length,d),(s.up.length,d+FE)]):=by unfold sH;simp[I3,h]
theorem lAs(b:AN)(c0:Nat)(h5:b.winds.length<=5)(s:Bool)(t:List Int)(ht:t.length=b.winds.length)(hn:∀n∈t,0<=n/\n<=3)(B:AA)(L1:AA)(R:List AA)(g9:Nat)(p9:L1.get 9=some (g9,.vec 3 (t.map AH))) :
  ∀(d h c:Nat) (ws:List (List Int)) (L:AA),h+d=t.length->tZ b c0 .busy c s ws L->c0+8<=c->DL ws ->
  ∃fr' c' L',tZ b c0 .busy c' s (KK ws h (t.drop h)) L'/\c<=c'/\∀n m,d<m->BT (AF cd ann kn (n+1400) 69) KH (ann 69 (CA KH)) m ⟨c,[(7,true,.ptr 1 7 (c0+5) 0),(32,true,.vec 2 9 g9 t.length),(33,true,i t.length),(34,true,i h)],⟨B::L::L1::R,[]⟩⟩ =
   some (.exit 2,⟨c',fr',⟨B::L'::L1::R,[]⟩⟩)
 |0,h,c,ws,L,hd,hL,hc,hok=>by
  have:h=t.length:=by omega
  subst this;refine⟨?fr,c,L,by simpa [KK]using hL,Nat.le_refl _,fun n m hm=>?g⟩;case g=>
   obtain⟨m,rfl⟩:=qNz m (by omega)
   rw[AB]
   simp
   rfl
 |d+1,h,c,ws,L,hd,hL,hc,hok=>by
  have hh:h<t.length:=by omega
  have hw:=CB (k:=h) (by omega);have hdrop:t.drop h=t[h]::t.drop (h+1):=List.drop_eq_getElem_cons hh;have hLo:=hL;obtain⟨p7,p28,p25,p26,p8,⟨γs,hr⟩,pr,hlen,pst,pp⟩:=hL;have hg:ws.getD h []=ws[h]'(by omega):=by rw[bj,bc (by omega)];rfl
  have hl4:(ws.getD h []).length<=4:=by rw[hg];exact hok.len _ (List.getElem_mem _)
  have qc:=fun n=>V4 n (ws.getD h []) t[h] (by omega);have h24:=hr.p24;have hra:(EE γs ws)[h]? = some [jW (γs h) h (ws.getD h [])]:=by unfold EE;rw[List.getElem?_mapIdx,bc (by omega),hg];rfl
  have hrl:(EE γs ws).length=ws.length:=by unfold EE;simp
  have hrx:(EE γs ws)[h]'(by omega)=[jW (γs h) h (ws.getD h [])]:=by have:=hra;rw[bc (by omega),Option.some.injEq]at this;exact this
  have hhw:h<b.winds.length:=by omega
  have hhr:h<(EE γs ws).length:=by omega
  have ha0:BZ cd 3 0 [[.int .i64 t[h]]]=true:=A3B (by omega);have hc0:c0<c:=by omega
  have hws:h<ws.length:=by omega
  have hx3:=hn t[h] (List.getElem_mem hh);have hka:∀k,900<=k->(800+h=k)=False:=fun k hk=>by simp;omega
  have hkb:∀k,k<800->(800+h=k)=False:=fun k hk=>by simp;omega
  have hkc:∀k,k<800->(k=800+h)=False:=fun k hk=>by simp;omega
  have hkd:∀k,900<=k->(k=800+h)=False:=fun k hk=>by simp;omega
  have hrb:b.winds.length<=(EE γs ws).length:=by omega
  by_cases hm:t[h]∈ws.getD h []
  ·have hmd:decide (t[h]∈ws.getD h [])=true:=decide_eq_true hm;rw[hmd]at qc;have hne:ws.getD h []≠[]:=cx hm;have hwv:=K9 (γ:=γs h) (h:=h) hne;have hrt:=fun c1 fr loc=>LV hr (k:=h) (by omega) hne B (L1::R) c1 fr loc;obtain⟨fr',c',L',i1,i2,ih⟩:=lAs b c0 h5 s t ht hn B L1 R g9 p9 d (h+1) c ws L (by omega) hLo hc hok;have hadd:KK ws h (t.drop h)=KK ws (h+1) (t.drop (h+1)):=by rw[hdrop];show KK (OK ws h t[h]) (h+1) (t.drop (h+1))=_;rw[OK,if_pos hm]
   rw[hadd];refine⟨fr',c',L',i1,i2,fun n m hm'=>?_⟩;obtain⟨m,rfl⟩:=qNz m (by omega);have ih:=ih n m (by omega);have hfl:∀st x,IW st [20800,20801,20802,20803,20804] (.int .i64 x)=.int .i64 x:=fun st x=>MR st _ (fun _ _ _=>fD _ _ _) _;rw[hwv]at hrx;generalize ws.getD h []=w at *;rw[AB];simp only[AC,AH]at p28 qc ih|-;simp at ih;simp[-GD,hh,hw,AH,p7,p28,p9,h24,hhr,hhw,hrb,hrx,hrt,hfl,qc,ADA,ih]
  ·have hmd:decide (t[h]∈ws.getD h [])=false:=decide_eq_false hm;rw[hmd]at qc;have hfl:∀st x,IW st [20800,20801,20802,20803,20804] (.int .i64 x)=.int .i64 x:=fun st x=>MR st _ (fun _ _ _=>fD _ _ _) _;have hfn:∀st,IW st [20800,20801,20802,20803,20804] .nil=.nil:=fun st=>MR st _ (fun _ _ _=>zT _) _;by_cases hne:ws.getD h []=[]
   ·rw[hne]at hrx qc;rw[AC8]at hrx;have hne1:([t[h]]:List Int)≠[]:=by simp
    have hadd:OK ws h t[h]=ws.set h [t[h]]:=by rw[OK,if_neg hm,hne];rfl
    have hrs:=AC9 (γs:=γs) hws (R.length+1+1+1) c hne1;have hL':tZ b c0 .busy (c+1) s (ws.set h [t[h]]) ((800+h,c,.vec 3 [[.int .i64 t[h]]])::(24,c0+1,.vec 22 (EE (W6 γs h c) (ws.set h [t[h]])))::JP 24 L):=by
     refine⟨?_,?_,?_,?_,?_,⟨W6 γs h c,hr.put hws hne1 (by simp;omega) (by simp[AH]) fun j hj=>by simp[hj,show ¬800+j=24 by omega]⟩,?_,by simpa using hlen,fun T h1 h2=>?_,by simpa [hkc]using pp⟩
     ·simpa [hkc]using p7
     ·simpa [hkc]using p28
     ·simpa [hkc]using p25
     ·simpa [hkc]using p26
     ·simpa [hkc]using p8
     ·simpa [BE,hkd]using pr
     ·rw[A4,A4,S8,US h1,pst T h1 h2,show[[V.int .i64 t[h]]]=[t[h]].map AH from rfl,PN]
    obtain⟨fr',c',L',i1,i2,ih⟩:=lAs b c0 h5 s t ht hn B L1 R g9 p9 d (h+1) (c+1) _ _ (by omega) hL' (by omega) (by rw[<-hadd];exact hok.add h _ hx3);have hadw:KK ws h (t.drop h)=KK (ws.set h [t[h]]) (h+1) (t.drop (h+1)):=by rw[hdrop,<-hadd];rfl
    rw[hadw];refine⟨fr',c',L',i1,by omega,fun n m hm'=>?_⟩;obtain⟨m,rfl⟩:=qNz m (by omega);have ih:=ih n m (by omega);rw[AB];simp only[bp]at hrs;have hgh:=fun c1 fr (h7:BS fr 7=some (true,.ptr 1 7 (c0+5) 0)) (h10:BS fr 10=some (true,.int .i64 h))=>AQV c1 c h _ _ (c0+1) 3 [[.int .i64 t[h]]] fr B ((24,c0+1,.vec 22 ((EE γs ws).set h [.vec (R.length+1+1+1) 63 c 1]))::L) (L1::R) _ h7 h10 rfl;simp only[AC,AH,li,cw]at p28 qc ih|-;simp at ih;simp[-GD,hh,hw,AH,p7,p28,p9,h24,hhr,hhw,hrb,hrx,hfl,hfn,qc,AJA,ha0,hka,hkb,hkc,hkd,FE,C8,hc0,LZ,hgh,J9,hrs,CO,L5,KI,CV,ih]
   ·have hwv:=K9 (γ:=γs h) (h:=h) hne;have hrt:=fun c1 fr loc=>LV hr (k:=h) (by omega) hne B (L1::R) c1 fr loc;have hrow:=(hr.row h hne).1;have hγ:=(hr.row h hne).2;rw[hwv]at hrx;have ha1:BZ cd 3 (ws.getD h []).length [[.int .i64 t[h]]]=true:=A3B (by omega);have hadd:OK ws h t[h]=ws.set h (ws.getD h []++[t[h]]):=by rw[OK,if_neg hm]
    generalize ws.getD h []=w at *;have hne1:w++[t[h]]≠[]:=by simp
    have hrs:=dP (γs:=γs) hws c hne1;simp only[List.length_append,bp]at hrs;have hL':tZ b c0 .busy (c+1) s (ws.set h (w++[t[h]])) ((24,c0+1,.vec 22 (EE (W6 γs h c) (ws.set h (w++[t[h]]))))::(800+h,c,.vec 3 (w.map AH++[[.int .i64 t[h]]]))::L):=by
     refine⟨?_,?_,?_,?_,?_,⟨W6 γs h c,hr.put hws hne1 (by simp) (by simp[AH,show ¬800+h=24 by omega]) fun j hj=>by simp[hj,show ¬800+j=24 by omega]⟩,?_,by simpa using hlen,fun T h1 h2=>?_,by simpa [hkc]using pp⟩
     ·simpa [hkc]using p7
     ·simpa [hkc]using p28
     ·simpa [hkc]using p25
     ·simpa [hkc]using p26
     ·simpa [hkc]using p8
     ·simpa [BE,hkd]using pr
     ·have e:(w.map AH++[[V.int .i64 t[h]]])=(w++[t[h]]).map AH:=by simp[AH]
      rw[A4,A4,US h1,e,PN,pst T h1 h2]
    obtain⟨fr',c',L',i1,i2,ih⟩:=lAs b c0 h5 s t ht hn B L1 R g9 p9 d (h+1) (c+1) _ _ (by omega) hL' (by omega) (by rw[<-hadd];exact hok.add h _ hx3);have hadw:KK ws h (t.drop h)=KK (ws.set h (w++[t[h]])) (h+1) (t.drop (h+1)):=by rw[hdrop,<-hadd];rfl
    rw[hadw];refine⟨fr',c',L',i1,by omega,fun n m hm'=>?_⟩;obtain⟨m,rfl⟩:=qNz m (by omega);have ih:=ih n m (by omega);rw[AB];simp only[AC,AH]at p28 qc ih|-;simp at ih;simp[-GD,hh,hw,AH,p7,p28,p9,h24,hhr,hhw,hrb,hrx,hrt,hfl,qc,hrow,hγ,ha1,hka,hkb,hkc,hkd,FE,C8,hc0,hrs,ADA,ih]
structure A3C(b:AN)(c0:Nat)(c:Nat)(g:Bool)(a:Bool×List (List Int))(L:AA):Prop where
 go:g=true
 lv:tZ b c0 .ready c a.1 a.2 L
 ok:DL a.2
def uA(a:Bool×List (List Int))(t:List Int):(Bool×List (List Int))×Bool:=((true,KK a.2 0 t),true)
theorem tZ.put{b:AN}{c0 c:Nat}{ls ls':LS}{s s':Bool}{ws:List (List Int)}{L:AA}(h:tZ b c0 ls c s ws L)(h5:b.winds.length<=5):tZ b c0 ls' c s' ws ((8,c0+6,.box [.bool s'])::(BE,c0+7,IZ b c0 ls')::L):=by
 obtain⟨p7,p28,p25,p26,p8,⟨γs,hr⟩,pr,hlen,pst,pp⟩:=h;refine⟨by simpa [BE]using p7,by simpa [BE]using p28,by simpa [BE]using p25,by simpa [BE]using p26,by simp,⟨γs,by simpa [BE]using hr.p24,fun j hj=>?_,fun j hj5 hj=>?_⟩,by simp[BE],hlen,fun t h1 h2=>?_,by simpa [BE]using pp⟩
 ·have hj4:(j:Nat)<ws.length:=by
   rcases Nat.lt_or_ge j ws.length with h|h
   ·exact h
   ·exact absurd (by rw[bj,cj h];rfl) hj
  have e1:¬800+j=8:=by omega
  have e2:¬800+j=1000000:=by omega
  have:=hr.row j hj;simpa [BE,e1,e2]using this
 ·have e1:¬800+j=8:=by omega
  have e2:¬800+j=1000000:=by omega
  have:=hr.no j hj5 hj;simpa [BE,e1,e2]using this
 ·rw[A4,A4,pst t h1 h2];simp[IZ]
theorem tZ.back{b:AN}{c0 c:Nat}{ls ls':LS}{s:Bool}{ws:List (List Int)}{L:AA}(h:tZ b c0 ls c s ws L)(h5:b.winds.length<=5):tZ b c0 ls' c s ws ((BE,c0+7,IZ b c0 ls')::L):=by
 obtain⟨p7,p28,p25,p26,p8,⟨γs,hr⟩,pr,hlen,pst,pp⟩:=h;refine⟨by simpa [BE]using p7,by simpa [BE]using p28,by simpa [BE]using p25,by simpa [BE]using p26,by simpa [BE]using p8,⟨γs,by simpa [BE]using hr.p24,fun j hj=>?_,fun j hj5 hj=>?_⟩,by simp[BE],hlen,fun t h1 h2=>?_,by simpa [BE]using pp⟩
 ·have hj4:(j:Nat)<ws.length:=by
   rcases Nat.lt_or_ge j ws.length with h|h
   ·exact h
   ·exact absurd (by rw[bj,cj h];rfl) hj
  have e2:¬800+j=1000000:=by omega
  have:=hr.row j hj;simpa [BE,e2]using this
 ·have e2:¬800+j=1000000:=by omega
  have:=hr.no j hj5 hj;simpa [BE,e2]using this
 ·rw[A4,pst t h1 h2];simp[IZ]
theorem ADB(b:AN)(hb:Valid b)(c0:Nat)(B:AA)(hB:∀t:St,1<=t.up.length->AJ t B=B):gJ B b (A3C b c0) uA (c0+7) 1500:=by
 intro a L L1 rest loc c fr t g9 hL hc ht p9 hst;obtain⟨_,hL,hok⟩:=hL;have hL0:=hL.put (ls':=.busy) (s':=true) hb.hl;have hlt:=DM ht;obtain⟨fr',c',L',i1,i2,ih⟩:=lAs b c0 hb.hl true t hlt (LA hb ht) B L1 (rest++[loc]) g9 p9 t.length 0 c a.2 _ (by omega) hL0 (by omega) hok;rw[List.drop_zero]at i1;have i1':=i1;obtain⟨q7,q28,q25,q26,q8,hrr,qr,qlen,qst,qpp⟩:=i1;have p8:=hL.p8;have pr:=hL.pr;have e1:c0+7<c:=by omega
 have e2:c0+7<c':=by omega
 have e3:c0+6<c:=by omega
 have e4:c0<c:=by omega
 have hun:∀A A':AA,B5 (A::A'::L1::(rest++[loc]))=some (A::A'::L1::rest,loc):=fun A A'=>by rw[<-bf,<-bf,<-bf,unsnoc_snoc]
 have hst':=fun t h=>hst t h;simp only[ck,List.map_append,cw,List.cons.injEq]at hst';have hsr:∀t:St,(L1::(rest++[loc])).length+2<=t.up.length->(rest.map (AJ t)=rest/\AJ t loc=loc):=fun t h=>by have:=(hst' t h).2;exact⟨List.append_inj_left' this rfl,by simpa using List.append_inj_right' this rfl⟩
 have h1s:∀t:St,(L1::(rest++[loc])).length+2<=t.up.length->AJ t L1=L1:=fun t h=>(hst' t h).1;refine⟨?L,c',⟨rfl,?lv,DL.adds t hok 0 (LA hb ht)⟩,i2,fun n=>?g⟩;case g=>
  rw[UC (by simpa [IZ]using pr) rfl (by omega)]
  simp only[JK,Fr.put,gA]
  have h5:=hb.hl
  have ih:=ih (n+95) (n+1495) (by omega)
  rw[show n+95+1400=n+1495 by omega]at ih
  simp
  rw[G4 (fr0:=gA b c0) (ps:=[31]) (asg:=(EB 607)) (body':=Q6) (N:=69) (by simpa [IZ]using pr) e1]
  rw[show AX.loop (gA b c0) [31] (EB 607) Q6 69 LS.busy=IZ b c0 .busy from rfl]
  simp[BE]at ih
  simp[p8,AA.put,BE,e3]
  rw[show(33,true,V.int IntKind.i64 (b.winds.length:Int))=(33,true,V.int IntKind.i64 (t.length:Int)) by rw[hlt],<-hlt]
  rw[ih]
  simp
  rw[show(1000000:Nat)=BE from rfl,QY (fr0:=gA b c0) (ps:=[31]) (asg:=(EB 607)) (body:=Q6) (N:=69) (by simpa [IZ]using qr) (hun _ _) (by simp) e2]
  have s1:AJ ⟨B::L'::L1::(rest++[loc]),[]⟩ L'=L':=qst _ (by simp) rfl
  have s2:=h1s ⟨B::L'::L1::(rest++[loc]),[]⟩ (by simp)
  have s3:=hsr ⟨B::L'::L1::(rest++[loc]),[]⟩ (by simp)
  rw[ck,ck,ck,hB _ (by simp),s1,s2,s3.1,s3.2]
  rfl
 case lv=>exact i1'.back hb.hl
theorem AQW:∀(T:List (List Int)) (a:Bool×List (List Int)),runG uA a T=((a.1||!T.isEmpty,T.foldl (fun ws t=>KK ws 0 t) a.2),true)
 |[],a=>by simp[runG]
 |t::T,a=>by have e:(uA a t).2=true:=rfl;rw[runG,if_pos e,AQW T];simp[uA]
def FJ(b:AN):List (List Int):=cJ b.winds.length (FK b [] b.winds [])
def gB(b:AN)(B:AA)(ff:FuncId)(cap:List V)(c0:Nat)(z:Bool):Prop:=∀n d fr,HQ (BL cd ann kn (n+1200)) (some d) ⟨c0+1,fr,⟨[B],[(2,c0,.box (AC b))]⟩⟩ ff cap=some ⟨c0+1,(d,true,.bool z)::fr,⟨[B],[(2,c0,.box (AC b))]⟩⟩
@[simp] theorem AQX:CP (.pointer none)=some (.raw (.pointer none)):=rfl
@[simp] theorem AM1(s:St)(f:Nat):A1 s (f+1) (.raw (.pointer none))=some (.raw (.pointer none)):=rfl
theorem _root_.Go.Wind.Valid.w40{b:AN}(hb:Valid b):∀l∈b.winds,l.length<=40:=fun l hl=>by have:=(hb.wl l hl).2;omega
section
variable {b:AN}{B:AA}{ff:FuncId}{cap:List V}
theorem jY(h40:∀l∈b.winds,l.length<=40)(hB:∀t:St,1<=t.up.length->AJ t B=B)(hco:cap.all (AG 8)=false)(h:¬DZ b=0)(c d:Nat)(fr:Fr):∀n,HQ (BL cd ann kn (n+6000)) (some d) ⟨c,fr,⟨[],B⟩⟩ 154 [.agg (AC b),.fn ff [] cap] =
  some ⟨c+1,(d,true,.tup [.raw (.pointer none),i (DZ b)])::fr,⟨[],B⟩⟩:=by
 intro n
 rw[A5 cg b154 rfl (by simp[AC,AH,AM,AL,hco])]
 have q1:=fun n=>iZ n b h40
 simp only[AC]at q1|-
 simp[ACC,AD,AH,AM,AL,q1,h,hB]
theorem oZ(hb:Valid b)(hB:∀t:St,1<=t.up.length->AJ t B=B)(hcw:cap.map weakV=cap)(hco:cap.all (AG 8)=false)(c d:Nat)(hf:gB b B ff cap c false)(fr:Fr):∀n,HQ (BL cd ann kn (n+6000)) (some d) ⟨c,fr,⟨[],B⟩⟩ 154 [.agg (AC b),.fn ff [] cap] =
  some ⟨c+1,(d,true,.tup [.raw (.pointer none),i 2])::fr,⟨[],B⟩⟩:=by
 intro n
 rw[A5 cg b154 rfl (by simp[AC,AH,AM,AL,hco])]
 have q1:=fun n=>iZ n b hb.w40
 have hf:=fun n d fr=>hf (n+4795) d fr
 rw[MB hb]at q1
 simp only[AC,bz,bk]at q1 hf|-
 simp[ACC,AD,AH,AM,AL,q1,hB,hcw,hf]
theorem WE(γs:Nat->Nat)(k:Nat):EE γs (bq k [])=bq k [.nil]:=by apply bn (by simp[EE]);intro j h1 h2;rw[LY h1 (by simpa [EE]using h1)];simp
def pA(b:AN)(c:Nat):AA:=[(BE,c+7,IZ b c .ready),(2,c,.box (AC b)),(7,c+5,.box [.ptr 1 28 (c+4) 0]),(8,c+6,.box [.bool false]),(24,c+1,.vec 22 (bq b.winds.length [.nil])),(25,c+2,.map []),(26,c+3,.map []),
 (28,c+4,.box (AC b++[.vec 1 24 (c+1) b.winds.length,.mp 1 25 (c+2),.mp 1 26 (c+3)]))]
theorem jZ:∀(L:AA) (k:Nat),(∀e∈L,e.1≠k)->L.get k=none
 |[],_,_=>rfl
 |(j,x)::L,k,h=>by have h1:=h (j,x) (by simp);rw[AA.get,if_neg fun e=>h1 e.symm];exact jZ L k fun e he=>h e (by simp[he])
theorem dR(hb:Valid b)(c:Nat):A3C b c (c+8) true (false,bq b.winds.length []) (pA b c):=by
 have h5:=hb.hl;refine⟨rfl,⟨rfl,rfl,rfl,rfl,rfl,⟨fun _=>0,?_,fun h hh=>?_,fun h h5 _=>?_⟩,rfl,by simp,fun t h1 h2=>?_,rfl,rfl,rfl⟩,⟨fun l hl=>?_,fun l hl x hx=>?_⟩⟩
 ·rw[WE];rfl
 ·exfalso;refine hh ?_;simp only[bj,bm];split<;>rfl
 ·refine jZ _ _ fun e he=>?_;simp only[pA,List.mem_cons,List.not_mem_nil,or_false]at he;rcases he with rfl|rfl|rfl|rfl|rfl|rfl|rfl|rfl<;>simp only[BE]<;>omega
 ·have e1:¬1=t.up.length:=by omega
  have hs:=US (t:=t) h1 (fun _=>0) (bq b.winds.length []);rw[WE]at hs;unfold pA;simp only[A4,F5,hs];obtain⟨up,loc⟩:=t;simp only at e1;have hm:CG ⟨up,loc⟩ (.map [])=.map []:=rfl;simp[IZ,AC,AH,AM,AL,e1,hm]
 ·rw[bh hl];simp
 ·rw[bh hl]at hx;cases hx
theorem pB(hb:Valid b)(hB:∀t:St,1<=t.up.length->AJ t B=B)(hcw:cap.map weakV=cap)(hco:cap.all (AG 8)=false)(c d:Nat)(hf:gB b B ff cap c true)(hT:FK b [] b.winds []=[])(fr:Fr):∃c',c<=c'/\∀n,HQ (BL cd ann kn (n+6000)) (some d) ⟨c,fr,⟨[],B⟩⟩ 154 [.agg (AC b),.fn ff [] cap] =
  some ⟨c',(d,true,.tup [.raw (.pointer none),i 11])::fr,⟨[],B⟩⟩:=by
 have q1:=fun n=>iZ n b hb.w40
 rw[MB hb]at q1
 have hf:=fun n d fr=>hf (n+4795) d fr
 have q79:=fun n=>uM n b []
 have hwi:=hb.wi
 have hla:=hb.la
 have hw:IntKind.i64.wrap (b.last+1)=(b.winds.length:Int):=by rw[AY (by omega) (by omega)];omega
 have m1:b.winds.length*24<=140737488355328:=by omega
 have m2:b.winds.length<=maxLen:=by unfold maxLen;omega
 obtain⟨L',c',r1,r2,r3⟩:=kR (out:=[]) hb (by simp) hB (fun c c1 g a L hc h=>⟨h.go,h.lv.mono hc,h.ok⟩) (fun c g a L h=>h.lv.st) (ADB b hb c B hB) (false,bq b.winds.length []) (pA b c) (dR hb c) (gA b c)
 rw[AQW,hT]at r1
 obtain⟨_,⟨p7,p28,p25,p26,p8,hrr,pr,plen,pst,p2,p30,p63⟩,rok⟩:=r1
 have r3:=fun n=>r3 (n+1491)
 refine⟨c',by omega,fun n=>?_⟩
 rw[A5 cg b154 rfl (by simp[AC,AH,AM,AL,hco])]
 simp only[AC,li,cw,pA,IZ,gA,Q6,BE,bf,cq,bz,bk]at q1 hf q79 r3 p28 pr|-
 simp[ACC,AD,AH,AM,AL,q1,hB,hcw,hf,q79,hw,m1,m2,NI,bz]
 rw[P0 rfl]
 simp[BE,bz]
 rw[r3,UB (by simpa [BE]using pr) (by omega)]
 simp only[List.isEmpty_nil,Bool.not_true,Bool.or_false]at p8
 obtain⟨γs,p24,rrow,rno⟩:=hrr
 have rn:∀h,h<5->L'.get (800+h)=none:=fun h hh=>rno h hh (by
  simp only[List.foldl_nil,bj,bm];split <;> rfl)
 have r0:=rn 0 (by omega)
 have r1:=rn 1 (by omega)
 have r2:=rn 2 (by omega)
 have r3:=rn 3 (by omega)
 have r4:=rn 4 (by omega)
 simp only[bg,bk]at r0 r1 r2 r3 r4
 simp[p2,p7,p8,p24,p25,p26,p28,p30,p63,r0,r1,r2,r3,r4,AA.put,BE,hB]
end
theorem ADC(st:XS):LR [1000000000000024,24,901025,902026,903028] st =
  (fun s=>aW 28 (KY 0 s) 902 [] s) ((fun s=>aW 26 (KY 0 s) 901 [] s) ((fun s=>aW 25 (KY 0 s) 900 [] s) (IV 24 (AE7 24 st)))):=rfl
def mvZ(k d c:Nat)(fr:Fr)(B loc:AA):Option (Nat×AX)->XS
 |some (γ,r)=>⟨c,jH 1 k 0 d fr,⟨[(d,γ,QX 1 k 0 d r)::B],aV 1 k 0 d loc⟩⟩
 |none=>⟨c,fr,⟨[B],loc⟩⟩
@[simp] theorem A3D(k d c γ:Nat)(fr:Fr)(B loc:AA)(r:AX):mvZ k d c fr B loc (some (γ,r))=⟨c,jH 1 k 0 d fr,⟨[(d,γ,QX 1 k 0 d r)::B],aV 1 k 0 d loc⟩⟩:=rfl
def plO:Option (Nat×AX)->Bool
 |some x=>cA x.2
 |none=>true
theorem KJ(γ:Nat)(r:AX):plO (some (γ,r))=cA r:=rfl
theorem UT{k d c:Nat}{fr:Fr}{B loc:AA}(hp:plO (loc.get k)=true):aW k 0 d [] ⟨c,fr,⟨[B],loc⟩⟩=mvZ k d c fr B loc (loc.get k):=by
 unfold aW;cases h:loc.get k with
 |none=>simp[mvZ,QK,h]
 |some x=>
  obtain⟨γ,r⟩:=x
  rw[h,KJ]at hp
  have e3:QK 0 [B].length (some (γ,r))=true:=by simp[QK,hp]
  simp only[h,e3]
  simp[qY,h,zG,St.put,C8]
theorem UU(c:Nat)(fr:Fr)(B loc:AA):KY 0 ⟨c,fr,⟨[B],loc⟩⟩=0:=rfl
theorem OJ(k c:Nat)(fr:Fr)(up:List AA)(loc:AA):AE7 k ⟨c,fr,⟨up,loc⟩⟩=O6 (rF up.length (loc.get k)) ⟨c,fr,⟨up,loc⟩⟩:=rfl
theorem JF(n γ:Nat)(T:TypeId)(es:List (List V)):rF n (some (γ,.vec T es))=es.filterMap fun e=>match e with
  |[.vec l k _ _]=>if l=n then some k else none
  |_=>none:=rfl
theorem UV(l k f:Nat)(o:Option (Nat×AX))(a:Int):cz (BF l k o f) (AH a)=AH a:=by simp[AH]
theorem S9(l k f:Nat)(o:Option (Nat×AX))(w:List Int):cz (cz (BF l k o f)∘AH) w=w.map AH:=List.map_congr_left fun a _=>UV l k f o a
theorem I0(t:St):CG t (.map [])=.map []:=rfl
theorem PJ{n k l d:Nat}:jH n k l d []=[]:=rfl
theorem L6{n k l d:Nat}(j:Nat)(c:Bool)(v:V)(fr:Fr):jH n k l d ((j,c,v)::fr)=(j,c,JX n k l d 3 v)::jH n k l d fr:=rfl
theorem PK{n k l d:Nat}:aV n k l d []=[]:=rfl
theorem L7{n k l d:Nat}(j g:Nat)(r:AX)(L:AA):aV n k l d ((j,g,r)::L)=if j=k then aV n k l d L else(j,g,QX n k l d r)::aV n k l d L:=rfl
theorem CT{n k l d:Nat}(f:Nat)(x:Bool):JX n k l d f (.bool x)=.bool x:=by cases f<;>rfl
theorem CD{n k l d:Nat}(f:Nat)(x:Bool)(es:List (List V)):JX n k l d f (.list x es)=.list x es:=by cases f<;>rfl
theorem DY{n k l d a b g o:Nat}(f:Nat):JX n k l d (f+1) (.ptr a b g o)=if a=n/\b=k then .ptr l d g o else .ptr a b g o:=rfl
theorem UW{n k l d a b g:Nat}(f:Nat):JX n k l d (f+1) (.mp a b g)=if a=n/\b=k then .mp l d g else .mp a b g:=rfl
theorem CZ{n k l d:Nat}(cs:List V):QX n k l d (.box cs)=.box (cs.map (JX n k l d 3)):=rfl
theorem PL{n k l d:Nat}(es:List (V×V)):QX n k l d (.map es)=.map es:=rfl
theorem L8(k c:Nat)(fr:Fr)(up:List AA)(loc:AA):IV k ⟨c,fr,⟨up,loc⟩⟩=⟨c,NU up.length k (loc.get k) fr,⟨up,GH up.length k (loc.get k) loc⟩⟩:=rfl
theorem L9(k:Nat)(ks:List Nat)(st:XS):O6 (k::ks) st=O6 ks (IV k st):=rfl
theorem AJB{b:AN}{T:List (List Int)}(hT:T≠[])(hl:∀t∈T,t.length=b.winds.length){h:Nat}(hh:h<b.winds.length):(cJ b.winds.length T).getD h []≠[]:=by obtain⟨t,ht⟩:=List.exists_mem_of_ne_nil _ hT;exact cx ((uB hh).2 ⟨t,ht,by rw[hl t ht];exact hh,rfl⟩)
section
variable {b:AN}{B:AA}{ff:FuncId}{cap:List V}
theorem AJC{b:AN}:∀t∈FK b [] b.winds [],t.length=b.winds.length:=fun t ht=>by rw[gH]at ht;simp only[cq,List.map_id',List.mem_filter]at ht;exact DM (PM.1 ht.1)
theorem ADD(hb:Valid b)(hB:∀t:St,1<=t.up.length->AJ t B=B)(hcw:cap.map weakV=cap)(hco:cap.all (AG 8)=false)(c d:Nat)(hf:gB b B ff cap c true)(hT:FK b [] b.winds []≠[])(fr:Fr):∃c',c+8<=c'/\∀n,HQ (BL cd ann kn (n+6000)) (some d) ⟨c,fr,⟨[],B⟩⟩ 154 [.agg (AC b),.fn ff [] cap] =
  some ⟨c',(d,true,.tup [.ptr 0 902 (c+4) 0,i 0])::fr,⟨[],(902,c+4,.box (AC b++[KC (FJ b),.mp 0 900 (c+2),.mp 0 901 (c+3)]))::(901,c+3,.map [])::(900,c+2,.map [])::B⟩⟩:=by
 have q1:=fun n=>iZ n b hb.w40
 rw[MB hb]at q1
 have hf:=fun n d fr=>hf (n+4795) d fr
 have q79:=fun n=>uM n b []
 have hwi:=hb.wi
 have hla:=hb.la
 have hw:IntKind.i64.wrap (b.last+1)=(b.winds.length:Int):=by rw[AY (by omega) (by omega)];omega
 have m1:b.winds.length*24<=140737488355328:=by omega
 have m2:b.winds.length<=maxLen:=by unfold maxLen;omega
 obtain⟨L',c',r1,r2,r3⟩:=kR (out:=[]) hb (by simp) hB (fun c c1 g a L hc h=>⟨h.go,h.lv.mono hc,h.ok⟩) (fun c g a L h=>h.lv.st) (ADB b hb c B hB) (false,bq b.winds.length []) (pA b c) (dR hb c) (gA b c)
 rw[AQW]at r1
 have hTe:(FK b [] b.winds []).isEmpty=false:=by cases h:FK b [] b.winds []with|nil=>exact absurd h hT|cons x l=>rfl
 rw[hTe]at r1
 obtain⟨_,⟨p7,p28,p25,p26,p8,hrr,pr,plen,pst,p2,p30,p63⟩,rok⟩:=r1
 have hws:List.foldl (fun ws t=>KK ws 0 t) (bq b.winds.length []) (FK b [] b.winds [])=FJ b:=rfl
 have hne:=fun h (hh:h<b.winds.length)=>AJB hT AJC hh
 have hwd:cJ b.winds.length (FK b [] b.winds [])=FJ b:=rfl
 rw[hwd]at hne
 simp only[hws]at hrr plen
 have h5:=hb.hl
 have r3:=fun n=>r3 (n+1491)
 refine⟨c',by omega,fun n=>?_⟩
 rw[A5 cg b154 rfl (by simp[AC,AH,AM,AL,hco])]
 simp only[AC,li,cw,pA,IZ,gA,Q6,BE,bf,cq,bz,bk]at q1 hf q79 r3 p2 p28 pr|-
 simp[ACC,AD,AH,AM,AL,q1,hB,hcw,hf,q79,hw,m1,m2,NI,bz]
 rw[P0 rfl]
 simp[BE,bz]
 rw[r3,UB (by simpa [BE]using pr) (by omega)]
 simp only[Bool.not_false,Bool.or_true]at p8
 obtain⟨γs,p24,rrow,rno⟩:=hrr
 generalize FJ b=ws at *
 have hlen:ws.length=1\/ws.length=2\/ws.length=3\/ws.length=4\/ws.length=5:=by omega
 rcases hlen with hl|hl|hl|hl|hl
 ·match ws,hl with
  |[w0],_=>
   have hk1:b.winds.length=1:=plen.symm
   have n0:=hne 0 (by omega)
   have r0:=(rrow 0 n0).1
   have r1:=rno 1 (by omega) rfl
   have r2:=rno 2 (by omega) rfl
   have r3:=rno 3 (by omega) rfl
   have r4:=rno 4 (by omega) rfl
   simp only[bw,bx]at n0 r0
   simp only[bg,bk]at r0 r1 r2 r3 r4
   simp[EE,K9,n0,p2,p7,p8,p24,p25,p26,p28,p30,p63,r0,r1,r2,r3,r4,AA.put,BE,hB,ADC,OJ,JF,L9,L8,UU,UT,KJ,cA,hk1,PJ,L6,PK,L7,CT,CD,DY,UW,CO,CZ,PL,CV,KI,I0,AM,UV,S9]
 ·match ws,hl with
  |[w0,w1],_=>
   have hk1:b.winds.length=2:=plen.symm
   have n0:=hne 0 (by omega)
   have r0:=(rrow 0 n0).1
   have n1:=hne 1 (by omega)
   have r1:=(rrow 1 n1).1
   have r2:=rno 2 (by omega) rfl
   have r3:=rno 3 (by omega) rfl
   have r4:=rno 4 (by omega) rfl
   simp only[bw,bx]at n0 n1 r0 r1
   simp only[bg,bk]at r0 r1 r2 r3 r4
   simp[EE,K9,n0,n1,p2,p7,p8,p24,p25,p26,p28,p30,p63,r0,r1,r2,r3,r4,AA.put,BE,hB,ADC,OJ,JF,L9,L8,UU,UT,KJ,cA,hk1,PJ,L6,PK,L7,CT,CD,DY,UW,CO,CZ,PL,CV,KI,I0,AM,UV,S9]
 ·match ws,hl with
  |[w0,w1,w2],_=>
   have hk1:b.winds.length=3:=plen.symm
   have n0:=hne 0 (by omega)
   have r0:=(rrow 0 n0).1
   have n1:=hne 1 (by omega)
   have r1:=(rrow 1 n1).1
   have n2:=hne 2 (by omega)
   have r2:=(rrow 2 n2).1
   have r3:=rno 3 (by omega) rfl
   have r4:=rno 4 (by omega) rfl
   simp only[bw,bx]at n0 n1 n2 r0 r1 r2
   simp only[bg,bk]at r0 r1 r2 r3 r4
   simp[EE,K9,n0,n1,n2,p2,p7,p8,p24,p25,p26,p28,p30,p63,r0,r1,r2,r3,r4,AA.put,BE,hB,ADC,OJ,JF,L9,L8,UU,UT,KJ,cA,hk1,PJ,L6,PK,L7,CT,CD,DY,UW,CO,CZ,PL,CV,KI,I0,AM,UV,S9]
 ·match ws,hl with
  |[w0,w1,w2,w3],_=>
   have hk1:b.winds.length=4:=plen.symm
   have n0:=hne 0 (by omega)
   have r0:=(rrow 0 n0).1
   have n1:=hne 1 (by omega)
   have r1:=(rrow 1 n1).1
   have n2:=hne 2 (by omega)
   have r2:=(rrow 2 n2).1
   have n3:=hne 3 (by omega)
   have r3:=(rrow 3 n3).1
   have r4:=rno 4 (by omega) rfl
   simp only[bw,bx]at n0 n1 n2 n3 r0 r1 r2 r3
   simp only[bg,bk]at r0 r1 r2 r3 r4
   simp[EE,K9,n0,n1,n2,n3,p2,p7,p8,p24,p25,p26,p28,p30,p63,r0,r1,r2,r3,r4,AA.put,BE,hB,ADC,OJ,JF,L9,L8,UU,UT,KJ,cA,hk1,PJ,L6,PK,L7,CT,CD,DY,UW,CO,CZ,PL,CV,KI,I0,AM,UV,S9]
 ·match ws,hl with
  |[w0,w1,w2,w3,w4],_=>
   have hk1:b.winds.length=5:=plen.symm
   have n0:=hne 0 (by omega)
   have r0:=(rrow 0 n0).1
   have n1:=hne 1 (by omega)
   have r1:=(rrow 1 n1).1
   have n2:=hne 2 (by omega)
   have r2:=(rrow 2 n2).1
   have n3:=hne 3 (by omega)
   have r3:=(rrow 3 n3).1
   have n4:=hne 4 (by omega)
   have r4:=(rrow 4 n4).1
   simp only[bw,bx]at n0 n1 n2 n3 n4 r0 r1 r2 r3 r4
   simp only[bg,bk]at r0 r1 r2 r3 r4
   simp[EE,K9,n0,n1,n2,n3,n4,p2,p7,p8,p24,p25,p26,p28,p30,p63,r0,r1,r2,r3,r4,AA.put,BE,hB,ADC,OJ,JF,L9,L8,UU,UT,KJ,cA,hk1,PJ,L6,PK,L7,CT,CD,DY,UW,CO,CZ,PL,CV,KI,I0,AM,UV,S9]
end
end Go.Proofs.Tryz.Op
