/- The level of one who asks for the winds of all truths. No condition. -/
import Derived.Test.YthhdhbalenanjaaGreatO1
import Derived.Test.YthhdhbalenanjaaGreatI1
noncomputable section
open Go.Proofs.Tryz renaming prog->cz,func154->cd
open List renaming getD_eq_getElem?_getD->bj,replicate->bq,getD_cons_zero->bw,getD_cons_succ->bx,getElem?_eq_getElem->bb,cons_append->bc,eq_of_mem_replicate->bg,getElem?_replicate->bh,ext_getElem->bm,length_singleton->bn,getElem?_eq_none->bp,map_cons->cj,nil_append->ck,map_nil->cq,ne_nil_of_mem->cw,map->cx
open Nat renaming reduceAdd->bk,add_assoc->bz,add_zero->bf
set_option maxRecDepth 100000
set_option linter.unusedSimpArgs false
open Go Go.Pg Go.Proofs Go.Wind
namespace Go.Proofs.Tryz.Op
def nP(γ h:Nat):List Int->V
 |[]=>.nil
 |w=>.vec 1 (800+h) γ w.length
@[simp] theorem AGW(γ h:Nat):nP γ h []=.nil:=rfl
theorem LM{γ h:Nat}{w:List Int}(hw:w≠[]):nP γ h w=.vec 1 (800+h) γ w.length:=by
 cases w with
 |nil=>exact absurd rfl hw
 |cons x w=>rfl
def EJ(γs:Nat->Nat)(ws:List (List Int)):List (List V):=ws.mapIdx fun h w=>[nP (γs h) h w]
def SG:Code:=.block 1 (.seq (EG 2399) (.seq (EG 5471) (.block 2 (.loop KL))))
@[simp] theorem uAs(n:Nat)(st:XS):AE cz ann kn n 69 SG st=AE cz ann kn n 69 (.block 1 (.seq (EG 2399) (.seq (EG 5471) (.block 2 (.loop KL))))) st:=rfl
def kF(b:AM)(c0:Nat):Fr:=[(30,true,.fn 196 [] [.ref (AC b),.ref [li []]]),(29,true,.agg (AC b)),(2,true,.ptr 1 2 c0 0),(7,true,.ptr 1 7 (c0+5) 0),(8,true,.ptr 1 8 (c0+6) 0)]
def I0(b:AM)(c0:Nat)(ls:LS):AZ:=.loop (kF b c0) [31] (EG 607) SG 69 ls
structure RwA(c0 c:Nat)(ws:List (List Int))(L:AA)(γs:Nat->Nat):Prop where
 p24:L.get 24=some (c0+1,.vec 22 (EJ γs ws))
 row:∀h,ws.getD h []≠[]->L.get (800+h)=some (γs h,.vec 3 ((ws.getD h []).map AH))/\γs h<c
 no:∀h,h<5->ws.getD h []=[]->L.get (800+h)=none
structure xZ(b:AM)(c0:Nat)(ls:LS)(c:Nat)(s:Bool)(ws:List (List Int))(L:AA):Prop where
 p7:L.get 7=some (c0+5,.box [.ptr 1 28 (c0+4) 0])
 p28:L.get 28=some (c0+4,.box (AC b++[.vec 1 24 (c0+1) b.winds.length,.mp 1 25 (c0+2),.mp 1 26 (c0+3)]))
 p25:L.get 25=some (c0+2,.map [])
 p26:L.get 26=some (c0+3,.map [])
 p8:L.get 8=some (c0+6,.box [.bool s])
 rows:∃γs,RwA c0 c ws L γs
 pr:L.get BG=some (c0+7,I0 b c0 ls)
 len:ws.length=b.winds.length
 st:∀t:St,2<=t.up.length->t.loc.get 63=none->AK t L=L
 pp:L.get 2=some (c0,.box (AC b))/\L.get 30=none/\L.get 63=none
theorem RwA.mono{c0 c c1:Nat}{ws:List (List Int)}{L:AA}{γs:Nat->Nat}(h:RwA c0 c ws L γs)(hc:c<=c1):RwA c0 c1 ws L γs :=
 ⟨h.p24,fun k hk=>⟨(h.row k hk).1,Nat.lt_of_lt_of_le (h.row k hk).2 hc⟩,h.no⟩
theorem xZ.mono{b:AM}{c0 c c1:Nat}{ls:LS}{s:Bool}{ws:List (List Int)}{L:AA}(h:xZ b c0 ls c s ws L)(hc:c<=c1):xZ b c0 ls c1 s ws L :=
 ⟨h.p7,h.p28,h.p25,h.p26,h.p8,by obtain⟨γs,hr⟩:=h.rows;exact⟨γs,hr.mono hc⟩,h.pr,h.len,h.st,h.pp⟩
theorem NB(st:XS)(v:V)(hv:∀l k o,BK l k o 3 v=v):∀ks,IX st ks v=v
 |[]=>rfl
 |k::ks=>by
  have ih:=NB st v hv ks;obtain⟨c,fr,up,loc⟩:=st;by_cases h:k<10000
  ·rw[wC _ _ _ _ _ _ _ h,hv,ih]
  ·rw[GO _ _ _ _ h,hv,ih]
theorem MH{c0 c:Nat}{ws:List (List Int)}{L:AA}{γs:Nat->Nat}(h:RwA c0 c ws L γs){k:Nat}(hk:k<=4)(hne:ws.getD k []≠[])(B:AA)(R:List AA)(c1:Nat)(fr:Fr)(loc:AA) :
  IX ⟨c1,fr,⟨B::L::R,loc⟩⟩ [20800,20801,20802,20803,20804] (.vec 1 (800+k) (γs k) (ws.getD k []).length)=li (ws.getD k []):=by
 have hr:=(h.row k hne).1
 have e1:¬1=R.length+1+1:=by omega
 have:k=0\/k=1\/k=2\/k=3\/k=4:=by omega
 generalize ws.getD k []=w at hr hne|-
 have hget:∀j,St.get ⟨B::L::R,loc⟩ 1 j=L.get j:=fun j=>by simp[St.get]
 simp only[GO _ _ _ _ (show ¬20800<10000 by decide),GO _ _ _ _ (show ¬20801<10000 by decide),GO _ _ _ _ (show ¬20802<10000 by decide),GO _ _ _ _ (show ¬20803<10000 by decide),GO _ _ _ _ (show ¬20804<10000 by decide),ADK,Nat.reduceDiv,Nat.reduceMod,Nat.reduceSub,hget]
 have skip:∀a o,a≠800+k->BK 1 a o 3 (.vec 1 (800+k) (γs k) w.length)=.vec 1 (800+k) (γs k) w.length:=fun a o ha=>by
  simp only[BK];split
  ·rw[if_neg fun e=>ha e.2.1.symm]
  ·rfl
 have hit:BK 1 (800+k) (L.get (800+k)) 3 (.vec 1 (800+k) (γs k) w.length)=li w:=by rw[hr];simp[BK]
 rcases this with rfl|rfl|rfl|rfl|rfl
 ·rw[hit];simp
 ·rw[skip 800 _ (by decide),hit];simp
 ·rw[skip 800 _ (by decide),skip 801 _ (by decide),hit];simp
 ·rw[skip 800 _ (by decide),skip 801 _ (by decide),skip 802 _ (by decide),hit];simp
 ·rw[skip 800 _ (by decide),skip 801 _ (by decide),skip 802 _ (by decide),skip 803 _ (by decide),hit]
theorem MI(γs:Nat->Nat)(ws:List (List Int)):(EJ γs ws).length=ws.length:=by unfold EJ;simp
theorem MJ{γs:Nat->Nat}{ws:List (List Int)}{h:Nat}(h1:h<(EJ γs ws).length)(h2:h<ws.length):(EJ γs ws)[h]=[nP (γs h) h ws[h]]:=by simp only[EJ,List.getElem_mapIdx]
def YZ(γs:Nat->Nat)(h c:Nat):Nat->Nat:=fun j=>if j=h then c else γs j
theorem gX{γs:Nat->Nat}{ws:List (List Int)}{h:Nat}(_:h<ws.length)(c:Nat){w:List Int}(hw:w≠[]):(EJ γs ws).set h [.vec 1 (800+h) c w.length]=EJ (YZ γs h c) (ws.set h w):=by
 apply bm (by simp[MI]);intro j h1 h2;have hj:j<ws.length:=by simpa [MI]using h1
 rw[List.getElem_set,MJ h2 (by simpa using hj),List.getElem_set];by_cases e:h=j
 ·subst e;rw[if_pos rfl,if_pos rfl,LM hw,YZ,if_pos rfl]
 ·rw[if_neg e,if_neg e,MJ _ hj,YZ,if_neg fun h=>e h.symm]
theorem AVK{n d γ j:Nat}{w:List Int}:K1 n 63 1 d 3 (nP γ j w)=nP γ j w:=by
 cases w with
 |nil=>rfl
 |cons x w=>
  show(if 1=n/\800+j=63 then _ else _)=_
  rw[if_neg (by omega)]
theorem AGX{γs:Nat->Nat}{ws:List (List Int)}{h:Nat}(hh:h<ws.length)(n c:Nat){w:List Int}(hw:w≠[]):((EJ γs ws).set h [.vec n 63 c w.length]).map (cx (K1 n 63 1 (800+h) 3))=EJ (YZ γs h c) (ws.set h w):=by
 rw[<-gX hh c hw,List.map_set];congr 1
 ·apply bm (by simp);intro j h1 h2;have hj:j<ws.length:=by simpa [MI]using h1
  rw[List.getElem_map,MJ _ hj];exact congrArg (fun v=>[v]) AVK
 ·simp[K1]
theorem gY(ws:List (List Int))(h:Nat)(l:List Int)(j:Nat)(hh:h<ws.length):(ws.set h l).getD j []=if j=h then l else ws.getD j []:=by
 simp only[bj,List.getElem?_set];by_cases e:h=j
 ·subst e;simp[hh]
 ·rw[if_neg e,if_neg fun h=>e h.symm]
theorem RwA.put{c0 c:Nat}{ws:List (List Int)}{L:AA}{γs:Nat->Nat}(hr:RwA c0 c ws L γs){h:Nat}(hh:h<ws.length){w:List Int}(hw:w≠[]){L':AA}
  (h24:L'.get 24=some (c0+1,.vec 22 (EJ (YZ γs h c) (ws.set h w)))) (h800:L'.get (800+h)=some (c,.vec 3 (w.map AH))) (hot:∀j,j≠h->L'.get (800+j)=L.get (800+j)):RwA c0 (c+1) (ws.set h w) L' (YZ γs h c):=by
 refine⟨h24,fun j hj=>?_,fun j hj5 hj=>?_⟩
 ·rw[gY _ _ _ _ hh]at hj|-;by_cases e:j=h
  ·subst e;rw[if_pos rfl,YZ,if_pos rfl];exact⟨h800,Nat.lt_succ_self _⟩
  ·rw[if_neg e]at hj|-;rw[hot j e,YZ,if_neg e];exact⟨(hr.row j hj).1,Nat.lt_succ_of_lt (hr.row j hj).2⟩
 ·rw[gY _ _ _ _ hh]at hj;by_cases e:j=h
  ·subst e;rw[if_pos rfl]at hj;exact absurd hj hw
  ·rw[if_neg e]at hj;rw[hot j e];exact hr.no j hj5 hj
theorem nQ{t:St}{l k γ m:Nat}(h:¬l=t.up.length):CB t (.vec l k γ m)=some (.vec l k γ m):=by obtain⟨up,loc⟩:=t;rw[sF,eV,if_neg h]
theorem WK{t:St}(ht:2<=t.up.length)(γs:Nat->Nat)(ws:List (List Int)):CM t (.vec 22 (EJ γs ws))=.vec 22 (EJ γs ws):=by
 refine P4 fun e he v hv=>?_;obtain⟨j,hj,rfl⟩:=List.getElem_of_mem he;rw[MJ hj (by simpa [MI]using hj)]at hv;simp only[List.mem_cons,List.not_mem_nil,or_false]at hv;subst hv;have hne:¬1=t.up.length:=by omega
 cases ws[j]'(by simpa [MI]using hj)with
 |nil=>rfl
 |cons x w=>exact nQ hne
theorem ARG(st:XS):MD [25008011801063] st=gD 63 (M1 8 st) (vN 800 11 st) [24] st:=rfl
theorem AGY(c:Nat)(fr:Fr)(up:List AA):MD [25008011801063] ⟨c,fr,⟨up,[]⟩⟩=⟨c,fr,⟨up,[]⟩⟩:=by rw[ARG];rfl
theorem MK{n k l d:Nat}(fr:Fr)(j:Nat):BJ (zC n k l d fr) j=(BJ fr j).map fun x=>(x.1,K1 n k l d 3 x.2):=by rw[FY,FY,lT]
@[simp] theorem A07(u:Nat)(L:AA)(j:Nat):(JS u L).get j=if j=u then none else L.get j:=dY u L j
theorem UV(t:St)(u:Nat):∀L:AA,AK t (JS u L)=JS u (AK t L)
 |[]=>rfl
 |(q,g,r)::L=>by
  have ih:=UV t u L;rw[A6];unfold JS;by_cases h:q=u
  ·rw[if_pos h,if_pos h,ih]
  ·rw[if_neg h,if_neg h,A6,ih]
theorem KD(u g:Nat)(r:AZ)(L:AA):JS u ((u,g,r)::L)=JS u L:=by show(if u=u then JS u L else _)=_;rw[if_pos rfl]
theorem AVL(c γ h g7 o7 g24:Nat)(T:TypeId)(es:List (List V))(fr:Fr)(B L:AA)(R:List AA)(r24:AZ)(h7:BJ fr 7=some (true,.ptr 1 7 g7 o7))(h10:BJ fr 10=some (true,.int .i64 h))(h24:L.get 24=some (g24,r24)) :
  MD [25008011801063] ⟨c,fr,⟨B::L::R,[(63,γ,.vec T es)]⟩⟩=⟨c,zC (R.length+1+1) 63 1 (800+h) fr,⟨B::((800+h,γ,TB (R.length+1+1) 63 1 (800+h) (.vec T es))::(24,g24,TB (R.length+1+1) 63 1 (800+h) r24)::JS 24 L)::R,[]⟩⟩:=by
 rw[ARG]
 have e1:M1 8 ⟨c,fr,⟨B::L::R,[(63,γ,.vec T es)]⟩⟩=1:=by show(match BJ fr 7 with|some (true,.ptr l _ _ _)=>l|_=>0)=1;rw[h7]
 have e2:vN 800 11 ⟨c,fr,⟨B::L::R,[(63,γ,.vec T es)]⟩⟩=800+h:=by show(match BJ fr 10 with|some (true,.int _ n)=>800+n.toNat|_=>800)=800+h;rw[h10];simp
 rw[e1,e2]
 unfold gD
 have e3:S7 1 (B::L::R).length (AA.get [(63,γ,.vec T es)] 63)=true:=by simp[S7,AA.get,gA]
 simp only[e3]
 simp[zD,AA.get,mvU,h24,mT,St.put,C7]
theorem HB{n k l d:Nat}(f:Nat)(q:IntKind)(x:Int):K1 n k l d f (.int q x)=.int q x:=by cases f<;>rfl
theorem ML{n k l d a b g o:Nat}(f:Nat)(h:¬b=k):K1 n k l d f (.ptr a b g o)=.ptr a b g o:=by
 cases f with
 |zero=>rfl
 |succ f=>simp only[K1];rw[if_neg fun e=>h e.2]
theorem KM{n k l d a b g o:Nat}(f:Nat)(h:¬b=k):K1 n k l d f (.vec a b g o)=.vec a b g o:=by
 cases f with
 |zero=>rfl
 |succ f=>simp only[K1];rw[if_neg fun e=>h e.2]
theorem HC{n k l d:Nat}(T:TypeId)(es:List (List V)):TB n k l d (.vec T es)=.vec T (es.map (cx (K1 n k l d 3))):=rfl
theorem A8V{k:Nat}{x:Int}(h:k<=10000):B5 cz 3 k [[.int .i64 x]]=true:=by rw[B9 (by simp) (by simp)];simp[maxLen];omega
theorem AM6{P:Program}{fr:Fr}{s:St}(e d c:Nat)(y:List V)(ys:List (List V))(h:B5 P e 0 (y::ys)=true):wL P e d c fr s .nil (y::ys)=some (⟨c+1,(d,true,.vec s.up.length d c (ys.length+1))::fr,s.put s.up.length d c (.vec e (y::ys))⟩,[(s.up.length,d),(s.up.length,d+GU)]):=by unfold wL;simp[I5,h]
theorem lAs(b:AM)(c0:Nat)(h5:b.winds.length<=5)(s:Bool)(t:List Int)(ht:t.length=b.winds.length)(hn:∀n∈t,0<=n/\n<=3)(B:AA)(L1:AA)(R:List AA)(g9:Nat)(p9:L1.get 9=some (g9,.vec 3 (t.map AH))) :
  ∀(d h c:Nat) (ws:List (List Int)) (L:AA),h+d=t.length->xZ b c0 .busy c s ws L->c0+8<=c->DO ws ->
  ∃fr' c' L',xZ b c0 .busy c' s (KO ws h (t.drop h)) L'/\c<=c'/\∀n m,d<m->BI (AE cz ann kn (n+1400) 69) KL (ann 69 (BZ KL)) m ⟨c,[(7,true,.ptr 1 7 (c0+5) 0),(32,true,.vec 2 9 g9 t.length),(33,true,i t.length),(34,true,i h)],⟨B::L::L1::R,[]⟩⟩ =
   some (.exit 2,⟨c',fr',⟨B::L'::L1::R,[]⟩⟩)
 |0,h,c,ws,L,hd,hL,hc,hok=>by
  have:h=t.length:=by omega
  subst this;refine⟨?fr,c,L,by simpa [KO]using hL,Nat.le_refl _,fun n m hm=>?g⟩;case g=>
   obtain⟨m,rfl⟩:=qNz m (by omega)
   rw[AB]
   simp
   rfl
 |d+1,h,c,ws,L,hd,hL,hc,hok=>by
  have hh:h<t.length:=by omega
  have hw:=BS (k:=h) (by omega);have hdrop:t.drop h=t[h]::t.drop (h+1):=List.drop_eq_getElem_cons hh;have hLo:=hL;obtain⟨p7,p28,p25,p26,p8,⟨γs,hr⟩,pr,hlen,pst,pp⟩:=hL;have hg:ws.getD h []=ws[h]'(by omega):=by rw[bj,bb (by omega)];rfl
  have hl4:(ws.getD h []).length<=4:=by rw[hg];exact hok.len _ (List.getElem_mem _)
  have qc:=fun n=>XU n (ws.getD h []) t[h] (by omega);have h24:=hr.p24;have hra:(EJ γs ws)[h]? = some [nP (γs h) h (ws.getD h [])]:=by unfold EJ;rw[List.getElem?_mapIdx,bb (by omega),hg];rfl
  have hrl:(EJ γs ws).length=ws.length:=by unfold EJ;simp
  have hrx:(EJ γs ws)[h]'(by omega)=[nP (γs h) h (ws.getD h [])]:=by have:=hra;rw[bb (by omega),Option.some.injEq]at this;exact this
  have hhw:h<b.winds.length:=by omega
  have hhr:h<(EJ γs ws).length:=by omega
  have ha0:B5 cz 3 0 [[.int .i64 t[h]]]=true:=A8V (by omega);have hc0:c0<c:=by omega
  have hws:h<ws.length:=by omega
  have hx3:=hn t[h] (List.getElem_mem hh);have hka:∀k,900<=k->(800+h=k)=False:=fun k hk=>by simp;omega
  have hkb:∀k,k<800->(800+h=k)=False:=fun k hk=>by simp;omega
  have hkc:∀k,k<800->(k=800+h)=False:=fun k hk=>by simp;omega
  have hkd:∀k,900<=k->(k=800+h)=False:=fun k hk=>by simp;omega
  have hrb:b.winds.length<=(EJ γs ws).length:=by omega
  by_cases hm:t[h]∈ws.getD h []
  ·have hmd:decide (t[h]∈ws.getD h [])=true:=decide_eq_true hm;rw[hmd]at qc;have hne:ws.getD h []≠[]:=cw hm;have hwv:=LM (γ:=γs h) (h:=h) hne;have hrt:=fun c1 fr loc=>MH hr (k:=h) (by omega) hne B (L1::R) c1 fr loc;obtain⟨fr',c',L',i1,i2,ih⟩:=lAs b c0 h5 s t ht hn B L1 R g9 p9 d (h+1) c ws L (by omega) hLo hc hok;have hadd:KO ws h (t.drop h)=KO ws (h+1) (t.drop (h+1)):=by rw[hdrop];show KO (PA ws h t[h]) (h+1) (t.drop (h+1))=_;rw[PA,if_pos hm]
   rw[hadd];refine⟨fr',c',L',i1,i2,fun n m hm'=>?_⟩;obtain⟨m,rfl⟩:=qNz m (by omega);have ih:=ih n m (by omega);have hfl:∀st x,IX st [20800,20801,20802,20803,20804] (.int .i64 x)=.int .i64 x:=fun st x=>NB st _ (fun _ _ _=>jL _ _ _) _;rw[hwv]at hrx;generalize ws.getD h []=w at *;rw[AB];simp only[AC,AH]at p28 qc ih|-;simp at ih;simp[-GO,hh,hw,AH,p7,p28,p9,h24,hhr,hhw,hrb,hrx,hrt,hfl,qc,AGY,ih]
  ·have hmd:decide (t[h]∈ws.getD h [])=false:=decide_eq_false hm;rw[hmd]at qc;have hfl:∀st x,IX st [20800,20801,20802,20803,20804] (.int .i64 x)=.int .i64 x:=fun st x=>NB st _ (fun _ _ _=>jL _ _ _) _;have hfn:∀st,IX st [20800,20801,20802,20803,20804] .nil=.nil:=fun st=>NB st _ (fun _ _ _=>ADH _) _;by_cases hne:ws.getD h []=[]
   ·rw[hne]at hrx qc;rw[AGW]at hrx;have hne1:([t[h]]:List Int)≠[]:=by simp
    have hadd:PA ws h t[h]=ws.set h [t[h]]:=by rw[PA,if_neg hm,hne];rfl
    have hrs:=AGX (γs:=γs) hws (R.length+1+1+1) c hne1;have hL':xZ b c0 .busy (c+1) s (ws.set h [t[h]]) ((800+h,c,.vec 3 [[.int .i64 t[h]]])::(24,c0+1,.vec 22 (EJ (YZ γs h c) (ws.set h [t[h]])))::JS 24 L):=by
     refine⟨?_,?_,?_,?_,?_,⟨YZ γs h c,hr.put hws hne1 (by simp;omega) (by simp[AH]) fun j hj=>by simp[hj,show ¬800+j=24 by omega]⟩,?_,by simpa using hlen,fun T h1 h2=>?_,by simpa [hkc]using pp⟩
     ·simpa [hkc]using p7
     ·simpa [hkc]using p28
     ·simpa [hkc]using p25
     ·simpa [hkc]using p26
     ·simpa [hkc]using p8
     ·simpa [BG,hkd]using pr
     ·rw[A6,A6,UV,WK h1,pst T h1 h2,show[[V.int .i64 t[h]]]=[t[h]].map AH from rfl,QL]
    obtain⟨fr',c',L',i1,i2,ih⟩:=lAs b c0 h5 s t ht hn B L1 R g9 p9 d (h+1) (c+1) _ _ (by omega) hL' (by omega) (by rw[<-hadd];exact hok.add h _ hx3);have hadw:KO ws h (t.drop h)=KO (ws.set h [t[h]]) (h+1) (t.drop (h+1)):=by rw[hdrop,<-hadd];rfl
    rw[hadw];refine⟨fr',c',L',i1,by omega,fun n m hm'=>?_⟩;obtain⟨m,rfl⟩:=qNz m (by omega);have ih:=ih n m (by omega);rw[AB];simp only[bn]at hrs;have hgh:=fun c1 fr (h7:BJ fr 7=some (true,.ptr 1 7 (c0+5) 0)) (h10:BJ fr 10=some (true,.int .i64 h))=>AVL c1 c h _ _ (c0+1) 3 [[.int .i64 t[h]]] fr B ((24,c0+1,.vec 22 ((EJ γs ws).set h [.vec (R.length+1+1+1) 63 c 1]))::L) (L1::R) _ h7 h10 rfl;simp only[AC,AH,li,cq]at p28 qc ih|-;simp at ih;simp[-GO,hh,hw,AH,p7,p28,p9,h24,hhr,hhw,hrb,hrx,hfl,hfn,qc,AM6,ha0,hka,hkb,hkc,hkd,GU,C7,hc0,MK,hgh,KD,hrs,HB,ML,KM,HC,ih]
   ·have hwv:=LM (γ:=γs h) (h:=h) hne;have hrt:=fun c1 fr loc=>MH hr (k:=h) (by omega) hne B (L1::R) c1 fr loc;have hrow:=(hr.row h hne).1;have hγ:=(hr.row h hne).2;rw[hwv]at hrx;have ha1:B5 cz 3 (ws.getD h []).length [[.int .i64 t[h]]]=true:=A8V (by omega);have hadd:PA ws h t[h]=ws.set h (ws.getD h []++[t[h]]):=by rw[PA,if_neg hm]
    generalize ws.getD h []=w at *;have hne1:w++[t[h]]≠[]:=by simp
    have hrs:=gX (γs:=γs) hws c hne1;simp only[List.length_append,bn]at hrs;have hL':xZ b c0 .busy (c+1) s (ws.set h (w++[t[h]])) ((24,c0+1,.vec 22 (EJ (YZ γs h c) (ws.set h (w++[t[h]]))))::(800+h,c,.vec 3 (w.map AH++[[.int .i64 t[h]]]))::L):=by
     refine⟨?_,?_,?_,?_,?_,⟨YZ γs h c,hr.put hws hne1 (by simp) (by simp[AH,show ¬800+h=24 by omega]) fun j hj=>by simp[hj,show ¬800+j=24 by omega]⟩,?_,by simpa using hlen,fun T h1 h2=>?_,by simpa [hkc]using pp⟩
     ·simpa [hkc]using p7
     ·simpa [hkc]using p28
     ·simpa [hkc]using p25
     ·simpa [hkc]using p26
     ·simpa [hkc]using p8
     ·simpa [BG,hkd]using pr
     ·have e:(w.map AH++[[V.int .i64 t[h]]])=(w++[t[h]]).map AH:=by simp[AH]
      rw[A6,A6,WK h1,e,QL,pst T h1 h2]
    obtain⟨fr',c',L',i1,i2,ih⟩:=lAs b c0 h5 s t ht hn B L1 R g9 p9 d (h+1) (c+1) _ _ (by omega) hL' (by omega) (by rw[<-hadd];exact hok.add h _ hx3);have hadw:KO ws h (t.drop h)=KO (ws.set h (w++[t[h]])) (h+1) (t.drop (h+1)):=by rw[hdrop,<-hadd];rfl
    rw[hadw];refine⟨fr',c',L',i1,by omega,fun n m hm'=>?_⟩;obtain⟨m,rfl⟩:=qNz m (by omega);have ih:=ih n m (by omega);rw[AB];simp only[AC,AH]at p28 qc ih|-;simp at ih;simp[-GO,hh,hw,AH,p7,p28,p9,h24,hhr,hhw,hrb,hrx,hrt,hfl,qc,hrow,hγ,ha1,hka,hkb,hkc,hkd,GU,C7,hc0,hrs,AGY,ih]
structure A8W(b:AM)(c0:Nat)(c:Nat)(g:Bool)(a:Bool×List (List Int))(L:AA):Prop where
 go:g=true
 lv:xZ b c0 .ready c a.1 a.2 L
 ok:DO a.2
def yA(a:Bool×List (List Int))(t:List Int):(Bool×List (List Int))×Bool:=((true,KO a.2 0 t),true)
theorem xZ.put{b:AM}{c0 c:Nat}{ls ls':LS}{s s':Bool}{ws:List (List Int)}{L:AA}(h:xZ b c0 ls c s ws L)(h5:b.winds.length<=5):xZ b c0 ls' c s' ws ((8,c0+6,.box [.bool s'])::(BG,c0+7,I0 b c0 ls')::L):=by
 obtain⟨p7,p28,p25,p26,p8,⟨γs,hr⟩,pr,hlen,pst,pp⟩:=h;refine⟨by simpa [BG]using p7,by simpa [BG]using p28,by simpa [BG]using p25,by simpa [BG]using p26,by simp,⟨γs,by simpa [BG]using hr.p24,fun j hj=>?_,fun j hj5 hj=>?_⟩,by simp[BG],hlen,fun t h1 h2=>?_,by simpa [BG]using pp⟩
 ·have hj4:(j:Nat)<ws.length:=by
   rcases Nat.lt_or_ge j ws.length with h|h
   ·exact h
   ·exact absurd (by rw[bj,bp h];rfl) hj
  have e1:¬800+j=8:=by omega
  have e2:¬800+j=1000000:=by omega
  have:=hr.row j hj;simpa [BG,e1,e2]using this
 ·have e1:¬800+j=8:=by omega
  have e2:¬800+j=1000000:=by omega
  have:=hr.no j hj5 hj;simpa [BG,e1,e2]using this
 ·rw[A6,A6,pst t h1 h2];simp[I0]
theorem xZ.back{b:AM}{c0 c:Nat}{ls ls':LS}{s:Bool}{ws:List (List Int)}{L:AA}(h:xZ b c0 ls c s ws L)(h5:b.winds.length<=5):xZ b c0 ls' c s ws ((BG,c0+7,I0 b c0 ls')::L):=by
 obtain⟨p7,p28,p25,p26,p8,⟨γs,hr⟩,pr,hlen,pst,pp⟩:=h;refine⟨by simpa [BG]using p7,by simpa [BG]using p28,by simpa [BG]using p25,by simpa [BG]using p26,by simpa [BG]using p8,⟨γs,by simpa [BG]using hr.p24,fun j hj=>?_,fun j hj5 hj=>?_⟩,by simp[BG],hlen,fun t h1 h2=>?_,by simpa [BG]using pp⟩
 ·have hj4:(j:Nat)<ws.length:=by
   rcases Nat.lt_or_ge j ws.length with h|h
   ·exact h
   ·exact absurd (by rw[bj,bp h];rfl) hj
  have e2:¬800+j=1000000:=by omega
  have:=hr.row j hj;simpa [BG,e2]using this
 ·have e2:¬800+j=1000000:=by omega
  have:=hr.no j hj5 hj;simpa [BG,e2]using this
 ·rw[A6,pst t h1 h2];simp[I0]
theorem AGZ(b:AM)(hb:Valid b)(c0:Nat)(B:AA)(hB:∀t:St,1<=t.up.length->AK t B=B):kL B b (A8W b c0) yA (c0+7) 1500:=by
 intro a L L1 rest loc c fr t g9 hL hc ht p9 hst;obtain⟨_,hL,hok⟩:=hL;have hL0:=hL.put (ls':=.busy) (s':=true) hb.hl;have hlt:=C0 ht;obtain⟨fr',c',L',i1,i2,ih⟩:=lAs b c0 hb.hl true t hlt (LN hb ht) B L1 (rest++[loc]) g9 p9 t.length 0 c a.2 _ (by omega) hL0 (by omega) hok;rw[List.drop_zero]at i1;have i1':=i1;obtain⟨q7,q28,q25,q26,q8,hrr,qr,qlen,qst,qpp⟩:=i1;have p8:=hL.p8;have pr:=hL.pr;have e1:c0+7<c:=by omega
 have e2:c0+7<c':=by omega
 have e3:c0+6<c:=by omega
 have e4:c0<c:=by omega
 have hun:∀A A':AA,CH (A::A'::L1::(rest++[loc]))=some (A::A'::L1::rest,loc):=fun A A'=>by rw[<-bc,<-bc,<-bc,unsnoc_snoc]
 have hst':=fun t h=>hst t h;simp only[cj,List.map_append,cq,List.cons.injEq]at hst';have hsr:∀t:St,(L1::(rest++[loc])).length+2<=t.up.length->(rest.map (AK t)=rest/\AK t loc=loc):=fun t h=>by have:=(hst' t h).2;exact⟨List.append_inj_left' this rfl,by simpa using List.append_inj_right' this rfl⟩
 have h1s:∀t:St,(L1::(rest++[loc])).length+2<=t.up.length->AK t L1=L1:=fun t h=>(hst' t h).1;refine⟨?L,c',⟨rfl,?lv,DO.adds t hok 0 (LN hb ht)⟩,i2,fun n=>?g⟩;case g=>
  rw[V0 (by simpa [I0]using pr) rfl (by omega)]
  simp only[JN,Fr.put,kF]
  have h5:=hb.hl
  have ih:=ih (n+95) (n+1495) (by omega)
  rw[show n+95+1400=n+1495 by omega]at ih
  simp
  rw[G9 (fr0:=kF b c0) (ps:=[31]) (asg:=(EG 607)) (body':=SG) (N:=69) (by simpa [I0]using pr) e1]
  rw[show AZ.loop (kF b c0) [31] (EG 607) SG 69 LS.busy=I0 b c0 .busy from rfl]
  simp[BG]at ih
  simp[p8,AA.put,BG,e3]
  rw[show(33,true,V.int IntKind.i64 (b.winds.length:Int))=(33,true,V.int IntKind.i64 (t.length:Int)) by rw[hlt],<-hlt]
  rw[ih]
  simp
  rw[show(1000000:Nat)=BG from rfl,R3 (fr0:=kF b c0) (ps:=[31]) (asg:=(EG 607)) (body:=SG) (N:=69) (by simpa [I0]using qr) (hun _ _) (by simp) e2]
  have s1:AK ⟨B::L'::L1::(rest++[loc]),[]⟩ L'=L':=qst _ (by simp) rfl
  have s2:=h1s ⟨B::L'::L1::(rest++[loc]),[]⟩ (by simp)
  have s3:=hsr ⟨B::L'::L1::(rest++[loc]),[]⟩ (by simp)
  rw[cj,cj,cj,hB _ (by simp),s1,s2,s3.1,s3.2]
  rfl
 case lv=>exact i1'.back hb.hl
theorem AVM:∀(T:List (List Int)) (a:Bool×List (List Int)),runG yA a T=((a.1||!T.isEmpty,T.foldl (fun ws t=>KO ws 0 t) a.2),true)
 |[],a=>by simp[runG]
 |t::T,a=>by have e:(yA a t).2=true:=rfl;rw[runG,if_pos e,AVM T];simp[yA]
def FL(b:AM):List (List Int):=fM b.winds.length (FW b [] b.winds [])
def kG(b:AM)(B:AA)(ff:FuncId)(cap:List V)(c0:Nat)(z:Bool):Prop:=∀n d fr,HT (BQ cz ann kn (n+1200)) (some d) ⟨c0+1,fr,⟨[B],[(2,c0,.box (AC b))]⟩⟩ ff cap=some ⟨c0+1,(d,true,.bool z)::fr,⟨[B],[(2,c0,.box (AC b))]⟩⟩
@[simp] theorem AVN:CT (.pointer none)=some (.raw (.pointer none)):=rfl
@[simp] theorem ARH(s:St)(f:Nat):A4 s (f+1) (.raw (.pointer none))=some (.raw (.pointer none)):=rfl
theorem _root_.Go.Wind.Valid.w40{b:AM}(hb:Valid b):∀l∈b.winds,l.length<=40:=fun l hl=>by have:=(hb.wl l hl).2;omega
section
variable {b:AM}{B:AA}{ff:FuncId}{cap:List V}
theorem nR(h40:∀l∈b.winds,l.length<=40)(hB:∀t:St,1<=t.up.length->AK t B=B)(hco:cap.all (AG 8)=false)(h:¬D7 b=0)(c d:Nat)(fr:Fr):∀n,HT (BQ cz ann kn (n+6000)) (some d) ⟨c,fr,⟨[],B⟩⟩ 154 [.agg (AC b),.fn ff [] cap] =
  some ⟨c+1,(d,true,.tup [.raw (.pointer none),i (D7 b)])::fr,⟨[],B⟩⟩:=by
 intro n
 rw[A7 cd b154 rfl (by simp[AC,AH,AN,AJ,hco])]
 have q1:=fun n=>mJ n b h40
 simp only[AC]at q1|-
 simp[AFZ,AF,AH,AN,AJ,q1,h,hB]
theorem tQ(hb:Valid b)(hB:∀t:St,1<=t.up.length->AK t B=B)(hcw:cap.map weakV=cap)(hco:cap.all (AG 8)=false)(c d:Nat)(hf:kG b B ff cap c false)(fr:Fr):∀n,HT (BQ cz ann kn (n+6000)) (some d) ⟨c,fr,⟨[],B⟩⟩ 154 [.agg (AC b),.fn ff [] cap] =
  some ⟨c+1,(d,true,.tup [.raw (.pointer none),i 2])::fr,⟨[],B⟩⟩:=by
 intro n
 rw[A7 cd b154 rfl (by simp[AC,AH,AN,AJ,hco])]
 have q1:=fun n=>mJ n b hb.w40
 have hf:=fun n d fr=>hf (n+4795) d fr
 rw[PB hb]at q1
 simp only[AC,bz,bk]at q1 hf|-
 simp[AFZ,AF,AH,AN,AJ,q1,hB,hcw,hf]
theorem X5(γs:Nat->Nat)(k:Nat):EJ γs (bq k [])=bq k [.nil]:=by apply bm (by simp[EJ]);intro j h1 h2;rw[MJ h1 (by simpa [EJ]using h1)];simp
def tR(b:AM)(c:Nat):AA:=[(BG,c+7,I0 b c .ready),(2,c,.box (AC b)),(7,c+5,.box [.ptr 1 28 (c+4) 0]),(8,c+6,.box [.bool false]),(24,c+1,.vec 22 (bq b.winds.length [.nil])),(25,c+2,.map []),(26,c+3,.map []),
 (28,c+4,.box (AC b++[.vec 1 24 (c+1) b.winds.length,.mp 1 25 (c+2),.mp 1 26 (c+3)]))]
theorem nS:∀(L:AA) (k:Nat),(∀e∈L,e.1≠k)->L.get k=none
 |[],_,_=>rfl
 |(j,x)::L,k,h=>by have h1:=h (j,x) (by simp);rw[AA.get,if_neg fun e=>h1 e.symm];exact nS L k fun e he=>h e (by simp[he])
theorem gZ(hb:Valid b)(c:Nat):A8W b c (c+8) true (false,bq b.winds.length []) (tR b c):=by
 have h5:=hb.hl;refine⟨rfl,⟨rfl,rfl,rfl,rfl,rfl,⟨fun _=>0,?_,fun h hh=>?_,fun h h5 _=>?_⟩,rfl,by simp,fun t h1 h2=>?_,rfl,rfl,rfl⟩,⟨fun l hl=>?_,fun l hl x hx=>?_⟩⟩
 ·rw[X5];rfl
 ·exfalso;refine hh ?_;simp only[bj,bh];split<;>rfl
 ·refine nS _ _ fun e he=>?_;simp only[tR,List.mem_cons,List.not_mem_nil,or_false]at he;rcases he with rfl|rfl|rfl|rfl|rfl|rfl|rfl|rfl<;>simp only[BG]<;>omega
 ·have e1:¬1=t.up.length:=by omega
  have hs:=WK (t:=t) h1 (fun _=>0) (bq b.winds.length []);rw[X5]at hs;unfold tR;simp only[A6,GG,hs];obtain⟨up,loc⟩:=t;simp only at e1;have hm:CM ⟨up,loc⟩ (.map [])=.map []:=rfl;simp[I0,AC,AH,AN,AJ,e1,hm]
 ·rw[bg hl];simp
 ·rw[bg hl]at hx;cases hx
theorem tS(hb:Valid b)(hB:∀t:St,1<=t.up.length->AK t B=B)(hcw:cap.map weakV=cap)(hco:cap.all (AG 8)=false)(c d:Nat)(hf:kG b B ff cap c true)(hT:FW b [] b.winds []=[])(fr:Fr):∃c',c<=c'/\∀n,HT (BQ cz ann kn (n+6000)) (some d) ⟨c,fr,⟨[],B⟩⟩ 154 [.agg (AC b),.fn ff [] cap] =
  some ⟨c',(d,true,.tup [.raw (.pointer none),i 11])::fr,⟨[],B⟩⟩:=by
 have q1:=fun n=>mJ n b hb.w40
 rw[PB hb]at q1
 have hf:=fun n d fr=>hf (n+4795) d fr
 have q79:=fun n=>yQ n b []
 have hwi:=hb.wi
 have hla:=hb.la
 have hw:IntKind.i64.wrap (b.last+1)=(b.winds.length:Int):=by rw[AV (by omega) (by omega)];omega
 have m1:b.winds.length*24<=140737488355328:=by omega
 have m2:b.winds.length<=maxLen:=by unfold maxLen;omega
 obtain⟨L',c',r1,r2,r3⟩:=oK (out:=[]) hb (by simp) hB (fun c c1 g a L hc h=>⟨h.go,h.lv.mono hc,h.ok⟩) (fun c g a L h=>h.lv.st) (AGZ b hb c B hB) (false,bq b.winds.length []) (tR b c) (gZ hb c) (kF b c)
 rw[AVM,hT]at r1
 obtain⟨_,⟨p7,p28,p25,p26,p8,hrr,pr,plen,pst,p2,p30,p63⟩,rok⟩:=r1
 have r3:=fun n=>r3 (n+1491)
 refine⟨c',by omega,fun n=>?_⟩
 rw[A7 cd b154 rfl (by simp[AC,AH,AN,AJ,hco])]
 simp only[AC,li,cq,tR,I0,kF,SG,BG,bc,ck,bz,bk]at q1 hf q79 r3 p28 pr|-
 simp[AFZ,AF,AH,AN,AJ,q1,hB,hcw,hf,q79,hw,m1,m2,N6,bz]
 rw[QZ rfl]
 simp[BG,bz]
 rw[r3,VZ (by simpa [BG]using pr) (by omega)]
 simp only[List.isEmpty_nil,Bool.not_true,Bool.or_false]at p8
 obtain⟨γs,p24,rrow,rno⟩:=hrr
 have rn:∀h,h<5->L'.get (800+h)=none:=fun h hh=>rno h hh (by
  simp only[List.foldl_nil,bj,bh];split <;> rfl)
 have r0:=rn 0 (by omega)
 have r1:=rn 1 (by omega)
 have r2:=rn 2 (by omega)
 have r3:=rn 3 (by omega)
 have r4:=rn 4 (by omega)
 simp only[bf,bk]at r0 r1 r2 r3 r4
 simp[p2,p7,p8,p24,p25,p26,p28,p30,p63,r0,r1,r2,r3,r4,AA.put,BG,hB]
end
theorem AG0(st:XS):MD [1000000000000024,24,901025,902026,903028] st =
  (fun s=>gD 28 (M1 0 s) 902 [] s) ((fun s=>gD 26 (M1 0 s) 901 [] s) ((fun s=>gD 25 (M1 0 s) 900 [] s) (IW 24 (AIY 24 st)))):=rfl
def mvZ(k d c:Nat)(fr:Fr)(B loc:AA):Option (Nat×AZ)->XS
 |some (γ,r)=>⟨c,zC 1 k 0 d fr,⟨[(d,γ,TB 1 k 0 d r)::B],mT 1 k 0 d loc⟩⟩
 |none=>⟨c,fr,⟨[B],loc⟩⟩
@[simp] theorem A8X(k d c γ:Nat)(fr:Fr)(B loc:AA)(r:AZ):mvZ k d c fr B loc (some (γ,r))=⟨c,zC 1 k 0 d fr,⟨[(d,γ,TB 1 k 0 d r)::B],mT 1 k 0 d loc⟩⟩:=rfl
def plO:Option (Nat×AZ)->Bool
 |some x=>gA x.2
 |none=>true
theorem KN(γ:Nat)(r:AZ):plO (some (γ,r))=gA r:=rfl
theorem WL{k d c:Nat}{fr:Fr}{B loc:AA}(hp:plO (loc.get k)=true):gD k 0 d [] ⟨c,fr,⟨[B],loc⟩⟩=mvZ k d c fr B loc (loc.get k):=by
 unfold gD;cases h:loc.get k with
 |none=>simp[mvZ,S7,h]
 |some x=>
  obtain⟨γ,r⟩:=x
  rw[h,KN]at hp
  have e3:S7 0 [B].length (some (γ,r))=true:=by simp[S7,hp]
  simp only[h,e3]
  simp[zD,h,mvU,St.put,C7]
theorem WM(c:Nat)(fr:Fr)(B loc:AA):M1 0 ⟨c,fr,⟨[B],loc⟩⟩=0:=rfl
theorem O9(k c:Nat)(fr:Fr)(up:List AA)(loc:AA):AIY k ⟨c,fr,⟨up,loc⟩⟩=PY (vM up.length (loc.get k)) ⟨c,fr,⟨up,loc⟩⟩:=rfl
theorem JI(n γ:Nat)(T:TypeId)(es:List (List V)):vM n (some (γ,.vec T es))=es.filterMap fun e=>match e with
  |[.vec l k _ _]=>if l=n then some k else none
  |_=>none:=rfl
theorem WN(l k f:Nat)(o:Option (Nat×AZ))(a:Int):cx (BK l k o f) (AH a)=AH a:=by simp[AH]
theorem UW(l k f:Nat)(o:Option (Nat×AZ))(w:List Int):cx (cx (BK l k o f)∘AH) w=w.map AH:=List.map_congr_left fun a _=>WN l k f o a
theorem I1(t:St):CM t (.map [])=.map []:=rfl
theorem QG{n k l d:Nat}:zC n k l d []=[]:=rfl
theorem MM{n k l d:Nat}(j:Nat)(c:Bool)(v:V)(fr:Fr):zC n k l d ((j,c,v)::fr)=(j,c,K1 n k l d 3 v)::zC n k l d fr:=rfl
theorem QH{n k l d:Nat}:mT n k l d []=[]:=rfl
theorem MN{n k l d:Nat}(j g:Nat)(r:AZ)(L:AA):mT n k l d ((j,g,r)::L)=if j=k then mT n k l d L else(j,g,TB n k l d r)::mT n k l d L:=rfl
theorem MO{n k l d:Nat}(f:Nat)(x:Bool):K1 n k l d f (.bool x)=.bool x:=by cases f<;>rfl
theorem GY{n k l d:Nat}(f:Nat)(x:Bool)(es:List (List V)):K1 n k l d f (.list x es)=.list x es:=by cases f<;>rfl
theorem QI{n k l d a b g o:Nat}(f:Nat):K1 n k l d (f+1) (.ptr a b g o)=if a=n/\b=k then .ptr l d g o else .ptr a b g o:=rfl
theorem WO{n k l d a b g:Nat}(f:Nat):K1 n k l d (f+1) (.mp a b g)=if a=n/\b=k then .mp l d g else .mp a b g:=rfl
theorem HY{n k l d:Nat}(cs:List V):TB n k l d (.box cs)=.box (cs.map (K1 n k l d 3)):=rfl
theorem QJ{n k l d:Nat}(es:List (V×V)):TB n k l d (.map es)=.map es:=rfl
theorem MP(k c:Nat)(fr:Fr)(up:List AA)(loc:AA):IW k ⟨c,fr,⟨up,loc⟩⟩=⟨c,OJ up.length k (loc.get k) fr,⟨up,FH up.length k (loc.get k) loc⟩⟩:=rfl
theorem MQ(k:Nat)(ks:List Nat)(st:XS):PY (k::ks) st=PY ks (IW k st):=rfl
theorem AM7{b:AM}{T:List (List Int)}(hT:T≠[])(hl:∀t∈T,t.length=b.winds.length){h:Nat}(hh:h<b.winds.length):(fM b.winds.length T).getD h []≠[]:=by obtain⟨t,ht⟩:=List.exists_mem_of_ne_nil _ hT;exact cw ((yB hh).2 ⟨t,ht,by rw[hl t ht];exact hh,rfl⟩)
section
variable {b:AM}{B:AA}{ff:FuncId}{cap:List V}
theorem AM8{b:AM}:∀t∈FW b [] b.winds [],t.length=b.winds.length:=fun t ht=>by rw[kK]at ht;simp only[ck,List.map_id',List.mem_filter]at ht;exact C0 (QK.1 ht.1)
theorem AG1(hb:Valid b)(hB:∀t:St,1<=t.up.length->AK t B=B)(hcw:cap.map weakV=cap)(hco:cap.all (AG 8)=false)(c d:Nat)(hf:kG b B ff cap c true)(hT:FW b [] b.winds []≠[])(fr:Fr):∃c',c+8<=c'/\∀n,HT (BQ cz ann kn (n+6000)) (some d) ⟨c,fr,⟨[],B⟩⟩ 154 [.agg (AC b),.fn ff [] cap] =
  some ⟨c',(d,true,.tup [.ptr 0 902 (c+4) 0,i 0])::fr,⟨[],(902,c+4,.box (AC b++[HU (FL b),.mp 0 900 (c+2),.mp 0 901 (c+3)]))::(901,c+3,.map [])::(900,c+2,.map [])::B⟩⟩:=by
 have q1:=fun n=>mJ n b hb.w40
 rw[PB hb]at q1
 have hf:=fun n d fr=>hf (n+4795) d fr
 have q79:=fun n=>yQ n b []
 have hwi:=hb.wi
 have hla:=hb.la
 have hw:IntKind.i64.wrap (b.last+1)=(b.winds.length:Int):=by rw[AV (by omega) (by omega)];omega
 have m1:b.winds.length*24<=140737488355328:=by omega
 have m2:b.winds.length<=maxLen:=by unfold maxLen;omega
 obtain⟨L',c',r1,r2,r3⟩:=oK (out:=[]) hb (by simp) hB (fun c c1 g a L hc h=>⟨h.go,h.lv.mono hc,h.ok⟩) (fun c g a L h=>h.lv.st) (AGZ b hb c B hB) (false,bq b.winds.length []) (tR b c) (gZ hb c) (kF b c)
 rw[AVM]at r1
 have hTe:(FW b [] b.winds []).isEmpty=false:=by cases h:FW b [] b.winds []with|nil=>exact absurd h hT|cons x l=>rfl
 rw[hTe]at r1
 obtain⟨_,⟨p7,p28,p25,p26,p8,hrr,pr,plen,pst,p2,p30,p63⟩,rok⟩:=r1
 have hws:List.foldl (fun ws t=>KO ws 0 t) (bq b.winds.length []) (FW b [] b.winds [])=FL b:=rfl
 have hne:=fun h (hh:h<b.winds.length)=>AM7 hT AM8 hh
 have hwd:fM b.winds.length (FW b [] b.winds [])=FL b:=rfl
 rw[hwd]at hne
 simp only[hws]at hrr plen
 have h5:=hb.hl
 have r3:=fun n=>r3 (n+1491)
 refine⟨c',by omega,fun n=>?_⟩
 rw[A7 cd b154 rfl (by simp[AC,AH,AN,AJ,hco])]
 simp only[AC,li,cq,tR,I0,kF,SG,BG,bc,ck,bz,bk]at q1 hf q79 r3 p2 p28 pr|-
 simp[AFZ,AF,AH,AN,AJ,q1,hB,hcw,hf,q79,hw,m1,m2,N6,bz]
 rw[QZ rfl]
 simp[BG,bz]
 rw[r3,VZ (by simpa [BG]using pr) (by omega)]
 simp only[Bool.not_false,Bool.or_true]at p8
 obtain⟨γs,p24,rrow,rno⟩:=hrr
 generalize FL b=ws at *
 have hlen:ws.length=1\/ws.length=2\/ws.length=3\/ws.length=4\/ws.length=5:=by omega
 rcases hlen with hl|hl|hl|hl|hl
 ·match ws,hl with
  |[w0],_=>
   have hk1:b.winds.length=1:=plen.symm
   have n0:=hne 0 (by omega)
   have r0:=(rrow 0 n0).1
   have r1:=rno 1 (by omega) rfl
   have r2:=rno 2 (by omega) rfl
   have r3:=rno 3 (by omega) rfl
   have r4:=rno 4 (by omega) rfl
   simp only[bw,bx]at n0 r0
   simp only[bf,bk]at r0 r1 r2 r3 r4
   simp[EJ,LM,n0,p2,p7,p8,p24,p25,p26,p28,p30,p63,r0,r1,r2,r3,r4,AA.put,BG,hB,AG0,O9,JI,MQ,MP,WM,WL,KN,gA,hk1,QG,MM,QH,MN,MO,GY,QI,WO,HB,HY,QJ,HC,KM,I1,AN,WN,UW]
 ·match ws,hl with
  |[w0,w1],_=>
   have hk1:b.winds.length=2:=plen.symm
   have n0:=hne 0 (by omega)
   have r0:=(rrow 0 n0).1
   have n1:=hne 1 (by omega)
   have r1:=(rrow 1 n1).1
   have r2:=rno 2 (by omega) rfl
   have r3:=rno 3 (by omega) rfl
   have r4:=rno 4 (by omega) rfl
   simp only[bw,bx]at n0 n1 r0 r1
   simp only[bf,bk]at r0 r1 r2 r3 r4
   simp[EJ,LM,n0,n1,p2,p7,p8,p24,p25,p26,p28,p30,p63,r0,r1,r2,r3,r4,AA.put,BG,hB,AG0,O9,JI,MQ,MP,WM,WL,KN,gA,hk1,QG,MM,QH,MN,MO,GY,QI,WO,HB,HY,QJ,HC,KM,I1,AN,WN,UW]
 ·match ws,hl with
  |[w0,w1,w2],_=>
   have hk1:b.winds.length=3:=plen.symm
   have n0:=hne 0 (by omega)
   have r0:=(rrow 0 n0).1
   have n1:=hne 1 (by omega)
   have r1:=(rrow 1 n1).1
   have n2:=hne 2 (by omega)
   have r2:=(rrow 2 n2).1
   have r3:=rno 3 (by omega) rfl
   have r4:=rno 4 (by omega) rfl
   simp only[bw,bx]at n0 n1 n2 r0 r1 r2
   simp only[bf,bk]at r0 r1 r2 r3 r4
   simp[EJ,LM,n0,n1,n2,p2,p7,p8,p24,p25,p26,p28,p30,p63,r0,r1,r2,r3,r4,AA.put,BG,hB,AG0,O9,JI,MQ,MP,WM,WL,KN,gA,hk1,QG,MM,QH,MN,MO,GY,QI,WO,HB,HY,QJ,HC,KM,I1,AN,WN,UW]
 ·match ws,hl with
  |[w0,w1,w2,w3],_=>
   have hk1:b.winds.length=4:=plen.symm
   have n0:=hne 0 (by omega)
   have r0:=(rrow 0 n0).1
   have n1:=hne 1 (by omega)
   have r1:=(rrow 1 n1).1
   have n2:=hne 2 (by omega)
   have r2:=(rrow 2 n2).1
   have n3:=hne 3 (by omega)
   have r3:=(rrow 3 n3).1
   have r4:=rno 4 (by omega) rfl
   simp only[bw,bx]at n0 n1 n2 n3 r0 r1 r2 r3
   simp only[bf,bk]at r0 r1 r2 r3 r4
   simp[EJ,LM,n0,n1,n2,n3,p2,p7,p8,p24,p25,p26,p28,p30,p63,r0,r1,r2,r3,r4,AA.put,BG,hB,AG0,O9,JI,MQ,MP,WM,WL,KN,gA,hk1,QG,MM,QH,MN,MO,GY,QI,WO,HB,HY,QJ,HC,KM,I1,AN,WN,UW]
 ·match ws,hl with
  |[w0,w1,w2,w3,w4],_=>
   have hk1:b.winds.length=5:=plen.symm
   have n0:=hne 0 (by omega)
   have r0:=(rrow 0 n0).1
   have n1:=hne 1 (by omega)
   have r1:=(rrow 1 n1).1
   have n2:=hne 2 (by omega)
   have r2:=(rrow 2 n2).1
   have n3:=hne 3 (by omega)
   have r3:=(rrow 3 n3).1
   have n4:=hne 4 (by omega)
   have r4:=(rrow 4 n4).1
   simp only[bw,bx]at n0 n1 n2 n3 n4 r0 r1 r2 r3 r4
   simp only[bf,bk]at r0 r1 r2 r3 r4
   simp[EJ,LM,n0,n1,n2,n3,n4,p2,p7,p8,p24,p25,p26,p28,p30,p63,r0,r1,r2,r3,r4,AA.put,BG,hB,AG0,O9,JI,MQ,MP,WM,WL,KN,gA,hk1,QG,MM,QH,MN,MO,GY,QI,WO,HB,HY,QJ,HC,KM,I1,AN,WN,UW]
end
end Go.Proofs.Tryz.Op
