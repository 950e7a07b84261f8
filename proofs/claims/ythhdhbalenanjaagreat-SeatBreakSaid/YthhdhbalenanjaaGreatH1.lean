/- The level of one who asks for the winds of all truths. No condition. -/
import Derived.Test.YthhdhbalenanjaaGreatO1
import Derived.Test.YthhdhbalenanjaaGreatI1
noncomputable section
open Go.Proofs.Tryz renaming prog->cz,func154->cd
open List renaming getD_eq_getElem?_getD->bj,replicate->bq,getD_cons_zero->bw,getElem?_eq_getElem->bz,getD_cons_succ->bb,cons_append->bc,eq_of_mem_replicate->bg,getElem?_replicate->bh,ext_getElem->bm,length_singleton->bn,getElem?_eq_none->bp,map_cons->cj,nil_append->ck,map_nil->cq,ne_nil_of_mem->cw,map->cx
open Nat renaming reduceAdd->bk,add_assoc->bx,add_zero->bf
set_option maxRecDepth 100000
set_option linter.unusedSimpArgs false
open Go Go.Pg Go.Proofs Go.Wind
namespace Go.Proofs.Tryz.Op
def jK(γ h:Nat):List Int->V
 |[]=>.nil
 |w=>.vec 1 (800+h) γ w.length
@[simp] theorem ACR(γ h:Nat):jK γ h []=.nil:=rfl
theorem KL{γ h:Nat}{w:List Int}(hw:w≠[]):jK γ h w=.vec 1 (800+h) γ w.length:=by
 cases w with
 |nil=>exact absurd rfl hw
 |cons x w=>rfl
def D4(γs:Nat->Nat)(ws:List (List Int)):List (List V):=ws.mapIdx fun h w=>[jK (γs h) h w]
def QO:Code:=.block 1 (.seq (D0 2399) (.seq (D0 5471) (.block 2 (.loop JR))))
@[simp] theorem uAs(n:Nat)(st:XS):AF cz ann kn n 69 QO st=AF cz ann kn n 69 (.block 1 (.seq (D0 2399) (.seq (D0 5471) (.block 2 (.loop JR))))) st:=rfl
def fQ(b:AK)(c0:Nat):Fr:=[(30,true,.fn 196 [] [.ref (AC b),.ref [li []]]),(29,true,.agg (AC b)),(2,true,.ptr 1 2 c0 0),(7,true,.ptr 1 7 (c0+5) 0),(8,true,.ptr 1 8 (c0+6) 0)]
def H5(b:AK)(c0:Nat)(ls:LS):AV:=.loop (fQ b c0) [31] (D0 607) QO 69 ls
structure RwA(c0 c:Nat)(ws:List (List Int))(L:AA)(γs:Nat->Nat):Prop where
 p24:L.get 24=some (c0+1,.vec 22 (D4 γs ws))
 row:∀h,ws.getD h []≠[]->L.get (800+h)=some (γs h,.vec 3 ((ws.getD h []).map AM))/\γs h<c
 no:∀h,h<5->ws.getD h []=[]->L.get (800+h)=none
structure tN(b:AK)(c0:Nat)(ls:LS)(c:Nat)(s:Bool)(ws:List (List Int))(L:AA):Prop where
 p7:L.get 7=some (c0+5,.box [.ptr 1 28 (c0+4) 0])
 p28:L.get 28=some (c0+4,.box (AC b++[.vec 1 24 (c0+1) b.winds.length,.mp 1 25 (c0+2),.mp 1 26 (c0+3)]))
 p25:L.get 25=some (c0+2,.map [])
 p26:L.get 26=some (c0+3,.map [])
 p8:L.get 8=some (c0+6,.box [.bool s])
 rows:∃γs,RwA c0 c ws L γs
 pr:L.get A8=some (c0+7,H5 b c0 ls)
 len:ws.length=b.winds.length
 st:∀t:St,2<=t.up.length->t.loc.get 63=none->AH t L=L
 pp:L.get 2=some (c0,.box (AC b))/\L.get 30=none/\L.get 63=none
theorem RwA.mono{c0 c c1:Nat}{ws:List (List Int)}{L:AA}{γs:Nat->Nat}(h:RwA c0 c ws L γs)(hc:c<=c1):RwA c0 c1 ws L γs :=
 ⟨h.p24,fun k hk=>⟨(h.row k hk).1,Nat.lt_of_lt_of_le (h.row k hk).2 hc⟩,h.no⟩
theorem tN.mono{b:AK}{c0 c c1:Nat}{ls:LS}{s:Bool}{ws:List (List Int)}{L:AA}(h:tN b c0 ls c s ws L)(hc:c<=c1):tN b c0 ls c1 s ws L :=
 ⟨h.p7,h.p28,h.p25,h.p26,h.p8,by obtain⟨γs,hr⟩:=h.rows;exact⟨γs,hr.mono hc⟩,h.pr,h.len,h.st,h.pp⟩
theorem MA(st:XS)(v:V)(hv:∀l k o,BG l k o 3 v=v):∀ks,H3 st ks v=v
 |[]=>rfl
 |k::ks=>by
  have ih:=MA st v hv ks;obtain⟨c,fr,up,loc⟩:=st;by_cases h:k<10000
  ·rw[rQ _ _ _ _ _ _ _ h,hv,ih]
  ·rw[FS _ _ _ _ h,hv,ih]
theorem K7{c0 c:Nat}{ws:List (List Int)}{L:AA}{γs:Nat->Nat}(h:RwA c0 c ws L γs){k:Nat}(hk:k<=4)(hne:ws.getD k []≠[])(B:AA)(R:List AA)(c1:Nat)(fr:Fr)(loc:AA) :
  H3 ⟨c1,fr,⟨B::L::R,loc⟩⟩ [20800,20801,20802,20803,20804] (.vec 1 (800+k) (γs k) (ws.getD k []).length)=li (ws.getD k []):=by
 have hr:=(h.row k hne).1
 have e1:¬1=R.length+1+1:=by omega
 have:k=0\/k=1\/k=2\/k=3\/k=4:=by omega
 generalize ws.getD k []=w at hr hne|-
 have hget:∀j,St.get ⟨B::L::R,loc⟩ 1 j=L.get j:=fun j=>by simp[St.get]
 simp only[FS _ _ _ _ (show ¬20800<10000 by decide),FS _ _ _ _ (show ¬20801<10000 by decide),FS _ _ _ _ (show ¬20802<10000 by decide),FS _ _ _ _ (show ¬20803<10000 by decide),FS _ _ _ _ (show ¬20804<10000 by decide),zI,Nat.reduceDiv,Nat.reduceMod,Nat.reduceSub,hget]
 have skip:∀a o,a≠800+k->BG 1 a o 3 (.vec 1 (800+k) (γs k) w.length)=.vec 1 (800+k) (γs k) w.length:=fun a o ha=>by
  simp only[BG];split
  ·rw[if_neg fun e=>ha e.2.1.symm]
  ·rfl
 have hit:BG 1 (800+k) (L.get (800+k)) 3 (.vec 1 (800+k) (γs k) w.length)=li w:=by rw[hr];simp[BG]
 rcases this with rfl|rfl|rfl|rfl|rfl
 ·rw[hit];simp
 ·rw[skip 800 _ (by decide),hit];simp
 ·rw[skip 800 _ (by decide),skip 801 _ (by decide),hit];simp
 ·rw[skip 800 _ (by decide),skip 801 _ (by decide),skip 802 _ (by decide),hit];simp
 ·rw[skip 800 _ (by decide),skip 801 _ (by decide),skip 802 _ (by decide),skip 803 _ (by decide),hit]
theorem K8(γs:Nat->Nat)(ws:List (List Int)):(D4 γs ws).length=ws.length:=by unfold D4;simp
theorem K9{γs:Nat->Nat}{ws:List (List Int)}{h:Nat}(h1:h<(D4 γs ws).length)(h2:h<ws.length):(D4 γs ws)[h]=[jK (γs h) h ws[h]]:=by simp only[D4,List.getElem_mapIdx]
def WW(γs:Nat->Nat)(h c:Nat):Nat->Nat:=fun j=>if j=h then c else γs j
theorem dF{γs:Nat->Nat}{ws:List (List Int)}{h:Nat}(_:h<ws.length)(c:Nat){w:List Int}(hw:w≠[]):(D4 γs ws).set h [.vec 1 (800+h) c w.length]=D4 (WW γs h c) (ws.set h w):=by
 apply bm (by simp[K8]);intro j h1 h2;have hj:j<ws.length:=by simpa [K8]using h1
 rw[List.getElem_set,K9 h2 (by simpa using hj),List.getElem_set];by_cases e:h=j
 ·subst e;rw[if_pos rfl,if_pos rfl,KL hw,WW,if_pos rfl]
 ·rw[if_neg e,if_neg e,K9 _ hj,WW,if_neg fun h=>e h.symm]
theorem AP4{n d γ j:Nat}{w:List Int}:J7 n 63 1 d 3 (jK γ j w)=jK γ j w:=by
 cases w with
 |nil=>rfl
 |cons x w=>
  show(if 1=n/\800+j=63 then _ else _)=_
  rw[if_neg (by omega)]
theorem ACS{γs:Nat->Nat}{ws:List (List Int)}{h:Nat}(hh:h<ws.length)(n c:Nat){w:List Int}(hw:w≠[]):((D4 γs ws).set h [.vec n 63 c w.length]).map (cx (J7 n 63 1 (800+h) 3))=D4 (WW γs h c) (ws.set h w):=by
 rw[<-dF hh c hw,List.map_set];congr 1
 ·apply bm (by simp);intro j h1 h2;have hj:j<ws.length:=by simpa [K8]using h1
  rw[List.getElem_map,K9 _ hj];exact congrArg (fun v=>[v]) AP4
 ·simp[J7]
theorem dG(ws:List (List Int))(h:Nat)(l:List Int)(j:Nat)(hh:h<ws.length):(ws.set h l).getD j []=if j=h then l else ws.getD j []:=by
 simp only[bj,List.getElem?_set];by_cases e:h=j
 ·subst e;simp[hh]
 ·rw[if_neg e,if_neg fun h=>e h.symm]
theorem RwA.put{c0 c:Nat}{ws:List (List Int)}{L:AA}{γs:Nat->Nat}(hr:RwA c0 c ws L γs){h:Nat}(hh:h<ws.length){w:List Int}(hw:w≠[]){L':AA}
  (h24:L'.get 24=some (c0+1,.vec 22 (D4 (WW γs h c) (ws.set h w)))) (h800:L'.get (800+h)=some (c,.vec 3 (w.map AM))) (hot:∀j,j≠h->L'.get (800+j)=L.get (800+j)):RwA c0 (c+1) (ws.set h w) L' (WW γs h c):=by
 refine⟨h24,fun j hj=>?_,fun j hj5 hj=>?_⟩
 ·rw[dG _ _ _ _ hh]at hj|-;by_cases e:j=h
  ·subst e;rw[if_pos rfl,WW,if_pos rfl];exact⟨h800,Nat.lt_succ_self _⟩
  ·rw[if_neg e]at hj|-;rw[hot j e,WW,if_neg e];exact⟨(hr.row j hj).1,Nat.lt_succ_of_lt (hr.row j hj).2⟩
 ·rw[dG _ _ _ _ hh]at hj;by_cases e:j=h
  ·subst e;rw[if_pos rfl]at hj;exact absurd hj hw
  ·rw[if_neg e]at hj;rw[hot j e];exact hr.no j hj5 hj
theorem jL{t:St}{l k γ m:Nat}(h:¬l=t.up.length):BW t (.vec l k γ m)=some (.vec l k γ m):=by obtain⟨up,loc⟩:=t;rw[nP,bK,if_neg h]
theorem UO{t:St}(ht:2<=t.up.length)(γs:Nat->Nat)(ws:List (List Int)):CH t (.vec 22 (D4 γs ws))=.vec 22 (D4 γs ws):=by
 refine OV fun e he v hv=>?_;obtain⟨j,hj,rfl⟩:=List.getElem_of_mem he;rw[K9 hj (by simpa [K8]using hj)]at hv;simp only[List.mem_cons,List.not_mem_nil,or_false]at hv;subst hv;have hne:¬1=t.up.length:=by omega
 cases ws[j]'(by simpa [K8]using hj)with
 |nil=>rfl
 |cons x w=>exact jL hne
theorem AML(st:XS):LU [25008011801063] st=cO 63 (LR 8 st) (qY 800 11 st) [24] st:=rfl
theorem ACT(c:Nat)(fr:Fr)(up:List AA):LU [25008011801063] ⟨c,fr,⟨up,[]⟩⟩=⟨c,fr,⟨up,[]⟩⟩:=by rw[AML];rfl
theorem LA{n k l d:Nat}(fr:Fr)(j:Nat):BL (uK n k l d fr) j=(BL fr j).map fun x=>(x.1,J7 n k l d 3 x.2):=by rw[GH,GH,hJ]
@[simp] theorem AU0(u:Nat)(L:AA)(j:Nat):(I0 u L).get j=if j=u then none else L.get j:=aT u L j
theorem SS(t:St)(u:Nat):∀L:AA,AH t (I0 u L)=I0 u (AH t L)
 |[]=>rfl
 |(q,g,r)::L=>by
  have ih:=SS t u L;rw[A1];unfold I0;by_cases h:q=u
  ·rw[if_pos h,if_pos h,ih]
  ·rw[if_neg h,if_neg h,A1,ih]
theorem JM(u g:Nat)(r:AV)(L:AA):I0 u ((u,g,r)::L)=I0 u L:=by show(if u=u then I0 u L else _)=_;rw[if_pos rfl]
theorem AP5(c γ h g7 o7 g24:Nat)(T:TypeId)(es:List (List V))(fr:Fr)(B L:AA)(R:List AA)(r24:AV)(h7:BL fr 7=some (true,.ptr 1 7 g7 o7))(h10:BL fr 10=some (true,.int .i64 h))(h24:L.get 24=some (g24,r24)) :
  LU [25008011801063] ⟨c,fr,⟨B::L::R,[(63,γ,.vec T es)]⟩⟩=⟨c,uK (R.length+1+1) 63 1 (800+h) fr,⟨B::((800+h,γ,Q9 (R.length+1+1) 63 1 (800+h) (.vec T es))::(24,g24,Q9 (R.length+1+1) 63 1 (800+h) r24)::I0 24 L)::R,[]⟩⟩:=by
 rw[AML]
 have e1:LR 8 ⟨c,fr,⟨B::L::R,[(63,γ,.vec T es)]⟩⟩=1:=by show(match BL fr 7 with|some (true,.ptr l _ _ _)=>l|_=>0)=1;rw[h7]
 have e2:qY 800 11 ⟨c,fr,⟨B::L::R,[(63,γ,.vec T es)]⟩⟩=800+h:=by show(match BL fr 10 with|some (true,.int _ n)=>800+n.toNat|_=>800)=800+h;rw[h10];simp
 rw[e1,e2]
 unfold cO
 have e3:Q5 1 (B::L::R).length (AA.get [(63,γ,.vec T es)] 63)=true:=by simp[Q5,AA.get,bQ]
 simp only[e3]
 simp[uL,AA.get,yT,h24,iY,St.put,DW]
theorem GG{n k l d:Nat}(f:Nat)(q:IntKind)(x:Int):J7 n k l d f (.int q x)=.int q x:=by cases f<;>rfl
theorem LB{n k l d a b g o:Nat}(f:Nat)(h:¬b=k):J7 n k l d f (.ptr a b g o)=.ptr a b g o:=by
 cases f with
 |zero=>rfl
 |succ f=>simp only[J7];rw[if_neg fun e=>h e.2]
theorem ACU{n k l d a b g o:Nat}(f:Nat)(h:¬b=k):J7 n k l d f (.vec a b g o)=.vec a b g o:=by
 cases f with
 |zero=>rfl
 |succ f=>simp only[J7];rw[if_neg fun e=>h e.2]
theorem O1{n k l d:Nat}(T:TypeId)(es:List (List V)):Q9 n k l d (.vec T es)=.vec T (es.map (cx (J7 n k l d 3))):=rfl
theorem A1B{k:Nat}{x:Int}(h:k<=10000):B0 cz 3 k [[.int .i64 x]]=true:=by rw[CC (by simp) (by simp)];simp[maxLen];omega
theorem AIY{P:Program}{fr:Fr}{s:St}(e d c:Nat)(y:List V)(ys:List (List V))(h:B0 P e 0 (y::ys)=true):sB P e d c fr s .nil (y::ys)=some (⟨c+1,(d,true,.vec s.up.length d c (ys.length+1))::fr,s.put s.up.length d c (.vec e (y::ys))⟩,[(s.up.length,d),(s.up.length,d+IE)]):=by unfold sB;simp[H7,h]
theorem lAs(b:AK)(c0:Nat)(h5:b.winds.length<=5)(s:Bool)(t:List Int)(ht:t.length=b.winds.length)(hn:∀n∈t,0<=n/\n<=3)(B:AA)(L1:AA)(R:List AA)(g9:Nat)(p9:L1.get 9=some (g9,.vec 3 (t.map AM))) :
  ∀(d h c:Nat) (ws:List (List Int)) (L:AA),h+d=t.length->tN b c0 .busy c s ws L->c0+8<=c->DC ws ->
  ∃fr' c' L',tN b c0 .busy c' s (JT ws h (t.drop h)) L'/\c<=c'/\∀n m,d<m->BM (AF cz ann kn (n+1400) 69) JR (ann 69 (CG JR)) m ⟨c,[(7,true,.ptr 1 7 (c0+5) 0),(32,true,.vec 2 9 g9 t.length),(33,true,i t.length),(34,true,i h)],⟨B::L::L1::R,[]⟩⟩ =
   some (.exit 2,⟨c',fr',⟨B::L'::L1::R,[]⟩⟩)
 |0,h,c,ws,L,hd,hL,hc,hok=>by
  have:h=t.length:=by omega
  subst this;refine⟨?fr,c,L,by simpa [JT]using hL,Nat.le_refl _,fun n m hm=>?g⟩;case g=>
   obtain⟨m,rfl⟩:=qNz m (by omega)
   rw[AB]
   simp
   rfl
 |d+1,h,c,ws,L,hd,hL,hc,hok=>by
  have hh:h<t.length:=by omega
  have hw:=B7 (k:=h) (by omega);have hdrop:t.drop h=t[h]::t.drop (h+1):=List.drop_eq_getElem_cons hh;have hLo:=hL;obtain⟨p7,p28,p25,p26,p8,⟨γs,hr⟩,pr,hlen,pst,pp⟩:=hL;have hg:ws.getD h []=ws[h]'(by omega):=by rw[bj,bz (by omega)];rfl
  have hl4:(ws.getD h []).length<=4:=by rw[hg];exact hok.len _ (List.getElem_mem _)
  have qc:=fun n=>VV n (ws.getD h []) t[h] (by omega);have h24:=hr.p24;have hra:(D4 γs ws)[h]? = some [jK (γs h) h (ws.getD h [])]:=by unfold D4;rw[List.getElem?_mapIdx,bz (by omega),hg];rfl
  have hrl:(D4 γs ws).length=ws.length:=by unfold D4;simp
  have hrx:(D4 γs ws)[h]'(by omega)=[jK (γs h) h (ws.getD h [])]:=by have:=hra;rw[bz (by omega),Option.some.injEq]at this;exact this
  have hhw:h<b.winds.length:=by omega
  have hhr:h<(D4 γs ws).length:=by omega
  have ha0:B0 cz 3 0 [[.int .i64 t[h]]]=true:=A1B (by omega);have hc0:c0<c:=by omega
  have hws:h<ws.length:=by omega
  have hx3:=hn t[h] (List.getElem_mem hh);have hka:∀k,900<=k->(800+h=k)=False:=fun k hk=>by simp;omega
  have hkb:∀k,k<800->(800+h=k)=False:=fun k hk=>by simp;omega
  have hkc:∀k,k<800->(k=800+h)=False:=fun k hk=>by simp;omega
  have hkd:∀k,900<=k->(k=800+h)=False:=fun k hk=>by simp;omega
  have hrb:b.winds.length<=(D4 γs ws).length:=by omega
  by_cases hm:t[h]∈ws.getD h []
  ·have hmd:decide (t[h]∈ws.getD h [])=true:=decide_eq_true hm;rw[hmd]at qc;have hne:ws.getD h []≠[]:=cw hm;have hwv:=KL (γ:=γs h) (h:=h) hne;have hrt:=fun c1 fr loc=>K7 hr (k:=h) (by omega) hne B (L1::R) c1 fr loc;obtain⟨fr',c',L',i1,i2,ih⟩:=lAs b c0 h5 s t ht hn B L1 R g9 p9 d (h+1) c ws L (by omega) hLo hc hok;have hadd:JT ws h (t.drop h)=JT ws (h+1) (t.drop (h+1)):=by rw[hdrop];show JT (NY ws h t[h]) (h+1) (t.drop (h+1))=_;rw[NY,if_pos hm]
   rw[hadd];refine⟨fr',c',L',i1,i2,fun n m hm'=>?_⟩;obtain⟨m,rfl⟩:=qNz m (by omega);have ih:=ih n m (by omega);have hfl:∀st x,H3 st [20800,20801,20802,20803,20804] (.int .i64 x)=.int .i64 x:=fun st x=>MA st _ (fun _ _ _=>eV _ _ _) _;rw[hwv]at hrx;generalize ws.getD h []=w at *;rw[AB];simp only[AC]at p28 qc ih|-;simp at ih;simp[-FS,hh,hw,AM,p7,p28,p9,h24,hhr,hhw,hrb,hrx,hrt,hfl,qc,ACT,ih]
  ·have hmd:decide (t[h]∈ws.getD h [])=false:=decide_eq_false hm;rw[hmd]at qc;have hfl:∀st x,H3 st [20800,20801,20802,20803,20804] (.int .i64 x)=.int .i64 x:=fun st x=>MA st _ (fun _ _ _=>eV _ _ _) _;have hfn:∀st,H3 st [20800,20801,20802,20803,20804] .nil=.nil:=fun st=>MA st _ (fun _ _ _=>zG _) _;by_cases hne:ws.getD h []=[]
   ·rw[hne]at hrx qc;rw[ACR]at hrx;have hne1:([t[h]]:List Int)≠[]:=by simp
    have hadd:NY ws h t[h]=ws.set h [t[h]]:=by rw[NY,if_neg hm,hne];rfl
    have hrs:=ACS (γs:=γs) hws (R.length+1+1+1) c hne1;have hL':tN b c0 .busy (c+1) s (ws.set h [t[h]]) ((800+h,c,.vec 3 [[.int .i64 t[h]]])::(24,c0+1,.vec 22 (D4 (WW γs h c) (ws.set h [t[h]])))::I0 24 L):=by
     refine⟨?_,?_,?_,?_,?_,⟨WW γs h c,hr.put hws hne1 (by simp;omega) (by simp[AM]) fun j hj=>by simp[hj,show ¬800+j=24 by omega]⟩,?_,by simpa using hlen,fun T h1 h2=>?_,by simpa [hkc]using pp⟩
     ·simpa [hkc]using p7
     ·simpa [hkc]using p28
     ·simpa [hkc]using p25
     ·simpa [hkc]using p26
     ·simpa [hkc]using p8
     ·simpa [A8,hkd]using pr
     ·rw[A1,A1,SS,UO h1,pst T h1 h2,show[[V.int .i64 t[h]]]=[t[h]].map AM from rfl,O7]
    obtain⟨fr',c',L',i1,i2,ih⟩:=lAs b c0 h5 s t ht hn B L1 R g9 p9 d (h+1) (c+1) _ _ (by omega) hL' (by omega) (by rw[<-hadd];exact hok.add h _ hx3);have hadw:JT ws h (t.drop h)=JT (ws.set h [t[h]]) (h+1) (t.drop (h+1)):=by rw[hdrop,<-hadd];rfl
    rw[hadw];refine⟨fr',c',L',i1,by omega,fun n m hm'=>?_⟩;obtain⟨m,rfl⟩:=qNz m (by omega);have ih:=ih n m (by omega);rw[AB];simp only[bn]at hrs;have hgh:=fun c1 fr (h7:BL fr 7=some (true,.ptr 1 7 (c0+5) 0)) (h10:BL fr 10=some (true,.int .i64 h))=>AP5 c1 c h _ _ (c0+1) 3 [[.int .i64 t[h]]] fr B ((24,c0+1,.vec 22 ((D4 γs ws).set h [.vec (R.length+1+1+1) 63 c 1]))::L) (L1::R) _ h7 h10 rfl;simp only[AC,li,cq]at p28 qc ih|-;simp at ih;simp[-FS,hh,hw,AM,p7,p28,p9,h24,hhr,hhw,hrb,hrx,hfl,hfn,qc,AIY,ha0,IE,DW,hc0,LA,hgh,JM,hrs,GG,LB,ACU,O1,ih]
   ·have hwv:=KL (γ:=γs h) (h:=h) hne;have hrt:=fun c1 fr loc=>K7 hr (k:=h) (by omega) hne B (L1::R) c1 fr loc;have hrow:=(hr.row h hne).1;have hγ:=(hr.row h hne).2;rw[hwv]at hrx;have ha1:B0 cz 3 (ws.getD h []).length [[.int .i64 t[h]]]=true:=A1B (by omega);have hadd:NY ws h t[h]=ws.set h (ws.getD h []++[t[h]]):=by rw[NY,if_neg hm]
    generalize ws.getD h []=w at *;have hne1:w++[t[h]]≠[]:=by simp
    have hrs:=dF (γs:=γs) hws c hne1;simp only[List.length_append,bn]at hrs;have hL':tN b c0 .busy (c+1) s (ws.set h (w++[t[h]])) ((24,c0+1,.vec 22 (D4 (WW γs h c) (ws.set h (w++[t[h]]))))::(800+h,c,.vec 3 (w.map AM++[[.int .i64 t[h]]]))::L):=by
     refine⟨?_,?_,?_,?_,?_,⟨WW γs h c,hr.put hws hne1 (by simp) (by simp[AM,show ¬800+h=24 by omega]) fun j hj=>by simp[hj,show ¬800+j=24 by omega]⟩,?_,by simpa using hlen,fun T h1 h2=>?_,by simpa [hkc]using pp⟩
     ·simpa [hkc]using p7
     ·simpa [hkc]using p28
     ·simpa [hkc]using p25
     ·simpa [hkc]using p26
     ·simpa [hkc]using p8
     ·simpa [A8,hkd]using pr
     ·have e:(w.map AM++[[V.int .i64 t[h]]])=(w++[t[h]]).map AM:=by simp[AM]
      rw[A1,A1,UO h1,e,O7,pst T h1 h2]
    obtain⟨fr',c',L',i1,i2,ih⟩:=lAs b c0 h5 s t ht hn B L1 R g9 p9 d (h+1) (c+1) _ _ (by omega) hL' (by omega) (by rw[<-hadd];exact hok.add h _ hx3);have hadw:JT ws h (t.drop h)=JT (ws.set h (w++[t[h]])) (h+1) (t.drop (h+1)):=by rw[hdrop,<-hadd];rfl
    rw[hadw];refine⟨fr',c',L',i1,by omega,fun n m hm'=>?_⟩;obtain⟨m,rfl⟩:=qNz m (by omega);have ih:=ih n m (by omega);rw[AB];simp only[AC]at p28 qc ih|-;simp at ih;simp[-FS,hh,hw,AM,p7,p28,p9,h24,hhr,hhw,hrb,hrx,hrt,hfl,qc,hrow,ha1,hka,hkb,hkc,IE,DW,hc0,hrs,ACT,ih]
structure A1C(b:AK)(c0:Nat)(c:Nat)(g:Bool)(a:Bool×List (List Int))(L:AA):Prop where
 go:g=true
 lv:tN b c0 .ready c a.1 a.2 L
 ok:DC a.2
def tO(a:Bool×List (List Int))(t:List Int):(Bool×List (List Int))×Bool:=((true,JT a.2 0 t),true)
theorem tN.put{b:AK}{c0 c:Nat}{ls ls':LS}{s s':Bool}{ws:List (List Int)}{L:AA}(h:tN b c0 ls c s ws L)(h5:b.winds.length<=5):tN b c0 ls' c s' ws ((8,c0+6,.box [.bool s'])::(A8,c0+7,H5 b c0 ls')::L):=by
 obtain⟨p7,p28,p25,p26,p8,⟨γs,hr⟩,pr,hlen,pst,pp⟩:=h;refine⟨by simpa [A8]using p7,by simpa [A8]using p28,by simpa [A8]using p25,by simpa [A8]using p26,by simp,⟨γs,by simpa [A8]using hr.p24,fun j hj=>?_,fun j hj5 hj=>?_⟩,by simp[A8],hlen,fun t h1 h2=>?_,by simpa [A8]using pp⟩
 ·have hj4:(j:Nat)<ws.length:=by
   rcases Nat.lt_or_ge j ws.length with h|h
   ·exact h
   ·exact absurd (by rw[bj,bp h];rfl) hj
  have e1:¬800+j=8:=by omega
  have e2:¬800+j=1000000:=by omega
  have:=hr.row j hj;simpa [A8,e1,e2]using this
 ·have e1:¬800+j=8:=by omega
  have e2:¬800+j=1000000:=by omega
  have:=hr.no j hj5 hj;simpa [A8,e1,e2]using this
 ·rw[A1,A1,pst t h1 h2];simp[H5]
theorem tN.back{b:AK}{c0 c:Nat}{ls ls':LS}{s:Bool}{ws:List (List Int)}{L:AA}(h:tN b c0 ls c s ws L)(h5:b.winds.length<=5):tN b c0 ls' c s ws ((A8,c0+7,H5 b c0 ls')::L):=by
 obtain⟨p7,p28,p25,p26,p8,⟨γs,hr⟩,pr,hlen,pst,pp⟩:=h;refine⟨by simpa [A8]using p7,by simpa [A8]using p28,by simpa [A8]using p25,by simpa [A8]using p26,by simpa [A8]using p8,⟨γs,by simpa [A8]using hr.p24,fun j hj=>?_,fun j hj5 hj=>?_⟩,by simp[A8],hlen,fun t h1 h2=>?_,by simpa [A8]using pp⟩
 ·have hj4:(j:Nat)<ws.length:=by
   rcases Nat.lt_or_ge j ws.length with h|h
   ·exact h
   ·exact absurd (by rw[bj,bp h];rfl) hj
  have e2:¬800+j=1000000:=by omega
  have:=hr.row j hj;simpa [A8,e2]using this
 ·have e2:¬800+j=1000000:=by omega
  have:=hr.no j hj5 hj;simpa [A8,e2]using this
 ·rw[A1,pst t h1 h2];simp[H5]
theorem ACV(b:AK)(hb:Valid b)(c0:Nat)(B:AA)(hB:∀t:St,1<=t.up.length->AH t B=B):fX B b (A1C b c0) tO (c0+7) 1500:=by
 intro a L L1 rest loc c fr t g9 hL hc ht p9 hst;obtain⟨_,hL,hok⟩:=hL;have hL0:=hL.put (ls':=.busy) (s':=true) hb.hl;have hlt:=DD ht;obtain⟨fr',c',L',i1,i2,ih⟩:=lAs b c0 hb.hl true t hlt (KM hb ht) B L1 (rest++[loc]) g9 p9 t.length 0 c a.2 _ (by omega) hL0 (by omega) hok;rw[List.drop_zero]at i1;have i1':=i1;obtain⟨q7,q28,q25,q26,q8,hrr,qr,qlen,qst,qpp⟩:=i1;have p8:=hL.p8;have pr:=hL.pr;have e1:c0+7<c:=by omega
 have e2:c0+7<c':=by omega
 have e3:c0+6<c:=by omega
 have e4:c0<c:=by omega
 have hun:∀A A':AA,B9 (A::A'::L1::(rest++[loc]))=some (A::A'::L1::rest,loc):=fun A A'=>by rw[<-bc,<-bc,<-bc,unsnoc_snoc]
 have hst':=fun t h=>hst t h;simp only[cj,List.map_append,cq,List.cons.injEq]at hst';have hsr:∀t:St,(L1::(rest++[loc])).length+2<=t.up.length->(rest.map (AH t)=rest/\AH t loc=loc):=fun t h=>by have:=(hst' t h).2;exact⟨List.append_inj_left' this rfl,by simpa using List.append_inj_right' this rfl⟩
 have h1s:∀t:St,(L1::(rest++[loc])).length+2<=t.up.length->AH t L1=L1:=fun t h=>(hst' t h).1;refine⟨?L,c',⟨rfl,?lv,DC.adds t hok 0 (KM hb ht)⟩,i2,fun n=>?g⟩;case g=>
  rw[T6 (by simpa [H5]using pr) rfl (by omega)]
  simp only[IU,Fr.put,fQ]
  have h5:=hb.hl
  have ih:=ih (n+95) (n+1495) (by omega)
  rw[show n+95+1400=n+1495 by omega]at ih
  simp
  rw[GC (fr0:=fQ b c0) (ps:=[31]) (asg:=(D0 607)) (body':=QO) (N:=69) (by simpa [H5]using pr) e1]
  rw[show AV.loop (fQ b c0) [31] (D0 607) QO 69 LS.busy=H5 b c0 .busy from rfl]
  simp[A8]at ih
  simp[p8,AA.put,A8,e3]
  rw[show(33,true,V.int IntKind.i64 (b.winds.length:Int))=(33,true,V.int IntKind.i64 (t.length:Int)) by rw[hlt],<-hlt]
  rw[ih]
  simp
  rw[show(1000000:Nat)=A8 from rfl,QF (fr0:=fQ b c0) (ps:=[31]) (asg:=(D0 607)) (body:=QO) (N:=69) (by simpa [H5]using qr) (hun _ _) (by simp) e2]
  have s1:AH ⟨B::L'::L1::(rest++[loc]),[]⟩ L'=L':=qst _ (by simp) rfl
  have s2:=h1s ⟨B::L'::L1::(rest++[loc]),[]⟩ (by simp)
  have s3:=hsr ⟨B::L'::L1::(rest++[loc]),[]⟩ (by simp)
  rw[cj,cj,cj,hB _ (by simp),s1,s2,s3.1,s3.2]
  rfl
 case lv=>exact i1'.back hb.hl
theorem AP6:∀(T:List (List Int)) (a:Bool×List (List Int)),runG tO a T=((a.1||!T.isEmpty,T.foldl (fun ws t=>JT ws 0 t) a.2),true)
 |[],a=>by simp[runG]
 |t::T,a=>by have e:(tO a t).2=true:=rfl;rw[runG,if_pos e,AP6 T];simp[tO]
def EZ(b:AK):List (List Int):=bX b.winds.length (E6 b [] b.winds [])
def fR(b:AK)(B:AA)(ff:FuncId)(cap:List V)(c0:Nat)(z:Bool):Prop:=∀n d fr,G7 (BH cz ann kn (n+1200)) (some d) ⟨c0+1,fr,⟨[B],[(2,c0,.box (AC b))]⟩⟩ ff cap=some ⟨c0+1,(d,true,.bool z)::fr,⟨[B],[(2,c0,.box (AC b))]⟩⟩
@[simp] theorem AP7:CN (.pointer none)=some (.raw (.pointer none)):=rfl
@[simp] theorem AMM(s:St)(f:Nat):AY s (f+1) (.raw (.pointer none))=some (.raw (.pointer none)):=rfl
theorem _root_.Go.Wind.Valid.w40{b:AK}(hb:Valid b):∀l∈b.winds,l.length<=40:=fun l hl=>by have:=(hb.wl l hl).2;omega
section
variable {b:AK}{B:AA}{ff:FuncId}{cap:List V}
theorem jM(h40:∀l∈b.winds,l.length<=40)(hB:∀t:St,1<=t.up.length->AH t B=B)(hco:cap.all (AG 8)=false)(h:¬DJ b=0)(c d:Nat)(fr:Fr):∀n,G7 (BH cz ann kn (n+6000)) (some d) ⟨c,fr,⟨[],B⟩⟩ 154 [.agg (AC b),.fn ff [] cap] =
  some ⟨c+1,(d,true,.tup [.raw (.pointer none),i (DJ b)])::fr,⟨[],B⟩⟩:=by
 intro n
 rw[A2 cd b154 rfl (by simp[AC,hco])]
 have q1:=fun n=>iR n b h40
 simp only[AC]at q1|-
 simp[ABT,AD,AM,AW,AL,q1,h,hB]
theorem oT(hb:Valid b)(hB:∀t:St,1<=t.up.length->AH t B=B)(hcw:cap.map weakV=cap)(hco:cap.all (AG 8)=false)(c d:Nat)(hf:fR b B ff cap c false)(fr:Fr):∀n,G7 (BH cz ann kn (n+6000)) (some d) ⟨c,fr,⟨[],B⟩⟩ 154 [.agg (AC b),.fn ff [] cap] =
  some ⟨c+1,(d,true,.tup [.raw (.pointer none),i 2])::fr,⟨[],B⟩⟩:=by
 intro n
 rw[A2 cd b154 rfl (by simp[AC,hco])]
 have q1:=fun n=>iR n b hb.w40
 have hf:=fun n d fr=>hf (n+4795) d fr
 rw[JW hb]at q1
 simp only[AC,bx,bk]at q1 hf|-
 simp[ABT,AD,AM,AW,AL,q1,hB,hcw,hf]
theorem V5(γs:Nat->Nat)(k:Nat):D4 γs (bq k [])=bq k [.nil]:=by apply bm (by simp[D4]);intro j h1 h2;rw[K9 h1 (by simpa [D4]using h1)];simp
def oU(b:AK)(c:Nat):AA:=[(A8,c+7,H5 b c .ready),(2,c,.box (AC b)),(7,c+5,.box [.ptr 1 28 (c+4) 0]),(8,c+6,.box [.bool false]),(24,c+1,.vec 22 (bq b.winds.length [.nil])),(25,c+2,.map []),(26,c+3,.map []),
 (28,c+4,.box (AC b++[.vec 1 24 (c+1) b.winds.length,.mp 1 25 (c+2),.mp 1 26 (c+3)]))]
theorem jN:∀(L:AA) (k:Nat),(∀e∈L,e.1≠k)->L.get k=none
 |[],_,_=>rfl
 |(j,x)::L,k,h=>by have h1:=h (j,x) (by simp);rw[AA.get,if_neg fun e=>h1 e.symm];exact jN L k fun e he=>h e (by simp[he])
theorem dH(hb:Valid b)(c:Nat):A1C b c (c+8) true (false,bq b.winds.length []) (oU b c):=by
 have h5:=hb.hl;refine⟨rfl,⟨rfl,rfl,rfl,rfl,rfl,⟨fun _=>0,?_,fun h hh=>?_,fun h h5 _=>?_⟩,rfl,by simp,fun t h1 h2=>?_,rfl,rfl,rfl⟩,⟨fun l hl=>?_,fun l hl x hx=>?_⟩⟩
 ·rw[V5];rfl
 ·exfalso;refine hh ?_;simp only[bj,bh];split<;>rfl
 ·refine jN _ _ fun e he=>?_;simp only[oU,List.mem_cons,List.not_mem_nil,or_false]at he;rcases he with rfl|rfl|rfl|rfl|rfl|rfl|rfl|rfl<;>simp only[A8]<;>omega
 ·have e1:¬1=t.up.length:=by omega
  have hs:=UO (t:=t) h1 (fun _=>0) (bq b.winds.length []);rw[V5]at hs;unfold oU;simp only[A1,FJ,hs];obtain⟨up,loc⟩:=t;simp only at e1;have hm:CH ⟨up,loc⟩ (.map [])=.map []:=rfl;simp[H5,AC,e1,hm]
 ·rw[bg hl];simp
 ·rw[bg hl]at hx;cases hx
theorem oV(hb:Valid b)(hB:∀t:St,1<=t.up.length->AH t B=B)(hcw:cap.map weakV=cap)(hco:cap.all (AG 8)=false)(c d:Nat)(hf:fR b B ff cap c true)(hT:E6 b [] b.winds []=[])(fr:Fr):∃c',c<=c'/\∀n,G7 (BH cz ann kn (n+6000)) (some d) ⟨c,fr,⟨[],B⟩⟩ 154 [.agg (AC b),.fn ff [] cap] =
  some ⟨c',(d,true,.tup [.raw (.pointer none),i 11])::fr,⟨[],B⟩⟩:=by
 have q1:=fun n=>iR n b hb.w40
 rw[JW hb]at q1
 have hf:=fun n d fr=>hf (n+4795) d fr
 have q79:=fun n=>uA n b []
 have hwi:=hb.wi
 have hla:=hb.la
 have hw:IntKind.i64.wrap (b.last+1)=(b.winds.length:Int):=by rw[AX (by omega) (by omega)];omega
 have m1:b.winds.length*24<=140737488355328:=by omega
 have m2:b.winds.length<=maxLen:=by unfold maxLen;omega
 obtain⟨L',c',r1,r2,r3⟩:=kF (out:=[]) hb (by simp) hB (fun c c1 g a L hc h=>⟨h.go,h.lv.mono hc,h.ok⟩) (fun c g a L h=>h.lv.st) (ACV b hb c B hB) (false,bq b.winds.length []) (oU b c) (dH hb c) (fQ b c)
 rw[AP6,hT]at r1
 obtain⟨_,⟨p7,p28,p25,p26,p8,hrr,pr,plen,pst,p2,p30,p63⟩,rok⟩:=r1
 have r3:=fun n=>r3 (n+1491)
 refine⟨c',by omega,fun n=>?_⟩
 rw[A2 cd b154 rfl (by simp[AC,hco])]
 simp only[AC,li,cq,oU,H5,fQ,QO,A8,bc,ck,bx,bk]at q1 hf q79 r3 p28 pr|-
 simp[ABT,AD,AM,AW,AL,q1,hcw,hf,q79,hw,m1,m2,M2,bx]
 rw[PJ rfl]
 simp[A8,bx]
 rw[r3,T5 (by simpa [A8]using pr) (by omega)]
 simp only[List.isEmpty_nil,Bool.not_true,Bool.or_false]at p8
 obtain⟨γs,p24,rrow,rno⟩:=hrr
 have rn:∀h,h<5->L'.get (800+h)=none:=fun h hh=>rno h hh (by
  simp only[List.foldl_nil,bj,bh];split <;> rfl)
 have r0:=rn 0 (by omega)
 have r1:=rn 1 (by omega)
 have r2:=rn 2 (by omega)
 have r3:=rn 3 (by omega)
 have r4:=rn 4 (by omega)
 simp only[bf,bk]at r0 r1 r2 r3 r4
 simp[p2,p7,p8,p24,p25,p26,p28,p30,p63,r0,r1,r2,r3,r4,A8,hB]
end
theorem ACW(st:XS):LU [1000000000000024,24,901025,902026,903028] st =
  (fun s=>cO 28 (LR 0 s) 902 [] s) ((fun s=>cO 26 (LR 0 s) 901 [] s) ((fun s=>cO 25 (LR 0 s) 900 [] s) (H2 24 (AEU 24 st)))):=rfl
def mvZ(k d c:Nat)(fr:Fr)(B loc:AA):Option (Nat×AV)->XS
 |some (γ,r)=>⟨c,uK 1 k 0 d fr,⟨[(d,γ,Q9 1 k 0 d r)::B],iY 1 k 0 d loc⟩⟩
 |none=>⟨c,fr,⟨[B],loc⟩⟩
@[simp] theorem A1D(k d c γ:Nat)(fr:Fr)(B loc:AA)(r:AV):mvZ k d c fr B loc (some (γ,r))=⟨c,uK 1 k 0 d fr,⟨[(d,γ,Q9 1 k 0 d r)::B],iY 1 k 0 d loc⟩⟩:=rfl
def plO:Option (Nat×AV)->Bool
 |some x=>bQ x.2
 |none=>true
theorem JS(γ:Nat)(r:AV):plO (some (γ,r))=bQ r:=rfl
theorem UP{k d c:Nat}{fr:Fr}{B loc:AA}(hp:plO (loc.get k)=true):cO k 0 d [] ⟨c,fr,⟨[B],loc⟩⟩=mvZ k d c fr B loc (loc.get k):=by
 unfold cO;cases h:loc.get k with
 |none=>simp[mvZ,Q5]
 |some x=>
  obtain⟨γ,r⟩:=x
  rw[h,JS]at hp
  have e3:Q5 0 [B].length (some (γ,r))=true:=by simp[Q5,hp]
  simp only[e3]
  simp[uL,yT,St.put,DW]
theorem UQ(c:Nat)(fr:Fr)(B loc:AA):LR 0 ⟨c,fr,⟨[B],loc⟩⟩=0:=rfl
theorem NW(k c:Nat)(fr:Fr)(up:List AA)(loc:AA):AEU k ⟨c,fr,⟨up,loc⟩⟩=TV (qX up.length (loc.get k)) ⟨c,fr,⟨up,loc⟩⟩:=rfl
theorem IJ(n γ:Nat)(T:TypeId)(es:List (List V)):qX n (some (γ,.vec T es))=es.filterMap fun e=>match e with
  |[.vec l k _ _]=>if l=n then some k else none
  |_=>none:=rfl
theorem AP8(l k f:Nat)(o:Option (Nat×AV))(a:Int):cx (BG l k o f) (AM a)=AM a:=by simp[AM]
theorem XF(l k f:Nat)(o:Option (Nat×AV))(w:List Int):cx (cx (BG l k o f)∘AM) w=w.map AM:=List.map_congr_left fun a _=>AP8 l k f o a
theorem GS(t:St):CH t (.map [])=.map []:=rfl
theorem O2{n k l d:Nat}:uK n k l d []=[]:=rfl
theorem LC{n k l d:Nat}(j:Nat)(c:Bool)(v:V)(fr:Fr):uK n k l d ((j,c,v)::fr)=(j,c,J7 n k l d 3 v)::uK n k l d fr:=rfl
theorem O3{n k l d:Nat}:iY n k l d []=[]:=rfl
theorem LD{n k l d:Nat}(j g:Nat)(r:AV)(L:AA):iY n k l d ((j,g,r)::L)=if j=k then iY n k l d L else(j,g,Q9 n k l d r)::iY n k l d L:=rfl
theorem LF{n k l d:Nat}(f:Nat)(x:Bool):J7 n k l d f (.bool x)=.bool x:=by cases f<;>rfl
theorem LG{n k l d:Nat}(f:Nat)(x:Bool)(es:List (List V)):J7 n k l d f (.list x es)=.list x es:=by cases f<;>rfl
theorem O4{n k l d a b g o:Nat}(f:Nat):J7 n k l d (f+1) (.ptr a b g o)=if a=n/\b=k then .ptr l d g o else .ptr a b g o:=rfl
theorem UR{n k l d a b g:Nat}(f:Nat):J7 n k l d (f+1) (.mp a b g)=if a=n/\b=k then .mp l d g else .mp a b g:=rfl
theorem G8{n k l d:Nat}(cs:List V):Q9 n k l d (.box cs)=.box (cs.map (J7 n k l d 3)):=rfl
theorem O5{n k l d:Nat}(es:List (V×V)):Q9 n k l d (.map es)=.map es:=rfl
theorem NX(k c:Nat)(fr:Fr)(up:List AA)(loc:AA):H2 k ⟨c,fr,⟨up,loc⟩⟩=⟨c,QE up.length k (loc.get k) fr,⟨up,F9 up.length k (loc.get k) loc⟩⟩:=rfl
theorem LH(k:Nat)(ks:List Nat)(st:XS):TV (k::ks) st=TV ks (H2 k st):=rfl
theorem AIZ{b:AK}{T:List (List Int)}(hT:T≠[])(hl:∀t∈T,t.length=b.winds.length){h:Nat}(hh:h<b.winds.length):(bX b.winds.length T).getD h []≠[]:=by obtain⟨t,ht⟩:=List.exists_mem_of_ne_nil _ hT;exact cw ((tP hh).2 ⟨t,ht,by rw[hl t ht];exact hh,rfl⟩)
section
variable {b:AK}{B:AA}{ff:FuncId}{cap:List V}
theorem AI0{b:AK}:∀t∈E6 b [] b.winds [],t.length=b.winds.length:=fun t ht=>by rw[fW]at ht;simp only[ck,List.map_id',List.mem_filter]at ht;exact DD (O6.1 ht.1)
theorem ACX(hb:Valid b)(hB:∀t:St,1<=t.up.length->AH t B=B)(hcw:cap.map weakV=cap)(hco:cap.all (AG 8)=false)(c d:Nat)(hf:fR b B ff cap c true)(hT:E6 b [] b.winds []≠[])(fr:Fr):∃c',c+8<=c'/\∀n,G7 (BH cz ann kn (n+6000)) (some d) ⟨c,fr,⟨[],B⟩⟩ 154 [.agg (AC b),.fn ff [] cap] =
  some ⟨c',(d,true,.tup [.ptr 0 902 (c+4) 0,i 0])::fr,⟨[],(902,c+4,.box (AC b++[I1 (EZ b),.mp 0 900 (c+2),.mp 0 901 (c+3)]))::(901,c+3,.map [])::(900,c+2,.map [])::B⟩⟩:=by
 have q1:=fun n=>iR n b hb.w40
 rw[JW hb]at q1
 have hf:=fun n d fr=>hf (n+4795) d fr
 have q79:=fun n=>uA n b []
 have hwi:=hb.wi
 have hla:=hb.la
 have hw:IntKind.i64.wrap (b.last+1)=(b.winds.length:Int):=by rw[AX (by omega) (by omega)];omega
 have m1:b.winds.length*24<=140737488355328:=by omega
 have m2:b.winds.length<=maxLen:=by unfold maxLen;omega
 obtain⟨L',c',r1,r2,r3⟩:=kF (out:=[]) hb (by simp) hB (fun c c1 g a L hc h=>⟨h.go,h.lv.mono hc,h.ok⟩) (fun c g a L h=>h.lv.st) (ACV b hb c B hB) (false,bq b.winds.length []) (oU b c) (dH hb c) (fQ b c)
 rw[AP6]at r1
 have hTe:(E6 b [] b.winds []).isEmpty=false:=by cases h:E6 b [] b.winds []with|nil=>exact absurd h hT|cons x l=>rfl
 rw[hTe]at r1
 obtain⟨_,⟨p7,p28,p25,p26,p8,hrr,pr,plen,pst,p2,p30,p63⟩,rok⟩:=r1
 have hws:List.foldl (fun ws t=>JT ws 0 t) (bq b.winds.length []) (E6 b [] b.winds [])=EZ b:=rfl
 have hne:=fun h (hh:h<b.winds.length)=>AIZ hT AI0 hh
 have hwd:bX b.winds.length (E6 b [] b.winds [])=EZ b:=rfl
 rw[hwd]at hne
 simp only[hws]at hrr plen
 have h5:=hb.hl
 have r3:=fun n=>r3 (n+1491)
 refine⟨c',by omega,fun n=>?_⟩
 rw[A2 cd b154 rfl (by simp[AC,hco])]
 simp only[AC,li,cq,oU,H5,fQ,QO,A8,bc,ck,bx,bk]at q1 hf q79 r3 p2 p28 pr|-
 simp[ABT,AD,AM,AW,AL,q1,hcw,hf,q79,hw,m1,m2,M2,bx]
 rw[PJ rfl]
 simp[A8,bx]
 rw[r3,T5 (by simpa [A8]using pr) (by omega)]
 simp only[Bool.not_false,Bool.or_true]at p8
 obtain⟨γs,p24,rrow,rno⟩:=hrr
 generalize EZ b=ws at *
 have hlen:ws.length=1\/ws.length=2\/ws.length=3\/ws.length=4\/ws.length=5:=by omega
 rcases hlen with hl|hl|hl|hl|hl
 ·match ws,hl with
  |[w0],_=>
   have hk1:b.winds.length=1:=plen.symm
   have n0:=hne 0 (by omega)
   have r0:=(rrow 0 n0).1
   have r1:=rno 1 (by omega) rfl
   have r2:=rno 2 (by omega) rfl
   have r3:=rno 3 (by omega) rfl
   have r4:=rno 4 (by omega) rfl
   simp only[bw]at n0 r0
   simp only[bf,bk]at r0 r1 r2 r3 r4
   simp[D4,KL,n0,p2,p7,p8,p24,p25,p26,p28,p30,p63,r0,r1,r2,r3,r4,A8,hB,ACW,NW,IJ,LH,NX,UQ,UP,JS,bQ,hk1,O2,LC,O3,LD,LF,LG,O4,UR,GG,G8,O5,GS,AW]
 ·match ws,hl with
  |[w0,w1],_=>
   have hk1:b.winds.length=2:=plen.symm
   have n0:=hne 0 (by omega)
   have r0:=(rrow 0 n0).1
   have n1:=hne 1 (by omega)
   have r1:=(rrow 1 n1).1
   have r2:=rno 2 (by omega) rfl
   have r3:=rno 3 (by omega) rfl
   have r4:=rno 4 (by omega) rfl
   simp only[bw,bb]at n0 n1 r0 r1
   simp only[bf,bk]at r0 r1 r2 r3 r4
   simp[D4,KL,n0,n1,p2,p7,p8,p24,p25,p26,p28,p30,p63,r0,r1,r2,r3,r4,A8,hB,ACW,NW,IJ,LH,NX,UQ,UP,JS,bQ,hk1,O2,LC,O3,LD,LF,LG,O4,UR,GG,G8,O5,GS,AW,XF]
 ·match ws,hl with
  |[w0,w1,w2],_=>
   have hk1:b.winds.length=3:=plen.symm
   have n0:=hne 0 (by omega)
   have r0:=(rrow 0 n0).1
   have n1:=hne 1 (by omega)
   have r1:=(rrow 1 n1).1
   have n2:=hne 2 (by omega)
   have r2:=(rrow 2 n2).1
   have r3:=rno 3 (by omega) rfl
   have r4:=rno 4 (by omega) rfl
   simp only[bw,bb]at n0 n1 n2 r0 r1 r2
   simp only[bf,bk]at r0 r1 r2 r3 r4
   simp[D4,KL,n0,n1,n2,p2,p7,p8,p24,p25,p26,p28,p30,p63,r0,r1,r2,r3,r4,A8,hB,ACW,NW,IJ,LH,NX,UQ,UP,JS,bQ,hk1,O2,LC,O3,LD,LF,LG,O4,UR,GG,G8,O5,GS,AW,XF]
 ·match ws,hl with
  |[w0,w1,w2,w3],_=>
   have hk1:b.winds.length=4:=plen.symm
   have n0:=hne 0 (by omega)
   have r0:=(rrow 0 n0).1
   have n1:=hne 1 (by omega)
   have r1:=(rrow 1 n1).1
   have n2:=hne 2 (by omega)
   have r2:=(rrow 2 n2).1
   have n3:=hne 3 (by omega)
   have r3:=(rrow 3 n3).1
   have r4:=rno 4 (by omega) rfl
   simp only[bw,bb]at n0 n1 n2 n3 r0 r1 r2 r3
   simp only[bf,bk]at r0 r1 r2 r3 r4
   simp[D4,KL,n0,n1,n2,n3,p2,p7,p8,p24,p25,p26,p28,p30,p63,r0,r1,r2,r3,r4,A8,hB,ACW,NW,IJ,LH,NX,UQ,UP,JS,bQ,hk1,O2,LC,O3,LD,LF,LG,O4,UR,GG,G8,O5,GS,AW,XF]
 ·match ws,hl with
  |[w0,w1,w2,w3,w4],_=>
   have hk1:b.winds.length=5:=plen.symm
   have n0:=hne 0 (by omega)
   have r0:=(rrow 0 n0).1
   have n1:=hne 1 (by omega)
   have r1:=(rrow 1 n1).1
   have n2:=hne 2 (by omega)
   have r2:=(rrow 2 n2).1
   have n3:=hne 3 (by omega)
   have r3:=(rrow 3 n3).1
   have n4:=hne 4 (by omega)
   have r4:=(rrow 4 n4).1
   simp only[bw,bb]at n0 n1 n2 n3 n4 r0 r1 r2 r3 r4
   simp only[bf,bk]at r0 r1 r2 r3 r4
   simp[D4,KL,n0,n1,n2,n3,n4,p2,p7,p8,p24,p25,p26,p28,p30,p63,r0,r1,r2,r3,r4,A8,hB,ACW,NW,IJ,LH,NX,UQ,UP,JS,bQ,hk1,O2,LC,O3,LD,LF,LG,O4,UR,GG,G8,O5,GS,AW,XF]
end
end Go.Proofs.Tryz.Op
