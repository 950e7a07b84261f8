/- The level of one who asks for the winds of all truths. No condition. -/
import Derived.Test.YthhdhbalenanjaaGreatO1
import Derived.Test.YthhdhbalenanjaaGreatI1
import Derived.Test.YthhdhbalenanjaaGreatFz
import Derived.Test.YthhdhbalenanjaaGreatW3
set_option maxRecDepth 100000
set_option linter.unusedSimpArgs false
open Go Go.Pg Go.Proofs Go.Wind
namespace Go.Proofs.Tryz.Op
def oR(γ h:Nat):List Int→V
 |[]=>.nil
 |w=>.vec 1 (800+h) γ w.length
@[simp] theorem AHM(γ h:Nat):oR γ h []=.nil:=rfl
theorem L5{γ h:Nat}{w:List Int}(hw:w≠[]):oR γ h w=.vec 1 (800+h) γ w.length:=by
 cases w with
 |nil=>exact absurd rfl hw
 |cons x w=>rfl
def ES(γs:Nat→Nat)(ws:List (List Int)):List (List V):=ws.mapIdx fun h w=>[oR (γs h) h w]
noncomputable def SV:Code:=.block 1 (.seq (EP 2399) (.seq (EP 5471) (.block 2 (.loop KP))))
@[simp] theorem uAs(n:Nat)(st:XS):AE Tryz.prog ann kn n 69 SV st=AE Tryz.prog ann kn n 69 (.block 1 (.seq (EP 2399) (.seq (EP 5471) (.block 2 (.loop KP))))) st:=rfl
noncomputable def lG(b:AK)(c0:Nat):Fr:=[(30,true,.fn 196 [] [.ref (AC b),.ref [li []]]),(29,true,.agg (AC b)),(2,true,.ptr 1 2 c0 0),(7,true,.ptr 1 7 (c0+5) 0),(8,true,.ptr 1 8 (c0+6) 0)]
noncomputable def I7(b:AK)(c0:Nat)(ls:LS):A6:=.loop (lG b c0) [31] (EP 607) SV 69 ls
structure RwA(c0 c:Nat)(ws:List (List Int))(L:AA)(γs:Nat→Nat):Prop where
 p24:L.get 24=some (c0+1,.vec 22 (ES γs ws))
 row:∀h,ws.getD h []≠[]→L.get (800+h)=some (γs h,.vec 3 ((ws.getD h []).map AJ))∧γs h<c
 no:∀h,h<5→ws.getD h []=[]→L.get (800+h)=none
structure zQ(b:AK)(c0:Nat)(ls:LS)(c:Nat)(s:Bool)(ws:List (List Int))(L:AA):Prop where
 p7:L.get 7=some (c0+5,.box [.ptr 1 28 (c0+4) 0])
 p28:L.get 28=some (c0+4,.box (AC b++[.vec 1 24 (c0+1) b.winds.length,.mp 1 25 (c0+2),.mp 1 26 (c0+3)]))
 p25:L.get 25=some (c0+2,.map [])
 p26:L.get 26=some (c0+3,.map [])
 p8:L.get 8=some (c0+6,.box [.bool s])
 rows:∃γs,RwA c0 c ws L γs
 pr:L.get BT=some (c0+7,I7 b c0 ls)
 len:ws.length=b.winds.length
 st:∀t:St,2≤t.up.length→t.loc.get 63=none→AL t L=L
 pp:L.get 2=some (c0,.box (AC b))∧L.get 30=none∧L.get 63=none
theorem RwA.mono{c0 c c1:Nat}{ws:List (List Int)}{L:AA}{γs:Nat→Nat}(h:RwA c0 c ws L γs)(hc:c≤c1):RwA c0 c1 ws L γs :=
 ⟨h.p24,fun k hk=>⟨(h.row k hk).1,Nat.lt_of_lt_of_le (h.row k hk).2 hc⟩,h.no⟩
theorem zQ.mono{b:AK}{c0 c c1:Nat}{ls:LS}{s:Bool}{ws:List (List Int)}{L:AA}(h:zQ b c0 ls c s ws L)(hc:c≤c1):zQ b c0 ls c1 s ws L :=
 ⟨h.p7,h.p28,h.p25,h.p26,h.p8,by obtain⟨γs,hr⟩:=h.rows;exact⟨γs,hr.mono hc⟩,h.pr,h.len,h.st,h.pp⟩
theorem NN(st:XS)(v:V)(hv:∀l k o,BK l k o 3 v=v):∀ks,I1 st ks v=v
 |[]=>rfl
 |k::ks=>by
  have ih:=NN st v hv ks;obtain⟨c,fr,up,loc⟩:=st;by_cases h:k<10000
  ·rw[xP _ _ _ _ _ _ _ h,hv,ih]
  ·rw[GQ _ _ _ _ h,hv,ih]
theorem MS{c0 c:Nat}{ws:List (List Int)}{L:AA}{γs:Nat→Nat}(h:RwA c0 c ws L γs){k:Nat}(hk:k≤4)(hne:ws.getD k []≠[])(B:AA)(R:List AA)(c1:Nat)(fr:Fr)(loc:AA) :
  I1 ⟨c1,fr,⟨B::L::R,loc⟩⟩ [20800,20801,20802,20803,20804] (.vec 1 (800+k) (γs k) (ws.getD k []).length)=li (ws.getD k []):=by
 have hr:=(h.row k hne).1
 have e1:¬1=R.length+1+1:=by omega
 have:k=0∨k=1∨k=2∨k=3∨k=4:=by omega
 generalize ws.getD k []=w at hr hne⊢
 have hget:∀j,St.get ⟨B::L::R,loc⟩ 1 j=L.get j:=fun j=>by simp[St.get]
 simp only[GQ _ _ _ _ (show ¬20800<10000 by decide),GQ _ _ _ _ (show ¬20801<10000 by decide),GQ _ _ _ _ (show ¬20802<10000 by decide),GQ _ _ _ _ (show ¬20803<10000 by decide),GQ _ _ _ _ (show ¬20804<10000 by decide),AEM,Nat.reduceDiv,Nat.reduceMod,Nat.reduceSub,hget]
 have skip:∀a o,a≠800+k→BK 1 a o 3 (.vec 1 (800+k) (γs k) w.length)=.vec 1 (800+k) (γs k) w.length:=fun a o ha=>by
  simp only[BK];split
  ·rw[if_neg fun e=>ha e.2.1.symm]
  ·rfl
 have hit:BK 1 (800+k) (L.get (800+k)) 3 (.vec 1 (800+k) (γs k) w.length)=li w:=by rw[hr];simp[BK]
 rcases this with rfl|rfl|rfl|rfl|rfl
 ·rw[hit];simp
 ·rw[skip 800 _ (by decide),hit];simp
 ·rw[skip 800 _ (by decide),skip 801 _ (by decide),hit];simp
 ·rw[skip 800 _ (by decide),skip 801 _ (by decide),skip 802 _ (by decide),hit];simp
 ·rw[skip 800 _ (by decide),skip 801 _ (by decide),skip 802 _ (by decide),skip 803 _ (by decide),hit]
theorem MT(γs:Nat→Nat)(ws:List (List Int)):(ES γs ws).length=ws.length:=by unfold ES;simp
theorem MU{γs:Nat→Nat}{ws:List (List Int)}{h:Nat}(h1:h<(ES γs ws).length)(h2:h<ws.length):(ES γs ws)[h]=[oR (γs h) h ws[h]]:=by simp only[ES,List.getElem_mapIdx]
def Y8(γs:Nat→Nat)(h c:Nat):Nat→Nat:=fun j=>if j=h then c else γs j
theorem iP{γs:Nat→Nat}{ws:List (List Int)}{h:Nat}(_:h<ws.length)(c:Nat){w:List Int}(hw:w≠[]):(ES γs ws).set h [.vec 1 (800+h) c w.length]=ES (Y8 γs h c) (ws.set h w):=by
 apply List.ext_getElem (by simp[MT]);intro j h1 h2;have hj:j<ws.length:=by simpa [MT]using h1
 rw[List.getElem_set,MU h2 (by simpa using hj),List.getElem_set];by_cases e:h=j
 ·subst e;rw[if_pos rfl,if_pos rfl,L5 hw,Y8,if_pos rfl]
 ·rw[if_neg e,if_neg e,MU _ hj,Y8,if_neg fun h=>e h.symm]
theorem AXG{n d γ j:Nat}{w:List Int}:K8 n 63 1 d 3 (oR γ j w)=oR γ j w:=by
 cases w with
 |nil=>rfl
 |cons x w=>
  show(if 1=n∧800+j=63 then _ else _)=_
  rw[if_neg (by omega)]
theorem AHN{γs:Nat→Nat}{ws:List (List Int)}{h:Nat}(hh:h<ws.length)(n c:Nat){w:List Int}(hw:w≠[]):((ES γs ws).set h [.vec n 63 c w.length]).map (List.map (K8 n 63 1 (800+h) 3))=ES (Y8 γs h c) (ws.set h w):=by
 rw[←iP hh c hw,List.map_set];congr 1
 ·apply List.ext_getElem (by simp);intro j h1 h2;have hj:j<ws.length:=by simpa [MT]using h1
  rw[List.getElem_map,MU _ hj];exact congrArg (fun v=>[v]) AXG
 ·simp[K8]
theorem iQ(ws:List (List Int))(h:Nat)(l:List Int)(j:Nat)(hh:h<ws.length):(ws.set h l).getD j []=if j=h then l else ws.getD j []:=by
 simp only[List.getD_eq_getElem?_getD,List.getElem?_set];by_cases e:h=j
 ·subst e;simp[hh]
 ·rw[if_neg e,if_neg fun h=>e h.symm]
theorem RwA.put{c0 c:Nat}{ws:List (List Int)}{L:AA}{γs:Nat→Nat}(hr:RwA c0 c ws L γs){h:Nat}(hh:h<ws.length){w:List Int}(hw:w≠[]){L':AA}
  (h24:L'.get 24=some (c0+1,.vec 22 (ES (Y8 γs h c) (ws.set h w)))) (h800:L'.get (800+h)=some (c,.vec 3 (w.map AJ))) (hot:∀j,j≠h→L'.get (800+j)=L.get (800+j)):RwA c0 (c+1) (ws.set h w) L' (Y8 γs h c):=by
 refine⟨h24,fun j hj=>?_,fun j hj5 hj=>?_⟩
 ·rw[iQ _ _ _ _ hh]at hj⊢;by_cases e:j=h
  ·subst e;rw[if_pos rfl,Y8,if_pos rfl];exact⟨h800,Nat.lt_succ_self _⟩
  ·rw[if_neg e]at hj⊢;rw[hot j e,Y8,if_neg e];exact⟨(hr.row j hj).1,Nat.lt_succ_of_lt (hr.row j hj).2⟩
 ·rw[iQ _ _ _ _ hh]at hj;by_cases e:j=h
  ·subst e;rw[if_pos rfl]at hj;exact absurd hj hw
  ·rw[if_neg e]at hj;rw[hot j e];exact hr.no j hj5 hj
theorem oS{t:St}{l k γ m:Nat}(h:¬l=t.up.length):CD t (.vec l k γ m)=some (.vec l k γ m):=by obtain⟨up,loc⟩:=t;rw[tN,fL,if_neg h]
theorem WT{t:St}(ht:2≤t.up.length)(γs:Nat→Nat)(ws:List (List Int)):CM t (.vec 22 (ES γs ws))=.vec 22 (ES γs ws):=by
 refine QK fun e he v hv=>?_;obtain⟨j,hj,rfl⟩:=List.getElem_of_mem he;rw[MU hj (by simpa [MT]using hj)]at hv;simp only[List.mem_cons,List.not_mem_nil,or_false]at hv;subst hv;have hne:¬1=t.up.length:=by omega
 cases ws[j]'(by simpa [MT]using hj)with
 |nil=>rfl
 |cons x w=>exact oS hne
theorem AS2(st:XS):KI [25008011801063] st=eO 63 (K9 8 st) (wV 800 11 st) [24] st:=rfl
theorem AHO(c:Nat)(fr:Fr)(up:List AA):KI [25008011801063] ⟨c,fr,⟨up,[]⟩⟩=⟨c,fr,⟨up,[]⟩⟩:=by rw[AS2];rfl
theorem KQ{n k l d:Nat}(fr:Fr)(j:Nat):BE (wO n k l d fr) j=(BE fr j).map fun x=>(x.1,K8 n k l d 3 x.2):=by rw[F0,F0,mR]
@[simp] theorem A27(u:Nat)(L:AA)(j:Nat):(IQ u L).get j=if j=u then none else L.get j:=eP u L j
theorem PQ(t:St)(u:Nat):∀L:AA,AL t (IQ u L)=IQ u (AL t L)
 |[]=>rfl
 |(q,g,r)::L=>by
  have ih:=PQ t u L;rw[A1];unfold IQ;by_cases h:q=u
  ·rw[if_pos h,if_pos h,ih]
  ·rw[if_neg h,if_neg h,A1,ih]
theorem I8(u g:Nat)(r:A6)(L:AA):IQ u ((u,g,r)::L)=IQ u L:=by show(if u=u then IQ u L else _)=_;rw[if_pos rfl]
theorem AXH(c γ h g7 o7 g24:Nat)(T:TypeId)(es:List (List V))(fr:Fr)(B L:AA)(R:List AA)(r24:A6)(h7:BE fr 7=some (true,.ptr 1 7 g7 o7))(h10:BE fr 10=some (true,.int .i64 h))(h24:L.get 24=some (g24,r24)) :
  KI [25008011801063] ⟨c,fr,⟨B::L::R,[(63,γ,.vec T es)]⟩⟩=⟨c,wO (R.length+1+1) 63 1 (800+h) fr,⟨B::((800+h,γ,SE (R.length+1+1) 63 1 (800+h) (.vec T es))::(24,g24,SE (R.length+1+1) 63 1 (800+h) r24)::IQ 24 L)::R,[]⟩⟩:=by
 rw[AS2]
 have e1:K9 8 ⟨c,fr,⟨B::L::R,[(63,γ,.vec T es)]⟩⟩=1:=by show(match BE fr 7 with|some (true,.ptr l _ _ _)=>l|_=>0)=1;rw[h7]
 have e2:wV 800 11 ⟨c,fr,⟨B::L::R,[(63,γ,.vec T es)]⟩⟩=800+h:=by show(match BE fr 10 with|some (true,.int _ n)=>800+n.toNat|_=>800)=800+h;rw[h10];simp
 rw[e1,e2]
 unfold eO
 have e3:QF 1 (B::L::R).length (AA.get [(63,γ,.vec T es)] 63)=true:=by simp[QF,AA.get,gA]
 simp only[e3]
 simp[wP,AA.get,mvU,h24,mP,St.put,CW]
theorem GF{n k l d:Nat}(f:Nat)(q:IntKind)(x:Int):K8 n k l d f (.int q x)=.int q x:=by cases f<;>rfl
theorem KR{n k l d a b g o:Nat}(f:Nat)(h:¬b=k):K8 n k l d f (.ptr a b g o)=.ptr a b g o:=by
 cases f with
 |zero=>rfl
 |succ f=>simp only[K8];rw[if_neg fun e=>h e.2]
theorem KS{n k l d a b g o:Nat}(f:Nat)(h:¬b=k):K8 n k l d f (.vec a b g o)=.vec a b g o:=by
 cases f with
 |zero=>rfl
 |succ f=>simp only[K8];rw[if_neg fun e=>h e.2]
theorem GH{n k l d:Nat}(T:TypeId)(es:List (List V)):SE n k l d (.vec T es)=.vec T (es.map (List.map (K8 n k l d 3))):=rfl
theorem BAW{k:Nat}{x:Int}(h:k≤10000):B9 Tryz.prog 3 k [[.int .i64 x]]=true:=by rw[CA (by simp) (by simp)];simp[maxLen];omega
theorem AOA{P:Program}{fr:Fr}{s:St}(e d c:Nat)(y:List V)(ys:List (List V))(h:B9 P e 0 (y::ys)=true):xY P e d c fr s .nil (y::ys)=some (⟨c+1,(d,true,.vec s.up.length d c (ys.length+1))::fr,s.put s.up.length d c (.vec e (y::ys))⟩,[(s.up.length,d),(s.up.length,d+GD)]):=by unfold xY;simp[JA,h]
theorem lAs(b:AK)(c0:Nat)(h5:b.winds.length≤5)(s:Bool)(t:List Int)(ht:t.length=b.winds.length)(hn:∀n∈t,0≤n∧n≤3)(B:AA)(L1:AA)(R:List AA)(g9:Nat)(p9:L1.get 9=some (g9,.vec 3 (t.map AJ))) :
  ∀(d h c:Nat) (ws:List (List Int)) (L:AA),h+d=t.length→zQ b c0 .busy c s ws L→c0+8≤c→D1 ws →
  ∃fr' c' L',zQ b c0 .busy c' s (KU ws h (t.drop h)) L'∧c≤c'∧∀n m,d<m→BF (AE Tryz.prog ann kn (n+1400) 69) KP (ann 69 (BW KP)) m ⟨c,[(7,true,.ptr 1 7 (c0+5) 0),(32,true,.vec 2 9 g9 t.length),(33,true,i t.length),(34,true,i h)],⟨B::L::L1::R,[]⟩⟩ =
   some (.exit 2,⟨c',fr',⟨B::L'::L1::R,[]⟩⟩)
 |0,h,c,ws,L,hd,hL,hc,hok=>by
  have:h=t.length:=by omega
  subst this;refine⟨?fr,c,L,by simpa [KU]using hL,Nat.le_refl _,fun n m hm=>?g⟩;case g=>
   obtain⟨m,rfl⟩:∃m',m=m'+1:=⟨m-1,by omega⟩
   rw[AB]
   simp
   rfl
 |d+1,h,c,ws,L,hd,hL,hc,hok=>by
  have hh:h<t.length:=by omega
  have hw:=BM (k:=h) (by omega);have hdrop:t.drop h=t[h]::t.drop (h+1):=List.drop_eq_getElem_cons hh;have hLo:=hL;obtain⟨p7,p28,p25,p26,p8,⟨γs,hr⟩,pr,hlen,pst,pp⟩:=hL;have hg:ws.getD h []=ws[h]'(by omega):=by rw[List.getD_eq_getElem?_getD,List.getElem?_eq_getElem (by omega)];rfl
  have hl4:(ws.getD h []).length≤4:=by rw[hg];exact hok.len _ (List.getElem_mem _)
  have qc:=fun n=>YB n (ws.getD h []) t[h] (by omega);have h24:=hr.p24;have hra:(ES γs ws)[h]? = some [oR (γs h) h (ws.getD h [])]:=by unfold ES;rw[List.getElem?_mapIdx,List.getElem?_eq_getElem (by omega),hg];rfl
  have hrl:(ES γs ws).length=ws.length:=by unfold ES;simp
  have hrx:(ES γs ws)[h]'(by omega)=[oR (γs h) h (ws.getD h [])]:=by have:=hra;rw[List.getElem?_eq_getElem (by omega),Option.some.injEq]at this;exact this
  have hhw:h<b.winds.length:=by omega
  have hhr:h<(ES γs ws).length:=by omega
  have ha0:B9 Tryz.prog 3 0 [[.int .i64 t[h]]]=true:=BAW (by omega);have hc0:c0<c:=by omega
  have hws:h<ws.length:=by omega
  have hx3:=hn t[h] (List.getElem_mem hh);have hka:∀k,900≤k→(800+h=k)=False:=fun k hk=>by simp;omega
  have hkb:∀k,k<800→(800+h=k)=False:=fun k hk=>by simp;omega
  have hkc:∀k,k<800→(k=800+h)=False:=fun k hk=>by simp;omega
  have hkd:∀k,900≤k→(k=800+h)=False:=fun k hk=>by simp;omega
  have hrb:b.winds.length≤(ES γs ws).length:=by omega
  by_cases hm:t[h]∈ws.getD h []
  ·have hmd:decide (t[h]∈ws.getD h [])=true:=decide_eq_true hm;rw[hmd]at qc;have hne:ws.getD h []≠[]:=List.ne_nil_of_mem hm;have hwv:=L5 (γ:=γs h) (h:=h) hne;have hrt:=fun c1 fr loc=>MS hr (k:=h) (by omega) hne B (L1::R) c1 fr loc;obtain⟨fr',c',L',i1,i2,ih⟩:=lAs b c0 h5 s t ht hn B L1 R g9 p9 d (h+1) c ws L (by omega) hLo hc hok;have hadd:KU ws h (t.drop h)=KU ws (h+1) (t.drop (h+1)):=by rw[hdrop];show KU (PS ws h t[h]) (h+1) (t.drop (h+1))=_;rw[PS,if_pos hm]
   rw[hadd];refine⟨fr',c',L',i1,i2,fun n m hm'=>?_⟩;obtain⟨m,rfl⟩:∃m',m=m'+1:=⟨m-1,by omega⟩;have ih:=ih n m (by omega);have hfl:∀st x,I1 st [20800,20801,20802,20803,20804] (.int .i64 x)=.int .i64 x:=fun st x=>NN st _ (fun _ _ _=>kK _ _ _) _;rw[hwv]at hrx;generalize ws.getD h []=w at *;rw[AB];simp only[AC,AJ]at p28 qc ih⊢;simp at ih;simp[-GQ,hh,hw,AJ,p7,p28,p9,h24,hhr,hhw,hrb,hrx,hrt,hfl,qc,AHO,ih]
  ·have hmd:decide (t[h]∈ws.getD h [])=false:=decide_eq_false hm;rw[hmd]at qc;have hfl:∀st x,I1 st [20800,20801,20802,20803,20804] (.int .i64 x)=.int .i64 x:=fun st x=>NN st _ (fun _ _ _=>kK _ _ _) _;have hfn:∀st,I1 st [20800,20801,20802,20803,20804] .nil=.nil:=fun st=>NN st _ (fun _ _ _=>AEK _) _;by_cases hne:ws.getD h []=[]
   ·rw[hne]at hrx qc;rw[AHM]at hrx;have hne1:([t[h]]:List Int)≠[]:=by simp
    have hadd:PS ws h t[h]=ws.set h [t[h]]:=by rw[PS,if_neg hm,hne];rfl
    have hrs:=AHN (γs:=γs) hws (R.length+1+1+1) c hne1;have hL':zQ b c0 .busy (c+1) s (ws.set h [t[h]]) ((800+h,c,.vec 3 [[.int .i64 t[h]]])::(24,c0+1,.vec 22 (ES (Y8 γs h c) (ws.set h [t[h]])))::IQ 24 L):=by
     refine⟨?_,?_,?_,?_,?_,⟨Y8 γs h c,hr.put hws hne1 (by simp;omega) (by simp[AJ]) fun j hj=>by simp[hj,show ¬800+j=24 by omega]⟩,?_,by simpa using hlen,fun T h1 h2=>?_,by simpa [hkc]using pp⟩
     ·simpa [hkc]using p7
     ·simpa [hkc]using p28
     ·simpa [hkc]using p25
     ·simpa [hkc]using p26
     ·simpa [hkc]using p8
     ·simpa [BT,hkd]using pr
     ·rw[A1,A1,PQ,WT h1,pst T h1 h2,show[[V.int .i64 t[h]]]=[t[h]].map AJ from rfl,KL]
    obtain⟨fr',c',L',i1,i2,ih⟩:=lAs b c0 h5 s t ht hn B L1 R g9 p9 d (h+1) (c+1) _ _ (by omega) hL' (by omega) (by rw[←hadd];exact hok.add h _ hx3);have hadw:KU ws h (t.drop h)=KU (ws.set h [t[h]]) (h+1) (t.drop (h+1)):=by rw[hdrop,←hadd];rfl
    rw[hadw];refine⟨fr',c',L',i1,by omega,fun n m hm'=>?_⟩;obtain⟨m,rfl⟩:∃m',m=m'+1:=⟨m-1,by omega⟩;have ih:=ih n m (by omega);rw[AB];simp only[List.length_singleton]at hrs;have hgh:=fun c1 fr (h7:BE fr 7=some (true,.ptr 1 7 (c0+5) 0)) (h10:BE fr 10=some (true,.int .i64 h))=>AXH c1 c h _ _ (c0+1) 3 [[.int .i64 t[h]]] fr B ((24,c0+1,.vec 22 ((ES γs ws).set h [.vec (R.length+1+1+1) 63 c 1]))::L) (L1::R) _ h7 h10 rfl;simp only[AC,AJ,li,List.map_nil]at p28 qc ih⊢;simp at ih;simp[-GQ,hh,hw,AJ,p7,p28,p9,h24,hhr,hhw,hrb,hrx,hfl,hfn,qc,AOA,ha0,hka,hkb,hkc,hkd,GD,CW,hc0,KQ,hgh,I8,hrs,GF,KR,KS,GH,ih]
   ·have hwv:=L5 (γ:=γs h) (h:=h) hne;have hrt:=fun c1 fr loc=>MS hr (k:=h) (by omega) hne B (L1::R) c1 fr loc;have hrow:=(hr.row h hne).1;have hγ:=(hr.row h hne).2;rw[hwv]at hrx;have ha1:B9 Tryz.prog 3 (ws.getD h []).length [[.int .i64 t[h]]]=true:=BAW (by omega);have hadd:PS ws h t[h]=ws.set h (ws.getD h []++[t[h]]):=by rw[PS,if_neg hm]
    generalize ws.getD h []=w at *;have hne1:w++[t[h]]≠[]:=by simp
    have hrs:=iP (γs:=γs) hws c hne1;simp only[List.length_append,List.length_singleton]at hrs;have hL':zQ b c0 .busy (c+1) s (ws.set h (w++[t[h]])) ((24,c0+1,.vec 22 (ES (Y8 γs h c) (ws.set h (w++[t[h]]))))::(800+h,c,.vec 3 (w.map AJ++[[.int .i64 t[h]]]))::L):=by
     refine⟨?_,?_,?_,?_,?_,⟨Y8 γs h c,hr.put hws hne1 (by simp) (by simp[AJ,show ¬800+h=24 by omega]) fun j hj=>by simp[hj,show ¬800+j=24 by omega]⟩,?_,by simpa using hlen,fun T h1 h2=>?_,by simpa [hkc]using pp⟩
     ·simpa [hkc]using p7
     ·simpa [hkc]using p28
     ·simpa [hkc]using p25
     ·simpa [hkc]using p26
     ·simpa [hkc]using p8
     ·simpa [BT,hkd]using pr
     ·have e:(w.map AJ++[[V.int .i64 t[h]]])=(w++[t[h]]).map AJ:=by simp[AJ]
      rw[A1,A1,WT h1,e,KL,pst T h1 h2]
    obtain⟨fr',c',L',i1,i2,ih⟩:=lAs b c0 h5 s t ht hn B L1 R g9 p9 d (h+1) (c+1) _ _ (by omega) hL' (by omega) (by rw[←hadd];exact hok.add h _ hx3);have hadw:KU ws h (t.drop h)=KU (ws.set h (w++[t[h]])) (h+1) (t.drop (h+1)):=by rw[hdrop,←hadd];rfl
    rw[hadw];refine⟨fr',c',L',i1,by omega,fun n m hm'=>?_⟩;obtain⟨m,rfl⟩:∃m',m=m'+1:=⟨m-1,by omega⟩;have ih:=ih n m (by omega);rw[AB];simp only[AC,AJ]at p28 qc ih⊢;simp at ih;simp[-GQ,hh,hw,AJ,p7,p28,p9,h24,hhr,hhw,hrb,hrx,hrt,hfl,qc,hrow,hγ,ha1,hka,hkb,hkc,hkd,GD,CW,hc0,hrs,AHO,ih]
structure BAX(b:AK)(c0:Nat)(c:Nat)(g:Bool)(a:Bool×List (List Int))(L:AA):Prop where
 go:g=true
 lv:zQ b c0 .ready c a.1 a.2 L
 ok:D1 a.2
def zR(a:Bool×List (List Int))(t:List Int):(Bool×List (List Int))×Bool:=((true,KU a.2 0 t),true)
theorem zQ.put{b:AK}{c0 c:Nat}{ls ls':LS}{s s':Bool}{ws:List (List Int)}{L:AA}(h:zQ b c0 ls c s ws L)(h5:b.winds.length≤5):zQ b c0 ls' c s' ws ((8,c0+6,.box [.bool s'])::(BT,c0+7,I7 b c0 ls')::L):=by
 obtain⟨p7,p28,p25,p26,p8,⟨γs,hr⟩,pr,hlen,pst,pp⟩:=h;refine⟨by simpa [BT]using p7,by simpa [BT]using p28,by simpa [BT]using p25,by simpa [BT]using p26,by simp,⟨γs,by simpa [BT]using hr.p24,fun j hj=>?_,fun j hj5 hj=>?_⟩,by simp[BT],hlen,fun t h1 h2=>?_,by simpa [BT]using pp⟩
 ·have hj4:(j:Nat)<ws.length:=by
   rcases Nat.lt_or_ge j ws.length with h|h
   ·exact h
   ·exact absurd (by rw[List.getD_eq_getElem?_getD,List.getElem?_eq_none h];rfl) hj
  have e1:¬800+j=8:=by omega
  have e2:¬800+j=1000000:=by omega
  have:=hr.row j hj;simpa [BT,e1,e2]using this
 ·have e1:¬800+j=8:=by omega
  have e2:¬800+j=1000000:=by omega
  have:=hr.no j hj5 hj;simpa [BT,e1,e2]using this
 ·rw[A1,A1,pst t h1 h2];simp[I7]
theorem zQ.back{b:AK}{c0 c:Nat}{ls ls':LS}{s:Bool}{ws:List (List Int)}{L:AA}(h:zQ b c0 ls c s ws L)(h5:b.winds.length≤5):zQ b c0 ls' c s ws ((BT,c0+7,I7 b c0 ls')::L):=by
 obtain⟨p7,p28,p25,p26,p8,⟨γs,hr⟩,pr,hlen,pst,pp⟩:=h;refine⟨by simpa [BT]using p7,by simpa [BT]using p28,by simpa [BT]using p25,by simpa [BT]using p26,by simpa [BT]using p8,⟨γs,by simpa [BT]using hr.p24,fun j hj=>?_,fun j hj5 hj=>?_⟩,by simp[BT],hlen,fun t h1 h2=>?_,by simpa [BT]using pp⟩
 ·have hj4:(j:Nat)<ws.length:=by
   rcases Nat.lt_or_ge j ws.length with h|h
   ·exact h
   ·exact absurd (by rw[List.getD_eq_getElem?_getD,List.getElem?_eq_none h];rfl) hj
  have e2:¬800+j=1000000:=by omega
  have:=hr.row j hj;simpa [BT,e2]using this
 ·have e2:¬800+j=1000000:=by omega
  have:=hr.no j hj5 hj;simpa [BT,e2]using this
 ·rw[A1,pst t h1 h2];simp[I7]
theorem AHP(b:AK)(hb:Valid b)(c0:Nat)(B:AA)(hB:∀t:St,1≤t.up.length→AL t B=B):lM B b (BAX b c0) zR (c0+7) 1500:=by
 intro a L L1 rest loc c fr t g9 hL hc ht p9 hst;obtain⟨_,hL,hok⟩:=hL;have hL0:=hL.put (ls':=.busy) (s':=true) hb.hl;have hlt:=CS ht;obtain⟨fr',c',L',i1,i2,ih⟩:=lAs b c0 hb.hl true t hlt (L6 hb ht) B L1 (rest++[loc]) g9 p9 t.length 0 c a.2 _ (by omega) hL0 (by omega) hok;rw[List.drop_zero]at i1;have i1':=i1;obtain⟨q7,q28,q25,q26,q8,hrr,qr,qlen,qst,qpp⟩:=i1;have p8:=hL.p8;have pr:=hL.pr;have e1:c0+7<c:=by omega
 have e2:c0+7<c':=by omega
 have e3:c0+6<c:=by omega
 have e4:c0<c:=by omega
 have hun:∀A A':AA,CL (A::A'::L1::(rest++[loc]))=some (A::A'::L1::rest,loc):=fun A A'=>by rw[←List.cons_append,←List.cons_append,←List.cons_append,DG]
 have hst':=fun t h=>hst t h;simp only[List.map_cons,List.map_append,List.map_nil,List.cons.injEq]at hst';have hsr:∀t:St,(L1::(rest++[loc])).length+2≤t.up.length→(rest.map (AL t)=rest∧AL t loc=loc):=fun t h=>by have:=(hst' t h).2;exact⟨List.append_inj_left' this rfl,by simpa using List.append_inj_right' this rfl⟩
 have h1s:∀t:St,(L1::(rest++[loc])).length+2≤t.up.length→AL t L1=L1:=fun t h=>(hst' t h).1;refine⟨?L,c',⟨rfl,?lv,D1.adds t hok 0 (L6 hb ht)⟩,i2,fun n=>?g⟩;case g=>
  rw[ZX (by simpa [I7]using pr) rfl (by omega)]
  simp only[J8,Fr.put,lG]
  have h5:=hb.hl
  have ih:=ih (n+95) (n+1495) (by omega)
  rw[show n+95+1400=n+1495 by omega]at ih
  simp
  rw[JJ (fr0:=lG b c0) (ps:=[31]) (asg:=(EP 607)) (body':=SV) (N:=69) (by simpa [I7]using pr) e1]
  rw[show A6.loop (lG b c0) [31] (EP 607) SV 69 LS.busy=I7 b c0 .busy from rfl]
  simp[BT]at ih
  simp[p8,AA.put,BT,e3]
  rw[show(33,true,V.int IntKind.i64 (b.winds.length:Int))=(33,true,V.int IntKind.i64 (t.length:Int)) by rw[hlt],←hlt]
  rw[ih]
  simp
  rw[show(1000000:Nat)=BT from rfl,SF (fr0:=lG b c0) (ps:=[31]) (asg:=(EP 607)) (body:=SV) (N:=69) (by simpa [I7]using qr) (hun _ _) (by simp) e2]
  have s1:AL ⟨B::L'::L1::(rest++[loc]),[]⟩ L'=L':=qst _ (by simp) rfl
  have s2:=h1s ⟨B::L'::L1::(rest++[loc]),[]⟩ (by simp)
  have s3:=hsr ⟨B::L'::L1::(rest++[loc]),[]⟩ (by simp)
  rw[List.map_cons,List.map_cons,List.map_cons,hB _ (by simp),s1,s2,s3.1,s3.2]
  rfl
 case lv=>exact i1'.back hb.hl
theorem AXI:∀(T:List (List Int)) (a:Bool×List (List Int)),runG zR a T=((a.1||!T.isEmpty,T.foldl (fun ws t=>KU ws 0 t) a.2),true)
 |[],a=>by simp[runG]
 |t::T,a=>by have e:(zR a t).2=true:=rfl;rw[runG,if_pos e,AXI T];simp[zR]
def FD(b:AK):List (List Int):=gJ b.winds.length (FE b [] b.winds [])
def lH(b:AK)(B:AA)(ff:FuncId)(cap:List V)(c0:Nat)(z:Bool):Prop:=∀n d fr,G4 (BN Tryz.prog ann kn (n+1200)) (some d) ⟨c0+1,fr,⟨[B],[(2,c0,.box (AC b))]⟩⟩ ff cap=some ⟨c0+1,(d,true,.bool z)::fr,⟨[B],[(2,c0,.box (AC b))]⟩⟩
@[simp] theorem AXJ:CX (.pointer none)=some (.raw (.pointer none)):=rfl
@[simp] theorem AS3(s:St)(f:Nat):A9 s (f+1) (.raw (.pointer none))=some (.raw (.pointer none)):=rfl
theorem _root_.Go.Wind.Valid.w40{b:AK}(hb:Valid b):∀l∈b.winds,l.length≤40:=fun l hl=>by have:=(hb.wl l hl).2;omega
section
variable {b:AK}{B:AA}{ff:FuncId}{cap:List V}
theorem oT(h40:∀l∈b.winds,l.length≤40)(hB:∀t:St,1≤t.up.length→AL t B=B)(hco:cap.all (AH 8)=false)(h:¬CV b=0)(c d:Nat)(fr:Fr):∀n,G4 (BN Tryz.prog ann kn (n+6000)) (some d) ⟨c,fr,⟨[],B⟩⟩ 154 [.agg (AC b),.fn ff [] cap] =
  some ⟨c+1,(d,true,.tup [.raw (.pointer none),i (CV b)])::fr,⟨[],B⟩⟩:=by
 intro n
 rw[BA Tryz.func154 b154 rfl (by simp[AC,AJ,AM,AF,hco])]
 have q1:=fun n=>nG n b h40
 simp only[AC]at q1⊢
 simp[AGN,AG,AJ,AM,AF,q1,h,hB]
theorem uV(hb:Valid b)(hB:∀t:St,1≤t.up.length→AL t B=B)(hcw:cap.map weakV=cap)(hco:cap.all (AH 8)=false)(c d:Nat)(hf:lH b B ff cap c false)(fr:Fr):∀n,G4 (BN Tryz.prog ann kn (n+6000)) (some d) ⟨c,fr,⟨[],B⟩⟩ 154 [.agg (AC b),.fn ff [] cap] =
  some ⟨c+1,(d,true,.tup [.raw (.pointer none),i 2])::fr,⟨[],B⟩⟩:=by
 intro n
 rw[BA Tryz.func154 b154 rfl (by simp[AC,AJ,AM,AF,hco])]
 have q1:=fun n=>nG n b hb.w40
 have hf:=fun n d fr=>hf (n+4795) d fr
 rw[PT hb]at q1
 simp only[AC,Nat.add_assoc,Nat.reduceAdd]at q1 hf⊢
 simp[AGN,AG,AJ,AM,AF,q1,hB,hcw,hf]
theorem YI(γs:Nat→Nat)(k:Nat):ES γs (List.replicate k [])=List.replicate k [.nil]:=by apply List.ext_getElem (by simp[ES]);intro j h1 h2;rw[MU h1 (by simpa [ES]using h1)];simp
noncomputable def uW(b:AK)(c:Nat):AA:=[(BT,c+7,I7 b c .ready),(2,c,.box (AC b)),(7,c+5,.box [.ptr 1 28 (c+4) 0]),(8,c+6,.box [.bool false]),(24,c+1,.vec 22 (List.replicate b.winds.length [.nil])),(25,c+2,.map []),(26,c+3,.map []),
 (28,c+4,.box (AC b++[.vec 1 24 (c+1) b.winds.length,.mp 1 25 (c+2),.mp 1 26 (c+3)]))]
theorem oU:∀(L:AA) (k:Nat),(∀e∈L,e.1≠k)→L.get k=none
 |[],_,_=>rfl
 |(j,x)::L,k,h=>by have h1:=h (j,x) (by simp);rw[AA.get,if_neg fun e=>h1 e.symm];exact oU L k fun e he=>h e (by simp[he])
theorem iR(hb:Valid b)(c:Nat):BAX b c (c+8) true (false,List.replicate b.winds.length []) (uW b c):=by
 have h5:=hb.hl;refine⟨rfl,⟨rfl,rfl,rfl,rfl,rfl,⟨fun _=>0,?_,fun h hh=>?_,fun h h5 _=>?_⟩,rfl,by simp,fun t h1 h2=>?_,rfl,rfl,rfl⟩,⟨fun l hl=>?_,fun l hl x hx=>?_⟩⟩
 ·rw[YI];rfl
 ·exfalso;refine hh ?_;simp only[List.getD_eq_getElem?_getD,List.getElem?_replicate];split<;>rfl
 ·refine oU _ _ fun e he=>?_;simp only[uW,List.mem_cons,List.not_mem_nil,or_false]at he;rcases he with rfl|rfl|rfl|rfl|rfl|rfl|rfl|rfl<;>simp only[BT]<;>omega
 ·have e1:¬1=t.up.length:=by omega
  have hs:=WT (t:=t) h1 (fun _=>0) (List.replicate b.winds.length []);rw[YI]at hs;unfold uW;simp only[A1,FT,hs];obtain⟨up,loc⟩:=t;simp only at e1;have hm:CM ⟨up,loc⟩ (.map [])=.map []:=rfl;simp[I7,AC,AJ,AM,AF,e1,hm]
 ·rw[List.eq_of_mem_replicate hl];simp
 ·rw[List.eq_of_mem_replicate hl]at hx;cases hx
theorem uX(hb:Valid b)(hB:∀t:St,1≤t.up.length→AL t B=B)(hcw:cap.map weakV=cap)(hco:cap.all (AH 8)=false)(c d:Nat)(hf:lH b B ff cap c true)(hT:FE b [] b.winds []=[])(fr:Fr):∃c',c≤c'∧∀n,G4 (BN Tryz.prog ann kn (n+6000)) (some d) ⟨c,fr,⟨[],B⟩⟩ 154 [.agg (AC b),.fn ff [] cap] =
  some ⟨c',(d,true,.tup [.raw (.pointer none),i 11])::fr,⟨[],B⟩⟩:=by
 have q1:=fun n=>nG n b hb.w40
 rw[PT hb]at q1
 have hf:=fun n d fr=>hf (n+4795) d fr
 have q79:=fun n=>AAK n b []
 have hwi:=hb.wi
 have hla:=hb.la
 have hw:IntKind.i64.wrap (b.last+1)=(b.winds.length:Int):=by rw[AV (by omega) (by omega)];omega
 have m1:b.winds.length*24≤140737488355328:=by omega
 have m2:b.winds.length≤maxLen:=by unfold maxLen;omega
 obtain⟨L',c',r1,r2,r3⟩:=pO (out:=[]) hb (by simp) hB (fun c c1 g a L hc h=>⟨h.go,h.lv.mono hc,h.ok⟩) (fun c g a L h=>h.lv.st) (AHP b hb c B hB) (false,List.replicate b.winds.length []) (uW b c) (iR hb c) (lG b c)
 rw[AXI,hT]at r1
 obtain⟨_,⟨p7,p28,p25,p26,p8,hrr,pr,plen,pst,p2,p30,p63⟩,rok⟩:=r1
 have r3:=fun n=>r3 (n+1491)
 refine⟨c',by omega,fun n=>?_⟩
 rw[BA Tryz.func154 b154 rfl (by simp[AC,AJ,AM,AF,hco])]
 simp only[AC,li,List.map_nil,uW,I7,lG,SV,BT,List.cons_append,List.nil_append,Nat.add_assoc,Nat.reduceAdd]at q1 hf q79 r3 p28 pr⊢
 simp[AGN,AG,AJ,AM,AF,q1,hB,hcw,hf,q79,hw,m1,m2,TM,Nat.add_assoc]
 rw[XY rfl]
 simp[BT,Nat.add_assoc]
 rw[r3,fG (by simpa [BT]using pr) (by omega)]
 simp only[List.isEmpty_nil,Bool.not_true,Bool.or_false]at p8
 obtain⟨γs,p24,rrow,rno⟩:=hrr
 have rn:∀h,h<5→L'.get (800+h)=none:=fun h hh=>rno h hh (by
  simp only[List.foldl_nil,List.getD_eq_getElem?_getD,List.getElem?_replicate];split <;> rfl)
 have r0:=rn 0 (by omega)
 have r1:=rn 1 (by omega)
 have r2:=rn 2 (by omega)
 have r3:=rn 3 (by omega)
 have r4:=rn 4 (by omega)
 simp only[Nat.add_zero,Nat.reduceAdd]at r0 r1 r2 r3 r4
 simp[p2,p7,p8,p24,p25,p26,p28,p30,p63,r0,r1,r2,r3,r4,AA.put,BT,hB]
end
theorem AHQ(st:XS):KI [1000000000000024,24,901025,902026,903028] st =
  (fun s=>eO 28 (K9 0 s) 902 [] s) ((fun s=>eO 26 (K9 0 s) 901 [] s) ((fun s=>eO 25 (K9 0 s) 900 [] s) (I0 24 (AJN 24 st)))):=rfl
noncomputable def mvZ(k d c:Nat)(fr:Fr)(B loc:AA):Option (Nat×A6)→XS
 |some (γ,r)=>⟨c,wO 1 k 0 d fr,⟨[(d,γ,SE 1 k 0 d r)::B],mP 1 k 0 d loc⟩⟩
 |none=>⟨c,fr,⟨[B],loc⟩⟩
@[simp] theorem BAY(k d c γ:Nat)(fr:Fr)(B loc:AA)(r:A6):mvZ k d c fr B loc (some (γ,r))=⟨c,wO 1 k 0 d fr,⟨[(d,γ,SE 1 k 0 d r)::B],mP 1 k 0 d loc⟩⟩:=rfl
def plO:Option (Nat×A6)→Bool
 |some x=>gA x.2
 |none=>true
theorem KT(γ:Nat)(r:A6):plO (some (γ,r))=gA r:=rfl
theorem WU{k d c:Nat}{fr:Fr}{B loc:AA}(hp:plO (loc.get k)=true):eO k 0 d [] ⟨c,fr,⟨[B],loc⟩⟩=mvZ k d c fr B loc (loc.get k):=by
 unfold eO;cases h:loc.get k with
 |none=>simp[mvZ,QF,h]
 |some x=>
  obtain⟨γ,r⟩:=x
  rw[h,KT]at hp
  have e3:QF 0 [B].length (some (γ,r))=true:=by simp[QF,hp]
  simp only[h,e3]
  simp[wP,h,mvU,St.put,CW]
theorem WV(c:Nat)(fr:Fr)(B loc:AA):K9 0 ⟨c,fr,⟨[B],loc⟩⟩=0:=rfl
theorem PR(k c:Nat)(fr:Fr)(up:List AA)(loc:AA):AJN k ⟨c,fr,⟨up,loc⟩⟩=QD (wU up.length (loc.get k)) ⟨c,fr,⟨up,loc⟩⟩:=rfl
theorem JN(n γ:Nat)(T:TypeId)(es:List (List V)):wU n (some (γ,.vec T es))=es.filterMap fun e=>match e with
  |[.vec l k _ _]=>if l=n then some k else none
  |_=>none:=rfl
theorem WW(l k f:Nat)(o:Option (Nat×A6))(a:Int):List.map (BK l k o f) (AJ a)=AJ a:=by simp[AJ]
theorem U6(l k f:Nat)(o:Option (Nat×A6))(w:List Int):List.map (List.map (BK l k o f)∘AJ) w=w.map AJ:=List.map_congr_left fun a _=>WW l k f o a
theorem I9(t:St):CM t (.map [])=.map []:=rfl
theorem QV{n k l d:Nat}:wO n k l d []=[]:=rfl
theorem MV{n k l d:Nat}(j:Nat)(c:Bool)(v:V)(fr:Fr):wO n k l d ((j,c,v)::fr)=(j,c,K8 n k l d 3 v)::wO n k l d fr:=rfl
theorem QW{n k l d:Nat}:mP n k l d []=[]:=rfl
theorem MW{n k l d:Nat}(j g:Nat)(r:A6)(L:AA):mP n k l d ((j,g,r)::L)=if j=k then mP n k l d L else(j,g,SE n k l d r)::mP n k l d L:=rfl
theorem MX{n k l d:Nat}(f:Nat)(x:Bool):K8 n k l d f (.bool x)=.bool x:=by cases f<;>rfl
theorem F4{n k l d:Nat}(f:Nat)(x:Bool)(es:List (List V)):K8 n k l d f (.list x es)=.list x es:=by cases f<;>rfl
theorem QX{n k l d a b g o:Nat}(f:Nat):K8 n k l d (f+1) (.ptr a b g o)=if a=n∧b=k then .ptr l d g o else .ptr a b g o:=rfl
theorem WX{n k l d a b g:Nat}(f:Nat):K8 n k l d (f+1) (.mp a b g)=if a=n∧b=k then .mp l d g else .mp a b g:=rfl
theorem G6{n k l d:Nat}(cs:List V):SE n k l d (.box cs)=.box (cs.map (K8 n k l d 3)):=rfl
theorem QY{n k l d:Nat}(es:List (V×V)):SE n k l d (.map es)=.map es:=rfl
theorem MY(k c:Nat)(fr:Fr)(up:List AA)(loc:AA):I0 k ⟨c,fr,⟨up,loc⟩⟩=⟨c,OX up.length k (loc.get k) fr,⟨up,FL up.length k (loc.get k) loc⟩⟩:=rfl
theorem MZ(k:Nat)(ks:List Nat)(st:XS):QD (k::ks) st=QD ks (I0 k st):=rfl
theorem AOB{b:AK}{T:List (List Int)}(hT:T≠[])(hl:∀t∈T,t.length=b.winds.length){h:Nat}(hh:h<b.winds.length):(gJ b.winds.length T).getD h []≠[]:=by obtain⟨t,ht⟩:=List.exists_mem_of_ne_nil _ hT;exact List.ne_nil_of_mem ((zS hh).2 ⟨t,ht,by rw[hl t ht];exact hh,rfl⟩)
section
variable {b:AK}{B:AA}{ff:FuncId}{cap:List V}
theorem AOC{b:AK}:∀t∈FE b [] b.winds [],t.length=b.winds.length:=fun t ht=>by rw[lL]at ht;simp only[List.nil_append,List.map_id',List.mem_filter]at ht;exact CS (QZ.1 ht.1)
theorem AHR(hb:Valid b)(hB:∀t:St,1≤t.up.length→AL t B=B)(hcw:cap.map weakV=cap)(hco:cap.all (AH 8)=false)(c d:Nat)(hf:lH b B ff cap c true)(hT:FE b [] b.winds []≠[])(fr:Fr):∃c',c+8≤c'∧∀n,G4 (BN Tryz.prog ann kn (n+6000)) (some d) ⟨c,fr,⟨[],B⟩⟩ 154 [.agg (AC b),.fn ff [] cap] =
  some ⟨c',(d,true,.tup [.ptr 0 902 (c+4) 0,i 0])::fr,⟨[],(902,c+4,.box (AC b++[G5 (FD b),.mp 0 900 (c+2),.mp 0 901 (c+3)]))::(901,c+3,.map [])::(900,c+2,.map [])::B⟩⟩:=by
 have q1:=fun n=>nG n b hb.w40
 rw[PT hb]at q1
 have hf:=fun n d fr=>hf (n+4795) d fr
 have q79:=fun n=>AAK n b []
 have hwi:=hb.wi
 have hla:=hb.la
 have hw:IntKind.i64.wrap (b.last+1)=(b.winds.length:Int):=by rw[AV (by omega) (by omega)];omega
 have m1:b.winds.length*24≤140737488355328:=by omega
 have m2:b.winds.length≤maxLen:=by unfold maxLen;omega
 obtain⟨L',c',r1,r2,r3⟩:=pO (out:=[]) hb (by simp) hB (fun c c1 g a L hc h=>⟨h.go,h.lv.mono hc,h.ok⟩) (fun c g a L h=>h.lv.st) (AHP b hb c B hB) (false,List.replicate b.winds.length []) (uW b c) (iR hb c) (lG b c)
 rw[AXI]at r1
 have hTe:(FE b [] b.winds []).isEmpty=false:=by cases h:FE b [] b.winds []with|nil=>exact absurd h hT|cons x l=>rfl
 rw[hTe]at r1
 obtain⟨_,⟨p7,p28,p25,p26,p8,hrr,pr,plen,pst,p2,p30,p63⟩,rok⟩:=r1
 have hws:List.foldl (fun ws t=>KU ws 0 t) (List.replicate b.winds.length []) (FE b [] b.winds [])=FD b:=rfl
 have hne:=fun h (hh:h<b.winds.length)=>AOB hT AOC hh
 have hwd:gJ b.winds.length (FE b [] b.winds [])=FD b:=rfl
 rw[hwd]at hne
 simp only[hws]at hrr plen
 have h5:=hb.hl
 have r3:=fun n=>r3 (n+1491)
 refine⟨c',by omega,fun n=>?_⟩
 rw[BA Tryz.func154 b154 rfl (by simp[AC,AJ,AM,AF,hco])]
 simp only[AC,li,List.map_nil,uW,I7,lG,SV,BT,List.cons_append,List.nil_append,Nat.add_assoc,Nat.reduceAdd]at q1 hf q79 r3 p2 p28 pr⊢
 simp[AGN,AG,AJ,AM,AF,q1,hB,hcw,hf,q79,hw,m1,m2,TM,Nat.add_assoc]
 rw[XY rfl]
 simp[BT,Nat.add_assoc]
 rw[r3,fG (by simpa [BT]using pr) (by omega)]
 simp only[Bool.not_false,Bool.or_true]at p8
 obtain⟨γs,p24,rrow,rno⟩:=hrr
 generalize FD b=ws at *
 have hlen:ws.length=1∨ws.length=2∨ws.length=3∨ws.length=4∨ws.length=5:=by omega
 rcases hlen with hl|hl|hl|hl|hl
 ·match ws,hl with
  |[w0],_=>
   have hk1:b.winds.length=1:=plen.symm
   have n0:=hne 0 (by omega)
   have r0:=(rrow 0 n0).1
   have r1:=rno 1 (by omega) rfl
   have r2:=rno 2 (by omega) rfl
   have r3:=rno 3 (by omega) rfl
   have r4:=rno 4 (by omega) rfl
   simp only[List.getD_cons_zero,List.getD_cons_succ]at n0 r0
   simp only[Nat.add_zero,Nat.reduceAdd]at r0 r1 r2 r3 r4
   simp[ES,L5,n0,p2,p7,p8,p24,p25,p26,p28,p30,p63,r0,r1,r2,r3,r4,AA.put,BT,hB,AHQ,PR,JN,MZ,MY,WV,WU,KT,gA,hk1,QV,MV,QW,MW,MX,F4,QX,WX,GF,G6,QY,GH,KS,I9,AM,WW,U6]
 ·match ws,hl with
  |[w0,w1],_=>
   have hk1:b.winds.length=2:=plen.symm
   have n0:=hne 0 (by omega)
   have r0:=(rrow 0 n0).1
   have n1:=hne 1 (by omega)
   have r1:=(rrow 1 n1).1
   have r2:=rno 2 (by omega) rfl
   have r3:=rno 3 (by omega) rfl
   have r4:=rno 4 (by omega) rfl
   simp only[List.getD_cons_zero,List.getD_cons_succ]at n0 n1 r0 r1
   simp only[Nat.add_zero,Nat.reduceAdd]at r0 r1 r2 r3 r4
   simp[ES,L5,n0,n1,p2,p7,p8,p24,p25,p26,p28,p30,p63,r0,r1,r2,r3,r4,AA.put,BT,hB,AHQ,PR,JN,MZ,MY,WV,WU,KT,gA,hk1,QV,MV,QW,MW,MX,F4,QX,WX,GF,G6,QY,GH,KS,I9,AM,WW,U6]
 ·match ws,hl with
  |[w0,w1,w2],_=>
   have hk1:b.winds.length=3:=plen.symm
   have n0:=hne 0 (by omega)
   have r0:=(rrow 0 n0).1
   have n1:=hne 1 (by omega)
   have r1:=(rrow 1 n1).1
   have n2:=hne 2 (by omega)
   have r2:=(rrow 2 n2).1
   have r3:=rno 3 (by omega) rfl
   have r4:=rno 4 (by omega) rfl
   simp only[List.getD_cons_zero,List.getD_cons_succ]at n0 n1 n2 r0 r1 r2
   simp only[Nat.add_zero,Nat.reduceAdd]at r0 r1 r2 r3 r4
   simp[ES,L5,n0,n1,n2,p2,p7,p8,p24,p25,p26,p28,p30,p63,r0,r1,r2,r3,r4,AA.put,BT,hB,AHQ,PR,JN,MZ,MY,WV,WU,KT,gA,hk1,QV,MV,QW,MW,MX,F4,QX,WX,GF,G6,QY,GH,KS,I9,AM,WW,U6]
 ·match ws,hl with
  |[w0,w1,w2,w3],_=>
   have hk1:b.winds.length=4:=plen.symm
   have n0:=hne 0 (by omega)
   have r0:=(rrow 0 n0).1
   have n1:=hne 1 (by omega)
   have r1:=(rrow 1 n1).1
   have n2:=hne 2 (by omega)
   have r2:=(rrow 2 n2).1
   have n3:=hne 3 (by omega)
   have r3:=(rrow 3 n3).1
   have r4:=rno 4 (by omega) rfl
   simp only[List.getD_cons_zero,List.getD_cons_succ]at n0 n1 n2 n3 r0 r1 r2 r3
   simp only[Nat.add_zero,Nat.reduceAdd]at r0 r1 r2 r3 r4
   simp[ES,L5,n0,n1,n2,n3,p2,p7,p8,p24,p25,p26,p28,p30,p63,r0,r1,r2,r3,r4,AA.put,BT,hB,AHQ,PR,JN,MZ,MY,WV,WU,KT,gA,hk1,QV,MV,QW,MW,MX,F4,QX,WX,GF,G6,QY,GH,KS,I9,AM,WW,U6]
 ·match ws,hl with
  |[w0,w1,w2,w3,w4],_=>
   have hk1:b.winds.length=5:=plen.symm
   have n0:=hne 0 (by omega)
   have r0:=(rrow 0 n0).1
   have n1:=hne 1 (by omega)
   have r1:=(rrow 1 n1).1
   have n2:=hne 2 (by omega)
   have r2:=(rrow 2 n2).1
   have n3:=hne 3 (by omega)
   have r3:=(rrow 3 n3).1
   have n4:=hne 4 (by omega)
   have r4:=(rrow 4 n4).1
   simp only[List.getD_cons_zero,List.getD_cons_succ]at n0 n1 n2 n3 n4 r0 r1 r2 r3 r4
   simp only[Nat.add_zero,Nat.reduceAdd]at r0 r1 r2 r3 r4
   simp[ES,L5,n0,n1,n2,n3,n4,p2,p7,p8,p24,p25,p26,p28,p30,p63,r0,r1,r2,r3,r4,AA.put,BT,hB,AHQ,PR,JN,MZ,MY,WV,WU,KT,gA,hk1,QV,MV,QW,MW,MX,F4,QX,WX,GF,G6,QY,GH,KS,I9,AM,WW,U6]
end
end Go.Proofs.Tryz.Op
