/- The level of one who asks for the winds of all truths. No condition. -/
import Derived.Test.YthhdhbalenanjaaGreatO1
import Derived.Test.YthhdhbalenanjaaGreatI1
import Derived.Test.YthhdhbalenanjaaGreatFz
import Derived.Test.YthhdhbalenanjaaGreatW3
set_option maxRecDepth 100000
set_option linter.unusedSimpArgs false
open Go Go.Pg Go.Proofs Go.Wind
namespace Go.Proofs.Tryz.Op
def jE(γ h:Nat):List Int→V
 |[]=>.nil
 |w=>.vec 1 (800+h) γ w.length
@[simp] theorem ACB(γ h:Nat):jE γ h []=.nil:=rfl
theorem KP{γ h:Nat}{w:List Int}(hw:w≠[]):jE γ h w=.vec 1 (800+h) γ w.length:=by
 cases w with
 |nil=>exact absurd rfl hw
 |cons x w=>rfl
def D7(γs:Nat→Nat)(ws:List (List Int)):List (List V):=ws.mapIdx fun h w=>[jE (γs h) h w]
noncomputable def QZ:Code:=.block 1 (.seq (D5 2399) (.seq (D5 5471) (.block 2 (.loop JO))))
@[simp] theorem uAs(n:Nat)(st:XS):AE Tryz.prog ann kn n 69 QZ st=AE Tryz.prog ann kn n 69 (.block 1 (.seq (D5 2399) (.seq (D5 5471) (.block 2 (.loop JO))))) st:=rfl
noncomputable def fG(b:AJ)(c0:Nat):Fr:=[(30,true,.fn 196 [] [.ref (AB b),.ref [li []]]),(29,true,.agg (AB b)),(2,true,.ptr 1 2 c0 0),(7,true,.ptr 1 7 (c0+5) 0),(8,true,.ptr 1 8 (c0+6) 0)]
noncomputable def H6(b:AJ)(c0:Nat)(ls:LS):AZ:=.loop (fG b c0) [31] (D5 607) QZ 69 ls
structure RwA(c0 c:Nat)(ws:List (List Int))(L:AA)(γs:Nat→Nat):Prop where
 p24:L.get 24=some (c0+1,.vec 22 (D7 γs ws))
 row:∀h,ws.getD h []≠[]→L.get (800+h)=some (γs h,.vec 3 ((ws.getD h []).map AH))∧γs h<c
 no:∀h,h<5→ws.getD h []=[]→L.get (800+h)=none
structure tJ(b:AJ)(c0:Nat)(ls:LS)(c:Nat)(s:Bool)(ws:List (List Int))(L:AA):Prop where
 p7:L.get 7=some (c0+5,.box [.ptr 1 28 (c0+4) 0])
 p28:L.get 28=some (c0+4,.box (AB b++[.vec 1 24 (c0+1) b.winds.length,.mp 1 25 (c0+2),.mp 1 26 (c0+3)]))
 p25:L.get 25=some (c0+2,.map [])
 p26:L.get 26=some (c0+3,.map [])
 p8:L.get 8=some (c0+6,.box [.bool s])
 rows:∃γs,RwA c0 c ws L γs
 pr:L.get B9=some (c0+7,H6 b c0 ls)
 len:ws.length=b.winds.length
 st:∀t:St,2≤t.up.length→t.loc.get 63=none→AL t L=L
 pp:L.get 2=some (c0,.box (AB b))∧L.get 30=none∧L.get 63=none
theorem RwA.mono{c0 c c1:Nat}{ws:List (List Int)}{L:AA}{γs:Nat→Nat}(h:RwA c0 c ws L γs)(hc:c≤c1):RwA c0 c1 ws L γs :=
 ⟨h.p24,fun k hk=>⟨(h.row k hk).1,Nat.lt_of_lt_of_le (h.row k hk).2 hc⟩,h.no⟩
theorem tJ.mono{b:AJ}{c0 c c1:Nat}{ls:LS}{s:Bool}{ws:List (List Int)}{L:AA}(h:tJ b c0 ls c s ws L)(hc:c≤c1):tJ b c0 ls c1 s ws L :=
 ⟨h.p7,h.p28,h.p25,h.p26,h.p8,by obtain⟨γs,hr⟩:=h.rows;exact⟨γs,hr.mono hc⟩,h.pr,h.len,h.st,h.pp⟩
theorem MC(st:XS)(v:V)(hv:∀l k o,BD l k o 3 v=v):∀ks,H1 st ks v=v
 |[]=>rfl
 |k::ks=>by
  have ih:=MC st v hv ks;obtain⟨c,fr,up,loc⟩:=st;by_cases h:k<10000
  ·rw[rR _ _ _ _ _ _ _ h,hv,ih]
  ·rw[F3 _ _ _ _ h,hv,ih]
theorem LF{c0 c:Nat}{ws:List (List Int)}{L:AA}{γs:Nat→Nat}(h:RwA c0 c ws L γs){k:Nat}(hk:k≤4)(hne:ws.getD k []≠[])(B:AA)(R:List AA)(c1:Nat)(fr:Fr)(loc:AA) :
  H1 ⟨c1,fr,⟨B::L::R,loc⟩⟩ [20800,20801,20802,20803,20804] (.vec 1 (800+k) (γs k) (ws.getD k []).length)=li (ws.getD k []):=by
 have hr:=(h.row k hne).1
 have e1:¬1=R.length+1+1:=by omega
 have:k=0∨k=1∨k=2∨k=3∨k=4:=by omega
 generalize ws.getD k []=w at hr hne⊢
 have hget:∀j,St.get ⟨B::L::R,loc⟩ 1 j=L.get j:=fun j=>by simp[St.get]
 simp only[F3 _ _ _ _ (show ¬20800<10000 by decide),F3 _ _ _ _ (show ¬20801<10000 by decide),F3 _ _ _ _ (show ¬20802<10000 by decide),F3 _ _ _ _ (show ¬20803<10000 by decide),F3 _ _ _ _ (show ¬20804<10000 by decide),yX,Nat.reduceDiv,Nat.reduceMod,Nat.reduceSub,hget]
 have skip:∀a o,a≠800+k→BD 1 a o 3 (.vec 1 (800+k) (γs k) w.length)=.vec 1 (800+k) (γs k) w.length:=fun a o ha=>by
  simp only[BD];split
  ·rw[if_neg fun e=>ha e.2.1.symm]
  ·rfl
 have hit:BD 1 (800+k) (L.get (800+k)) 3 (.vec 1 (800+k) (γs k) w.length)=li w:=by rw[hr];simp[BD]
 rcases this with rfl|rfl|rfl|rfl|rfl
 ·rw[hit];simp
 ·rw[skip 800 _ (by decide),hit];simp
 ·rw[skip 800 _ (by decide),skip 801 _ (by decide),hit];simp
 ·rw[skip 800 _ (by decide),skip 801 _ (by decide),skip 802 _ (by decide),hit];simp
 ·rw[skip 800 _ (by decide),skip 801 _ (by decide),skip 802 _ (by decide),skip 803 _ (by decide),hit]
theorem LG(γs:Nat→Nat)(ws:List (List Int)):(D7 γs ws).length=ws.length:=by unfold D7;simp
theorem LH{γs:Nat→Nat}{ws:List (List Int)}{h:Nat}(h1:h<(D7 γs ws).length)(h2:h<ws.length):(D7 γs ws)[h]=[jE (γs h) h ws[h]]:=by simp only[D7,List.getElem_mapIdx]
def WN(γs:Nat→Nat)(h c:Nat):Nat→Nat:=fun j=>if j=h then c else γs j
theorem cV{γs:Nat→Nat}{ws:List (List Int)}{h:Nat}(_:h<ws.length)(c:Nat){w:List Int}(hw:w≠[]):(D7 γs ws).set h [.vec 1 (800+h) c w.length]=D7 (WN γs h c) (ws.set h w):=by
 apply List.ext_getElem (by simp[LG]);intro j h1 h2;have hj:j<ws.length:=by simpa [LG]using h1
 rw[List.getElem_set,LH h2 (by simpa using hj),List.getElem_set];by_cases e:h=j
 ·subst e;rw[if_pos rfl,if_pos rfl,KP hw,WN,if_pos rfl]
 ·rw[if_neg e,if_neg e,LH _ hj,WN,if_neg fun h=>e h.symm]
theorem AQ3{n d γ j:Nat}{w:List Int}:KI n 63 1 d 3 (jE γ j w)=jE γ j w:=by
 cases w with
 |nil=>rfl
 |cons x w=>
  show(if 1=n∧800+j=63 then _ else _)=_
  rw[if_neg (by omega)]
theorem ACC{γs:Nat→Nat}{ws:List (List Int)}{h:Nat}(hh:h<ws.length)(n c:Nat){w:List Int}(hw:w≠[]):((D7 γs ws).set h [.vec n 63 c w.length]).map (List.map (KI n 63 1 (800+h) 3))=D7 (WN γs h c) (ws.set h w):=by
 rw[←cV hh c hw,List.map_set];congr 1
 ·apply List.ext_getElem (by simp);intro j h1 h2;have hj:j<ws.length:=by simpa [LG]using h1
  rw[List.getElem_map,LH _ hj];exact congrArg (fun v=>[v]) AQ3
 ·simp[KI]
theorem cW(ws:List (List Int))(h:Nat)(l:List Int)(j:Nat)(hh:h<ws.length):(ws.set h l).getD j []=if j=h then l else ws.getD j []:=by
 simp only[List.getD_eq_getElem?_getD,List.getElem?_set];by_cases e:h=j
 ·subst e;simp[hh]
 ·rw[if_neg e,if_neg fun h=>e h.symm]
theorem RwA.put{c0 c:Nat}{ws:List (List Int)}{L:AA}{γs:Nat→Nat}(hr:RwA c0 c ws L γs){h:Nat}(hh:h<ws.length){w:List Int}(hw:w≠[]){L':AA}
  (h24:L'.get 24=some (c0+1,.vec 22 (D7 (WN γs h c) (ws.set h w)))) (h800:L'.get (800+h)=some (c,.vec 3 (w.map AH))) (hot:∀j,j≠h→L'.get (800+j)=L.get (800+j)):RwA c0 (c+1) (ws.set h w) L' (WN γs h c):=by
 refine⟨h24,fun j hj=>?_,fun j hj5 hj=>?_⟩
 ·rw[cW _ _ _ _ hh]at hj⊢;by_cases e:j=h
  ·subst e;rw[if_pos rfl,WN,if_pos rfl];exact⟨h800,Nat.lt_succ_self _⟩
  ·rw[if_neg e]at hj⊢;rw[hot j e,WN,if_neg e];exact⟨(hr.row j hj).1,Nat.lt_succ_of_lt (hr.row j hj).2⟩
 ·rw[cW _ _ _ _ hh]at hj;by_cases e:j=h
  ·subst e;rw[if_pos rfl]at hj;exact absurd hj hw
  ·rw[if_neg e]at hj;rw[hot j e];exact hr.no j hj5 hj
theorem jF{t:St}{l k γ m:Nat}(h:¬l=t.up.length):BT t (.vec l k γ m)=some (.vec l k γ m):=by obtain⟨up,loc⟩:=t;rw[nS,bG,if_neg h]
theorem UP{t:St}(ht:2≤t.up.length)(γs:Nat→Nat)(ws:List (List Int)):CJ t (.vec 22 (D7 γs ws))=.vec 22 (D7 γs ws):=by
 refine O9 fun e he v hv=>?_;obtain⟨j,hj,rfl⟩:=List.getElem_of_mem he;rw[LH hj (by simpa [LG]using hj)]at hv;simp only[List.mem_cons,List.not_mem_nil,or_false]at hv;subst hv;have hne:¬1=t.up.length:=by omega
 cases ws[j]'(by simpa [LG]using hj)with
 |nil=>rfl
 |cons x w=>exact jF hne
theorem AM1(st:XS):L8 [25008011801063] st=gW 63 (O1 8 st) (rC 800 11 st) [24] st:=rfl
theorem ACD(c:Nat)(fr:Fr)(up:List AA):L8 [25008011801063] ⟨c,fr,⟨up,[]⟩⟩=⟨c,fr,⟨up,[]⟩⟩:=by rw[AM1];rfl
theorem jG{n k l d:Nat}(fr:Fr)(j:Nat):BZ (yJ n k l d fr) j=(BZ fr j).map fun x=>(x.1,KI n k l d 3 x.2):=by rw[FG,FG,gY]
@[simp] theorem AV8(u:Nat)(L:AA)(j:Nat):(J8 u L).get j=if j=u then none else L.get j:=aN u L j
theorem YP(t:St)(u:Nat):∀L:AA,AL t (J8 u L)=J8 u (AL t L)
 |[]=>rfl
 |(q,g,r)::L=>by
  have ih:=YP t u L;rw[A5];unfold J8;by_cases h:q=u
  ·rw[if_pos h,if_pos h,ih]
  ·rw[if_neg h,if_neg h,A5,ih]
theorem cX(u g:Nat)(r:AZ)(L:AA):J8 u ((u,g,r)::L)=J8 u L:=by show(if u=u then J8 u L else _)=_;rw[if_pos rfl]
theorem AQ4(c γ h g7 o7 g24:Nat)(T:TypeId)(es:List (List V))(fr:Fr)(B L:AA)(R:List AA)(r24:AZ)(h7:BZ fr 7=some (true,.ptr 1 7 g7 o7))(h10:BZ fr 10=some (true,.int .i64 h))(h24:L.get 24=some (g24,r24)) :
  L8 [25008011801063] ⟨c,fr,⟨B::L::R,[(63,γ,.vec T es)]⟩⟩=⟨c,yJ (R.length+1+1) 63 1 (800+h) fr,⟨B::((800+h,γ,WV (R.length+1+1) 63 1 (800+h) (.vec T es))::(24,g24,WV (R.length+1+1) 63 1 (800+h) r24)::J8 24 L)::R,[]⟩⟩:=by
 rw[AM1]
 have e1:O1 8 ⟨c,fr,⟨B::L::R,[(63,γ,.vec T es)]⟩⟩=1:=by show(match BZ fr 7 with|some (true,.ptr l _ _ _)=>l|_=>0)=1;rw[h7]
 have e2:rC 800 11 ⟨c,fr,⟨B::L::R,[(63,γ,.vec T es)]⟩⟩=800+h:=by show(match BZ fr 10 with|some (true,.int _ n)=>800+n.toNat|_=>800)=800+h;rw[h10];simp
 rw[e1,e2]
 unfold gW
 have e3:VM 1 (B::L::R).length (AA.get [(63,γ,.vec T es)] 63)=true:=by simp[VM,AA.get,dP]
 simp only[e3]
 simp[yK,AA.get,mvU,h24,mK,St.put,IE]
theorem KQ{n k l d:Nat}(f:Nat)(q:IntKind)(x:Int):KI n k l d f (.int q x)=.int q x:=by cases f<;>rfl
theorem jH{n k l d a b g o:Nat}(f:Nat)(h:¬b=k):KI n k l d f (.ptr a b g o)=.ptr a b g o:=by
 cases f with
 |zero=>rfl
 |succ f=>simp only[KI];rw[if_neg fun e=>h e.2]
theorem JP{n k l d a b g o:Nat}(f:Nat)(h:¬b=k):KI n k l d f (.vec a b g o)=.vec a b g o:=by
 cases f with
 |zero=>rfl
 |succ f=>simp only[KI];rw[if_neg fun e=>h e.2]
theorem KR{n k l d:Nat}(T:TypeId)(es:List (List V)):WV n k l d (.vec T es)=.vec T (es.map (List.map (KI n k l d 3))):=rfl
theorem A3W{k:Nat}{x:Int}(h:k≤10000):CA Tryz.prog 3 k [[.int .i64 x]]=true:=by rw[CH (by simp) (by simp)];simp[maxLen];omega
theorem AIV{P:Program}{fr:Fr}{s:St}(e d c:Nat)(y:List V)(ys:List (List V))(h:CA P e 0 (y::ys)=true):zM P e d c fr s .nil (y::ys)=some (⟨c+1,(d,true,.vec s.up.length d c (ys.length+1))::fr,s.put s.up.length d c (.vec e (y::ys))⟩,[(s.up.length,d),(s.up.length,d+HV)]):=by unfold zM;simp[IV,h]
theorem lAs(b:AJ)(c0:Nat)(h5:b.winds.length≤5)(s:Bool)(t:List Int)(ht:t.length=b.winds.length)(hn:∀n∈t,0≤n∧n≤3)(B:AA)(L1:AA)(R:List AA)(g9:Nat)(p9:L1.get 9=some (g9,.vec 3 (t.map AH))) :
  ∀(d h c:Nat) (ws:List (List Int)) (L:AA),h+d=t.length→tJ b c0 .busy c s ws L→c0+8≤c→DN ws →
  ∃fr' c' L',tJ b c0 .busy c' s (JS ws h (t.drop h)) L'∧c≤c'∧∀n m,d<m→BC (AE Tryz.prog ann kn (n+1400) 69) JO (ann 69 (BR JO)) m ⟨c,[(7,true,.ptr 1 7 (c0+5) 0),(32,true,.vec 2 9 g9 t.length),(33,true,i t.length),(34,true,i h)],⟨B::L::L1::R,[]⟩⟩ =
   some (.exit 2,⟨c',fr',⟨B::L'::L1::R,[]⟩⟩)
 |0,h,c,ws,L,hd,hL,hc,hok=>by
  have:h=t.length:=by omega
  subst this;refine⟨?fr,c,L,by simpa [JS]using hL,Nat.le_refl _,fun n m hm=>?g⟩;case g=>
   obtain⟨m,rfl⟩:∃m',m=m'+1:=⟨m-1,by omega⟩
   rw[AC]
   simp
   rfl
 |d+1,h,c,ws,L,hd,hL,hc,hok=>by
  have hh:h<t.length:=by omega
  have hw:=BH (k:=h) (by omega);have hdrop:t.drop h=t[h]::t.drop (h+1):=List.drop_eq_getElem_cons hh;have hLo:=hL;obtain⟨p7,p28,p25,p26,p8,⟨γs,hr⟩,pr,hlen,pst,pp⟩:=hL;have hg:ws.getD h []=ws[h]'(by omega):=by rw[List.getD_eq_getElem?_getD,List.getElem?_eq_getElem (by omega)];rfl
  have hl4:(ws.getD h []).length≤4:=by rw[hg];exact hok.len _ (List.getElem_mem _)
  have qc:=fun n=>P3 n (ws.getD h []) t[h] (by omega);have h24:=hr.p24;have hra:(D7 γs ws)[h]? = some [jE (γs h) h (ws.getD h [])]:=by unfold D7;rw[List.getElem?_mapIdx,List.getElem?_eq_getElem (by omega),hg];rfl
  have hrl:(D7 γs ws).length=ws.length:=by unfold D7;simp
  have hrx:(D7 γs ws)[h]'(by omega)=[jE (γs h) h (ws.getD h [])]:=by have:=hra;rw[List.getElem?_eq_getElem (by omega),Option.some.injEq]at this;exact this
  have hhw:h<b.winds.length:=by omega
  have hhr:h<(D7 γs ws).length:=by omega
  have ha0:CA Tryz.prog 3 0 [[.int .i64 t[h]]]=true:=A3W (by omega);have hc0:c0<c:=by omega
  have hws:h<ws.length:=by omega
  have hx3:=hn t[h] (List.getElem_mem hh);have hka:∀k,900≤k→(800+h=k)=False:=fun k hk=>by simp;omega
  have hkb:∀k,k<800→(800+h=k)=False:=fun k hk=>by simp;omega
  have hkc:∀k,k<800→(k=800+h)=False:=fun k hk=>by simp;omega
  have hkd:∀k,900≤k→(k=800+h)=False:=fun k hk=>by simp;omega
  have hrb:b.winds.length≤(D7 γs ws).length:=by omega
  by_cases hm:t[h]∈ws.getD h []
  ·have hmd:decide (t[h]∈ws.getD h [])=true:=decide_eq_true hm;rw[hmd]at qc;have hne:ws.getD h []≠[]:=List.ne_nil_of_mem hm;have hwv:=KP (γ:=γs h) (h:=h) hne;have hrt:=fun c1 fr loc=>LF hr (k:=h) (by omega) hne B (L1::R) c1 fr loc;obtain⟨fr',c',L',i1,i2,ih⟩:=lAs b c0 h5 s t ht hn B L1 R g9 p9 d (h+1) c ws L (by omega) hLo hc hok;have hadd:JS ws h (t.drop h)=JS ws (h+1) (t.drop (h+1)):=by rw[hdrop];show JS (N8 ws h t[h]) (h+1) (t.drop (h+1))=_;rw[N8,if_pos hm]
   rw[hadd];refine⟨fr',c',L',i1,i2,fun n m hm'=>?_⟩;obtain⟨m,rfl⟩:∃m',m=m'+1:=⟨m-1,by omega⟩;have ih:=ih n m (by omega);have hfl:∀st x,H1 st [20800,20801,20802,20803,20804] (.int .i64 x)=.int .i64 x:=fun st x=>MC st _ (fun _ _ _=>eN _ _ _) _;rw[hwv]at hrx;generalize ws.getD h []=w at *;rw[AC];simp only[AB,AH]at p28 qc ih⊢;simp at ih;simp[-F3,hh,hw,AH,p7,p28,p9,h24,hhr,hhw,hrb,hrx,hrt,hfl,qc,ACD,ih]
  ·have hmd:decide (t[h]∈ws.getD h [])=false:=decide_eq_false hm;rw[hmd]at qc;have hfl:∀st x,H1 st [20800,20801,20802,20803,20804] (.int .i64 x)=.int .i64 x:=fun st x=>MC st _ (fun _ _ _=>eN _ _ _) _;have hfn:∀st,H1 st [20800,20801,20802,20803,20804] .nil=.nil:=fun st=>MC st _ (fun _ _ _=>yW _) _;by_cases hne:ws.getD h []=[]
   ·rw[hne]at hrx qc;rw[ACB]at hrx;have hne1:([t[h]]:List Int)≠[]:=by simp
    have hadd:N8 ws h t[h]=ws.set h [t[h]]:=by rw[N8,if_neg hm,hne];rfl
    have hrs:=ACC (γs:=γs) hws (R.length+1+1+1) c hne1;have hL':tJ b c0 .busy (c+1) s (ws.set h [t[h]]) ((800+h,c,.vec 3 [[.int .i64 t[h]]])::(24,c0+1,.vec 22 (D7 (WN γs h c) (ws.set h [t[h]])))::J8 24 L):=by
     refine⟨?_,?_,?_,?_,?_,⟨WN γs h c,hr.put hws hne1 (by simp;omega) (by simp[AH]) fun j hj=>by simp[hj,show ¬800+j=24 by omega]⟩,?_,by simpa using hlen,fun T h1 h2=>?_,by simpa [hkc]using pp⟩
     ·simpa [hkc]using p7
     ·simpa [hkc]using p28
     ·simpa [hkc]using p25
     ·simpa [hkc]using p26
     ·simpa [hkc]using p8
     ·simpa [B9,hkd]using pr
     ·rw[A5,A5,YP,UP h1,pst T h1 h2,show[[V.int .i64 t[h]]]=[t[h]].map AH from rfl,FW]
    obtain⟨fr',c',L',i1,i2,ih⟩:=lAs b c0 h5 s t ht hn B L1 R g9 p9 d (h+1) (c+1) _ _ (by omega) hL' (by omega) (by rw[←hadd];exact hok.add h _ hx3);have hadw:JS ws h (t.drop h)=JS (ws.set h [t[h]]) (h+1) (t.drop (h+1)):=by rw[hdrop,←hadd];rfl
    rw[hadw];refine⟨fr',c',L',i1,by omega,fun n m hm'=>?_⟩;obtain⟨m,rfl⟩:∃m',m=m'+1:=⟨m-1,by omega⟩;have ih:=ih n m (by omega);rw[AC];simp only[List.length_singleton]at hrs;have hgh:=fun c1 fr (h7:BZ fr 7=some (true,.ptr 1 7 (c0+5) 0)) (h10:BZ fr 10=some (true,.int .i64 h))=>AQ4 c1 c h _ _ (c0+1) 3 [[.int .i64 t[h]]] fr B ((24,c0+1,.vec 22 ((D7 γs ws).set h [.vec (R.length+1+1+1) 63 c 1]))::L) (L1::R) _ h7 h10 rfl;simp only[AB,AH,li,List.map_nil]at p28 qc ih⊢;simp at ih;simp[-F3,hh,hw,AH,p7,p28,p9,h24,hhr,hhw,hrb,hrx,hfl,hfn,qc,AIV,ha0,hka,hkb,hkc,hkd,HV,IE,hc0,jG,hgh,cX,hrs,KQ,jH,JP,KR,ih]
   ·have hwv:=KP (γ:=γs h) (h:=h) hne;have hrt:=fun c1 fr loc=>LF hr (k:=h) (by omega) hne B (L1::R) c1 fr loc;have hrow:=(hr.row h hne).1;have hγ:=(hr.row h hne).2;rw[hwv]at hrx;have ha1:CA Tryz.prog 3 (ws.getD h []).length [[.int .i64 t[h]]]=true:=A3W (by omega);have hadd:N8 ws h t[h]=ws.set h (ws.getD h []++[t[h]]):=by rw[N8,if_neg hm]
    generalize ws.getD h []=w at *;have hne1:w++[t[h]]≠[]:=by simp
    have hrs:=cV (γs:=γs) hws c hne1;simp only[List.length_append,List.length_singleton]at hrs;have hL':tJ b c0 .busy (c+1) s (ws.set h (w++[t[h]])) ((24,c0+1,.vec 22 (D7 (WN γs h c) (ws.set h (w++[t[h]]))))::(800+h,c,.vec 3 (w.map AH++[[.int .i64 t[h]]]))::L):=by
     refine⟨?_,?_,?_,?_,?_,⟨WN γs h c,hr.put hws hne1 (by simp) (by simp[AH,show ¬800+h=24 by omega]) fun j hj=>by simp[hj,show ¬800+j=24 by omega]⟩,?_,by simpa using hlen,fun T h1 h2=>?_,by simpa [hkc]using pp⟩
     ·simpa [hkc]using p7
     ·simpa [hkc]using p28
     ·simpa [hkc]using p25
     ·simpa [hkc]using p26
     ·simpa [hkc]using p8
     ·simpa [B9,hkd]using pr
     ·have e:(w.map AH++[[V.int .i64 t[h]]])=(w++[t[h]]).map AH:=by simp[AH]
      rw[A5,A5,UP h1,e,FW,pst T h1 h2]
    obtain⟨fr',c',L',i1,i2,ih⟩:=lAs b c0 h5 s t ht hn B L1 R g9 p9 d (h+1) (c+1) _ _ (by omega) hL' (by omega) (by rw[←hadd];exact hok.add h _ hx3);have hadw:JS ws h (t.drop h)=JS (ws.set h (w++[t[h]])) (h+1) (t.drop (h+1)):=by rw[hdrop,←hadd];rfl
    rw[hadw];refine⟨fr',c',L',i1,by omega,fun n m hm'=>?_⟩;obtain⟨m,rfl⟩:∃m',m=m'+1:=⟨m-1,by omega⟩;have ih:=ih n m (by omega);rw[AC];simp only[AB,AH]at p28 qc ih⊢;simp at ih;simp[-F3,hh,hw,AH,p7,p28,p9,h24,hhr,hhw,hrb,hrx,hrt,hfl,qc,hrow,hγ,ha1,hka,hkb,hkc,hkd,HV,IE,hc0,hrs,ACD,ih]
structure A3X(b:AJ)(c0:Nat)(c:Nat)(g:Bool)(a:Bool×List (List Int))(L:AA):Prop where
 go:g=true
 lv:tJ b c0 .ready c a.1 a.2 L
 ok:DN a.2
def tK(a:Bool×List (List Int))(t:List Int):(Bool×List (List Int))×Bool:=((true,JS a.2 0 t),true)
theorem tJ.put{b:AJ}{c0 c:Nat}{ls ls':LS}{s s':Bool}{ws:List (List Int)}{L:AA}(h:tJ b c0 ls c s ws L)(h5:b.winds.length≤5):tJ b c0 ls' c s' ws ((8,c0+6,.box [.bool s'])::(B9,c0+7,H6 b c0 ls')::L):=by
 obtain⟨p7,p28,p25,p26,p8,⟨γs,hr⟩,pr,hlen,pst,pp⟩:=h;refine⟨by simpa [B9]using p7,by simpa [B9]using p28,by simpa [B9]using p25,by simpa [B9]using p26,by simp,⟨γs,by simpa [B9]using hr.p24,fun j hj=>?_,fun j hj5 hj=>?_⟩,by simp[B9],hlen,fun t h1 h2=>?_,by simpa [B9]using pp⟩
 ·have hj4:(j:Nat)<ws.length:=by
   rcases Nat.lt_or_ge j ws.length with h|h
   ·exact h
   ·exact absurd (by rw[List.getD_eq_getElem?_getD,List.getElem?_eq_none h];rfl) hj
  have e1:¬800+j=8:=by omega
  have e2:¬800+j=1000000:=by omega
  have:=hr.row j hj;simpa [B9,e1,e2]using this
 ·have e1:¬800+j=8:=by omega
  have e2:¬800+j=1000000:=by omega
  have:=hr.no j hj5 hj;simpa [B9,e1,e2]using this
 ·rw[A5,A5,pst t h1 h2];simp[H6]
theorem tJ.back{b:AJ}{c0 c:Nat}{ls ls':LS}{s:Bool}{ws:List (List Int)}{L:AA}(h:tJ b c0 ls c s ws L)(h5:b.winds.length≤5):tJ b c0 ls' c s ws ((B9,c0+7,H6 b c0 ls')::L):=by
 obtain⟨p7,p28,p25,p26,p8,⟨γs,hr⟩,pr,hlen,pst,pp⟩:=h;refine⟨by simpa [B9]using p7,by simpa [B9]using p28,by simpa [B9]using p25,by simpa [B9]using p26,by simpa [B9]using p8,⟨γs,by simpa [B9]using hr.p24,fun j hj=>?_,fun j hj5 hj=>?_⟩,by simp[B9],hlen,fun t h1 h2=>?_,by simpa [B9]using pp⟩
 ·have hj4:(j:Nat)<ws.length:=by
   rcases Nat.lt_or_ge j ws.length with h|h
   ·exact h
   ·exact absurd (by rw[List.getD_eq_getElem?_getD,List.getElem?_eq_none h];rfl) hj
  have e2:¬800+j=1000000:=by omega
  have:=hr.row j hj;simpa [B9,e2]using this
 ·have e2:¬800+j=1000000:=by omega
  have:=hr.no j hj5 hj;simpa [B9,e2]using this
 ·rw[A5,pst t h1 h2];simp[H6]
theorem ACE(b:AJ)(hb:Valid b)(c0:Nat)(B:AA)(hB:∀t:St,1≤t.up.length→AL t B=B):fQ B b (A3X b c0) tK (c0+7) 1500:=by
 intro a L L1 rest loc c fr t g9 hL hc ht p9 hst;obtain⟨_,hL,hok⟩:=hL;have hL0:=hL.put (ls':=.busy) (s':=true) hb.hl;have hlt:=BU ht;obtain⟨fr',c',L',i1,i2,ih⟩:=lAs b c0 hb.hl true t hlt (N9 hb ht) B L1 (rest++[loc]) g9 p9 t.length 0 c a.2 _ (by omega) hL0 (by omega) hok;rw[List.drop_zero]at i1;have i1':=i1;obtain⟨q7,q28,q25,q26,q8,hrr,qr,qlen,qst,qpp⟩:=i1;have p8:=hL.p8;have pr:=hL.pr;have e1:c0+7<c:=by omega
 have e2:c0+7<c':=by omega
 have e3:c0+6<c:=by omega
 have e4:c0<c:=by omega
 have hun:∀A A':AA,CX (A::A'::L1::(rest++[loc]))=some (A::A'::L1::rest,loc):=fun A A'=>by rw[←List.cons_append,←List.cons_append,←List.cons_append,D4]
 have hst':=fun t h=>hst t h;simp only[List.map_cons,List.map_append,List.map_nil,List.cons.injEq]at hst';have hsr:∀t:St,(L1::(rest++[loc])).length+2≤t.up.length→(rest.map (AL t)=rest∧AL t loc=loc):=fun t h=>by have:=(hst' t h).2;exact⟨List.append_inj_left' this rfl,by simpa using List.append_inj_right' this rfl⟩
 have h1s:∀t:St,(L1::(rest++[loc])).length+2≤t.up.length→AL t L1=L1:=fun t h=>(hst' t h).1;refine⟨?L,c',⟨rfl,?lv,DN.adds t hok 0 (N9 hb ht)⟩,i2,fun n=>?g⟩;case g=>
  rw[AKK (by simpa [H6]using pr) rfl (by omega)]
  simp only[LP,Fr.put,fG]
  have h5:=hb.hl
  have ih:=ih (n+95) (n+1495) (by omega)
  rw[show n+95+1400=n+1495 by omega]at ih
  simp
  rw[cL (fr0:=fG b c0) (ps:=[31]) (asg:=(D5 607)) (body':=QZ) (N:=69) (by simpa [H6]using pr) e1]
  rw[show AZ.loop (fG b c0) [31] (D5 607) QZ 69 LS.busy=H6 b c0 .busy from rfl]
  simp[B9]at ih
  simp[p8,AA.put,B9,e3]
  rw[show(33,true,V.int IntKind.i64 (b.winds.length:Int))=(33,true,V.int IntKind.i64 (t.length:Int)) by rw[hlt],←hlt]
  rw[ih]
  simp
  rw[show(1000000:Nat)=B9 from rfl,cM (fr0:=fG b c0) (ps:=[31]) (asg:=(D5 607)) (body:=QZ) (N:=69) (by simpa [H6]using qr) (hun _ _) (by simp) e2]
  have s1:AL ⟨B::L'::L1::(rest++[loc]),[]⟩ L'=L':=qst _ (by simp) rfl
  have s2:=h1s ⟨B::L'::L1::(rest++[loc]),[]⟩ (by simp)
  have s3:=hsr ⟨B::L'::L1::(rest++[loc]),[]⟩ (by simp)
  rw[List.map_cons,List.map_cons,List.map_cons,hB _ (by simp),s1,s2,s3.1,s3.2]
  rfl
 case lv=>exact i1'.back hb.hl
theorem AQ5:∀(T:List (List Int)) (a:Bool×List (List Int)),runG tK a T=((a.1||!T.isEmpty,T.foldl (fun ws t=>JS ws 0 t) a.2),true)
 |[],a=>by simp[runG]
 |t::T,a=>by have e:(tK a t).2=true:=rfl;rw[runG,if_pos e,AQ5 T];simp[tK]
def F5(b:AJ):List (List Int):=jK b.winds.length (E6 b [] b.winds [])
def fH(b:AJ)(B:AA)(ff:FuncId)(cap:List V)(c0:Nat)(z:Bool):Prop:=∀n d fr,G4 (BN Tryz.prog ann kn (n+1200)) (some d) ⟨c0+1,fr,⟨[B],[(2,c0,.box (AB b))]⟩⟩ ff cap=some ⟨c0+1,(d,true,.bool z)::fr,⟨[B],[(2,c0,.box (AB b))]⟩⟩
@[simp] theorem AQ6:CP (.pointer none)=some (.raw (.pointer none)):=rfl
@[simp] theorem AM2(s:St)(f:Nat):A2 s (f+1) (.raw (.pointer none))=some (.raw (.pointer none)):=rfl
theorem _root_.Go.Wind.Valid.w40{b:AJ}(hb:Valid b):∀l∈b.winds,l.length≤40:=fun l hl=>by have:=(hb.wl l hl).2;omega
section
variable {b:AJ}{B:AA}{ff:FuncId}{cap:List V}
theorem jI(h40:∀l∈b.winds,l.length≤40)(hB:∀t:St,1≤t.up.length→AL t B=B)(hco:cap.all (AK 8)=false)(h:¬CE b=0)(c d:Nat)(fr:Fr):∀n,G4 (BN Tryz.prog ann kn (n+6000)) (some d) ⟨c,fr,⟨[],B⟩⟩ 154 [.agg (AB b),.fn ff [] cap] =
  some ⟨c+1,(d,true,.tup [.raw (.pointer none),i (CE b)])::fr,⟨[],B⟩⟩:=by
 intro n
 rw[A7 Tryz.func154 b154 rfl (by simp[AB,AH,AM,AG,hco])]
 have q1:=fun n=>VV n b h40
 simp only[AB]at q1⊢
 simp[ABB,AF,AH,AM,AG,q1,h,hB]
theorem oU(hb:Valid b)(hB:∀t:St,1≤t.up.length→AL t B=B)(hcw:cap.map weakV=cap)(hco:cap.all (AK 8)=false)(c d:Nat)(hf:fH b B ff cap c false)(fr:Fr):∀n,G4 (BN Tryz.prog ann kn (n+6000)) (some d) ⟨c,fr,⟨[],B⟩⟩ 154 [.agg (AB b),.fn ff [] cap] =
  some ⟨c+1,(d,true,.tup [.raw (.pointer none),i 2])::fr,⟨[],B⟩⟩:=by
 intro n
 rw[A7 Tryz.func154 b154 rfl (by simp[AB,AH,AM,AG,hco])]
 have q1:=fun n=>VV n b hb.w40
 have hf:=fun n d fr=>hf (n+4795) d fr
 rw[JV hb]at q1
 simp only[AB,Nat.add_assoc,Nat.reduceAdd]at q1 hf⊢
 simp[ABB,AF,AH,AM,AG,q1,hB,hcw,hf]
theorem V0(γs:Nat→Nat)(k:Nat):D7 γs (List.replicate k [])=List.replicate k [.nil]:=by apply List.ext_getElem (by simp[D7]);intro j h1 h2;rw[LH h1 (by simpa [D7]using h1)];simp
noncomputable def oV(b:AJ)(c:Nat):AA:=[(B9,c+7,H6 b c .ready),(2,c,.box (AB b)),(7,c+5,.box [.ptr 1 28 (c+4) 0]),(8,c+6,.box [.bool false]),(24,c+1,.vec 22 (List.replicate b.winds.length [.nil])),(25,c+2,.map []),(26,c+3,.map []),
 (28,c+4,.box (AB b++[.vec 1 24 (c+1) b.winds.length,.mp 1 25 (c+2),.mp 1 26 (c+3)]))]
theorem jJ:∀(L:AA) (k:Nat),(∀e∈L,e.1≠k)→L.get k=none
 |[],_,_=>rfl
 |(j,x)::L,k,h=>by have h1:=h (j,x) (by simp);rw[AA.get,if_neg fun e=>h1 e.symm];exact jJ L k fun e he=>h e (by simp[he])
theorem cY(hb:Valid b)(c:Nat):A3X b c (c+8) true (false,List.replicate b.winds.length []) (oV b c):=by
 have h5:=hb.hl;refine⟨rfl,⟨rfl,rfl,rfl,rfl,rfl,⟨fun _=>0,?_,fun h hh=>?_,fun h h5 _=>?_⟩,rfl,by simp,fun t h1 h2=>?_,rfl,rfl,rfl⟩,⟨fun l hl=>?_,fun l hl x hx=>?_⟩⟩
 ·rw[V0];rfl
 ·exfalso;refine hh ?_;simp only[List.getD_eq_getElem?_getD,List.getElem?_replicate];split<;>rfl
 ·refine jJ _ _ fun e he=>?_;simp only[oV,List.mem_cons,List.not_mem_nil,or_false]at he;rcases he with rfl|rfl|rfl|rfl|rfl|rfl|rfl|rfl<;>simp only[B9]<;>omega
 ·have e1:¬1=t.up.length:=by omega
  have hs:=UP (t:=t) h1 (fun _=>0) (List.replicate b.winds.length []);rw[V0]at hs;unfold oV;simp only[A5,C5,hs];obtain⟨up,loc⟩:=t;simp only at e1;have hm:CJ ⟨up,loc⟩ (.map [])=.map []:=rfl;simp[H6,AB,AH,AM,AG,e1,hm]
 ·rw[List.eq_of_mem_replicate hl];simp
 ·rw[List.eq_of_mem_replicate hl]at hx;cases hx
theorem oW(hb:Valid b)(hB:∀t:St,1≤t.up.length→AL t B=B)(hcw:cap.map weakV=cap)(hco:cap.all (AK 8)=false)(c d:Nat)(hf:fH b B ff cap c true)(hT:E6 b [] b.winds []=[])(fr:Fr):∃c',c≤c'∧∀n,G4 (BN Tryz.prog ann kn (n+6000)) (some d) ⟨c,fr,⟨[],B⟩⟩ 154 [.agg (AB b),.fn ff [] cap] =
  some ⟨c',(d,true,.tup [.raw (.pointer none),i 11])::fr,⟨[],B⟩⟩:=by
 have q1:=fun n=>VV n b hb.w40
 rw[JV hb]at q1
 have hf:=fun n d fr=>hf (n+4795) d fr
 have q79:=fun n=>tY n b []
 have hwi:=hb.wi
 have hla:=hb.la
 have hw:IntKind.i64.wrap (b.last+1)=(b.winds.length:Int):=by rw[AV (by omega) (by omega)];omega
 have m1:b.winds.length*24≤140737488355328:=by omega
 have m2:b.winds.length≤maxLen:=by unfold maxLen;omega
 obtain⟨L',c',r1,r2,r3⟩:=kB (out:=[]) hb (by simp) hB (fun c c1 g a L hc h=>⟨h.go,h.lv.mono hc,h.ok⟩) (fun c g a L h=>h.lv.st) (ACE b hb c B hB) (false,List.replicate b.winds.length []) (oV b c) (cY hb c) (fG b c)
 rw[AQ5,hT]at r1
 obtain⟨_,⟨p7,p28,p25,p26,p8,hrr,pr,plen,pst,p2,p30,p63⟩,rok⟩:=r1
 have r3:=fun n=>r3 (n+1491)
 refine⟨c',by omega,fun n=>?_⟩
 rw[A7 Tryz.func154 b154 rfl (by simp[AB,AH,AM,AG,hco])]
 simp only[AB,li,List.map_nil,oV,H6,fG,QZ,B9,List.cons_append,List.nil_append,Nat.add_assoc,Nat.reduceAdd]at q1 hf q79 r3 p28 pr⊢
 simp[ABB,AF,AH,AM,AG,q1,hB,hcw,hf,q79,hw,m1,m2,bE,Nat.add_assoc]
 rw[eO rfl]
 simp[B9,Nat.add_assoc]
 rw[r3,nE (by simpa [B9]using pr) (by omega)]
 simp only[List.isEmpty_nil,Bool.not_true,Bool.or_false]at p8
 obtain⟨γs,p24,rrow,rno⟩:=hrr
 have rn:∀h,h<5→L'.get (800+h)=none:=fun h hh=>rno h hh (by
  simp only[List.foldl_nil,List.getD_eq_getElem?_getD,List.getElem?_replicate];split <;> rfl)
 have r0:=rn 0 (by omega)
 have r1:=rn 1 (by omega)
 have r2:=rn 2 (by omega)
 have r3:=rn 3 (by omega)
 have r4:=rn 4 (by omega)
 simp only[Nat.add_zero,Nat.reduceAdd]at r0 r1 r2 r3 r4
 simp[p2,p7,p8,p24,p25,p26,p28,p30,p63,r0,r1,r2,r3,r4,AA.put,B9,hB]
end
theorem ACF(st:XS):L8 [1000000000000024,24,901025,902026,903028] st =
  (fun s=>gW 28 (O1 0 s) 902 [] s) ((fun s=>gW 26 (O1 0 s) 901 [] s) ((fun s=>gW 25 (O1 0 s) 900 [] s) (H0 24 (AD8 24 st)))):=rfl
noncomputable def mvZ(k d c:Nat)(fr:Fr)(B loc:AA):Option (Nat×AZ)→XS
 |some (γ,r)=>⟨c,yJ 1 k 0 d fr,⟨[(d,γ,WV 1 k 0 d r)::B],mK 1 k 0 d loc⟩⟩
 |none=>⟨c,fr,⟨[B],loc⟩⟩
@[simp] theorem A3Y(k d c γ:Nat)(fr:Fr)(B loc:AA)(r:AZ):mvZ k d c fr B loc (some (γ,r))=⟨c,yJ 1 k 0 d fr,⟨[(d,γ,WV 1 k 0 d r)::B],mK 1 k 0 d loc⟩⟩:=rfl
def plO:Option (Nat×AZ)→Bool
 |some x=>dP x.2
 |none=>true
theorem JQ(γ:Nat)(r:AZ):plO (some (γ,r))=dP r:=rfl
theorem UQ{k d c:Nat}{fr:Fr}{B loc:AA}(hp:plO (loc.get k)=true):gW k 0 d [] ⟨c,fr,⟨[B],loc⟩⟩=mvZ k d c fr B loc (loc.get k):=by
 unfold gW;cases h:loc.get k with
 |none=>simp[mvZ,VM,h]
 |some x=>
  obtain⟨γ,r⟩:=x
  rw[h,JQ]at hp
  have e3:VM 0 [B].length (some (γ,r))=true:=by simp[VM,hp]
  simp only[h,e3]
  simp[yK,h,mvU,St.put,IE]
theorem UR(c:Nat)(fr:Fr)(B loc:AA):O1 0 ⟨c,fr,⟨[B],loc⟩⟩=0:=rfl
theorem N7(k c:Nat)(fr:Fr)(up:List AA)(loc:AA):AD8 k ⟨c,fr,⟨up,loc⟩⟩=OZ (rA up.length (loc.get k)) ⟨c,fr,⟨up,loc⟩⟩:=rfl
theorem IJ(n γ:Nat)(T:TypeId)(es:List (List V)):rA n (some (γ,.vec T es))=es.filterMap fun e=>match e with
  |[.vec l k _ _]=>if l=n then some k else none
  |_=>none:=rfl
theorem US(l k f:Nat)(o:Option (Nat×AZ))(a:Int):List.map (BD l k o f) (AH a)=AH a:=by simp[AH]
theorem S7(l k f:Nat)(o:Option (Nat×AZ))(w:List Int):List.map (List.map (BD l k o f)∘AH) w=w.map AH:=List.map_congr_left fun a _=>US l k f o a
theorem JI(t:St):CJ t (.map [])=.map []:=rfl
theorem PM{n k l d:Nat}:yJ n k l d []=[]:=rfl
theorem LI{n k l d:Nat}(j:Nat)(c:Bool)(v:V)(fr:Fr):yJ n k l d ((j,c,v)::fr)=(j,c,KI n k l d 3 v)::yJ n k l d fr:=rfl
theorem PN{n k l d:Nat}:mK n k l d []=[]:=rfl
theorem LJ{n k l d:Nat}(j g:Nat)(r:AZ)(L:AA):mK n k l d ((j,g,r)::L)=if j=k then mK n k l d L else(j,g,WV n k l d r)::mK n k l d L:=rfl
theorem LK{n k l d:Nat}(f:Nat)(x:Bool):KI n k l d f (.bool x)=.bool x:=by cases f<;>rfl
theorem JR{n k l d:Nat}(f:Nat)(x:Bool)(es:List (List V)):KI n k l d f (.list x es)=.list x es:=by cases f<;>rfl
theorem PO{n k l d a b g o:Nat}(f:Nat):KI n k l d (f+1) (.ptr a b g o)=if a=n∧b=k then .ptr l d g o else .ptr a b g o:=rfl
theorem UT{n k l d a b g:Nat}(f:Nat):KI n k l d (f+1) (.mp a b g)=if a=n∧b=k then .mp l d g else .mp a b g:=rfl
theorem MD{n k l d:Nat}(cs:List V):WV n k l d (.box cs)=.box (cs.map (KI n k l d 3)):=rfl
theorem PQ{n k l d:Nat}(es:List (V×V)):WV n k l d (.map es)=.map es:=rfl
theorem LL(k c:Nat)(fr:Fr)(up:List AA)(loc:AA):H0 k ⟨c,fr,⟨up,loc⟩⟩=⟨c,NE up.length k (loc.get k) fr,⟨up,E1 up.length k (loc.get k) loc⟩⟩:=rfl
theorem LM(k:Nat)(ks:List Nat)(st:XS):OZ (k::ks) st=OZ ks (H0 k st):=rfl
theorem AIW{b:AJ}{T:List (List Int)}(hT:T≠[])(hl:∀t∈T,t.length=b.winds.length){h:Nat}(hh:h<b.winds.length):(jK b.winds.length T).getD h []≠[]:=by obtain⟨t,ht⟩:=List.exists_mem_of_ne_nil _ hT;exact List.ne_nil_of_mem ((AIY hh).2 ⟨t,ht,by rw[hl t ht];exact hh,rfl⟩)
section
variable {b:AJ}{B:AA}{ff:FuncId}{cap:List V}
theorem AIX{b:AJ}:∀t∈E6 b [] b.winds [],t.length=b.winds.length:=fun t ht=>by rw[fP]at ht;simp only[List.nil_append,List.map_id',List.mem_filter]at ht;exact BU (PR.1 ht.1)
theorem ACG(hb:Valid b)(hB:∀t:St,1≤t.up.length→AL t B=B)(hcw:cap.map weakV=cap)(hco:cap.all (AK 8)=false)(c d:Nat)(hf:fH b B ff cap c true)(hT:E6 b [] b.winds []≠[])(fr:Fr):∃c',c+8≤c'∧∀n,G4 (BN Tryz.prog ann kn (n+6000)) (some d) ⟨c,fr,⟨[],B⟩⟩ 154 [.agg (AB b),.fn ff [] cap] =
  some ⟨c',(d,true,.tup [.ptr 0 902 (c+4) 0,i 0])::fr,⟨[],(902,c+4,.box (AB b++[GN (F5 b),.mp 0 900 (c+2),.mp 0 901 (c+3)]))::(901,c+3,.map [])::(900,c+2,.map [])::B⟩⟩:=by
 have q1:=fun n=>VV n b hb.w40
 rw[JV hb]at q1
 have hf:=fun n d fr=>hf (n+4795) d fr
 have q79:=fun n=>tY n b []
 have hwi:=hb.wi
 have hla:=hb.la
 have hw:IntKind.i64.wrap (b.last+1)=(b.winds.length:Int):=by rw[AV (by omega) (by omega)];omega
 have m1:b.winds.length*24≤140737488355328:=by omega
 have m2:b.winds.length≤maxLen:=by unfold maxLen;omega
 obtain⟨L',c',r1,r2,r3⟩:=kB (out:=[]) hb (by simp) hB (fun c c1 g a L hc h=>⟨h.go,h.lv.mono hc,h.ok⟩) (fun c g a L h=>h.lv.st) (ACE b hb c B hB) (false,List.replicate b.winds.length []) (oV b c) (cY hb c) (fG b c)
 rw[AQ5]at r1
 have hTe:(E6 b [] b.winds []).isEmpty=false:=by cases h:E6 b [] b.winds []with|nil=>exact absurd h hT|cons x l=>rfl
 rw[hTe]at r1
 obtain⟨_,⟨p7,p28,p25,p26,p8,hrr,pr,plen,pst,p2,p30,p63⟩,rok⟩:=r1
 have hws:List.foldl (fun ws t=>JS ws 0 t) (List.replicate b.winds.length []) (E6 b [] b.winds [])=F5 b:=rfl
 have hne:=fun h (hh:h<b.winds.length)=>AIW hT AIX hh
 have hwd:jK b.winds.length (E6 b [] b.winds [])=F5 b:=rfl
 rw[hwd]at hne
 simp only[hws]at hrr plen
 have h5:=hb.hl
 have r3:=fun n=>r3 (n+1491)
 refine⟨c',by omega,fun n=>?_⟩
 rw[A7 Tryz.func154 b154 rfl (by simp[AB,AH,AM,AG,hco])]
 simp only[AB,li,List.map_nil,oV,H6,fG,QZ,B9,List.cons_append,List.nil_append,Nat.add_assoc,Nat.reduceAdd]at q1 hf q79 r3 p2 p28 pr⊢
 simp[ABB,AF,AH,AM,AG,q1,hB,hcw,hf,q79,hw,m1,m2,bE,Nat.add_assoc]
 rw[eO rfl]
 simp[B9,Nat.add_assoc]
 rw[r3,nE (by simpa [B9]using pr) (by omega)]
 simp only[Bool.not_false,Bool.or_true]at p8
 obtain⟨γs,p24,rrow,rno⟩:=hrr
 generalize F5 b=ws at *
 have hlen:ws.length=1∨ws.length=2∨ws.length=3∨ws.length=4∨ws.length=5:=by omega
 rcases hlen with hl|hl|hl|hl|hl
 ·match ws,hl with
  |[w0],_=>
   have hk1:b.winds.length=1:=plen.symm
   have n0:=hne 0 (by omega)
   have r0:=(rrow 0 n0).1
   have r1:=rno 1 (by omega) rfl
   have r2:=rno 2 (by omega) rfl
   have r3:=rno 3 (by omega) rfl
   have r4:=rno 4 (by omega) rfl
   simp only[List.getD_cons_zero,List.getD_cons_succ]at n0 r0
   simp only[Nat.add_zero,Nat.reduceAdd]at r0 r1 r2 r3 r4
   simp[D7,KP,n0,p2,p7,p8,p24,p25,p26,p28,p30,p63,r0,r1,r2,r3,r4,AA.put,B9,hB,ACF,N7,IJ,LM,LL,UR,UQ,JQ,dP,hk1,PM,LI,PN,LJ,LK,JR,PO,UT,KQ,MD,PQ,KR,JP,JI,AM,US,S7]
 ·match ws,hl with
  |[w0,w1],_=>
   have hk1:b.winds.length=2:=plen.symm
   have n0:=hne 0 (by omega)
   have r0:=(rrow 0 n0).1
   have n1:=hne 1 (by omega)
   have r1:=(rrow 1 n1).1
   have r2:=rno 2 (by omega) rfl
   have r3:=rno 3 (by omega) rfl
   have r4:=rno 4 (by omega) rfl
   simp only[List.getD_cons_zero,List.getD_cons_succ]at n0 n1 r0 r1
   simp only[Nat.add_zero,Nat.reduceAdd]at r0 r1 r2 r3 r4
   simp[D7,KP,n0,n1,p2,p7,p8,p24,p25,p26,p28,p30,p63,r0,r1,r2,r3,r4,AA.put,B9,hB,ACF,N7,IJ,LM,LL,UR,UQ,JQ,dP,hk1,PM,LI,PN,LJ,LK,JR,PO,UT,KQ,MD,PQ,KR,JP,JI,AM,US,S7]
 ·match ws,hl with
  |[w0,w1,w2],_=>
   have hk1:b.winds.length=3:=plen.symm
   have n0:=hne 0 (by omega)
   have r0:=(rrow 0 n0).1
   have n1:=hne 1 (by omega)
   have r1:=(rrow 1 n1).1
   have n2:=hne 2 (by omega)
   have r2:=(rrow 2 n2).1
   have r3:=rno 3 (by omega) rfl
   have r4:=rno 4 (by omega) rfl
   simp only[List.getD_cons_zero,List.getD_cons_succ]at n0 n1 n2 r0 r1 r2
   simp only[Nat.add_zero,Nat.reduceAdd]at r0 r1 r2 r3 r4
   simp[D7,KP,n0,n1,n2,p2,p7,p8,p24,p25,p26,p28,p30,p63,r0,r1,r2,r3,r4,AA.put,B9,hB,ACF,N7,IJ,LM,LL,UR,UQ,JQ,dP,hk1,PM,LI,PN,LJ,LK,JR,PO,UT,KQ,MD,PQ,KR,JP,JI,AM,US,S7]
 ·match ws,hl with
  |[w0,w1,w2,w3],_=>
   have hk1:b.winds.length=4:=plen.symm
   have n0:=hne 0 (by omega)
   have r0:=(rrow 0 n0).1
   have n1:=hne 1 (by omega)
   have r1:=(rrow 1 n1).1
   have n2:=hne 2 (by omega)
   have r2:=(rrow 2 n2).1
   have n3:=hne 3 (by omega)
   have r3:=(rrow 3 n3).1
   have r4:=rno 4 (by omega) rfl
   simp only[List.getD_cons_zero,List.getD_cons_succ]at n0 n1 n2 n3 r0 r1 r2 r3
   simp only[Nat.add_zero,Nat.reduceAdd]at r0 r1 r2 r3 r4
   simp[D7,KP,n0,n1,n2,n3,p2,p7,p8,p24,p25,p26,p28,p30,p63,r0,r1,r2,r3,r4,AA.put,B9,hB,ACF,N7,IJ,LM,LL,UR,UQ,JQ,dP,hk1,PM,LI,PN,LJ,LK,JR,PO,UT,KQ,MD,PQ,KR,JP,JI,AM,US,S7]
 ·match ws,hl with
  |[w0,w1,w2,w3,w4],_=>
   have hk1:b.winds.length=5:=plen.symm
   have n0:=hne 0 (by omega)
   have r0:=(rrow 0 n0).1
   have n1:=hne 1 (by omega)
   have r1:=(rrow 1 n1).1
   have n2:=hne 2 (by omega)
   have r2:=(rrow 2 n2).1
   have n3:=hne 3 (by omega)
   have r3:=(rrow 3 n3).1
   have n4:=hne 4 (by omega)
   have r4:=(rrow 4 n4).1
   simp only[List.getD_cons_zero,List.getD_cons_succ]at n0 n1 n2 n3 n4 r0 r1 r2 r3 r4
   simp only[Nat.add_zero,Nat.reduceAdd]at r0 r1 r2 r3 r4
   simp[D7,KP,n0,n1,n2,n3,n4,p2,p7,p8,p24,p25,p26,p28,p30,p63,r0,r1,r2,r3,r4,AA.put,B9,hB,ACF,N7,IJ,LM,LL,UR,UQ,JQ,dP,hk1,PM,LI,PN,LJ,LK,JR,PO,UT,KQ,MD,PQ,KR,JP,JI,AM,US,S7]
end
end Go.Proofs.Tryz.Op
