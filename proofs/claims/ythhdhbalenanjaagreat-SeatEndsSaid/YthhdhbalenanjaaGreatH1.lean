/- The level of one who asks for the winds of all truths. No condition. -/
import Derived.Test.YthhdhbalenanjaaGreatO1
import Derived.Test.YthhdhbalenanjaaGreatI1
import Derived.Test.YthhdhbalenanjaaGreatFz
import Derived.Test.YthhdhbalenanjaaGreatW3
set_option maxRecDepth 100000
set_option linter.unusedSimpArgs false
open Go Go.Pg Go.Proofs Go.Wind
namespace Go.Proofs.Tryz.Op
def iZ(γ h:Nat):List Int→V
 |[]=>.nil
 |w=>.vec 1 (800+h) γ w.length
@[simp] theorem ABV(γ h:Nat):iZ γ h []=.nil:=rfl
theorem KP{γ h:Nat}{w:List Int}(hw:w≠[]):iZ γ h w=.vec 1 (800+h) γ w.length:=by
 cases w with
 |nil=>exact absurd rfl hw
 |cons x w=>rfl
def D2(γs:Nat→Nat)(ws:List (List Int)):List (List V):=ws.mapIdx fun h w=>[iZ (γs h) h w]
noncomputable def QU:Code:=.block 1 (.seq (D1 2399) (.seq (D1 5471) (.block 2 (.loop JO))))
@[simp] theorem uAs(n:Nat)(st:XS):AE Tryz.prog ann kn n 69 QU st=AE Tryz.prog ann kn n 69 (.block 1 (.seq (D1 2399) (.seq (D1 5471) (.block 2 (.loop JO))))) st:=rfl
noncomputable def fB(b:AJ)(c0:Nat):Fr:=[(30,true,.fn 196 [] [.ref (AC b),.ref [li []]]),(29,true,.agg (AC b)),(2,true,.ptr 1 2 c0 0),(7,true,.ptr 1 7 (c0+5) 0),(8,true,.ptr 1 8 (c0+6) 0)]
noncomputable def HZ(b:AJ)(c0:Nat)(ls:LS):AX:=.loop (fB b c0) [31] (D1 607) QU 69 ls
structure RwA(c0 c:Nat)(ws:List (List Int))(L:AA)(γs:Nat→Nat):Prop where
 p24:L.get 24=some (c0+1,.vec 22 (D2 γs ws))
 row:∀h,ws.getD h []≠[]→L.get (800+h)=some (γs h,.vec 3 ((ws.getD h []).map AH))∧γs h<c
 no:∀h,h<5→ws.getD h []=[]→L.get (800+h)=none
structure sX(b:AJ)(c0:Nat)(ls:LS)(c:Nat)(s:Bool)(ws:List (List Int))(L:AA):Prop where
 p7:L.get 7=some (c0+5,.box [.ptr 1 28 (c0+4) 0])
 p28:L.get 28=some (c0+4,.box (AC b++[.vec 1 24 (c0+1) b.winds.length,.mp 1 25 (c0+2),.mp 1 26 (c0+3)]))
 p25:L.get 25=some (c0+2,.map [])
 p26:L.get 26=some (c0+3,.map [])
 p8:L.get 8=some (c0+6,.box [.bool s])
 rows:∃γs,RwA c0 c ws L γs
 pr:L.get CD=some (c0+7,HZ b c0 ls)
 len:ws.length=b.winds.length
 st:∀t:St,2≤t.up.length→t.loc.get 63=none→AN t L=L
 pp:L.get 2=some (c0,.box (AC b))∧L.get 30=none∧L.get 63=none
theorem RwA.mono{c0 c c1:Nat}{ws:List (List Int)}{L:AA}{γs:Nat→Nat}(h:RwA c0 c ws L γs)(hc:c≤c1):RwA c0 c1 ws L γs :=
 ⟨h.p24,fun k hk=>⟨(h.row k hk).1,Nat.lt_of_lt_of_le (h.row k hk).2 hc⟩,h.no⟩
theorem sX.mono{b:AJ}{c0 c c1:Nat}{ls:LS}{s:Bool}{ws:List (List Int)}{L:AA}(h:sX b c0 ls c s ws L)(hc:c≤c1):sX b c0 ls c1 s ws L :=
 ⟨h.p7,h.p28,h.p25,h.p26,h.p8,by obtain⟨γs,hr⟩:=h.rows;exact⟨γs,hr.mono hc⟩,h.pr,h.len,h.st,h.pp⟩
theorem MB(st:XS)(v:V)(hv:∀l k o,BD l k o 3 v=v):∀ks,HU st ks v=v
 |[]=>rfl
 |k::ks=>by
  have ih:=MB st v hv ks;obtain⟨c,fr,up,loc⟩:=st;by_cases h:k<10000
  ·rw[rF _ _ _ _ _ _ _ h,hv,ih]
  ·rw[FU _ _ _ _ h,hv,ih]
theorem LF{c0 c:Nat}{ws:List (List Int)}{L:AA}{γs:Nat→Nat}(h:RwA c0 c ws L γs){k:Nat}(hk:k≤4)(hne:ws.getD k []≠[])(B:AA)(R:List AA)(c1:Nat)(fr:Fr)(loc:AA) :
  HU ⟨c1,fr,⟨B::L::R,loc⟩⟩ [20800,20801,20802,20803,20804] (.vec 1 (800+k) (γs k) (ws.getD k []).length)=li (ws.getD k []):=by
 have hr:=(h.row k hne).1
 have e1:¬1=R.length+1+1:=by omega
 have:k=0∨k=1∨k=2∨k=3∨k=4:=by omega
 generalize ws.getD k []=w at hr hne⊢
 have hget:∀j,St.get ⟨B::L::R,loc⟩ 1 j=L.get j:=fun j=>by simp[St.get]
 simp only[FU _ _ _ _ (show ¬20800<10000 by decide),FU _ _ _ _ (show ¬20801<10000 by decide),FU _ _ _ _ (show ¬20802<10000 by decide),FU _ _ _ _ (show ¬20803<10000 by decide),FU _ _ _ _ (show ¬20804<10000 by decide),yH,Nat.reduceDiv,Nat.reduceMod,Nat.reduceSub,hget]
 have skip:∀a o,a≠800+k→BD 1 a o 3 (.vec 1 (800+k) (γs k) w.length)=.vec 1 (800+k) (γs k) w.length:=fun a o ha=>by
  simp only[BD];split
  ·rw[if_neg fun e=>ha e.2.1.symm]
  ·rfl
 have hit:BD 1 (800+k) (L.get (800+k)) 3 (.vec 1 (800+k) (γs k) w.length)=li w:=by rw[hr];simp[BD]
 rcases this with rfl|rfl|rfl|rfl|rfl
 ·rw[hit];simp
 ·rw[skip 800 _ (by decide),hit];simp
 ·rw[skip 800 _ (by decide),skip 801 _ (by decide),hit];simp
 ·rw[skip 800 _ (by decide),skip 801 _ (by decide),skip 802 _ (by decide),hit];simp
 ·rw[skip 800 _ (by decide),skip 801 _ (by decide),skip 802 _ (by decide),skip 803 _ (by decide),hit]
theorem LG(γs:Nat→Nat)(ws:List (List Int)):(D2 γs ws).length=ws.length:=by unfold D2;simp
theorem LH{γs:Nat→Nat}{ws:List (List Int)}{h:Nat}(h1:h<(D2 γs ws).length)(h2:h<ws.length):(D2 γs ws)[h]=[iZ (γs h) h ws[h]]:=by simp only[D2,List.getElem_mapIdx]
def WI(γs:Nat→Nat)(h c:Nat):Nat→Nat:=fun j=>if j=h then c else γs j
theorem cO{γs:Nat→Nat}{ws:List (List Int)}{h:Nat}(_:h<ws.length)(c:Nat){w:List Int}(hw:w≠[]):(D2 γs ws).set h [.vec 1 (800+h) c w.length]=D2 (WI γs h c) (ws.set h w):=by
 apply List.ext_getElem (by simp[LG]);intro j h1 h2;have hj:j<ws.length:=by simpa [LG]using h1
 rw[List.getElem_set,LH h2 (by simpa using hj),List.getElem_set];by_cases e:h=j
 ·subst e;rw[if_pos rfl,if_pos rfl,KP hw,WI,if_pos rfl]
 ·rw[if_neg e,if_neg e,LH _ hj,WI,if_neg fun h=>e h.symm]
theorem AQL{n d γ j:Nat}{w:List Int}:KH n 63 1 d 3 (iZ γ j w)=iZ γ j w:=by
 cases w with
 |nil=>rfl
 |cons x w=>
  show(if 1=n∧800+j=63 then _ else _)=_
  rw[if_neg (by omega)]
theorem ABW{γs:Nat→Nat}{ws:List (List Int)}{h:Nat}(hh:h<ws.length)(n c:Nat){w:List Int}(hw:w≠[]):((D2 γs ws).set h [.vec n 63 c w.length]).map (List.map (KH n 63 1 (800+h) 3))=D2 (WI γs h c) (ws.set h w):=by
 rw[←cO hh c hw,List.map_set];congr 1
 ·apply List.ext_getElem (by simp);intro j h1 h2;have hj:j<ws.length:=by simpa [LG]using h1
  rw[List.getElem_map,LH _ hj];exact congrArg (fun v=>[v]) AQL
 ·simp[KH]
theorem cP(ws:List (List Int))(h:Nat)(l:List Int)(j:Nat)(hh:h<ws.length):(ws.set h l).getD j []=if j=h then l else ws.getD j []:=by
 simp only[List.getD_eq_getElem?_getD,List.getElem?_set];by_cases e:h=j
 ·subst e;simp[hh]
 ·rw[if_neg e,if_neg fun h=>e h.symm]
theorem RwA.put{c0 c:Nat}{ws:List (List Int)}{L:AA}{γs:Nat→Nat}(hr:RwA c0 c ws L γs){h:Nat}(hh:h<ws.length){w:List Int}(hw:w≠[]){L':AA}
  (h24:L'.get 24=some (c0+1,.vec 22 (D2 (WI γs h c) (ws.set h w)))) (h800:L'.get (800+h)=some (c,.vec 3 (w.map AH))) (hot:∀j,j≠h→L'.get (800+j)=L.get (800+j)):RwA c0 (c+1) (ws.set h w) L' (WI γs h c):=by
 refine⟨h24,fun j hj=>?_,fun j hj5 hj=>?_⟩
 ·rw[cP _ _ _ _ hh]at hj⊢;by_cases e:j=h
  ·subst e;rw[if_pos rfl,WI,if_pos rfl];exact⟨h800,Nat.lt_succ_self _⟩
  ·rw[if_neg e]at hj⊢;rw[hot j e,WI,if_neg e];exact⟨(hr.row j hj).1,Nat.lt_succ_of_lt (hr.row j hj).2⟩
 ·rw[cP _ _ _ _ hh]at hj;by_cases e:j=h
  ·subst e;rw[if_pos rfl]at hj;exact absurd hj hw
  ·rw[if_neg e]at hj;rw[hot j e];exact hr.no j hj5 hj
theorem jA{t:St}{l k γ m:Nat}(h:¬l=t.up.length):BV t (.vec l k γ m)=some (.vec l k γ m):=by obtain⟨up,loc⟩:=t;rw[nG,aY,if_neg h]
theorem UJ{t:St}(ht:2≤t.up.length)(γs:Nat→Nat)(ws:List (List Int)):CK t (.vec 22 (D2 γs ws))=.vec 22 (D2 γs ws):=by
 refine O3 fun e he v hv=>?_;obtain⟨j,hj,rfl⟩:=List.getElem_of_mem he;rw[LH hj (by simpa [LG]using hj)]at hv;simp only[List.mem_cons,List.not_mem_nil,or_false]at hv;subst hv;have hne:¬1=t.up.length:=by omega
 cases ws[j]'(by simpa [LG]using hj)with
 |nil=>rfl
 |cons x w=>exact jA hne
theorem AMJ(st:XS):LY [25008011801063] st=gQ 63 (OW 8 st) (qM 800 11 st) [24] st:=rfl
theorem ABX(c:Nat)(fr:Fr)(up:List AA):LY [25008011801063] ⟨c,fr,⟨up,[]⟩⟩=⟨c,fr,⟨up,[]⟩⟩:=by rw[AMJ];rfl
theorem jB{n k l d:Nat}(fr:Fr)(j:Nat):BQ (xV n k l d fr) j=(BQ fr j).map fun x=>(x.1,KH n k l d 3 x.2):=by rw[E9,E9,gS]
@[simp] theorem AVO(u:Nat)(L:AA)(j:Nat):(J7 u L).get j=if j=u then none else L.get j:=aE u L j
theorem YG(t:St)(u:Nat):∀L:AA,AN t (J7 u L)=J7 u (AN t L)
 |[]=>rfl
 |(q,g,r)::L=>by
  have ih:=YG t u L;rw[BE];unfold J7;by_cases h:q=u
  ·rw[if_pos h,if_pos h,ih]
  ·rw[if_neg h,if_neg h,BE,ih]
theorem cQ(u g:Nat)(r:AX)(L:AA):J7 u ((u,g,r)::L)=J7 u L:=by show(if u=u then J7 u L else _)=_;rw[if_pos rfl]
theorem AQM(c γ h g7 o7 g24:Nat)(T:TypeId)(es:List (List V))(fr:Fr)(B L:AA)(R:List AA)(r24:AX)(h7:BQ fr 7=some (true,.ptr 1 7 g7 o7))(h10:BQ fr 10=some (true,.int .i64 h))(h24:L.get 24=some (g24,r24)) :
  LY [25008011801063] ⟨c,fr,⟨B::L::R,[(63,γ,.vec T es)]⟩⟩=⟨c,xV (R.length+1+1) 63 1 (800+h) fr,⟨B::((800+h,γ,WQ (R.length+1+1) 63 1 (800+h) (.vec T es))::(24,g24,WQ (R.length+1+1) 63 1 (800+h) r24)::J7 24 L)::R,[]⟩⟩:=by
 rw[AMJ]
 have e1:OW 8 ⟨c,fr,⟨B::L::R,[(63,γ,.vec T es)]⟩⟩=1:=by show(match BQ fr 7 with|some (true,.ptr l _ _ _)=>l|_=>0)=1;rw[h7]
 have e2:qM 800 11 ⟨c,fr,⟨B::L::R,[(63,γ,.vec T es)]⟩⟩=800+h:=by show(match BQ fr 10 with|some (true,.int _ n)=>800+n.toNat|_=>800)=800+h;rw[h10];simp
 rw[e1,e2]
 unfold gQ
 have e3:VG 1 (B::L::R).length (AA.get [(63,γ,.vec T es)] 63)=true:=by simp[VG,AA.get,dI]
 simp only[e3]
 simp[xW,AA.get,zR,h24,mE,St.put,IC]
theorem KQ{n k l d:Nat}(f:Nat)(q:IntKind)(x:Int):KH n k l d f (.int q x)=.int q x:=by cases f<;>rfl
theorem jC{n k l d a b g o:Nat}(f:Nat)(h:¬b=k):KH n k l d f (.ptr a b g o)=.ptr a b g o:=by
 cases f with
 |zero=>rfl
 |succ f=>simp only[KH];rw[if_neg fun e=>h e.2]
theorem JP{n k l d a b g o:Nat}(f:Nat)(h:¬b=k):KH n k l d f (.vec a b g o)=.vec a b g o:=by
 cases f with
 |zero=>rfl
 |succ f=>simp only[KH];rw[if_neg fun e=>h e.2]
theorem KR{n k l d:Nat}(T:TypeId)(es:List (List V)):WQ n k l d (.vec T es)=.vec T (es.map (List.map (KH n k l d 3))):=rfl
theorem A3A{k:Nat}{x:Int}(h:k≤10000):B4 Tryz.prog 3 k [[.int .i64 x]]=true:=by rw[CA (by simp) (by simp)];simp[maxLen];omega
theorem AH9{P:Program}{fr:Fr}{s:St}(e d c:Nat)(y:List V)(ys:List (List V))(h:B4 P e 0 (y::ys)=true):rP P e d c fr s .nil (y::ys)=some (⟨c+1,(d,true,.vec s.up.length d c (ys.length+1))::fr,s.put s.up.length d c (.vec e (y::ys))⟩,[(s.up.length,d),(s.up.length,d+F9)]):=by unfold rP;simp[H4,h]
theorem lAs(b:AJ)(c0:Nat)(h5:b.winds.length≤5)(s:Bool)(t:List Int)(ht:t.length=b.winds.length)(hn:∀n∈t,0≤n∧n≤3)(B:AA)(L1:AA)(R:List AA)(g9:Nat)(p9:L1.get 9=some (g9,.vec 3 (t.map AH))) :
  ∀(d h c:Nat) (ws:List (List Int)) (L:AA),h+d=t.length→sX b c0 .busy c s ws L→c0+8≤c→DN ws →
  ∃fr' c' L',sX b c0 .busy c' s (JS ws h (t.drop h)) L'∧c≤c'∧∀n m,d<m→A9 (AE Tryz.prog ann kn (n+1400) 69) JO (ann 69 (BS JO)) m ⟨c,[(7,true,.ptr 1 7 (c0+5) 0),(32,true,.vec 2 9 g9 t.length),(33,true,i t.length),(34,true,i h)],⟨B::L::L1::R,[]⟩⟩ =
   some (.exit 2,⟨c',fr',⟨B::L'::L1::R,[]⟩⟩)
 |0,h,c,ws,L,hd,hL,hc,hok=>by
  have:h=t.length:=by omega
  subst this;refine⟨?fr,c,L,by simpa [JS]using hL,Nat.le_refl _,fun n m hm=>?g⟩;case g=>
   obtain⟨m,rfl⟩:∃m',m=m'+1:=⟨m-1,by omega⟩
   rw[AB]
   simp
   rfl
 |d+1,h,c,ws,L,hd,hL,hc,hok=>by
  have hh:h<t.length:=by omega
  have hw:=BJ (k:=h) (by omega);have hdrop:t.drop h=t[h]::t.drop (h+1):=List.drop_eq_getElem_cons hh;have hLo:=hL;obtain⟨p7,p28,p25,p26,p8,⟨γs,hr⟩,pr,hlen,pst,pp⟩:=hL;have hg:ws.getD h []=ws[h]'(by omega):=by rw[List.getD_eq_getElem?_getD,List.getElem?_eq_getElem (by omega)];rfl
  have hl4:(ws.getD h []).length≤4:=by rw[hg];exact hok.len _ (List.getElem_mem _)
  have qc:=fun n=>PZ n (ws.getD h []) t[h] (by omega);have h24:=hr.p24;have hra:(D2 γs ws)[h]? = some [iZ (γs h) h (ws.getD h [])]:=by unfold D2;rw[List.getElem?_mapIdx,List.getElem?_eq_getElem (by omega),hg];rfl
  have hrl:(D2 γs ws).length=ws.length:=by unfold D2;simp
  have hrx:(D2 γs ws)[h]'(by omega)=[iZ (γs h) h (ws.getD h [])]:=by have:=hra;rw[List.getElem?_eq_getElem (by omega),Option.some.injEq]at this;exact this
  have hhw:h<b.winds.length:=by omega
  have hhr:h<(D2 γs ws).length:=by omega
  have ha0:B4 Tryz.prog 3 0 [[.int .i64 t[h]]]=true:=A3A (by omega);have hc0:c0<c:=by omega
  have hws:h<ws.length:=by omega
  have hx3:=hn t[h] (List.getElem_mem hh);have hka:∀k,900≤k→(800+h=k)=False:=fun k hk=>by simp;omega
  have hkb:∀k,k<800→(800+h=k)=False:=fun k hk=>by simp;omega
  have hkc:∀k,k<800→(k=800+h)=False:=fun k hk=>by simp;omega
  have hkd:∀k,900≤k→(k=800+h)=False:=fun k hk=>by simp;omega
  have hrb:b.winds.length≤(D2 γs ws).length:=by omega
  by_cases hm:t[h]∈ws.getD h []
  ·have hmd:decide (t[h]∈ws.getD h [])=true:=decide_eq_true hm;rw[hmd]at qc;have hne:ws.getD h []≠[]:=List.ne_nil_of_mem hm;have hwv:=KP (γ:=γs h) (h:=h) hne;have hrt:=fun c1 fr loc=>LF hr (k:=h) (by omega) hne B (L1::R) c1 fr loc;obtain⟨fr',c',L',i1,i2,ih⟩:=lAs b c0 h5 s t ht hn B L1 R g9 p9 d (h+1) c ws L (by omega) hLo hc hok;have hadd:JS ws h (t.drop h)=JS ws (h+1) (t.drop (h+1)):=by rw[hdrop];show JS (N5 ws h t[h]) (h+1) (t.drop (h+1))=_;rw[N5,if_pos hm]
   rw[hadd];refine⟨fr',c',L',i1,i2,fun n m hm'=>?_⟩;obtain⟨m,rfl⟩:∃m',m=m'+1:=⟨m-1,by omega⟩;have ih:=ih n m (by omega);have hfl:∀st x,HU st [20800,20801,20802,20803,20804] (.int .i64 x)=.int .i64 x:=fun st x=>MB st _ (fun _ _ _=>eF _ _ _) _;rw[hwv]at hrx;generalize ws.getD h []=w at *;rw[AB];simp only[AC,AH]at p28 qc ih⊢;simp at ih;simp[-FU,hh,hw,AH,p7,p28,p9,h24,hhr,hhw,hrb,hrx,hrt,hfl,qc,ABX,ih]
  ·have hmd:decide (t[h]∈ws.getD h [])=false:=decide_eq_false hm;rw[hmd]at qc;have hfl:∀st x,HU st [20800,20801,20802,20803,20804] (.int .i64 x)=.int .i64 x:=fun st x=>MB st _ (fun _ _ _=>eF _ _ _) _;have hfn:∀st,HU st [20800,20801,20802,20803,20804] .nil=.nil:=fun st=>MB st _ (fun _ _ _=>yG _) _;by_cases hne:ws.getD h []=[]
   ·rw[hne]at hrx qc;rw[ABV]at hrx;have hne1:([t[h]]:List Int)≠[]:=by simp
    have hadd:N5 ws h t[h]=ws.set h [t[h]]:=by rw[N5,if_neg hm,hne];rfl
    have hrs:=ABW (γs:=γs) hws (R.length+1+1+1) c hne1;have hL':sX b c0 .busy (c+1) s (ws.set h [t[h]]) ((800+h,c,.vec 3 [[.int .i64 t[h]]])::(24,c0+1,.vec 22 (D2 (WI γs h c) (ws.set h [t[h]])))::J7 24 L):=by
     refine⟨?_,?_,?_,?_,?_,⟨WI γs h c,hr.put hws hne1 (by simp;omega) (by simp[AH]) fun j hj=>by simp[hj,show ¬800+j=24 by omega]⟩,?_,by simpa using hlen,fun T h1 h2=>?_,by simpa [hkc]using pp⟩
     ·simpa [hkc]using p7
     ·simpa [hkc]using p28
     ·simpa [hkc]using p25
     ·simpa [hkc]using p26
     ·simpa [hkc]using p8
     ·simpa [CD,hkd]using pr
     ·rw[BE,BE,YG,UJ h1,pst T h1 h2,show[[V.int .i64 t[h]]]=[t[h]].map AH from rfl,H2]
    obtain⟨fr',c',L',i1,i2,ih⟩:=lAs b c0 h5 s t ht hn B L1 R g9 p9 d (h+1) (c+1) _ _ (by omega) hL' (by omega) (by rw[←hadd];exact hok.add h _ hx3);have hadw:JS ws h (t.drop h)=JS (ws.set h [t[h]]) (h+1) (t.drop (h+1)):=by rw[hdrop,←hadd];rfl
    rw[hadw];refine⟨fr',c',L',i1,by omega,fun n m hm'=>?_⟩;obtain⟨m,rfl⟩:∃m',m=m'+1:=⟨m-1,by omega⟩;have ih:=ih n m (by omega);rw[AB];simp only[List.length_singleton]at hrs;have hgh:=fun c1 fr (h7:BQ fr 7=some (true,.ptr 1 7 (c0+5) 0)) (h10:BQ fr 10=some (true,.int .i64 h))=>AQM c1 c h _ _ (c0+1) 3 [[.int .i64 t[h]]] fr B ((24,c0+1,.vec 22 ((D2 γs ws).set h [.vec (R.length+1+1+1) 63 c 1]))::L) (L1::R) _ h7 h10 rfl;simp only[AC,AH,li,List.map_nil]at p28 qc ih⊢;simp at ih;simp[-FU,hh,hw,AH,p7,p28,p9,h24,hhr,hhw,hrb,hrx,hfl,hfn,qc,AH9,ha0,hka,hkb,hkc,hkd,F9,IC,hc0,jB,hgh,cQ,hrs,KQ,jC,JP,KR,ih]
   ·have hwv:=KP (γ:=γs h) (h:=h) hne;have hrt:=fun c1 fr loc=>LF hr (k:=h) (by omega) hne B (L1::R) c1 fr loc;have hrow:=(hr.row h hne).1;have hγ:=(hr.row h hne).2;rw[hwv]at hrx;have ha1:B4 Tryz.prog 3 (ws.getD h []).length [[.int .i64 t[h]]]=true:=A3A (by omega);have hadd:N5 ws h t[h]=ws.set h (ws.getD h []++[t[h]]):=by rw[N5,if_neg hm]
    generalize ws.getD h []=w at *;have hne1:w++[t[h]]≠[]:=by simp
    have hrs:=cO (γs:=γs) hws c hne1;simp only[List.length_append,List.length_singleton]at hrs;have hL':sX b c0 .busy (c+1) s (ws.set h (w++[t[h]])) ((24,c0+1,.vec 22 (D2 (WI γs h c) (ws.set h (w++[t[h]]))))::(800+h,c,.vec 3 (w.map AH++[[.int .i64 t[h]]]))::L):=by
     refine⟨?_,?_,?_,?_,?_,⟨WI γs h c,hr.put hws hne1 (by simp) (by simp[AH,show ¬800+h=24 by omega]) fun j hj=>by simp[hj,show ¬800+j=24 by omega]⟩,?_,by simpa using hlen,fun T h1 h2=>?_,by simpa [hkc]using pp⟩
     ·simpa [hkc]using p7
     ·simpa [hkc]using p28
     ·simpa [hkc]using p25
     ·simpa [hkc]using p26
     ·simpa [hkc]using p8
     ·simpa [CD,hkd]using pr
     ·have e:(w.map AH++[[V.int .i64 t[h]]])=(w++[t[h]]).map AH:=by simp[AH]
      rw[BE,BE,UJ h1,e,H2,pst T h1 h2]
    obtain⟨fr',c',L',i1,i2,ih⟩:=lAs b c0 h5 s t ht hn B L1 R g9 p9 d (h+1) (c+1) _ _ (by omega) hL' (by omega) (by rw[←hadd];exact hok.add h _ hx3);have hadw:JS ws h (t.drop h)=JS (ws.set h (w++[t[h]])) (h+1) (t.drop (h+1)):=by rw[hdrop,←hadd];rfl
    rw[hadw];refine⟨fr',c',L',i1,by omega,fun n m hm'=>?_⟩;obtain⟨m,rfl⟩:∃m',m=m'+1:=⟨m-1,by omega⟩;have ih:=ih n m (by omega);rw[AB];simp only[AC,AH]at p28 qc ih⊢;simp at ih;simp[-FU,hh,hw,AH,p7,p28,p9,h24,hhr,hhw,hrb,hrx,hrt,hfl,qc,hrow,hγ,ha1,hka,hkb,hkc,hkd,F9,IC,hc0,hrs,ABX,ih]
structure A3B(b:AJ)(c0:Nat)(c:Nat)(g:Bool)(a:Bool×List (List Int))(L:AA):Prop where
 go:g=true
 lv:sX b c0 .ready c a.1 a.2 L
 ok:DN a.2
def sY(a:Bool×List (List Int))(t:List Int):(Bool×List (List Int))×Bool:=((true,JS a.2 0 t),true)
theorem sX.put{b:AJ}{c0 c:Nat}{ls ls':LS}{s s':Bool}{ws:List (List Int)}{L:AA}(h:sX b c0 ls c s ws L)(h5:b.winds.length≤5):sX b c0 ls' c s' ws ((8,c0+6,.box [.bool s'])::(CD,c0+7,HZ b c0 ls')::L):=by
 obtain⟨p7,p28,p25,p26,p8,⟨γs,hr⟩,pr,hlen,pst,pp⟩:=h;refine⟨by simpa [CD]using p7,by simpa [CD]using p28,by simpa [CD]using p25,by simpa [CD]using p26,by simp,⟨γs,by simpa [CD]using hr.p24,fun j hj=>?_,fun j hj5 hj=>?_⟩,by simp[CD],hlen,fun t h1 h2=>?_,by simpa [CD]using pp⟩
 ·have hj4:(j:Nat)<ws.length:=by
   rcases Nat.lt_or_ge j ws.length with h|h
   ·exact h
   ·exact absurd (by rw[List.getD_eq_getElem?_getD,List.getElem?_eq_none h];rfl) hj
  have e1:¬800+j=8:=by omega
  have e2:¬800+j=1000000:=by omega
  have:=hr.row j hj;simpa [CD,e1,e2]using this
 ·have e1:¬800+j=8:=by omega
  have e2:¬800+j=1000000:=by omega
  have:=hr.no j hj5 hj;simpa [CD,e1,e2]using this
 ·rw[BE,BE,pst t h1 h2];simp[HZ]
theorem sX.back{b:AJ}{c0 c:Nat}{ls ls':LS}{s:Bool}{ws:List (List Int)}{L:AA}(h:sX b c0 ls c s ws L)(h5:b.winds.length≤5):sX b c0 ls' c s ws ((CD,c0+7,HZ b c0 ls')::L):=by
 obtain⟨p7,p28,p25,p26,p8,⟨γs,hr⟩,pr,hlen,pst,pp⟩:=h;refine⟨by simpa [CD]using p7,by simpa [CD]using p28,by simpa [CD]using p25,by simpa [CD]using p26,by simpa [CD]using p8,⟨γs,by simpa [CD]using hr.p24,fun j hj=>?_,fun j hj5 hj=>?_⟩,by simp[CD],hlen,fun t h1 h2=>?_,by simpa [CD]using pp⟩
 ·have hj4:(j:Nat)<ws.length:=by
   rcases Nat.lt_or_ge j ws.length with h|h
   ·exact h
   ·exact absurd (by rw[List.getD_eq_getElem?_getD,List.getElem?_eq_none h];rfl) hj
  have e2:¬800+j=1000000:=by omega
  have:=hr.row j hj;simpa [CD,e2]using this
 ·have e2:¬800+j=1000000:=by omega
  have:=hr.no j hj5 hj;simpa [CD,e2]using this
 ·rw[BE,pst t h1 h2];simp[HZ]
theorem ABY(b:AJ)(hb:Valid b)(c0:Nat)(B:AA)(hB:∀t:St,1≤t.up.length→AN t B=B):fK B b (A3B b c0) sY (c0+7) 1500:=by
 intro a L L1 rest loc c fr t g9 hL hc ht p9 hst;obtain⟨_,hL,hok⟩:=hL;have hL0:=hL.put (ls':=.busy) (s':=true) hb.hl;have hlt:=BZ ht;obtain⟨fr',c',L',i1,i2,ih⟩:=lAs b c0 hb.hl true t hlt (N6 hb ht) B L1 (rest++[loc]) g9 p9 t.length 0 c a.2 _ (by omega) hL0 (by omega) hok;rw[List.drop_zero]at i1;have i1':=i1;obtain⟨q7,q28,q25,q26,q8,hrr,qr,qlen,qst,qpp⟩:=i1;have p8:=hL.p8;have pr:=hL.pr;have e1:c0+7<c:=by omega
 have e2:c0+7<c':=by omega
 have e3:c0+6<c:=by omega
 have e4:c0<c:=by omega
 have hun:∀A A':AA,C5 (A::A'::L1::(rest++[loc]))=some (A::A'::L1::rest,loc):=fun A A'=>by rw[←List.cons_append,←List.cons_append,←List.cons_append,EY]
 have hst':=fun t h=>hst t h;simp only[List.map_cons,List.map_append,List.map_nil,List.cons.injEq]at hst';have hsr:∀t:St,(L1::(rest++[loc])).length+2≤t.up.length→(rest.map (AN t)=rest∧AN t loc=loc):=fun t h=>by have:=(hst' t h).2;exact⟨List.append_inj_left' this rfl,by simpa using List.append_inj_right' this rfl⟩
 have h1s:∀t:St,(L1::(rest++[loc])).length+2≤t.up.length→AN t L1=L1:=fun t h=>(hst' t h).1;refine⟨?L,c',⟨rfl,?lv,DN.adds t hok 0 (N6 hb ht)⟩,i2,fun n=>?g⟩;case g=>
  rw[AJY (by simpa [HZ]using pr) rfl (by omega)]
  simp only[LP,Fr.put,fB]
  have h5:=hb.hl
  have ih:=ih (n+95) (n+1495) (by omega)
  rw[show n+95+1400=n+1495 by omega]at ih
  simp
  rw[cG (fr0:=fB b c0) (ps:=[31]) (asg:=(D1 607)) (body':=QU) (N:=69) (by simpa [HZ]using pr) e1]
  rw[show AX.loop (fB b c0) [31] (D1 607) QU 69 LS.busy=HZ b c0 .busy from rfl]
  simp[CD]at ih
  simp[p8,AA.put,CD,e3]
  rw[show(33,true,V.int IntKind.i64 (b.winds.length:Int))=(33,true,V.int IntKind.i64 (t.length:Int)) by rw[hlt],←hlt]
  rw[ih]
  simp
  rw[show(1000000:Nat)=CD from rfl,cH (fr0:=fB b c0) (ps:=[31]) (asg:=(D1 607)) (body:=QU) (N:=69) (by simpa [HZ]using qr) (hun _ _) (by simp) e2]
  have s1:AN ⟨B::L'::L1::(rest++[loc]),[]⟩ L'=L':=qst _ (by simp) rfl
  have s2:=h1s ⟨B::L'::L1::(rest++[loc]),[]⟩ (by simp)
  have s3:=hsr ⟨B::L'::L1::(rest++[loc]),[]⟩ (by simp)
  rw[List.map_cons,List.map_cons,List.map_cons,hB _ (by simp),s1,s2,s3.1,s3.2]
  rfl
 case lv=>exact i1'.back hb.hl
theorem AQN:∀(T:List (List Int)) (a:Bool×List (List Int)),runG sY a T=((a.1||!T.isEmpty,T.foldl (fun ws t=>JS ws 0 t) a.2),true)
 |[],a=>by simp[runG]
 |t::T,a=>by have e:(sY a t).2=true:=rfl;rw[runG,if_pos e,AQN T];simp[sY]
def FY(b:AJ):List (List Int):=jF b.winds.length (EZ b [] b.winds [])
def fC(b:AJ)(B:AA)(ff:FuncId)(cap:List V)(c0:Nat)(z:Bool):Prop:=∀n d fr,H9 (BN Tryz.prog ann kn (n+1200)) (some d) ⟨c0+1,fr,⟨[B],[(2,c0,.box (AC b))]⟩⟩ ff cap=some ⟨c0+1,(d,true,.bool z)::fr,⟨[B],[(2,c0,.box (AC b))]⟩⟩
@[simp] theorem AQO:CP (.pointer none)=some (.raw (.pointer none)):=rfl
@[simp] theorem AMK(s:St)(f:Nat):AZ s (f+1) (.raw (.pointer none))=some (.raw (.pointer none)):=rfl
theorem _root_.Go.Wind.Valid.w40{b:AJ}(hb:Valid b):∀l∈b.winds,l.length≤40:=fun l hl=>by have:=(hb.wl l hl).2;omega
section
variable {b:AJ}{B:AA}{ff:FuncId}{cap:List V}
theorem jD(h40:∀l∈b.winds,l.length≤40)(hB:∀t:St,1≤t.up.length→AN t B=B)(hco:cap.all (AK 8)=false)(h:¬CI b=0)(c d:Nat)(fr:Fr):∀n,H9 (BN Tryz.prog ann kn (n+6000)) (some d) ⟨c,fr,⟨[],B⟩⟩ 154 [.agg (AC b),.fn ff [] cap] =
  some ⟨c+1,(d,true,.tup [.raw (.pointer none),i (CI b)])::fr,⟨[],B⟩⟩:=by
 intro n
 rw[BG Tryz.func154 b154 rfl (by simp[AC,AH,AL,AF,hco])]
 have q1:=fun n=>VQ n b h40
 simp only[AC]at q1⊢
 simp[AAV,AG,AH,AL,AF,q1,h,hB]
theorem oJ(hb:Valid b)(hB:∀t:St,1≤t.up.length→AN t B=B)(hcw:cap.map weakV=cap)(hco:cap.all (AK 8)=false)(c d:Nat)(hf:fC b B ff cap c false)(fr:Fr):∀n,H9 (BN Tryz.prog ann kn (n+6000)) (some d) ⟨c,fr,⟨[],B⟩⟩ 154 [.agg (AC b),.fn ff [] cap] =
  some ⟨c+1,(d,true,.tup [.raw (.pointer none),i 2])::fr,⟨[],B⟩⟩:=by
 intro n
 rw[BG Tryz.func154 b154 rfl (by simp[AC,AH,AL,AF,hco])]
 have q1:=fun n=>VQ n b hb.w40
 have hf:=fun n d fr=>hf (n+4795) d fr
 rw[JV hb]at q1
 simp only[AC,Nat.add_assoc,Nat.reduceAdd]at q1 hf⊢
 simp[AAV,AG,AH,AL,AF,q1,hB,hcw,hf]
theorem VU(γs:Nat→Nat)(k:Nat):D2 γs (List.replicate k [])=List.replicate k [.nil]:=by apply List.ext_getElem (by simp[D2]);intro j h1 h2;rw[LH h1 (by simpa [D2]using h1)];simp
noncomputable def oK(b:AJ)(c:Nat):AA:=[(CD,c+7,HZ b c .ready),(2,c,.box (AC b)),(7,c+5,.box [.ptr 1 28 (c+4) 0]),(8,c+6,.box [.bool false]),(24,c+1,.vec 22 (List.replicate b.winds.length [.nil])),(25,c+2,.map []),(26,c+3,.map []),
 (28,c+4,.box (AC b++[.vec 1 24 (c+1) b.winds.length,.mp 1 25 (c+2),.mp 1 26 (c+3)]))]
theorem jE:∀(L:AA) (k:Nat),(∀e∈L,e.1≠k)→L.get k=none
 |[],_,_=>rfl
 |(j,x)::L,k,h=>by have h1:=h (j,x) (by simp);rw[AA.get,if_neg fun e=>h1 e.symm];exact jE L k fun e he=>h e (by simp[he])
theorem cR(hb:Valid b)(c:Nat):A3B b c (c+8) true (false,List.replicate b.winds.length []) (oK b c):=by
 have h5:=hb.hl;refine⟨rfl,⟨rfl,rfl,rfl,rfl,rfl,⟨fun _=>0,?_,fun h hh=>?_,fun h h5 _=>?_⟩,rfl,by simp,fun t h1 h2=>?_,rfl,rfl,rfl⟩,⟨fun l hl=>?_,fun l hl x hx=>?_⟩⟩
 ·rw[VU];rfl
 ·exfalso;refine hh ?_;simp only[List.getD_eq_getElem?_getD,List.getElem?_replicate];split<;>rfl
 ·refine jE _ _ fun e he=>?_;simp only[oK,List.mem_cons,List.not_mem_nil,or_false]at he;rcases he with rfl|rfl|rfl|rfl|rfl|rfl|rfl|rfl<;>simp only[CD]<;>omega
 ·have e1:¬1=t.up.length:=by omega
  have hs:=UJ (t:=t) h1 (fun _=>0) (List.replicate b.winds.length []);rw[VU]at hs;unfold oK;simp only[BE,D4,hs];obtain⟨up,loc⟩:=t;simp only at e1;have hm:CK ⟨up,loc⟩ (.map [])=.map []:=rfl;simp[HZ,AC,AH,AL,AF,e1,hm]
 ·rw[List.eq_of_mem_replicate hl];simp
 ·rw[List.eq_of_mem_replicate hl]at hx;cases hx
theorem oL(hb:Valid b)(hB:∀t:St,1≤t.up.length→AN t B=B)(hcw:cap.map weakV=cap)(hco:cap.all (AK 8)=false)(c d:Nat)(hf:fC b B ff cap c true)(hT:EZ b [] b.winds []=[])(fr:Fr):∃c',c≤c'∧∀n,H9 (BN Tryz.prog ann kn (n+6000)) (some d) ⟨c,fr,⟨[],B⟩⟩ 154 [.agg (AC b),.fn ff [] cap] =
  some ⟨c',(d,true,.tup [.raw (.pointer none),i 11])::fr,⟨[],B⟩⟩:=by
 have q1:=fun n=>VQ n b hb.w40
 rw[JV hb]at q1
 have hf:=fun n d fr=>hf (n+4795) d fr
 have q79:=fun n=>tM n b []
 have hwi:=hb.wi
 have hla:=hb.la
 have hw:IntKind.i64.wrap (b.last+1)=(b.winds.length:Int):=by rw[AS (by omega) (by omega)];omega
 have m1:b.winds.length*24≤140737488355328:=by omega
 have m2:b.winds.length≤maxLen:=by unfold maxLen;omega
 obtain⟨L',c',r1,r2,r3⟩:=jU (out:=[]) hb (by simp) hB (fun c c1 g a L hc h=>⟨h.go,h.lv.mono hc,h.ok⟩) (fun c g a L h=>h.lv.st) (ABY b hb c B hB) (false,List.replicate b.winds.length []) (oK b c) (cR hb c) (fB b c)
 rw[AQN,hT]at r1
 obtain⟨_,⟨p7,p28,p25,p26,p8,hrr,pr,plen,pst,p2,p30,p63⟩,rok⟩:=r1
 have r3:=fun n=>r3 (n+1491)
 refine⟨c',by omega,fun n=>?_⟩
 rw[BG Tryz.func154 b154 rfl (by simp[AC,AH,AL,AF,hco])]
 simp only[AC,li,List.map_nil,oK,HZ,fB,QU,CD,List.cons_append,List.nil_append,Nat.add_assoc,Nat.reduceAdd]at q1 hf q79 r3 p28 pr⊢
 simp[AAV,AG,AH,AL,AF,q1,hB,hcw,hf,q79,hw,m1,m2,aW,Nat.add_assoc]
 rw[eG rfl]
 simp[CD,Nat.add_assoc]
 rw[r3,mS (by simpa [CD]using pr) (by omega)]
 simp only[List.isEmpty_nil,Bool.not_true,Bool.or_false]at p8
 obtain⟨γs,p24,rrow,rno⟩:=hrr
 have rn:∀h,h<5→L'.get (800+h)=none:=fun h hh=>rno h hh (by
  simp only[List.foldl_nil,List.getD_eq_getElem?_getD,List.getElem?_replicate];split <;> rfl)
 have r0:=rn 0 (by omega)
 have r1:=rn 1 (by omega)
 have r2:=rn 2 (by omega)
 have r3:=rn 3 (by omega)
 have r4:=rn 4 (by omega)
 simp only[Nat.add_zero,Nat.reduceAdd]at r0 r1 r2 r3 r4
 simp[p2,p7,p8,p24,p25,p26,p28,p30,p63,r0,r1,r2,r3,r4,AA.put,CD,hB]
end
theorem ABZ(st:XS):LY [1000000000000024,24,901025,902026,903028] st =
  (fun s=>gQ 28 (OW 0 s) 902 [] s) ((fun s=>gQ 26 (OW 0 s) 901 [] s) ((fun s=>gQ 25 (OW 0 s) 900 [] s) (HT 24 (ADT 24 st)))):=rfl
noncomputable def mvZ(k d c:Nat)(fr:Fr)(B loc:AA):Option (Nat×AX)→XS
 |some (γ,r)=>⟨c,xV 1 k 0 d fr,⟨[(d,γ,WQ 1 k 0 d r)::B],mE 1 k 0 d loc⟩⟩
 |none=>⟨c,fr,⟨[B],loc⟩⟩
@[simp] theorem A3C(k d c γ:Nat)(fr:Fr)(B loc:AA)(r:AX):mvZ k d c fr B loc (some (γ,r))=⟨c,xV 1 k 0 d fr,⟨[(d,γ,WQ 1 k 0 d r)::B],mE 1 k 0 d loc⟩⟩:=rfl
def plO:Option (Nat×AX)→Bool
 |some x=>dI x.2
 |none=>true
theorem JQ(γ:Nat)(r:AX):plO (some (γ,r))=dI r:=rfl
theorem UK{k d c:Nat}{fr:Fr}{B loc:AA}(hp:plO (loc.get k)=true):gQ k 0 d [] ⟨c,fr,⟨[B],loc⟩⟩=mvZ k d c fr B loc (loc.get k):=by
 unfold gQ;cases h:loc.get k with
 |none=>simp[mvZ,VG,h]
 |some x=>
  obtain⟨γ,r⟩:=x
  rw[h,JQ]at hp
  have e3:VG 0 [B].length (some (γ,r))=true:=by simp[VG,hp]
  simp only[h,e3]
  simp[xW,h,zR,St.put,IC]
theorem UL(c:Nat)(fr:Fr)(B loc:AA):OW 0 ⟨c,fr,⟨[B],loc⟩⟩=0:=rfl
theorem N4(k c:Nat)(fr:Fr)(up:List AA)(loc:AA):ADT k ⟨c,fr,⟨up,loc⟩⟩=OU (qK up.length (loc.get k)) ⟨c,fr,⟨up,loc⟩⟩:=rfl
theorem IG(n γ:Nat)(T:TypeId)(es:List (List V)):qK n (some (γ,.vec T es))=es.filterMap fun e=>match e with
  |[.vec l k _ _]=>if l=n then some k else none
  |_=>none:=rfl
theorem UM(l k f:Nat)(o:Option (Nat×AX))(a:Int):List.map (BD l k o f) (AH a)=AH a:=by simp[AH]
theorem S3(l k f:Nat)(o:Option (Nat×AX))(w:List Int):List.map (List.map (BD l k o f)∘AH) w=w.map AH:=List.map_congr_left fun a _=>UM l k f o a
theorem JK(t:St):CK t (.map [])=.map []:=rfl
theorem PF{n k l d:Nat}:xV n k l d []=[]:=rfl
theorem LI{n k l d:Nat}(j:Nat)(c:Bool)(v:V)(fr:Fr):xV n k l d ((j,c,v)::fr)=(j,c,KH n k l d 3 v)::xV n k l d fr:=rfl
theorem PH{n k l d:Nat}:mE n k l d []=[]:=rfl
theorem LJ{n k l d:Nat}(j g:Nat)(r:AX)(L:AA):mE n k l d ((j,g,r)::L)=if j=k then mE n k l d L else(j,g,WQ n k l d r)::mE n k l d L:=rfl
theorem LK{n k l d:Nat}(f:Nat)(x:Bool):KH n k l d f (.bool x)=.bool x:=by cases f<;>rfl
theorem JR{n k l d:Nat}(f:Nat)(x:Bool)(es:List (List V)):KH n k l d f (.list x es)=.list x es:=by cases f<;>rfl
theorem PI{n k l d a b g o:Nat}(f:Nat):KH n k l d (f+1) (.ptr a b g o)=if a=n∧b=k then .ptr l d g o else .ptr a b g o:=rfl
theorem UN{n k l d a b g:Nat}(f:Nat):KH n k l d (f+1) (.mp a b g)=if a=n∧b=k then .mp l d g else .mp a b g:=rfl
theorem MC{n k l d:Nat}(cs:List V):WQ n k l d (.box cs)=.box (cs.map (KH n k l d 3)):=rfl
theorem PJ{n k l d:Nat}(es:List (V×V)):WQ n k l d (.map es)=.map es:=rfl
theorem LL(k c:Nat)(fr:Fr)(up:List AA)(loc:AA):HT k ⟨c,fr,⟨up,loc⟩⟩=⟨c,NB up.length k (loc.get k) fr,⟨up,EW up.length k (loc.get k) loc⟩⟩:=rfl
theorem LM(k:Nat)(ks:List Nat)(st:XS):OU (k::ks) st=OU ks (HT k st):=rfl
theorem AIA{b:AJ}{T:List (List Int)}(hT:T≠[])(hl:∀t∈T,t.length=b.winds.length){h:Nat}(hh:h<b.winds.length):(jF b.winds.length T).getD h []≠[]:=by obtain⟨t,ht⟩:=List.exists_mem_of_ne_nil _ hT;exact List.ne_nil_of_mem ((AIC hh).2 ⟨t,ht,by rw[hl t ht];exact hh,rfl⟩)
section
variable {b:AJ}{B:AA}{ff:FuncId}{cap:List V}
theorem AIB{b:AJ}:∀t∈EZ b [] b.winds [],t.length=b.winds.length:=fun t ht=>by rw[fJ]at ht;simp only[List.nil_append,List.map_id',List.mem_filter]at ht;exact BZ (PK.1 ht.1)
theorem AB0(hb:Valid b)(hB:∀t:St,1≤t.up.length→AN t B=B)(hcw:cap.map weakV=cap)(hco:cap.all (AK 8)=false)(c d:Nat)(hf:fC b B ff cap c true)(hT:EZ b [] b.winds []≠[])(fr:Fr):∃c',c+8≤c'∧∀n,H9 (BN Tryz.prog ann kn (n+6000)) (some d) ⟨c,fr,⟨[],B⟩⟩ 154 [.agg (AC b),.fn ff [] cap] =
  some ⟨c',(d,true,.tup [.ptr 0 902 (c+4) 0,i 0])::fr,⟨[],(902,c+4,.box (AC b++[GQ (FY b),.mp 0 900 (c+2),.mp 0 901 (c+3)]))::(901,c+3,.map [])::(900,c+2,.map [])::B⟩⟩:=by
 have q1:=fun n=>VQ n b hb.w40
 rw[JV hb]at q1
 have hf:=fun n d fr=>hf (n+4795) d fr
 have q79:=fun n=>tM n b []
 have hwi:=hb.wi
 have hla:=hb.la
 have hw:IntKind.i64.wrap (b.last+1)=(b.winds.length:Int):=by rw[AS (by omega) (by omega)];omega
 have m1:b.winds.length*24≤140737488355328:=by omega
 have m2:b.winds.length≤maxLen:=by unfold maxLen;omega
 obtain⟨L',c',r1,r2,r3⟩:=jU (out:=[]) hb (by simp) hB (fun c c1 g a L hc h=>⟨h.go,h.lv.mono hc,h.ok⟩) (fun c g a L h=>h.lv.st) (ABY b hb c B hB) (false,List.replicate b.winds.length []) (oK b c) (cR hb c) (fB b c)
 rw[AQN]at r1
 have hTe:(EZ b [] b.winds []).isEmpty=false:=by cases h:EZ b [] b.winds []with|nil=>exact absurd h hT|cons x l=>rfl
 rw[hTe]at r1
 obtain⟨_,⟨p7,p28,p25,p26,p8,hrr,pr,plen,pst,p2,p30,p63⟩,rok⟩:=r1
 have hws:List.foldl (fun ws t=>JS ws 0 t) (List.replicate b.winds.length []) (EZ b [] b.winds [])=FY b:=rfl
 have hne:=fun h (hh:h<b.winds.length)=>AIA hT AIB hh
 have hwd:jF b.winds.length (EZ b [] b.winds [])=FY b:=rfl
 rw[hwd]at hne
 simp only[hws]at hrr plen
 have h5:=hb.hl
 have r3:=fun n=>r3 (n+1491)
 refine⟨c',by omega,fun n=>?_⟩
 rw[BG Tryz.func154 b154 rfl (by simp[AC,AH,AL,AF,hco])]
 simp only[AC,li,List.map_nil,oK,HZ,fB,QU,CD,List.cons_append,List.nil_append,Nat.add_assoc,Nat.reduceAdd]at q1 hf q79 r3 p2 p28 pr⊢
 simp[AAV,AG,AH,AL,AF,q1,hB,hcw,hf,q79,hw,m1,m2,aW,Nat.add_assoc]
 rw[eG rfl]
 simp[CD,Nat.add_assoc]
 rw[r3,mS (by simpa [CD]using pr) (by omega)]
 simp only[Bool.not_false,Bool.or_true]at p8
 obtain⟨γs,p24,rrow,rno⟩:=hrr
 generalize FY b=ws at *
 have hlen:ws.length=1∨ws.length=2∨ws.length=3∨ws.length=4∨ws.length=5:=by omega
 rcases hlen with hl|hl|hl|hl|hl
 ·match ws,hl with
  |[w0],_=>
   have hk1:b.winds.length=1:=plen.symm
   have n0:=hne 0 (by omega)
   have r0:=(rrow 0 n0).1
   have r1:=rno 1 (by omega) rfl
   have r2:=rno 2 (by omega) rfl
   have r3:=rno 3 (by omega) rfl
   have r4:=rno 4 (by omega) rfl
   simp only[List.getD_cons_zero,List.getD_cons_succ]at n0 r0
   simp only[Nat.add_zero,Nat.reduceAdd]at r0 r1 r2 r3 r4
   simp[D2,KP,n0,p2,p7,p8,p24,p25,p26,p28,p30,p63,r0,r1,r2,r3,r4,AA.put,CD,hB,ABZ,N4,IG,LM,LL,UL,UK,JQ,dI,hk1,PF,LI,PH,LJ,LK,JR,PI,UN,KQ,MC,PJ,KR,JP,JK,AL,UM,S3]
 ·match ws,hl with
  |[w0,w1],_=>
   have hk1:b.winds.length=2:=plen.symm
   have n0:=hne 0 (by omega)
   have r0:=(rrow 0 n0).1
   have n1:=hne 1 (by omega)
   have r1:=(rrow 1 n1).1
   have r2:=rno 2 (by omega) rfl
   have r3:=rno 3 (by omega) rfl
   have r4:=rno 4 (by omega) rfl
   simp only[List.getD_cons_zero,List.getD_cons_succ]at n0 n1 r0 r1
   simp only[Nat.add_zero,Nat.reduceAdd]at r0 r1 r2 r3 r4
   simp[D2,KP,n0,n1,p2,p7,p8,p24,p25,p26,p28,p30,p63,r0,r1,r2,r3,r4,AA.put,CD,hB,ABZ,N4,IG,LM,LL,UL,UK,JQ,dI,hk1,PF,LI,PH,LJ,LK,JR,PI,UN,KQ,MC,PJ,KR,JP,JK,AL,UM,S3]
 ·match ws,hl with
  |[w0,w1,w2],_=>
   have hk1:b.winds.length=3:=plen.symm
   have n0:=hne 0 (by omega)
   have r0:=(rrow 0 n0).1
   have n1:=hne 1 (by omega)
   have r1:=(rrow 1 n1).1
   have n2:=hne 2 (by omega)
   have r2:=(rrow 2 n2).1
   have r3:=rno 3 (by omega) rfl
   have r4:=rno 4 (by omega) rfl
   simp only[List.getD_cons_zero,List.getD_cons_succ]at n0 n1 n2 r0 r1 r2
   simp only[Nat.add_zero,Nat.reduceAdd]at r0 r1 r2 r3 r4
   simp[D2,KP,n0,n1,n2,p2,p7,p8,p24,p25,p26,p28,p30,p63,r0,r1,r2,r3,r4,AA.put,CD,hB,ABZ,N4,IG,LM,LL,UL,UK,JQ,dI,hk1,PF,LI,PH,LJ,LK,JR,PI,UN,KQ,MC,PJ,KR,JP,JK,AL,UM,S3]
 ·match ws,hl with
  |[w0,w1,w2,w3],_=>
   have hk1:b.winds.length=4:=plen.symm
   have n0:=hne 0 (by omega)
   have r0:=(rrow 0 n0).1
   have n1:=hne 1 (by omega)
   have r1:=(rrow 1 n1).1
   have n2:=hne 2 (by omega)
   have r2:=(rrow 2 n2).1
   have n3:=hne 3 (by omega)
   have r3:=(rrow 3 n3).1
   have r4:=rno 4 (by omega) rfl
   simp only[List.getD_cons_zero,List.getD_cons_succ]at n0 n1 n2 n3 r0 r1 r2 r3
   simp only[Nat.add_zero,Nat.reduceAdd]at r0 r1 r2 r3 r4
   simp[D2,KP,n0,n1,n2,n3,p2,p7,p8,p24,p25,p26,p28,p30,p63,r0,r1,r2,r3,r4,AA.put,CD,hB,ABZ,N4,IG,LM,LL,UL,UK,JQ,dI,hk1,PF,LI,PH,LJ,LK,JR,PI,UN,KQ,MC,PJ,KR,JP,JK,AL,UM,S3]
 ·match ws,hl with
  |[w0,w1,w2,w3,w4],_=>
   have hk1:b.winds.length=5:=plen.symm
   have n0:=hne 0 (by omega)
   have r0:=(rrow 0 n0).1
   have n1:=hne 1 (by omega)
   have r1:=(rrow 1 n1).1
   have n2:=hne 2 (by omega)
   have r2:=(rrow 2 n2).1
   have n3:=hne 3 (by omega)
   have r3:=(rrow 3 n3).1
   have n4:=hne 4 (by omega)
   have r4:=(rrow 4 n4).1
   simp only[List.getD_cons_zero,List.getD_cons_succ]at n0 n1 n2 n3 n4 r0 r1 r2 r3 r4
   simp only[Nat.add_zero,Nat.reduceAdd]at r0 r1 r2 r3 r4
   simp[D2,KP,n0,n1,n2,n3,n4,p2,p7,p8,p24,p25,p26,p28,p30,p63,r0,r1,r2,r3,r4,AA.put,CD,hB,ABZ,N4,IG,LM,LL,UL,UK,JQ,dI,hk1,PF,LI,PH,LJ,LK,JR,PI,UN,KQ,MC,PJ,KR,JP,JK,AL,UM,S3]
end
end Go.Proofs.Tryz.Op
