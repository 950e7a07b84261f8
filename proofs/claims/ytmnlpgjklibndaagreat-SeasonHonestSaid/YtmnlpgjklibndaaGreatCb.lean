/- A word looked up in a scene: the walk, upon an open memo. No condition. -/
import Derived.Test.YtmnlpgjklibndaaGreatCa
import Derived.Test.YtmnlpgjklibndaaGreatSw
open Go.Proofs.Tryz renaming prog->bq
set_option maxRecDepth 100000
set_option linter.unusedSimpArgs false
open Go Go.Pg
namespace Go.Proofs.Tryz.Op
def kn0:CF0:=fun _ _=>none
theorem AAQ:EN bq kn0:=fun _ _ _ h=>by cases h
theorem gZ{N:Nat}{r:Code}{i:IR}{a:Tr}(_:RX N r i a)(hr:dD r=true:=by kernel_rfl)(hi:dC bq (NB r) (I1 r)=i:=by kernel_rfl)(hok:okR bq (NB r) (I1 r)=true:=by kernel_rfl)(ha:ann N (CU r)=a:=by kernel_rfl)(ht:ann N (CU r+HU)=none:=by kernel_rfl)(hp:ann N (CU r+aU)=none:=by kernel_rfl)(n:Nat)(st:XS) :
  AG bq ann kn0 (n+1) N r st=SF (NF bq (BS bq ann kn0 n) i (CR a st)):=mT hr hi hok ha ht hp
theorem S6(s:St)(L:List (Wrd×Bool)):BN s (.map (L.map DP))=.map (L.map DP):=by
 have:BO s (.map (L.map DP))=some (.map (L.map DP)):=by unfold BO;simp only;rw[H4];intro x hx;simp only[List.mem_map]at hx;obtain⟨p,_,rfl⟩:=hx;rfl
 unfold BN;rw[this]
theorem u0(n:Nat)(st:XS):AG bq ann kn0 n 59 TB st=AG bq ann kn0 n 59 (.seq (KW 559) (.seq (.cond (.tmp 31) .skip (.exit 0)) (.seq (.block 1 (.seq (KW 9007) (.seq (KW 21295) (.seq (.seq (KW 78639) (.cond (.tmp 37) (KW 176943) .skip)) (.seq (KW 95023) (.cond (.tmp 43) (KW 193327) .skip)))))) (KW 3887)))) st:=rfl
theorem ANR{n:Int}(h:(Lit.int .i64 n).wf=true):-9223372036854775808<=n/\n<9223372036854775808:=by simp only[Lit.wf,Bool.and_eq_true,decide_eq_true_eq]at h;have:IntKind.i64.max=9223372036854775807:=rfl;have:IntKind.i64.min = -9223372036854775808:=rfl;omega
theorem AY9{e:List V}(h:jE e=true):∃k c t:Int,e=[.int .i64 k,.int .i64 c,.int .i64 t]:=by
 unfold jE at h;split at h
 ·exact⟨_,_,_,rfl⟩
 ·cases h
theorem AZA(n:Nat)(L:List (Wrd×Bool))(w:Wrd)(hw:w.ok)(es:List (List V))(hl:(es.length:Int)=w.after)(a b:V)(hr:es.all jE=true) :
  ∀(d k:Nat) (o:Bool) (m c:Nat),d+k=es.length->d<m->2<=c->∃c',2<=c'/\BR (AG bq ann kn0 (n+200) 59) TB (ann 59 (CU TB)) m
   ⟨c,[(0,true,.ref [a,b]),(3,true,.ptr 1 3 1 0),(7,true,.bool o),(28,true,.list false es),(29,true,.int .i64 w.after),(30,true,.int .i64 k)],⟨[[(0,0,.map (L.map DP))]],[(3,1,.box [.int .i64 w.after,.bool w.tok,.int .i64 w.num,.bool w.out])]⟩⟩ =
   some (.exit 0,⟨c',[(31,true,.bool false),(0,true,.ref [a,b]),(3,true,.ptr 1 3 1 0),(7,true,.bool (XC w.tok w.num (es.drop k) o)),(28,true,.list false es),(29,true,.int .i64 w.after),(30,true,.int .i64 w.after)],⟨[[(0,0,.map (L.map DP))]],[(3,1,.box [.int .i64 w.after,.bool w.tok,.int .i64 w.num,.bool w.out])]⟩⟩)
 |0,k,o,m+1,c,hd,hm,hc=>by
  have hk:(k:Int)=w.after:=by omega
  have y6:=gZ AKX;refine⟨c,hc,?_⟩;rw[List.drop_eq_nil_of_le (by omega),AE];simp[hk,XC,u0,y6]
 |d+1,k,o,m+1,c,hd,hm,hc=>by
  have hk:k<es.length:=by omega
  have hq:=ANR hw.1;have hwr:IntKind.i64.wrap ((k:Int)+1)=(k:Int)+1:=AV (by omega) (by omega);have hlt:(k:Int)<w.after:=by omega
  obtain⟨kd,ch,tk,he⟩:=AY9 (List.all_eq_true.1 hr _ (List.getElem_mem hk));have y6:=gZ AKX;have y7:=gZ AZQ;have y8:=gZ AZR;have y9:=gZ AZS;have y10:=gZ AN2;have y11:=gZ AN3;have y12:=gZ AN4;have y13:=gZ AN5;obtain⟨c',h1,ih⟩:=AZA n L w hw es hl a b hr d (k+1) (if (if w.tok=true then tk else ch)=w.num then decide (kd=1) else o) m (c+1) (by omega) (by omega) (by omega);refine⟨c',h1,?_⟩;have hdr:XC w.tok w.num (es.drop k) o=XC w.tok w.num (es.drop (k+1)) (if (if w.tok=true then tk else ch)=w.num then decide (kd=1) else o):=by rw[List.drop_eq_getElem_cons hk,he];rfl
  rw[hdr,AE];simp[u0,hk,hlt,hwr,he,y6,y7,y8,y9,y10,y11,y12,y13];simp at ih;cases ht:w.tok<;>simp[ht]at ih|-
  ·by_cases hn:ch=w.num
   ·simp[hn]at ih;simp[ht,hn,hwr,ih,y10,y11,y12,y13]
   ·simp[hn]at ih;simp[ht,hn,hwr,ih,y10,y11,y12,y13]
  ·by_cases hn:tk=w.num
   ·simp[hn]at ih;simp[ht,hn,hwr,ih,y10,y11,y12,y13]
   ·simp[hn]at ih;simp[ht,hn,hwr,ih,y10,y11,y12,y13]
theorem ANS(n:Nat)(cf:Bool)(es:List (List V))(L:List (Wrd×Bool))(w:Wrd)(hL:iF es L)(hw:w.ok)(h0:0<=w.after)(h1:w.after<=es.length)(hr:es.all jE=true) :
  ∃L' c' M,iF es L'/\AA.get M 0=some (0,.map (L'.map DP))/\MU (BS bq ann kn0 (n+w.after.toNat+300)) (some 0) ⟨1,[],⟨[],[(0,0,.map (L.map DP))]⟩⟩ 78 [.ref [.list cf es,.mp 0 0 0],NJ w] =
   some ⟨c',[(0,true,.bool (vX es w))],⟨[],M⟩⟩:=by
 rw[BQ Tryz.func78 b78 rfl (by simp)]
 have qs:=fun (s:St) (b:Bool)=>rT (P:=bq) (s:=s) (T:=36) (e:=96) (es:=es) (h:=w.after) (b:=b) (by kernel_rfl) (by simp) h0 h1
 obtain⟨k,hk,ql⟩:=vY (s:=⟨[[(0,0,.map (L.map DP))]],[(3,1,.box [.int .i64 w.after,.bool w.tok,.int .i64 w.num,.bool w.out])]⟩) (l:=0) (q:=0) (g:=0) (es:=es) (L:=L) (w:=w) rfl hL hw
 unfold NJ at ql|-
 have y0:=gZ AZK
 have y1:=gZ AZL
 have y2:=gZ AZM
 cases k with
 |true=>
  have y3:=gZ AZN
  refine⟨L,?c',[(0,0,.map (L.map DP))],hL,rfl,?_⟩
  case true=>
   simp[c78,AH,ql,S6,y0,y1,y2,y3]
   exact rfl
 |false=>
  have y4:=gZ AZO
  have y5:=gZ AZP
  have y14:=gZ AN6
  have y15:=gZ AN7
  have y16:=gZ AN8
  obtain⟨c',hc',hlp⟩:=AZA (n+w.after.toNat+92) L w hw (es.take w.after.toNat) (by rw[List.length_take];omega) (.list cf es) (.mp 0 0 0) (by rw[List.all_eq_true]at hr|-;exact fun x hx=>hr x (List.mem_of_mem_take hx)) w.after.toNat 0 false (n+w.after.toNat+292) 2 (by rw[List.length_take];omega) (by omega) (by omega)
  rw[List.drop_zero]at hlp
  have hmin:((min w.after.toNat es.length:Nat):Int)=w.after:=by omega
  simp at hlp
  have qu:=AAO (s:=⟨[[(0,0,.map (L.map DP))]],[(3,1,.box [.int .i64 w.after,.bool w.tok,.int .i64 w.num,.bool w.out])]⟩) (l:=0) (q:=0) (g:=0) (es:=es) (L:=L) (w:=w) (vX es w) rfl hL hw (hk rfl)
  unfold vX NJ at qu
  refine⟨L++[(w,vX es w)],c',[(0,0,.map ((L++[(w,vX es w)]).map DP)),(0,0,.map (L.map DP))],AAP hL hw ⟨h0,h1⟩ (hk rfl),rfl,?f2⟩
  case f2=>
   have qsh:=fun t=>S6 t (L++[(w,vX es w)])
   unfold vX at qsh|-
   have qp:=fun fr s=>Y8 (c:=c') (fr:=fr) (s:=s) 0 0 0 ((L++[(w,XC w.tok w.num (es.take w.after.toNat) false==w.out)]).map DP) (by omega)
   simp only[List.map_append,List.map_cons,List.map_nil]at qu qp qsh|-
   simp[c78,AH,ql,qs,hmin,hlp,qu,qp,y0,y1,y2,y4,y5,y14,y15,y16]
   show[(0,0,BN _ _),(0,0,BN _ _)]=_
   rw[qsh,S6]
theorem hP:DR bq:=⟨by kernel_rfl,by kernel_rfl⟩
theorem dS(σ:Nat->Nat)(δ:Nat)(L:List (Wrd×Bool)):(AZ.map (L.map DP)).ren σ δ=.map (L.map DP):=by show AZ.map _=_;rw[List.map_map];rfl
theorem is_ok(c key:V)(b:Bool)(h1:FG 9 c=true)(_:FG 9 key=true)(h3:isV [c] key=some b)(es:List (V×V))(he:I7 [c] es) :
  DX bq 78 [.ref [c,.mp 0 0 0],key] ⟨[],[(0,0,.map es)]⟩ fun r s'=>r=.bool b/\∃es',s'.get 0 0=some (0,.map es')/\I7 [c] es':=by
 obtain⟨cf,rows,w,rfl,rfl,hw,hr,h4,h5,rfl⟩:=iE h3
 obtain⟨L,rfl,hL⟩:=iG he
 obtain⟨L',c',M,q1,qM,q3⟩:=ANS 0 cf rows L w hL hw h4 h5 hr
 have hc:=lM hP AAQ (JV hP (A:=ann) AAQ (0+w.after.toNat+300))
 unfold MU at q3
 have hcl:∀σ:Nat->Nat,(V.list cf rows).ren σ 0=.list cf rows:=fun σ=>BX 9 _ (ET 9 _ h1)
 split at q3
 ·rename_i r st' hx;obtain⟨u,fr',s'⟩:=st';have hx':U0 bq kn0 (AG bq ann kn0 (0+w.after.toNat+300)) 78 [.ref [.list cf rows,.mp 0 0 0],NJ w] ⟨1,[],⟨[],[(0,0,.map (L.map DP))]⟩⟩=some (r,⟨u,fr',s'⟩):=hx;obtain⟨_,_,e3,e4⟩:=hc _ _ _ _ _ hx' ⟨fun _ _ _ _=>rfl,fun σ σ' pre ha=>by
    have:=ha 0 Nat.one_pos;simp[St.emb,AA.ren,dS,this],fun l k γ fr ps asg body N st h=>by
    unfold St.get at h;split at h
    ·simp only[AA.get]at h;split at h<;>cases h
    ·simp at h⟩ (fun v hv σ σ' δ ha=>by
    have h0:=ha 0 Nat.one_pos;rcases List.mem_cons.1 hv with rfl|hv
    ·have e1:=BX (σ:=σ) (δ:=δ) 9 _ (ET 9 _ h1);have e2:=BX (σ:=σ') (δ:=δ) 9 _ (ET 9 _ h1);simp only[J8,List.map_cons,List.map_nil,e1,e2,MF,h0]
    ·rcases List.mem_singleton.1 hv with rfl;rfl)
  have e3:fr'=[]:=e3;subst e3;simp only[Option.some.injEq,XS.mk.injEq]at q3;obtain⟨rfl,hr1,rfl⟩:=q3;have hrb:r=.bool (vX rows w):=by have:[((0:Nat),true,r)]=[(0,true,V.bool (vX rows w))]:=hr1;simpa using this
  subst hrb;have:=e4 id [] (fun r s'=>r=.bool (vX rows w)/\∃es',s'.get 0 0=some (0,.map es')/\I7 [.list cf rows] es') fun σ' ha=>by refine⟨rfl,L'.map DP,?_,AAN q1 hr⟩;have hg:=BP (s:=⟨[],M⟩) (σ:=σ') (pre:=[]) 0 0;rw[show St.get ⟨[],M⟩ 0 0=AA.get M 0 from rfl,qM]at hg;have h0:=ha 0 Nat.one_pos;simp only[Option.map_some,dS,<-h0]at hg;exact hg
  have hargs:[V.ref [.list cf rows,.mp 0 0 0],NJ w].map (V.ren id 0)=[V.ref [.list cf rows,.mp 0 0 0],NJ w]:=by simp[hcl id,NJ]
  have hst:St.emb id [] ⟨[],[(0,0,.map (L.map DP))]⟩=⟨[],[(0,0,.map (L.map DP))]⟩:=by simp[St.emb,AA.ren,dS]
  rw[hst]at this;exact hargs▸this
 ·cases q3
end Go.Proofs.Tryz.Op
