/- A word looked up in a scene: the walk, upon an open memo. No condition. -/
import Derived.Test.YtmnlpgjklibndaaGreatCa
import Derived.Test.YtmnlpgjklibndaaGreatSw
open Go.Proofs.Tryz renaming prog->bq
set_option maxRecDepth 100000
set_option linter.unusedSimpArgs false
open Go Go.Pg
namespace Go.Proofs.Tryz.Op
def kn0:CF0:=fun _ _=>none
theorem yI:EF bq kn0:=fun _ _ _ h=>by cases h
theorem fQ{N:Nat}{r:Code}{i:IR}{a:Tr}(_:RX N r i a)(hr:bW r=true:=by kernel_rfl)(hi:bV bq (MT r) (IL r)=i:=by kernel_rfl)(hok:okR bq (MT r) (IL r)=true:=by kernel_rfl)(ha:ann N (CP r)=a:=by kernel_rfl)(ht:ann N (CP r+HJ)=none:=by kernel_rfl)(hp:ann N (CP r+ZU)=none:=by kernel_rfl)(n:Nat)(st:XS) :
  AG bq ann kn0 (n+1) N r st=S2 (O8 bq (BR bq ann kn0 n) i (CN a st)):=lD hr hi hok ha ht hp
theorem SC(s:St)(L:List (Wrd×Bool)):BM s (.map (L.map DJ))=.map (L.map DJ):=by
 have:BN s (.map (L.map DJ))=some (.map (L.map DJ)):=by unfold BN;simp only;rw[HT];intro x hx;simp only[List.mem_map]at hx;obtain⟨p,_,rfl⟩:=hx;rfl
 unfold BM;rw[this]
theorem u0(n:Nat)(st:XS):AG bq ann kn0 n 59 SF st=AG bq ann kn0 n 59 (.seq (KG 559) (.seq (.cond (.tmp 31) .skip (.exit 0)) (.seq (.block 1 (.seq (KG 9007) (.seq (KG 21295) (.seq (.seq (KG 78639) (.cond (.tmp 37) (KG 176943) .skip)) (.seq (KG 95023) (.cond (.tmp 43) (KG 193327) .skip)))))) (KG 3887)))) st:=rfl
theorem AL5{n:Int}(h:(Lit.int .i64 n).wf=true):-9223372036854775808<=n/\n<9223372036854775808:=by simp only[Lit.wf,Bool.and_eq_true,decide_eq_true_eq]at h;have:IntKind.i64.max=9223372036854775807:=rfl;have:IntKind.i64.min = -9223372036854775808:=rfl;omega
theorem AXI{e:List V}(h:gS e=true):∃k c t:Int,e=[.int .i64 k,.int .i64 c,.int .i64 t]:=by
 unfold gS at h;split at h
 ·exact⟨_,_,_,rfl⟩
 ·cases h
theorem AXJ(n:Nat)(L:List (Wrd×Bool))(w:Wrd)(hw:w.ok)(es:List (List V))(hl:(es.length:Int)=w.after)(a b:V)(hr:es.all gS=true) :
  ∀(d k:Nat) (o:Bool) (m c:Nat),d+k=es.length->d<m->2<=c->∃c',2<=c'/\BS (AG bq ann kn0 (n+200) 59) SF (ann 59 (CP SF)) m
   ⟨c,[(0,true,.ref [a,b]),(3,true,.ptr 1 3 1 0),(7,true,.bool o),(28,true,.list false es),(29,true,.int .i64 w.after),(30,true,.int .i64 k)],⟨[[(0,0,.map (L.map DJ))]],[(3,1,.box [.int .i64 w.after,.bool w.tok,.int .i64 w.num,.bool w.out])]⟩⟩ =
   some (.exit 0,⟨c',[(31,true,.bool false),(0,true,.ref [a,b]),(3,true,.ptr 1 3 1 0),(7,true,.bool (ZD w.tok w.num (es.drop k) o)),(28,true,.list false es),(29,true,.int .i64 w.after),(30,true,.int .i64 w.after)],⟨[[(0,0,.map (L.map DJ))]],[(3,1,.box [.int .i64 w.after,.bool w.tok,.int .i64 w.num,.bool w.out])]⟩⟩)
 |0,k,o,m+1,c,hd,hm,hc=>by
  have hk:(k:Int)=w.after:=by omega
  have y6:=fQ AJH;refine⟨c,hc,?_⟩;rw[List.drop_eq_nil_of_le (by omega),AD];simp[hk,ZD,u0,y6]
 |d+1,k,o,m+1,c,hd,hm,hc=>by
  have hk:k<es.length:=by omega
  have hq:=AL5 hw.1;have hwr:IntKind.i64.wrap ((k:Int)+1)=(k:Int)+1:=AV (by omega) (by omega);have hlt:(k:Int)<w.after:=by omega
  obtain⟨kd,ch,tk,he⟩:=AXI (List.all_eq_true.1 hr _ (List.getElem_mem hk));have y6:=fQ AJH;have y7:=fQ AX3;have y8:=fQ AX4;have y9:=fQ AX5;have y10:=fQ AMI;have y11:=fQ AMJ;have y12:=fQ AMK;have y13:=fQ AML;obtain⟨c',h1,ih⟩:=AXJ n L w hw es hl a b hr d (k+1) (if (if w.tok=true then tk else ch)=w.num then decide (kd=1) else o) m (c+1) (by omega) (by omega) (by omega);refine⟨c',h1,?_⟩;have hdr:ZD w.tok w.num (es.drop k) o=ZD w.tok w.num (es.drop (k+1)) (if (if w.tok=true then tk else ch)=w.num then decide (kd=1) else o):=by rw[List.drop_eq_getElem_cons hk,he];rfl
  rw[hdr,AD];simp[u0,hk,hlt,hwr,he,y6,y7,y8,y9,y10,y11,y12,y13];simp at ih;cases ht:w.tok<;>simp[ht]at ih|-
  ·by_cases hn:ch=w.num
   ·simp[hn]at ih;simp[ht,hn,hwr,ih,y10,y11,y12,y13]
   ·simp[hn]at ih;simp[ht,hn,hwr,ih,y10,y11,y12,y13]
  ·by_cases hn:tk=w.num
   ·simp[hn]at ih;simp[ht,hn,hwr,ih,y10,y11,y12,y13]
   ·simp[hn]at ih;simp[ht,hn,hwr,ih,y10,y11,y12,y13]
theorem AL6(n:Nat)(cf:Bool)(es:List (List V))(L:List (Wrd×Bool))(w:Wrd)(hL:gA es L)(hw:w.ok)(h0:0<=w.after)(h1:w.after<=es.length)(hr:es.all gS=true) :
  ∃L' c' M,gA es L'/\AA.get M 0=some (0,.map (L'.map DJ))/\ME (BR bq ann kn0 (n+w.after.toNat+300)) (some 0) ⟨1,[],⟨[],[(0,0,.map (L.map DJ))]⟩⟩ 78 [.ref [.list cf es,.mp 0 0 0],MZ w] =
   some ⟨c',[(0,true,.bool (tW es w))],⟨[],M⟩⟩:=by
 rw[BP Tryz.func78 b78 rfl (by simp)]
 have qs:=fun (s:St) (b:Bool)=>pI (P:=bq) (s:=s) (T:=36) (e:=96) (es:=es) (h:=w.after) (b:=b) (by kernel_rfl) (by simp) h0 h1
 obtain⟨k,hk,ql⟩:=tX (s:=⟨[[(0,0,.map (L.map DJ))]],[(3,1,.box [.int .i64 w.after,.bool w.tok,.int .i64 w.num,.bool w.out])]⟩) (l:=0) (q:=0) (g:=0) (es:=es) (L:=L) (w:=w) rfl hL hw
 unfold MZ at ql|-
 have y0:=fQ AXX
 have y1:=fQ AXY
 have y2:=fQ AXZ
 cases k with
 |true=>
  have y3:=fQ AX0
  refine⟨L,?c',[(0,0,.map (L.map DJ))],hL,rfl,?_⟩
  case true=>
   simp[c78,AH,ql,SC,y0,y1,y2,y3]
   exact rfl
 |false=>
  have y4:=fQ AX1
  have y5:=fQ AX2
  have y14:=fQ AMM
  have y15:=fQ AMN
  have y16:=fQ AMO
  obtain⟨c',hc',hlp⟩:=AXJ (n+w.after.toNat+92) L w hw (es.take w.after.toNat) (by rw[List.length_take];omega) (.list cf es) (.mp 0 0 0) (by rw[List.all_eq_true]at hr|-;exact fun x hx=>hr x (List.mem_of_mem_take hx)) w.after.toNat 0 false (n+w.after.toNat+292) 2 (by rw[List.length_take];omega) (by omega) (by omega)
  rw[List.drop_zero]at hlp
  have hmin:((min w.after.toNat es.length:Nat):Int)=w.after:=by omega
  simp at hlp
  have qu:=yG (s:=⟨[[(0,0,.map (L.map DJ))]],[(3,1,.box [.int .i64 w.after,.bool w.tok,.int .i64 w.num,.bool w.out])]⟩) (l:=0) (q:=0) (g:=0) (es:=es) (L:=L) (w:=w) (tW es w) rfl hL hw (hk rfl)
  unfold tW MZ at qu
  refine⟨L++[(w,tW es w)],c',[(0,0,.map ((L++[(w,tW es w)]).map DJ)),(0,0,.map (L.map DJ))],yH hL hw ⟨h0,h1⟩ (hk rfl),rfl,?f2⟩
  case f2=>
   have qsh:=fun t=>SC t (L++[(w,tW es w)])
   unfold tW at qsh|-
   have qp:=fun fr s=>YC (c:=c') (fr:=fr) (s:=s) 0 0 0 ((L++[(w,ZD w.tok w.num (es.take w.after.toNat) false==w.out)]).map DJ) (by omega)
   simp only[List.map_append,List.map_cons,List.map_nil]at qu qp qsh|-
   simp[c78,AH,ql,qs,hmin,hlp,qu,qp,y0,y1,y2,y4,y5,y14,y15,y16]
   show[(0,0,BM _ _),(0,0,BM _ _)]=_
   rw[qsh,SC]
theorem hP:DM bq:=⟨by kernel_rfl,by kernel_rfl⟩
theorem cK(σ:Nat->Nat)(δ:Nat)(L:List (Wrd×Bool)):(AZ.map (L.map DJ)).ren σ δ=.map (L.map DJ):=by show AZ.map _=_;rw[List.map_map];rfl
theorem is_ok(c key:V)(b:Bool)(h1:E7 9 c=true)(_:E7 9 key=true)(h3:isV [c] key=some b)(es:List (V×V))(he:IV [c] es) :
  DQ bq 78 [.ref [c,.mp 0 0 0],key] ⟨[],[(0,0,.map es)]⟩ fun r s'=>r=.bool b/\∃es',s'.get 0 0=some (0,.map es')/\IV [c] es':=by
 obtain⟨cf,rows,w,rfl,rfl,hw,hr,h4,h5,rfl⟩:=fZ h3
 obtain⟨L,rfl,hL⟩:=gB he
 obtain⟨L',c',M,q1,qM,q3⟩:=AL6 0 cf rows L w hL hw h4 h5 hr
 have hc:=jR hP yI (JH hP (A:=ann) yI (0+w.after.toNat+300))
 unfold ME at q3
 have hcl:∀σ:Nat->Nat,(V.list cf rows).ren σ 0=.list cf rows:=fun σ=>BV 9 _ (EK 9 _ h1)
 split at q3
 ·rename_i r st' hx;obtain⟨u,fr',s'⟩:=st';have hx':T7 bq kn0 (AG bq ann kn0 (0+w.after.toNat+300)) 78 [.ref [.list cf rows,.mp 0 0 0],MZ w] ⟨1,[],⟨[],[(0,0,.map (L.map DJ))]⟩⟩=some (r,⟨u,fr',s'⟩):=hx;obtain⟨_,_,e3,e4⟩:=hc _ _ _ _ _ hx' ⟨fun _ _ _ _=>rfl,fun σ σ' pre ha=>by
    have:=ha 0 Nat.one_pos;simp[St.emb,AA.ren,cK,this],fun l k γ fr ps asg body N st h=>by
    unfold St.get at h;split at h
    ·simp only[AA.get]at h;split at h<;>cases h
    ·simp at h⟩ (fun v hv σ σ' δ ha=>by
    have h0:=ha 0 Nat.one_pos;rcases List.mem_cons.1 hv with rfl|hv
    ·have e1:=BV (σ:=σ) (δ:=δ) 9 _ (EK 9 _ h1);have e2:=BV (σ:=σ') (δ:=δ) 9 _ (EK 9 _ h1);simp only[JU,List.map_cons,List.map_nil,e1,e2,LR,h0]
    ·rcases List.mem_singleton.1 hv with rfl;rfl)
  have e3:fr'=[]:=e3;subst e3;simp only[Option.some.injEq,XS.mk.injEq]at q3;obtain⟨rfl,hr1,rfl⟩:=q3;have hrb:r=.bool (tW rows w):=by have:[((0:Nat),true,r)]=[(0,true,V.bool (tW rows w))]:=hr1;simpa using this
  subst hrb;have:=e4 id [] (fun r s'=>r=.bool (tW rows w)/\∃es',s'.get 0 0=some (0,.map es')/\IV [.list cf rows] es') fun σ' ha=>by refine⟨rfl,L'.map DJ,?_,yF q1 hr⟩;have hg:=BO (s:=⟨[],M⟩) (σ:=σ') (pre:=[]) 0 0;rw[show St.get ⟨[],M⟩ 0 0=AA.get M 0 from rfl,qM]at hg;have h0:=ha 0 Nat.one_pos;simp only[Option.map_some,cK,<-h0]at hg;exact hg
  have hargs:[V.ref [.list cf rows,.mp 0 0 0],MZ w].map (V.ren id 0)=[V.ref [.list cf rows,.mp 0 0 0],MZ w]:=by simp[hcl id,MZ]
  have hst:St.emb id [] ⟨[],[(0,0,.map (L.map DJ))]⟩=⟨[],[(0,0,.map (L.map DJ))]⟩:=by simp[St.emb,AA.ren,cK]
  rw[hst]at this;exact hargs▸this
 ·cases q3
end Go.Proofs.Tryz.Op
