/- A word looked up in a scene: the walk, upon an open memo. No condition. -/
import Derived.Test.YtmnlpgjklibndaaGreatCa
import Derived.Test.YtmnlpgjklibndaaGreatSw
open Go.Proofs.Tryz renaming prog->bq
set_option maxRecDepth 100000
set_option linter.unusedSimpArgs false
open Go Go.Pg
namespace Go.Proofs.Tryz.Op
def kn0:CF0:=fun _ _=>none
theorem uR:DZ bq kn0:=fun _ _ _ h=>by cases h
theorem cR{N:Nat}{r:Code}{i:IR}{a:Tr}(_:RX N r i a)(hr:ZJ r=true:=by kernel_rfl)(hi:ZI bq (LP r) (HW r)=i:=by kernel_rfl)(hok:okR bq (LP r) (HW r)=true:=by kernel_rfl)(ha:ann N (CO r)=a:=by kernel_rfl)(ht:ann N (CO r+GV)=none:=by kernel_rfl)(hp:ann N (CO r+X1)=none:=by kernel_rfl)(n:Nat)(st:XS) :
  AF bq ann kn0 (n+1) N r st=TD (QR bq (BU bq ann kn0 n) i (CS a st)):=gS hr hi hok ha ht hp
theorem RA(s:St)(L:List (Wrd×Bool)):BT s (.map (L.map DB))=.map (L.map DB):=by
 have:BN s (.map (L.map DB))=some (.map (L.map DB)):=by unfold BN;simp only;rw[IX];intro x hx;simp only[List.mem_map]at hx;obtain⟨p,_,rfl⟩:=hx;rfl
 unfold BT;rw[this]
theorem u0(n:Nat)(st:XS):AF bq ann kn0 n 59 RB st=AF bq ann kn0 n 59 (.seq (JV 559) (.seq (.cond (.tmp 31) .skip (.exit 0)) (.seq (.block 1 (.seq (JV 9007) (.seq (JV 21295) (.seq (.seq (JV 78639) (.cond (.tmp 37) (JV 176943) .skip)) (.seq (JV 95023) (.cond (.tmp 43) (JV 193327) .skip)))))) (JV 3887)))) st:=rfl
theorem AIC{n:Int}(h:(Lit.int .i64 n).wf=true):-9223372036854775808<=n/\n<9223372036854775808:=by simp only[Lit.wf,Bool.and_eq_true,decide_eq_true_eq]at h;have:IntKind.i64.max=9223372036854775807:=rfl;have:IntKind.i64.min = -9223372036854775808:=rfl;omega
theorem ASX{e:List V}(h:dJ e=true):∃k c t:Int,e=[.int .i64 k,.int .i64 c,.int .i64 t]:=by
 unfold dJ at h;split at h
 ·exact⟨_,_,_,rfl⟩
 ·cases h
theorem ASY(n:Nat)(L:List (Wrd×Bool))(w:Wrd)(hw:w.ok)(es:List (List V))(hl:(es.length:Int)=w.after)(a b:V)(hr:es.all dJ=true) :
  ∀(d k:Nat) (o:Bool) (m c:Nat),d+k=es.length->d<m->2<=c->∃c',2<=c'/\BQ (AF bq ann kn0 (n+200) 59) RB (ann 59 (CO RB)) m
   ⟨c,[(0,true,.ref [a,b]),(3,true,.ptr 1 3 1 0),(7,true,.bool o),(28,true,.list false es),(29,true,.int .i64 w.after),(30,true,.int .i64 k)],⟨[[(0,0,.map (L.map DB))]],[(3,1,.box [.int .i64 w.after,.bool w.tok,.int .i64 w.num,.bool w.out])]⟩⟩ =
   some (.exit 0,⟨c',[(31,true,.bool false),(0,true,.ref [a,b]),(3,true,.ptr 1 3 1 0),(7,true,.bool (S6 w.tok w.num (es.drop k) o)),(28,true,.list false es),(29,true,.int .i64 w.after),(30,true,.int .i64 w.after)],⟨[[(0,0,.map (L.map DB))]],[(3,1,.box [.int .i64 w.after,.bool w.tok,.int .i64 w.num,.bool w.out])]⟩⟩)
 |0,k,o,m+1,c,hd,hm,hc=>by
  have hk:(k:Int)=w.after:=by omega
  have y6:=cR AFQ;refine⟨c,hc,?_⟩;rw[List.drop_eq_nil_of_le (by omega),AE];simp[hk,S6,u0,y6]
 |d+1,k,o,m+1,c,hd,hm,hc=>by
  have hk:k<es.length:=by omega
  have hq:=AIC hw.1;have hwr:IntKind.i64.wrap ((k:Int)+1)=(k:Int)+1:=AW (by omega) (by omega);have hlt:(k:Int)<w.after:=by omega
  obtain⟨kd,ch,tk,he⟩:=ASX (List.all_eq_true.1 hr _ (List.getElem_mem hk));have y6:=cR AFQ;have y7:=cR AS9;have y8:=cR ATA;have y9:=cR ATB;have y10:=cR AIH;have y11:=cR AII;have y12:=cR AIJ;have y13:=cR AIK;obtain⟨c',h1,ih⟩:=ASY n L w hw es hl a b hr d (k+1) (if (if w.tok=true then tk else ch)=w.num then decide (kd=1) else o) m (c+1) (by omega) (by omega) (by omega);refine⟨c',h1,?_⟩;have hdr:S6 w.tok w.num (es.drop k) o=S6 w.tok w.num (es.drop (k+1)) (if (if w.tok=true then tk else ch)=w.num then decide (kd=1) else o):=by rw[List.drop_eq_getElem_cons hk,he];rfl
  rw[hdr,AE];simp[u0,hk,hlt,hwr,he,y6,y7,y8,y9,y10,y11,y12,y13];simp at ih;cases ht:w.tok<;>simp[ht]at ih|-
  ·by_cases hn:ch=w.num
   ·simp[hn]at ih;simp[ht,hn,hwr,ih,y10,y11,y12,y13]
   ·simp[hn]at ih;simp[ht,hn,hwr,ih,y10,y11,y12,y13]
  ·by_cases hn:tk=w.num
   ·simp[hn]at ih;simp[ht,hn,hwr,ih,y10,y11,y12,y13]
   ·simp[hn]at ih;simp[ht,hn,hwr,ih,y10,y11,y12,y13]
theorem AID(n:Nat)(cf:Bool)(es:List (List V))(L:List (Wrd×Bool))(w:Wrd)(hL:dC es L)(hw:w.ok)(h0:0<=w.after)(h1:w.after<=es.length)(hr:es.all dJ=true) :
  ∃L' c' M,dC es L'/\AB.get M 0=some (0,.map (L'.map DB))/\NS (BU bq ann kn0 (n+w.after.toNat+300)) (some 0) ⟨1,[],⟨[],[(0,0,.map (L.map DB))]⟩⟩ 78 [.ref [.list cf es,.mp 0 0 0],L5 w] =
   some ⟨c',[(0,true,.bool (pO es w))],⟨[],M⟩⟩:=by
 rw[CC Tryz.func78 b78 rfl (by simp)]
 have qs:=fun (s:St) (b:Bool)=>lS (P:=bq) (s:=s) (T:=36) (e:=96) (es:=es) (h:=w.after) (b:=b) (by kernel_rfl) (by simp) h0 h1
 obtain⟨k,hk,ql⟩:=pP (s:=⟨[[(0,0,.map (L.map DB))]],[(3,1,.box [.int .i64 w.after,.bool w.tok,.int .i64 w.num,.bool w.out])]⟩) (l:=0) (q:=0) (g:=0) (es:=es) (L:=L) (w:=w) rfl hL hw
 unfold L5 at ql|-
 have y0:=cR AS3
 have y1:=cR AS4
 have y2:=cR AS5
 cases k with
 |true=>
  have y3:=cR AS6
  refine⟨L,?c',[(0,0,.map (L.map DB))],hL,rfl,?_⟩
  case true=>
   simp[c78,AJ,ql,RA,y0,y1,y2,y3]
   exact rfl
 |false=>
  have y4:=cR AS7
  have y5:=cR AS8
  have y14:=cR AIL
  have y15:=cR AIM
  have y16:=cR AIN
  obtain⟨c',hc',hlp⟩:=ASY (n+w.after.toNat+92) L w hw (es.take w.after.toNat) (by rw[List.length_take];omega) (.list cf es) (.mp 0 0 0) (by rw[List.all_eq_true]at hr|-;exact fun x hx=>hr x (List.mem_of_mem_take hx)) w.after.toNat 0 false (n+w.after.toNat+292) 2 (by rw[List.length_take];omega) (by omega) (by omega)
  rw[List.drop_zero]at hlp
  have hmin:((min w.after.toNat es.length:Nat):Int)=w.after:=by omega
  simp at hlp
  have qu:=uP (s:=⟨[[(0,0,.map (L.map DB))]],[(3,1,.box [.int .i64 w.after,.bool w.tok,.int .i64 w.num,.bool w.out])]⟩) (l:=0) (q:=0) (g:=0) (es:=es) (L:=L) (w:=w) (pO es w) rfl hL hw (hk rfl)
  unfold pO L5 at qu
  refine⟨L++[(w,pO es w)],c',[(0,0,.map ((L++[(w,pO es w)]).map DB)),(0,0,.map (L.map DB))],uQ hL hw ⟨h0,h1⟩ (hk rfl),rfl,?f2⟩
  case f2=>
   have qsh:=fun t=>RA t (L++[(w,pO es w)])
   unfold pO at qsh|-
   have qp:=fun fr s=>gH (c:=c') (fr:=fr) (s:=s) 0 0 0 ((L++[(w,S6 w.tok w.num (es.take w.after.toNat) false==w.out)]).map DB) (by omega)
   simp only[List.map_append,List.map_cons,List.map_nil]at qu qp qsh|-
   simp[c78,AJ,ql,qs,hmin,hlp,qu,qp,y0,y1,y2,y4,y5,y14,y15,y16]
   show[(0,0,BT _ _),(0,0,BT _ _)]=_
   rw[qsh,RA]
theorem hP:DK bq:=⟨by kernel_rfl,by kernel_rfl⟩
theorem Z2(σ:Nat->Nat)(δ:Nat)(L:List (Wrd×Bool)):(AY.map (L.map DB)).ren σ δ=.map (L.map DB):=by show AY.map _=_;rw[List.map_map];rfl
theorem is_ok(c key:V)(b:Bool)(h1:FC 9 c=true)(_:FC 9 key=true)(h3:wM [c] key=some b)(es:List (V×V))(he:H0 [c] es) :
  DG bq 78 [.ref [c,.mp 0 0 0],key] ⟨[],[(0,0,.map es)]⟩ fun r s'=>r=.bool b/\∃es',s'.get 0 0=some (0,.map es')/\H0 [c] es':=by
 obtain⟨cf,rows,w,rfl,rfl,hw,hr,h4,h5,rfl⟩:=dB h3
 obtain⟨L,rfl,hL⟩:=dD he
 obtain⟨L',c',M,q1,qM,q3⟩:=AID 0 cf rows L w hL hw h4 h5 hr
 have hc:=fJ hP uR (J7 hP (A:=ann) uR (0+w.after.toNat+300))
 unfold NS at q3
 have hcl:∀σ:Nat->Nat,(V.list cf rows).ren σ 0=.list cf rows:=fun σ=>BP 9 _ (D8 9 _ h1)
 split at q3
 ·rename_i r st' hx;obtain⟨u,fr',s'⟩:=st';have hx':SS bq kn0 (AF bq ann kn0 (0+w.after.toNat+300)) 78 [.ref [.list cf rows,.mp 0 0 0],L5 w] ⟨1,[],⟨[],[(0,0,.map (L.map DB))]⟩⟩=some (r,⟨u,fr',s'⟩):=hx;obtain⟨_,_,e3,e4⟩:=hc _ _ _ _ _ hx' ⟨fun _ _ _ _=>rfl,fun σ σ' pre ha=>by
    have:=ha 0 Nat.one_pos;simp[St.emb,AB.ren,Z2,this],fun l k γ fr ps asg body N st h=>by
    unfold St.get at h;split at h
    ·simp only[AB.get]at h;split at h<;>cases h
    ·simp at h⟩ (fun v hv σ σ' δ ha=>by
    have h0:=ha 0 Nat.one_pos;rcases List.mem_cons.1 hv with rfl|hv
    ·have e1:=BP (σ:=σ) (δ:=δ) 9 _ (D8 9 _ h1);have e2:=BP (σ:=σ') (δ:=δ) 9 _ (D8 9 _ h1);simp only[JG,List.map_cons,List.map_nil,e1,e2,KX,h0]
    ·rcases List.mem_singleton.1 hv with rfl;rfl)
  have e3:fr'=[]:=e3;subst e3;simp only[Option.some.injEq,XS.mk.injEq]at q3;obtain⟨rfl,wF,rfl⟩:=q3;have hrb:r=.bool (pO rows w):=by have:[((0:Nat),true,r)]=[(0,true,V.bool (pO rows w))]:=wF;simpa using this
  subst hrb;have:=e4 id [] (fun r s'=>r=.bool (pO rows w)/\∃es',s'.get 0 0=some (0,.map es')/\H0 [.list cf rows] es') fun σ' ha=>by refine⟨rfl,L'.map DB,?_,uO q1 hr⟩;have hg:=BL (s:=⟨[],M⟩) (σ:=σ') (pre:=[]) 0 0;rw[show St.get ⟨[],M⟩ 0 0=AB.get M 0 from rfl,qM]at hg;have h0:=ha 0 Nat.one_pos;simp only[Option.map_some,Z2,<-h0]at hg;exact hg
  have hargs:[V.ref [.list cf rows,.mp 0 0 0],L5 w].map (V.ren id 0)=[V.ref [.list cf rows,.mp 0 0 0],L5 w]:=by simp[hcl id,L5]
  have hst:St.emb id [] ⟨[],[(0,0,.map (L.map DB))]⟩=⟨[],[(0,0,.map (L.map DB))]⟩:=by simp[St.emb,AB.ren,Z2]
  rw[hst]at this;exact hargs▸this
 ·cases q3
end Go.Proofs.Tryz.Op
