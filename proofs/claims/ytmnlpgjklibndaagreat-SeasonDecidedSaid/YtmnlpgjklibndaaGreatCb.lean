/- A word looked up in a scene: the walk, upon an open memo. No condition. -/
import Derived.Test.YtmnlpgjklibndaaGreatCa
import Derived.Test.YtmnlpgjklibndaaGreatSw
open Go.Proofs.Tryz renaming prog->bq
set_option maxRecDepth 100000
set_option linter.unusedSimpArgs false
open Go Go.Pg
namespace Go.Proofs.Tryz.Op
def kn0:CF0:=fun _ _=>none
theorem ACL:EX bq kn0:=fun _ _ _ h=>by cases h
theorem jV{N:Nat}{r:Code}{i:IR}{a:Tr}(_:RX N r i a)(hr:fC r=true:=by kernel_rfl)(hi:fB bq (NT r) (JN r)=i:=by kernel_rfl)(hok:okR bq (NT r) (JN r)=true:=by kernel_rfl)(ha:ann N (CC r)=a:=by kernel_rfl)(ht:ann N (CC r+IA)=none:=by kernel_rfl)(hp:ann N (CC r+cO)=none:=by kernel_rfl)(n:Nat)(st:XS) :
  AH bq ann kn0 (n+1) N r st=S3 (NY bq (BX bq ann kn0 n) i (CT a st)):=oW hr hi hok ha ht hp
theorem TR(s:St)(L:List (Wrd×Bool)):BU s (.map (L.map DW))=.map (L.map DW):=by
 have:BW s (.map (L.map DW))=some (.map (L.map DW)):=by unfold BW;simp only;rw[IP];intro x hx;simp only[List.mem_map]at hx;obtain⟨p,_,rfl⟩:=hx;rfl
 unfold BU;rw[this]
theorem u0(n:Nat)(st:XS):AH bq ann kn0 n 59 TV st=AH bq ann kn0 n 59 (.seq (LI 559) (.seq (.cond (.tmp 31) .skip (.exit 0)) (.seq (.block 1 (.seq (LI 9007) (.seq (LI 21295) (.seq (.seq (LI 78639) (.cond (.tmp 37) (LI 176943) .skip)) (.seq (LI 95023) (.cond (.tmp 43) (LI 193327) .skip)))))) (LI 3887)))) st:=rfl
theorem AQP{n:Int}(h:(Lit.int .i64 n).wf=true):-9223372036854775808<=n/\n<9223372036854775808:=by simp only[Lit.wf,Bool.and_eq_true,decide_eq_true_eq]at h;have:IntKind.i64.max=9223372036854775807:=rfl;have:IntKind.i64.min = -9223372036854775808:=rfl;omega
theorem A2F{e:List V}(h:lM e=true):∃k c t:Int,e=[.int .i64 k,.int .i64 c,.int .i64 t]:=by
 unfold lM at h;split at h
 ·exact⟨_,_,_,rfl⟩
 ·cases h
theorem A2G(n:Nat)(L:List (Wrd×Bool))(w:Wrd)(hw:w.ok)(es:List (List V))(hl:(es.length:Int)=w.after)(a b:V)(hr:es.all lM=true) :
  ∀(d k:Nat) (o:Bool) (m c:Nat),d+k=es.length->d<m->2<=c->∃c',2<=c'/\BN (AH bq ann kn0 (n+200) 59) TV (ann 59 (CC TV)) m
   ⟨c,[(0,true,.ref [a,b]),(3,true,.ptr 1 3 1 0),(7,true,.bool o),(28,true,.list false es),(29,true,.int .i64 w.after),(30,true,.int .i64 k)],⟨[[(0,0,.map (L.map DW))]],[(3,1,.box [.int .i64 w.after,.bool w.tok,.int .i64 w.num,.bool w.out])]⟩⟩ =
   some (.exit 0,⟨c',[(31,true,.bool false),(0,true,.ref [a,b]),(3,true,.ptr 1 3 1 0),(7,true,.bool (TW w.tok w.num (es.drop k) o)),(28,true,.list false es),(29,true,.int .i64 w.after),(30,true,.int .i64 w.after)],⟨[[(0,0,.map (L.map DW))]],[(3,1,.box [.int .i64 w.after,.bool w.tok,.int .i64 w.num,.bool w.out])]⟩⟩)
 |0,k,o,m+1,c,hd,hm,hc=>by
  have hk:(k:Int)=w.after:=by omega
  have y6:=jV ANH;refine⟨c,hc,?_⟩;rw[List.drop_eq_nil_of_le (by omega),AD];simp[hk,TW,u0,y6]
 |d+1,k,o,m+1,c,hd,hm,hc=>by
  have hk:k<es.length:=by omega
  have hq:=AQP hw.1;have hwr:IntKind.i64.wrap ((k:Int)+1)=(k:Int)+1:=AU (by omega) (by omega);have hlt:(k:Int)<w.after:=by omega
  obtain⟨kd,ch,tk,he⟩:=A2F (List.all_eq_true.1 hr _ (List.getElem_mem hk));have y6:=jV ANH;have y7:=jV A2V;have y8:=jV A2W;have y9:=jV A2X;have y10:=jV AQZ;have y11:=jV AQ0;have y12:=jV AQ1;have y13:=jV AQ2;obtain⟨c',h1,ih⟩:=A2G n L w hw es hl a b hr d (k+1) (if (if w.tok=true then tk else ch)=w.num then decide (kd=1) else o) m (c+1) (by omega) (by omega) (by omega);refine⟨c',h1,?_⟩;have hdr:TW w.tok w.num (es.drop k) o=TW w.tok w.num (es.drop (k+1)) (if (if w.tok=true then tk else ch)=w.num then decide (kd=1) else o):=by rw[List.drop_eq_getElem_cons hk,he];rfl
  rw[hdr,AD];simp[u0,hk,hlt,hwr,he,y6,y7,y8,y9,y10,y11,y12,y13];simp at ih;cases ht:w.tok<;>simp[ht]at ih|-
  ·by_cases hn:ch=w.num
   ·simp[hn]at ih;simp[ht,hn,hwr,ih,y10,y11,y12,y13]
   ·simp[hn]at ih;simp[ht,hn,hwr,ih,y10,y11,y12,y13]
  ·by_cases hn:tk=w.num
   ·simp[hn]at ih;simp[ht,hn,hwr,ih,y10,y11,y12,y13]
   ·simp[hn]at ih;simp[ht,hn,hwr,ih,y10,y11,y12,y13]
theorem AQQ(n:Nat)(cf:Bool)(es:List (List V))(L:List (Wrd×Bool))(w:Wrd)(hL:kL es L)(hw:w.ok)(h0:0<=w.after)(h1:w.after<=es.length)(hr:es.all lM=true) :
  ∃L' c' M,kL es L'/\AA.get M 0=some (0,.map (L'.map DW))/\K3 (BX bq ann kn0 (n+w.after.toNat+300)) (some 0) ⟨1,[],⟨[],[(0,0,.map (L.map DW))]⟩⟩ 78 [.ref [.list cf es,.mp 0 0 0],N4 w] =
   some ⟨c',[(0,true,.bool (yI es w))],⟨[],M⟩⟩:=by
 rw[BP Tryz.func78 b78 rfl (by simp)]
 have qs:=fun (s:St) (b:Bool)=>uF (P:=bq) (s:=s) (T:=36) (e:=96) (es:=es) (h:=w.after) (b:=b) (by kernel_rfl) (by simp) h0 h1
 obtain⟨k,hk,ql⟩:=yJ (s:=⟨[[(0,0,.map (L.map DW))]],[(3,1,.box [.int .i64 w.after,.bool w.tok,.int .i64 w.num,.bool w.out])]⟩) (l:=0) (q:=0) (g:=0) (es:=es) (L:=L) (w:=w) rfl hL hw
 unfold N4 at ql|-
 have y0:=jV A2P
 have y1:=jV A2Q
 have y2:=jV A2R
 cases k with
 |true=>
  have y3:=jV A2S
  refine⟨L,?c',[(0,0,.map (L.map DW))],hL,rfl,?_⟩
  case true=>
   simp[c78,AJ,ql,TR,y0,y1,y2,y3]
   exact rfl
 |false=>
  have y4:=jV A2T
  have y5:=jV A2U
  have y14:=jV AQ3
  have y15:=jV AQ4
  have y16:=jV AQ5
  obtain⟨c',hc',hlp⟩:=A2G (n+w.after.toNat+92) L w hw (es.take w.after.toNat) (by rw[List.length_take];omega) (.list cf es) (.mp 0 0 0) (by rw[List.all_eq_true]at hr|-;exact fun x hx=>hr x (List.mem_of_mem_take hx)) w.after.toNat 0 false (n+w.after.toNat+292) 2 (by rw[List.length_take];omega) (by omega) (by omega)
  rw[List.drop_zero]at hlp
  have hmin:((min w.after.toNat es.length:Nat):Int)=w.after:=by omega
  simp at hlp
  have qu:=ACJ (s:=⟨[[(0,0,.map (L.map DW))]],[(3,1,.box [.int .i64 w.after,.bool w.tok,.int .i64 w.num,.bool w.out])]⟩) (l:=0) (q:=0) (g:=0) (es:=es) (L:=L) (w:=w) (yI es w) rfl hL hw (hk rfl)
  unfold yI N4 at qu
  refine⟨L++[(w,yI es w)],c',[(0,0,.map ((L++[(w,yI es w)]).map DW)),(0,0,.map (L.map DW))],ACK hL hw ⟨h0,h1⟩ (hk rfl),rfl,?f2⟩
  case f2=>
   have qsh:=fun t=>TR t (L++[(w,yI es w)])
   unfold yI at qsh|-
   have qp:=fun fr s=>aG (c:=c') (fr:=fr) (s:=s) 0 0 0 ((L++[(w,TW w.tok w.num (es.take w.after.toNat) false==w.out)]).map DW) (by omega)
   simp only[List.map_append,List.map_cons,List.map_nil]at qu qp qsh|-
   simp[c78,AJ,ql,qs,hmin,hlp,qu,qp,y0,y1,y2,y4,y5,y14,y15,y16]
   show[(0,0,BU _ _),(0,0,BU _ _)]=_
   rw[qsh,TR]
theorem hP:D8 bq:=⟨by kernel_rfl,by kernel_rfl⟩
theorem fQ(σ:Nat->Nat)(δ:Nat)(L:List (Wrd×Bool)):(A6.map (L.map DW)).ren σ δ=.map (L.map DW):=by show A6.map _=_;rw[List.map_map];rfl
theorem is_ok(c key:V)(b:Bool)(h1:FT 9 c=true)(_:FT 9 key=true)(h3:isV [c] key=some b)(es:List (V×V))(he:JS [c] es) :
  EA bq 78 [.ref [c,.mp 0 0 0],key] ⟨[],[(0,0,.map es)]⟩ fun r s'=>r=.bool b/\∃es',s'.get 0 0=some (0,.map es')/\JS [c] es':=by
 obtain⟨cf,rows,w,rfl,rfl,hw,hr,h4,h5,rfl⟩:=kK h3
 obtain⟨L,rfl,hL⟩:=kM he
 obtain⟨L',c',M,q1,qM,q3⟩:=AQQ 0 cf rows L w hL hw h4 h5 hr
 have hc:=nP hP ACL (KI hP (A:=ann) ACL (0+w.after.toNat+300))
 unfold K3 at q3
 have hcl:∀σ:Nat->Nat,(V.list cf rows).ren σ 0=.list cf rows:=fun σ=>B7 9 _ (E1 9 _ h1)
 split at q3
 ·rename_i r st' hx;obtain⟨u,fr',s'⟩:=st';have hx':VS bq kn0 (AH bq ann kn0 (0+w.after.toNat+300)) 78 [.ref [.list cf rows,.mp 0 0 0],N4 w] ⟨1,[],⟨[],[(0,0,.map (L.map DW))]⟩⟩=some (r,⟨u,fr',s'⟩):=hx;obtain⟨_,_,e3,e4⟩:=hc _ _ _ _ _ hx' ⟨fun _ _ _ _=>rfl,fun σ σ' pre ha=>by
    have:=ha 0 Nat.one_pos;simp[St.emb,AA.ren,fQ,this],fun l k γ fr ps asg body N st h=>by
    unfold St.get at h;split at h
    ·simp only[AA.get]at h;split at h<;>cases h
    ·simp at h⟩ (fun v hv σ σ' δ ha=>by
    have h0:=ha 0 Nat.one_pos;rcases List.mem_cons.1 hv with rfl|hv
    ·have e1:=B7 (σ:=σ) (δ:=δ) 9 _ (E1 9 _ h1);have e2:=B7 (σ:=σ') (δ:=δ) 9 _ (E1 9 _ h1);simp only[KT,List.map_cons,List.map_nil,e1,e2,M3,h0]
    ·rcases List.mem_singleton.1 hv with rfl;rfl)
  have e3:fr'=[]:=e3;subst e3;simp only[Option.some.injEq,XS.mk.injEq]at q3;obtain⟨rfl,hr1,rfl⟩:=q3;have hrb:r=.bool (yI rows w):=by have:[((0:Nat),true,r)]=[(0,true,V.bool (yI rows w))]:=hr1;simpa using this
  subst hrb;have:=e4 id [] (fun r s'=>r=.bool (yI rows w)/\∃es',s'.get 0 0=some (0,.map es')/\JS [.list cf rows] es') fun σ' ha=>by refine⟨rfl,L'.map DW,?_,ACI q1 hr⟩;have hg:=BZ (s:=⟨[],M⟩) (σ:=σ') (pre:=[]) 0 0;rw[show St.get ⟨[],M⟩ 0 0=AA.get M 0 from rfl,qM]at hg;have h0:=ha 0 Nat.one_pos;simp only[Option.map_some,fQ,<-h0]at hg;exact hg
  have hargs:[V.ref [.list cf rows,.mp 0 0 0],N4 w].map (V.ren id 0)=[V.ref [.list cf rows,.mp 0 0 0],N4 w]:=by simp[hcl id,N4]
  have hst:St.emb id [] ⟨[],[(0,0,.map (L.map DW))]⟩=⟨[],[(0,0,.map (L.map DW))]⟩:=by simp[St.emb,AA.ren,fQ]
  rw[hst]at this;exact hargs▸this
 ·cases q3
end Go.Proofs.Tryz.Op
