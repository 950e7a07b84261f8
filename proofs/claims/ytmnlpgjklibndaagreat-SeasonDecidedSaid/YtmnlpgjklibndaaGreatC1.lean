/- Contracts: season's within, word, CheckCase. No condition. -/
import Derived.Test.YtmnlpgjklibndaaGreatB2
import Derived.Test.YtmnlpgjklibndaaGreatZ2
open Go.Proofs.Tryz renaming prog->bq
open List renaming all_eq_true->bj
set_option maxRecDepth 100000
set_option linter.unusedSimpArgs false
open Go Go.Pg Go.Proofs Go.Season
namespace Go.Proofs.Tryz.Op
theorem kIn(n:Nat)(x lo hi:Int):AW bq kn (AH bq ann kn (n+100)) 100 [i x,i lo,i hi]=some (.bool (D7 x lo hi)):=by rw[AO rfl,AP Tryz.func100 BES rfl rfl];unfold D7;generalize e1:decide (lo<=x)=b1;simp[e1,A3U,AJ];cases b1<;>simp
def DJ(c:BC)(w:Wrd):Bool:=D7 w.after 0 c.book.lines.length&&D7 w.num 0 (c.book.chairs-1)
theorem AM0(n:Nat)(c:BC)(w:Wrd)(h1:1<=c.book.chairs)(h4:c.book.chairs<=4):AW bq kn (AH bq ann kn (n+200)) 99 [.agg (AC c),.agg (AG w)]=some (.bool (DJ c w)):=by rw[AO rfl,AP Tryz.func99 b99 rfl (by simp[AC,AB,AM,AG,AL])];have hw:IntKind.i64.wrap (c.book.chairs-1)=c.book.chairs-1:=AU (by omega) (by omega);have q:=fun n x lo hi=>kIn n x lo hi;unfold DJ;generalize e1:D7 w.after 0 c.book.lines.length=b1;generalize e2:D7 w.num 0 (c.book.chairs-1)=b2;simp[c99,AJ,AC,AG,q,e1,e2,hw];cases b1<;>(try simp[e2,q,hw])
theorem BDS(n:Nat)(l:List Wrd):AW bq kn (AH bq ann kn (n+100)) 96 [J2 l]=some (.bool (decide (l.length<=4))):=by
 rw[AO rfl,AP Tryz.func96 b96 rfl (by simp[AG])];have e:decide ((l.length:Int)<=4)=decide (l.length<=4):=by congr 1;apply propext;omega
 simp[c96,AJ,e]
theorem A19(c:BC)(h1:1<=c.book.chairs)(h4:c.book.chairs<=4)(hl:c.wits.length<=4)(hx:∀l∈c.wits,l.length<=4)(L:AA)(g:Nat)(hg:L.get 6=some (g,.box [.fn 99 [.agg (AC c)] []]))(hs:∀t:St,1<=t.up.length->AQ t L=L)(n cc dd:Nat)(fr:Fr) :
  ∃c',cc<=c'/\K3 (BX bq ann kn (n+1100)) (some dd) ⟨cc,fr,⟨[],L⟩⟩ 97 [.list false (c.wits.map AL),.fn 102 [] [.ptr 0 6 g 0]]=some ⟨c',(dd,true,.bool (c.wits.all fun l=>l.all (DJ c)))::fr,⟨[],L⟩⟩:=by
 obtain⟨c',h2,q⟩:=AQI (σ:=Unit) n 800 0 (fun _=>[]) (fun _=>L) (fun _=>rfl) (fun _=>True) 102 [.ptr 0 6 g 0] (by simp) (by simp) (fun _ l=>l.all (DJ c)) (fun _ _=>()) c.wits (by omega) (fun _ t h=>by simp[hs t h]) (fun t γ h=>by
   have h0:¬0=t.up.length:=by omega
   obtain⟨up,loc⟩:=t;simp[h0]) cc (fun n c1 fr s x hc1 hi hxm=>⟨fun _=>trivial,c1,by omega,by
   have q:=fun n=>AMY n 200 c 99 (DJ c) x (by have:=hx x hxm;omega) (fun n w _=>AM0 n c w h1 h4);have q:=q (n+297);have e:n+297+200+300=n+797:=by omega
   rw[e]at q;have hs1:=fun t h=>hs t h;simp only[AC]at q hg;rw[BP Tryz.func102 b102 rfl (by simp)];have h0:∀t:St,1<=t.up.length->¬0=t.up.length:=fun t h=>by omega
   simp[A3V,AJ,hg,q,hs1,AB,AM,AL,AG]⟩) dd fr () trivial
 refine⟨c',h2,?_⟩
 rw[GS]at q
 have:=K1 (fun l:List Wrd=>l.all (DJ c)) c.wits
 rw[this]at q
 exact q
def CB(c:BC):Int :=
 if (decide (4<c.wits.length)||(decide (4<c.claims.length)||!c.wits.all fun l=>decide (l.length<=4)))=true then 3
 else if EG c.book true=0 then(if (D7 c.liars 0 4&&(c.claims.all (DJ c)&&c.wits.all fun l=>l.all (DJ c)))=true then 0 else 1)
 else EG c.book true
theorem vH(n:Nat)(c:BC):AW bq kn (AH bq ann kn (n+3500)) 59 [.agg (AC c)]=some (i (CB c)):=by
 rw[AO rfl,AP Tryz.func59 b59 rfl (by simp[AC,AB,AM,AG,AL])];unfold CB;generalize e1:decide (4<c.wits.length)=b1;have e1':decide ((4:Int)<(c.wits.length:Int))=b1:=by rw[<-e1];congr 1;apply propext;omega
 generalize e2:decide (4<c.claims.length)=b2;have e2':decide ((4:Int)<(c.claims.length:Int))=b2:=by rw[<-e2];congr 1;apply propext;omega
 cases b1 with
 |true=>simp[c59,AJ,AC,e1',AB,AM,AG,AL]
 |false=>
  cases b2 with
  |true=>simp[c59,AJ,AC,e1',e2',AB,AM,AG,AL]
  |false=>
   have hl:c.wits.length<=4:=by simpa using e1
   have hk:c.claims.length<=4:=by simpa using e2
   have qF:=fun n=>A18 n 100 96 (fun l:List Wrd=>decide (l.length<=4)) c.wits (by omega) (fun n l _=>BDS n l)
   generalize e3:(c.wits.all fun l=>decide (l.length<=4))=b3 at qF
   cases b3 with
   |false=>simp[c59,AJ,AC,e1',e2',qF,AB,AM,AG,AL]
   |true=>
    have hx:∀l∈c.wits,l.length<=4:=fun l hm=>by simpa using bj.1 e3 l hm
    have qM:=fun n=>k29 n c.book
    unfold vA at qM
    by_cases he:EG c.book true=0
    ·obtain⟨h0,_,_⟩:=U7 he;obtain⟨h1,h4,_⟩:=U4 h0;have qW:=fun n=>AMY n 200 c 99 (DJ c) c.claims (by omega) (fun n w _=>AM0 n c w h1 h4);rw[if_pos he]at qM;rw[if_pos he];have qI:=fun n x lo hi=>kIn n x lo hi;generalize e4:D7 c.liars 0 4=b4;generalize e5:c.claims.all (DJ c)=b5 at qW;generalize e6:(c.wits.all fun l=>l.all (DJ c))=b6;simp only[AC,AE]at qM qW;cases b4 with
     |false=>simp[c59,AJ,AC,e1',e2',qF,qM,qI,e4,AB,AM,AG,AL]
     |true=>
      cases b5 with
      |false=>simp[c59,AJ,AC,e1',e2',qF,qM,qI,qW,e4,AB,AM,AG,AL]
      |true=>
       simp[c59,AJ,AC,e1',e2',qF,qM,qI,qW,e4,AB,AM,AG,AL]
       obtain⟨c',_,qO⟩:=A19 c h1 h4 hl hx [(1,0,.box (AC c)),(6,2,.box [.fn 99 [.agg (AC c)] []])] 2 (by simp) (fun t ht=>by
        have h0:¬0=t.up.length:=by omega
        obtain⟨up,loc⟩:=t;simp[AC,h0,AB,AM,AG,AL]) (n+2392) 3 50 [(49,true,V.fn 102 [] [V.ptr 0 6 2 0]),(48,true,V.list false (List.map AL c.wits)),(47,true,V.ptr 0 1 0 5),(46,true,V.bool false),(45,true,V.bool false),(44,true,V.bool false),(43,true,V.bool true),
         (42,true,V.fn 99 [V.agg (AC c)] []),(41,true,V.list false (List.map AG c.claims)),(40,true,V.ptr 0 1 0 7),(39,true,V.bool false),(38,true,V.bool false),(37,true,V.bool true),(36,true,i c.liars),(35,true,V.ptr 0 1 0 6),(1,true,V.ptr 0 1 0 0),(6,true,V.ptr 0 6 2 0)]
       rw[e6]at qO
       simp only[AC,Nat.add_assoc,Nat.reduceAdd]at qO
       cases b6<;>simp[qO]
    ·have hd:decide (EG c.book true=0)=false:=by simpa using he
     rw[if_neg he]at qM;rw[if_neg he];simp only[AC,AE]at qM;generalize EG c.book true=A at qM hd;simp[c59,AJ,AC,e1',e2',qF,qM,hd,AB,AM,AG,AL]
end Go.Proofs.Tryz.Op
namespace Go.Pg
theorem ACC{P:Program}{kn:CF0}{rec:F6}{f:FuncId}{args:List V}{r:V}(h:kn f args=some r):AW P kn rec f args=some r:=by unfold AW;rw[h]
end Go.Pg
namespace Go.Proofs.Tryz.Op
theorem kJ:∀ls:List AF,Go.Pg.eqL (Go.Pg.eqL (cN 8)) (ls.map AB) (ls.map AB)=true
 |[]=>rfl
 |l::ls=>by
  have h:=kJ ls;have e:∀n:Int,cN 8 (i n) (i n)=true:=fun n=>by show(decide (IntKind.i64=IntKind.i64)&&decide (n=n))=true;simp
  show((cN 8 (i l.k) (i l.k)&&(cN 8 (i l.c) (i l.c)&&(cN 8 (i l.t) (i l.t)&&true)))&&Go.Pg.eqL (Go.Pg.eqL (cN 8)) (ls.map AB) (ls.map AB))=true;rw[e,e,e,h];rfl
theorem rI(ls:List AF):(ls.map AB).all lM=true:=bj.2 fun e he=>by obtain⟨l,_,rfl⟩:=List.mem_map.1 he;rfl
theorem rJ(ls:List AF):FT 9 (.list false (ls.map AB))=true:=bj.2 fun e he=>by obtain⟨l,_,rfl⟩:=List.mem_map.1 he;rfl
def BI(ls:List AF)(w:Wrd):Bool:=TW w.tok w.num ((ls.map AB).take w.after.toNat) false==w.out
structure GB(n:Nat)(w:Wrd):Prop where
 a0:0<=w.after
 a1:w.after<=n
 m0:0<=w.num
 m1:w.num<=1000
theorem AM1{c:BC}{w:Wrd}(h:DJ c w=true)(h4:c.book.chairs<=4):GB c.book.lines.length w:=by simp only[DJ,D7,Bool.and_eq_true,decide_eq_true_eq]at h;exact⟨by omega,by omega,by omega,by omega⟩
theorem kIs(rec:F6)(ls:List AF)(w:Wrd)(hl:ls.length<=1000)(h:GB ls.length w):AW bq kn rec 78 [sc ls,.agg (AG w)]=some (.bool (BI ls w)):=by
 refine ACC ?_;have wa:=aU (O6 (n:=w.after) (by have:=h.a0;omega) (by have:=h.a1;omega));have wn:=aU (O6 (n:=w.num) (by have:=h.m0;omega) (by have:=h.m1;omega));have hw:wfK (ls.map AB) w.after w.num=true:=by unfold wfK;rw[wa,wn,rI];simp[h.a0,h.a1]
 have hi:isV [.list false (ls.map AB)] (.agg (AG w))=some (BI ls w):=by show cond (wfK (ls.map AB) w.after w.num) (some (BI ls w)) none=_;rw[hw];rfl
 have hm:xM [sc ls,.agg (AG w)]=some (.bool (BI ls w)):=by
  show cond (cN 9 (.list false (ls.map AB)) (.list false (ls.map AB))&&(FT 9 (.list false (ls.map AB))&&true)) (match isV [.list false (ls.map AB)] (.agg (AG w))with
   |some b=>some (V.bool b)
   | none=>none) none=_
  have he:cN 9 (.list false (ls.map AB)) (.list false (ls.map AB))=true:=by show(false==false&&Go.Pg.eqL (Go.Pg.eqL (cN 8)) (ls.map AB) (ls.map AB))=true;rw[kJ];rfl
  rw[he,rJ,hi];rfl
 show(match eU 78 78 [sc ls,.agg (AG w)]with
  |some r=>some r
  | none=>_)=_
 have hc:eU 78 78 [sc ls,.agg (AG w)]=some (.bool (BI ls w)):=hm;rw[hc]
theorem ACD(n:Nat)(ls:List AF)(ws:List Wrd)(hl:ls.length<=1000)(hn:ws.length<=40)(h:∀w∈ws,GB ls.length w):AW bq kn (AH bq ann kn (n+400)) 68 [sc ls,J2 ws]=some (.bool (!ws.all (BI ls))):=by rw[AO rfl,AP Tryz.func68 b68 rfl (by simp[sc,AB,AG])];have q:=fun n=>AMZ n 0 ls 78 (BI ls) ws hn (fun n w hw=>kIs _ ls w hl (h w hw));simp only[sc,Nat.add_zero]at q|-;simp[c68,AJ,q,AB,AG]
def U9(p:List Wrd->Bool):Int->List (List Wrd)->Int
 |v,[]=>v
 |v,x::r=>U9 p (cond (p x) (v+1) v) r
theorem ACE(n:Nat)(c:BC)(ls:List AF)(hl:ls.length<=1000)(hw4:c.wits.length<=40)(hx:∀l∈c.wits,l.length<=40/\∀w∈l,GB ls.length w):∀(d k:Nat) (v:Int) (m:Nat),k+d=c.wits.length->d<m->0<=v->v<=k ->
  BN (AH bq ann kn (n+450) 21) X2 (ann 21 (CC X2)) m ⟨1,[(1,true,sc ls),(4,true,i v),(8,true,.list false (c.wits.map AL)),(9,true,i c.wits.length),(10,true,i k)],⟨[],[(2,0,.box (AC c))]⟩⟩ =
  some (.exit 0,⟨1,[(11,true,.bool false),(1,true,sc ls),(4,true,i (U9 (fun l=>!l.all (BI ls)) v (c.wits.drop k))),(8,true,.list false (c.wits.map AL)),(9,true,i c.wits.length),(10,true,i c.wits.length)],⟨[],[(2,0,.box (AC c))]⟩⟩)
 |0,k,v,m+1,hd,hm,h0,h1=>by
  have:k=c.wits.length:=by omega
  subst this;simp[AD,U9,sc,AC]
 |d+1,k,v,m+1,hd,hm,h0,h1=>by
  have hk:k<c.wits.length:=by omega
  have hw:=DF (k:=k) (by omega);have hv:IntKind.i64.wrap (v+1)=v+1:=AU (by omega) (by omega);obtain⟨g1,g2⟩:=hx _ (List.getElem_mem hk);have q:=fun n=>ACD n ls c.wits[k] hl g1 g2;have ih:=ACE n c ls hl hw4 hx d (k+1) (cond (!c.wits[k].all (BI ls)) (v+1) v) m (by omega) (by omega) (by cases c.wits[k].all (BI ls)<;>simp<;>omega) (by cases c.wits[k].all (BI ls)<;>simp<;>omega);rw[AD,List.drop_eq_getElem_cons hk];simp only[U9];generalize c.wits[k].all (BI ls)=b at q ih|-;simp only[sc,AC]at q ih|-;try simp at ih
  cases b<;>(try simp at ih)<;>simp[hk,hw,hv,AL,AB,AM,AG,q,ih]
def DO(c:BC)(ls:List AF):Int:=U9 (fun l=>!l.all (BI ls)) 0 c.wits
theorem ACF(n:Nat)(c:BC)(ls:List AF)(hl:ls.length<=1000)(hw4:c.wits.length<=40)(hx:∀l∈c.wits,l.length<=40/\∀w∈l,GB ls.length w):AW bq kn (AH bq ann kn (n+550)) 72 [.agg (AC c),sc ls]=some (i (DO c ls)):=by
 rw[AO rfl,AP Tryz.func72 b72 rfl (by simp[sc,AC,AB,AM,AG,AL])];have q:=ACE (n+95) c ls hl hw4 hx c.wits.length 0 0 (n+545) (by omega) (by omega) (by omega) (by omega);simp only[List.drop_zero,sc,AC,Nat.add_assoc,Nat.reduceAdd,Int.natCast_zero]at q|-;try simp at q
 simp[c72,AJ,q,DO]
end Go.Proofs.Tryz.Op
namespace Go.Pg
variable {P:Program}{E:XE}{d:Option Tmp}{c:Nat}{fr:Fr}{s:St}
noncomputable def cl1(E:XE)(d:Option Tmp)(g:FuncId)(st:XS):Option V->Option XS
 |some (.vec l q γ n)=>iB E.co d g γ n (st.s.get l q) st
 |some v=>DM d st (E.c0 g [weakV v])
 |none=>none
@[simp] theorem A2A(g:FuncId)(st:XS)(b:Bool)(es:List (List V)):cl1 E d g st (some (.list b es))=DM d st (E.c0 g [.list false es]):=rfl
@[simp] theorem BAN(g:FuncId)(st:XS):cl1 E d g st (some .nil)=DM d st (E.c0 g [.nil]):=rfl
@[simp] theorem BAO(g:FuncId)(st:XS)(l q γ n:Nat):cl1 E d g st (some (.vec l q γ n))=iB E.co d g γ n (st.s.get l q) st:=rfl
@[simp] theorem AM2(t:Option Tmp)(g:FuncId)(x:Operand)(hr:F7 (.func g)=true):CV P E d (.call false t (.func g) [x]) ⟨c,fr,s⟩=nw (cl1 E d g ⟨c,fr,s⟩ (B5 fr x)):=by
 show noW (cond (F7 (.func g)) (OP E.c0 E.co d (.func g) [x] ⟨c,fr,s⟩) _)=_;rw[hr,cond_true,FF];congr 1;have hf:B5 fr (.func g)=some (.fn g [] []):=rfl;have h0:∀v,B5 fr x=some v->FR E.c0 d (.func g) [x] ⟨c,fr,s⟩=DM d ⟨c,fr,s⟩ (E.c0 g [weakV v]):=fun v hv=>by
  unfold FR;have hm:EL (B5 fr) [x]=some [v]:=by simp[EL,hv]
  simp only[hf,hm];show(match E.c0 g [weakV v]with|some r=>_|none=>none)=_;cases E.c0 g [weakV v]<;>rfl
 have h1:OP E.c0 E.co d (.func g) [x] ⟨c,fr,s⟩=(match B5 fr x with
  |some (.vec l q γ n)=>iB E.co d g γ n (s.get l q) ⟨c,fr,s⟩
  | _=>FR E.c0 d (.func g) [x] ⟨c,fr,s⟩):=rfl
 rw[h1];cases hx:B5 fr x with
 |none=>
  have hm:EL (B5 fr) [x]=none:=by simp[EL,hx]
  show FR E.c0 d (.func g) [x] ⟨c,fr,s⟩=none
  unfold FR
  simp only[hf,hm]
 |some v=>cases v<;>first
   |rfl
   |exact h0 _ hx
@[simp] theorem AM3(b:Bool)(es:List (List V)):EN (some (.list b es))=[]:=rfl
@[simp] theorem AQJ:EN (some .nil)=[]:=rfl
@[simp] theorem AWW(d:List V):MU (.memo d)=.memo d:=rfl
@[simp] theorem AIG:CK (.pointer none)=some (.raw (.pointer none)):=rfl
end Go.Pg
namespace Go.Proofs.Tryz.Op
theorem A2B(e:List V)(es:List (List V)):F3 bq .eql 36 (.list false (e::es)) .nil=some (.bool false):=by
 have h:DQ bq 36=true:=by kernel_rfl
 show(if DQ bq 36=true then(HK (.list false (e::es))).map V.bool else none)=_;rw[if_pos h];rfl
structure QE(c:BC):Prop where
 ask:EG c.book true=0
 li:D7 c.liars 0 4=true
 cl:c.claims.length<=4
 wl:c.wits.length<=4
 wx:∀l∈c.wits,l.length<=4
 cw:∀w∈c.claims,GB c.book.lines.length w
 ww:∀l∈c.wits,∀w∈l,GB c.book.lines.length w
theorem MJ{c:BC}(h:CB c=0):QE c:=by
 unfold CB at h;split at h
 ·omega
 ·rename_i h1;split at h
  ·rename_i h2;split at h
   ·rename_i h3;simp only[Bool.or_eq_true,decide_eq_true_eq,Bool.not_eq_true',not_or,Bool.not_eq_false,Nat.not_lt]at h1;simp only[Bool.and_eq_true]at h3;obtain⟨h0,_,_⟩:=U7 h2;obtain⟨_,h4,_⟩:=U4 h0;exact⟨h2,h3.1,h1.2.1,h1.1,fun l hl=>by simpa using bj.1 h1.2.2 l hl,fun w hw=>AM1 (bj.1 h3.2.1 w hw) h4,fun l hl w hw=>AM1 (bj.1 (bj.1 h3.2.2 l hl) w hw) h4⟩
   ·omega
  ·rename_i h2;exact absurd h h2
theorem QE.book{c:BC}(h:QE c):E4 c.book=0:=(U7 h.ask).1
theorem J5{b:A5}{ts:List AF}(h:GA b ts=true):ts.length=b.lines.length:=by
 unfold GA F2 at h;split at h
 ·rename_i h1;split at h1
  ·assumption
  ·cases h1
 ·simp at h
theorem QE.lines{c:BC}(h:QE c):c.book.lines.length<=8:=(U4 h.book).2.2.1
end Go.Proofs.Tryz.Op
