/- Contracts: season's within, word, CheckCase. No condition. -/
import Derived.Test.YtmnlpgjklibndaaGreatB2
import Derived.Test.YtmnlpgjklibndaaGreatZ2
open Go.Proofs.Tryz renaming prog->br
open List renaming all_eq_true->bj,drop_eq_getElem_cons->bq,map_cons->bw,getElem_mem->bx,nil_append->bz,append_assoc->bg,mem_map->bh,map_nil->bn,map->bp
open Nat renaming add_assoc->bc,reduceAdd->bf
set_option maxRecDepth 100000
set_option linter.unusedSimpArgs false
open Go Go.Pg Go.Proofs Go.Season
namespace Go.Proofs.Tryz.Op
theorem kIn(n:Nat)(x lo hi:Int):A4 br kn (AF br ann kn (n+100)) 100 [i x,i lo,i hi]=some (.bool (EW x lo hi)):=by rw[AP rfl,AQ Tryz.func100 A4D rfl rfl];unfold EW;generalize e1:decide (lo<=x)=b1;simp[e1,AT8,AJ];cases b1<;>simp
def DF(c:DR)(w:Wrd):Bool:=EW w.after 0 c.book.lines.length&&EW w.num 0 (c.book.chairs-1)
theorem AFE(n:Nat)(c:DR)(w:Wrd)(h1:1<=c.book.chairs)(h4:c.book.chairs<=4):A4 br kn (AF br ann kn (n+200)) 99 [.agg (AH c),.agg (AM w)]=some (.bool (DF c w)):=by rw[AP rfl,AQ Tryz.func99 b99 rfl (by simp[AH,AD,AN,AM,AR])];have hw:IntKind.i64.wrap (c.book.chairs-1)=c.book.chairs-1:=AW (by omega) (by omega);have q:=fun n x lo hi=>kIn n x lo hi;unfold DF;generalize e1:EW w.after 0 c.book.lines.length=b1;generalize e2:EW w.num 0 (c.book.chairs-1)=b2;simp[c99,AJ,AH,AM,q,e1,e2,hw];cases b1<;>(try simp[e2,q,hw])
theorem A3F(n:Nat)(l:List Wrd):A4 br kn (AF br ann kn (n+100)) 96 [YB l]=some (.bool (decide (l.length<=4))):=by
 rw[AP rfl,AQ Tryz.func96 b96 rfl (by simp[AM])];have e:decide ((l.length:Int)<=4)=decide (l.length<=4):=by congr 1;apply propext;omega
 simp[c96,AJ,e]
theorem ASQ(c:DR)(h1:1<=c.book.chairs)(h4:c.book.chairs<=4)(hl:c.wits.length<=4)(hx:∀l∈c.wits,l.length<=4)(L:AB)(g:Nat)(hg:L.get 6=some (g,.box [.fn 99 [.agg (AH c)] []]))(hs:∀t:St,1<=t.up.length->A6 t L=L)(n cc dd:Nat)(fr:Fr) :
  ∃c',cc<=c'/\NS (BU br ann kn (n+1100)) (some dd) ⟨cc,fr,⟨[],L⟩⟩ 97 [.list false (c.wits.map AR),.fn 102 [] [.ptr 0 6 g 0]]=some ⟨c',(dd,true,.bool (c.wits.all fun l=>l.all (DF c)))::fr,⟨[],L⟩⟩:=by
 obtain⟨c',h2,q⟩:=AH3 (σ:=Unit) n 800 0 (fun _=>[]) (fun _=>L) (fun _=>rfl) (fun _=>True) 102 [.ptr 0 6 g 0] (by simp) (by simp) (fun _ l=>l.all (DF c)) (fun _ _=>()) c.wits (by omega) (fun _ t h=>by simp[hs t h]) (fun t γ h=>by
   have h0:¬0=t.up.length:=by omega
   obtain⟨up,loc⟩:=t;simp[h0]) cc (fun n c1 fr s x hc1 hi hxm=>⟨fun _=>trivial,c1,by omega,by
   have q:=fun n=>AFD n 200 c 99 (DF c) x (by have:=hx x hxm;omega) (fun n w _=>AFE n c w h1 h4);have q:=q (n+297);have e:n+297+200+300=n+797:=by omega
   rw[e]at q;have hs1:=fun t h=>hs t h;simp only[AH]at q hg;rw[CC Tryz.func102 b102 rfl (by simp)];have h0:∀t:St,1<=t.up.length->¬0=t.up.length:=fun t h=>by omega
   simp[AT9,AJ,hg,q,hs1,AD,AN,AR,AM]⟩) dd fr () trivial
 refine⟨c',h2,?_⟩
 rw[FP]at q
 have:=JN (fun l:List Wrd=>l.all (DF c)) c.wits
 rw[this]at q
 exact q
def EG(c:DR):Int :=
 if (decide (4<c.wits.length)||(decide (4<c.claims.length)||!c.wits.all fun l=>decide (l.length<=4)))=true then 3
 else if E6 c.book true=0 then(if (EW c.liars 0 4&&(c.claims.all (DF c)&&c.wits.all fun l=>l.all (DF c)))=true then 0 else 1)
 else E6 c.book true
theorem ZZ(n:Nat)(c:DR):A4 br kn (AF br ann kn (n+3500)) 59 [.agg (AH c)]=some (i (EG c)):=by
 rw[AP rfl,AQ Tryz.func59 b59 rfl (by simp[AH,AD,AN,AM,AR])];unfold EG;generalize e1:decide (4<c.wits.length)=b1;have e1':decide ((4:Int)<(c.wits.length:Int))=b1:=by rw[<-e1];congr 1;apply propext;omega
 generalize e2:decide (4<c.claims.length)=b2;have e2':decide ((4:Int)<(c.claims.length:Int))=b2:=by rw[<-e2];congr 1;apply propext;omega
 cases b1 with
 |true=>simp[c59,AJ,AH,e1',AD,AN,AM,AR]
 |false=>
  cases b2 with
  |true=>simp[c59,AJ,AH,e1',e2',AD,AN,AM,AR]
  |false=>
   have hl:c.wits.length<=4:=by simpa using e1
   have hk:c.claims.length<=4:=by simpa using e2
   have qF:=fun n=>ASP n 100 96 (fun l:List Wrd=>decide (l.length<=4)) c.wits (by omega) (fun n l _=>A3F n l)
   generalize e3:(c.wits.all fun l=>decide (l.length<=4))=b3 at qF
   cases b3 with
   |false=>simp[c59,AJ,AH,e1',e2',qF,AD,AN,AM,AR]
   |true=>
    have hx:∀l∈c.wits,l.length<=4:=fun l hm=>by simpa using bj.1 e3 l hm
    have qM:=fun n=>k29 n c.book
    unfold mS at qM
    by_cases he:E6 c.book true=0
    ·obtain⟨h0,_,_⟩:=cP he;obtain⟨h1,h4,_⟩:=W2 h0;have qW:=fun n=>AFD n 200 c 99 (DF c) c.claims (by omega) (fun n w _=>AFE n c w h1 h4);rw[if_pos he]at qM;rw[if_pos he];have qI:=fun n x lo hi=>kIn n x lo hi;generalize e4:EW c.liars 0 4=b4;generalize e5:c.claims.all (DF c)=b5 at qW;generalize e6:(c.wits.all fun l=>l.all (DF c))=b6;simp only[AH,AC]at qM qW;cases b4 with
     |false=>simp[c59,AJ,AH,e1',e2',qF,qM,qI,e4,AD,AN,AM,AR]
     |true=>
      cases b5 with
      |false=>simp[c59,AJ,AH,e1',e2',qF,qM,qI,qW,e4,AD,AN,AM,AR]
      |true=>
       simp[c59,AJ,AH,e1',e2',qF,qM,qI,qW,e4,AD,AN,AM,AR]
       obtain⟨c',_,qO⟩:=ASQ c h1 h4 hl hx [(1,0,.box (AH c)),(6,2,.box [.fn 99 [.agg (AH c)] []])] 2 (by simp) (fun t ht=>by
        have h0:¬0=t.up.length:=by omega
        obtain⟨up,loc⟩:=t;simp[AH,h0,AD,AN,AM,AR]) (n+2392) 3 50 [(49,true,V.fn 102 [] [V.ptr 0 6 2 0]),(48,true,V.list false (bp AR c.wits)),(47,true,V.ptr 0 1 0 5),(46,true,V.bool false),(45,true,V.bool false),(44,true,V.bool false),(43,true,V.bool true),
         (42,true,V.fn 99 [V.agg (AH c)] []),(41,true,V.list false (bp AM c.claims)),(40,true,V.ptr 0 1 0 7),(39,true,V.bool false),(38,true,V.bool false),(37,true,V.bool true),(36,true,i c.liars),(35,true,V.ptr 0 1 0 6),(1,true,V.ptr 0 1 0 0),(6,true,V.ptr 0 6 2 0)]
       rw[e6]at qO
       simp only[AH,bc,bf]at qO
       cases b6<;>simp[qO]
    ·have hd:decide (E6 c.book true=0)=false:=by simpa using he
     rw[if_neg he]at qM;rw[if_neg he];simp only[AH,AC]at qM;generalize E6 c.book true=A at qM hd;simp[c59,AJ,AH,e1',e2',qF,qM,hd,AD,AN,AM,AR]
end Go.Proofs.Tryz.Op
namespace Go.Pg
theorem cZ{P:Program}{kn:CF0}{rec:FN}{f:FuncId}{args:List V}{r:V}(h:kn f args=some r):A4 P kn rec f args=some r:=by unfold A4;rw[h]
end Go.Pg
namespace Go.Proofs.Tryz.Op
theorem dA:∀ls:List AK,Go.Pg.eqL (Go.Pg.eqL (X0 8)) (ls.map AD) (ls.map AD)=true
 |[]=>rfl
 |l::ls=>by
  have h:=dA ls;have e:∀n:Int,X0 8 (i n) (i n)=true:=fun n=>by show(decide (IntKind.i64=IntKind.i64)&&decide (n=n))=true;simp
  show((X0 8 (i l.k) (i l.k)&&(X0 8 (i l.c) (i l.c)&&(X0 8 (i l.t) (i l.t)&&true)))&&Go.Pg.eqL (Go.Pg.eqL (X0 8)) (ls.map AD) (ls.map AD))=true;rw[e,e,e,h];rfl
theorem iW(ls:List AK):(ls.map AD).all dJ=true:=bj.2 fun e he=>by obtain⟨l,_,rfl⟩:=bh.1 he;rfl
theorem iX(ls:List AK):FC 9 (.list false (ls.map AD))=true:=bj.2 fun e he=>by obtain⟨l,_,rfl⟩:=bh.1 he;rfl
def BI(ls:List AK)(w:Wrd):Bool:=S6 w.tok w.num ((ls.map AD).take w.after.toNat) false==w.out
structure LQ(n:Nat)(w:Wrd):Prop where
 a0:0<=w.after
 a1:w.after<=n
 m0:0<=w.num
 m1:w.num<=1000
theorem AFF{c:DR}{w:Wrd}(h:DF c w=true)(h4:c.book.chairs<=4):LQ c.book.lines.length w:=by simp only[DF,EW,Bool.and_eq_true,decide_eq_true_eq]at h;exact⟨by omega,by omega,by omega,by omega⟩
theorem kIs(rec:FN)(ls:List AK)(w:Wrd)(hl:ls.length<=1000)(h:LQ ls.length w):A4 br kn rec 78 [sc ls,.agg (AM w)]=some (.bool (BI ls w)):=by
 refine cZ ?_;have wa:=ZO (M3 (n:=w.after) (by have:=h.a0;omega) (by have:=h.a1;omega));have wn:=ZO (M3 (n:=w.num) (by have:=h.m0;omega) (by have:=h.m1;omega));have hw:wfK (ls.map AD) w.after w.num=true:=by unfold wfK;rw[wa,wn,iW];simp[h.a0,h.a1]
 have hi:wM [.list false (ls.map AD)] (.agg (AM w))=some (BI ls w):=by show cond (wfK (ls.map AD) w.after w.num) (some (BI ls w)) none=_;rw[hw];rfl
 have hm:oU [sc ls,.agg (AM w)]=some (.bool (BI ls w)):=by
  show cond (X0 9 (.list false (ls.map AD)) (.list false (ls.map AD))&&(FC 9 (.list false (ls.map AD))&&true)) (match wM [.list false (ls.map AD)] (.agg (AM w))with
   |some b=>some (V.bool b)
   | none=>none) none=_
  have he:X0 9 (.list false (ls.map AD)) (.list false (ls.map AD))=true:=by show(false==false&&Go.Pg.eqL (Go.Pg.eqL (X0 8)) (ls.map AD) (ls.map AD))=true;rw[dA];rfl
  rw[he,iX,hi];rfl
 show(match ZE 78 78 [sc ls,.agg (AM w)]with
  |some r=>some r
  | none=>_)=_
 have hc:ZE 78 78 [sc ls,.agg (AM w)]=some (.bool (BI ls w)):=hm;rw[hc]
theorem AFG(n:Nat)(ls:List AK)(ws:List Wrd)(hl:ls.length<=1000)(hn:ws.length<=40)(h:∀w∈ws,LQ ls.length w):A4 br kn (AF br ann kn (n+400)) 68 [sc ls,YB ws]=some (.bool (!ws.all (BI ls))):=by rw[AP rfl,AQ Tryz.func68 b68 rfl (by simp[sc,AD,AM])];have q:=fun n=>ASO n 0 ls 78 (BI ls) ws hn (fun n w hw=>kIs _ ls w hl (h w hw));simp only[sc,Nat.add_zero]at q|-;simp[c68,AJ,q,AD,AM]
def SE(p:List Wrd->Bool):Int->List (List Wrd)->Int
 |v,[]=>v
 |v,x::r=>SE p (cond (p x) (v+1) v) r
theorem uH(n:Nat)(c:DR)(ls:List AK)(hl:ls.length<=1000)(hw4:c.wits.length<=40)(hx:∀l∈c.wits,l.length<=40/\∀w∈l,LQ ls.length w):∀(d k:Nat) (v:Int) (m:Nat),k+d=c.wits.length->d<m->0<=v->v<=k ->
  BQ (AF br ann kn (n+450) 21) UK (ann 21 (CO UK)) m ⟨1,[(1,true,sc ls),(4,true,i v),(8,true,.list false (c.wits.map AR)),(9,true,i c.wits.length),(10,true,i k)],⟨[],[(2,0,.box (AH c))]⟩⟩ =
  some (.exit 0,⟨1,[(11,true,.bool false),(1,true,sc ls),(4,true,i (SE (fun l=>!l.all (BI ls)) v (c.wits.drop k))),(8,true,.list false (c.wits.map AR)),(9,true,i c.wits.length),(10,true,i c.wits.length)],⟨[],[(2,0,.box (AH c))]⟩⟩)
 |0,k,v,m+1,hd,hm,h0,h1=>by
  have:k=c.wits.length:=by omega
  subst this;simp[AE,SE,sc,AH]
 |d+1,k,v,m+1,hd,hm,h0,h1=>by
  have hk:k<c.wits.length:=by omega
  have hw:=GP (k:=k) (by omega);have hv:IntKind.i64.wrap (v+1)=v+1:=AW (by omega) (by omega);obtain⟨g1,g2⟩:=hx _ (bx hk);have q:=fun n=>AFG n ls c.wits[k] hl g1 g2;have ih:=uH n c ls hl hw4 hx d (k+1) (cond (!c.wits[k].all (BI ls)) (v+1) v) m (by omega) (by omega) (by cases c.wits[k].all (BI ls)<;>simp<;>omega) (by cases c.wits[k].all (BI ls)<;>simp<;>omega);rw[AE,bq hk];simp only[SE];generalize c.wits[k].all (BI ls)=b at q ih|-;simp only[sc,AH]at q ih|-;try simp at ih
  cases b<;>(try simp at ih)<;>simp[hk,hw,hv,AR,AD,AN,AM,q,ih]
def Q9(c:DR)(ls:List AK):Int:=SE (fun l=>!l.all (BI ls)) 0 c.wits
theorem AH4(n:Nat)(c:DR)(ls:List AK)(hl:ls.length<=1000)(hw4:c.wits.length<=40)(hx:∀l∈c.wits,l.length<=40/\∀w∈l,LQ ls.length w):A4 br kn (AF br ann kn (n+550)) 72 [.agg (AH c),sc ls]=some (i (Q9 c ls)):=by
 rw[AP rfl,AQ Tryz.func72 b72 rfl (by simp[sc,AH,AD,AN,AM,AR])];have q:=uH (n+95) c ls hl hw4 hx c.wits.length 0 0 (n+545) (by omega) (by omega) (by omega) (by omega);simp only[List.drop_zero,sc,AH,bc,bf,Int.natCast_zero]at q|-;try simp at q
 simp[c72,AJ,q,Q9]
end Go.Proofs.Tryz.Op
namespace Go.Pg
variable {P:Program}{E:XE}{d:Option Tmp}{c:Nat}{fr:Fr}{s:St}
noncomputable def cl1(E:XE)(d:Option Tmp)(g:FuncId)(st:XS):Option V->Option XS
 |some (.vec l q γ n)=>kE E.co d g γ n (st.s.get l q) st
 |some v=>C4 d st (E.c0 g [weakV v])
 |none=>none
@[simp] theorem ASR(g:FuncId)(st:XS)(b:Bool)(es:List (List V)):cl1 E d g st (some (.list b es))=C4 d st (E.c0 g [.list false es]):=rfl
@[simp] theorem A0E(g:FuncId)(st:XS):cl1 E d g st (some .nil)=C4 d st (E.c0 g [.nil]):=rfl
@[simp] theorem A0F(g:FuncId)(st:XS)(l q γ n:Nat):cl1 E d g st (some (.vec l q γ n))=kE E.co d g γ n (st.s.get l q) st:=rfl
@[simp] theorem AFH(t:Option Tmp)(g:FuncId)(x:Operand)(hr:E5 (.func g)=true):B9 P E d (.call false t (.func g) [x]) ⟨c,fr,s⟩=nw (cl1 E d g ⟨c,fr,s⟩ (BO fr x)):=by
 show noW (cond (E5 (.func g)) (MM E.c0 E.co d (.func g) [x] ⟨c,fr,s⟩) _)=_;rw[hr,cond_true,EK];congr 1;have hf:BO fr (.func g)=some (.fn g [] []):=rfl;have h0:∀v,BO fr x=some v->EU E.c0 d (.func g) [x] ⟨c,fr,s⟩=C4 d ⟨c,fr,s⟩ (E.c0 g [weakV v]):=fun v hv=>by
  unfold EU;have hm:DU (BO fr) [x]=some [v]:=by simp[DU,hv]
  simp only[hf,hm];show(match E.c0 g [weakV v]with|some r=>_|none=>none)=_;cases E.c0 g [weakV v]<;>rfl
 have h1:MM E.c0 E.co d (.func g) [x] ⟨c,fr,s⟩=(match BO fr x with
  |some (.vec l q γ n)=>kE E.co d g γ n (s.get l q) ⟨c,fr,s⟩
  | _=>EU E.c0 d (.func g) [x] ⟨c,fr,s⟩):=rfl
 rw[h1];cases hx:BO fr x with
 |none=>
  have hm:DU (BO fr) [x]=none:=by simp[DU,hx]
  show EU E.c0 d (.func g) [x] ⟨c,fr,s⟩=none
  unfold EU
  simp only[hf,hm]
 |some v=>cases v<;>first
   |rfl
   |exact h0 _ hx
@[simp] theorem AFI(b:Bool)(es:List (List V)):DV (some (.list b es))=[]:=rfl
@[simp] theorem AH5:DV (some .nil)=[]:=rfl
@[simp] theorem ANV(d:List V):KO (.memo d)=.memo d:=rfl
@[simp] theorem ABA:B4 (.pointer none)=some (.raw (.pointer none)):=rfl
end Go.Pg
namespace Go.Proofs.Tryz.Op
theorem ASS(e:List V)(es:List (List V)):FQ br .eql 36 (.list false (e::es)) .nil=some (.bool false):=by
 have h:DP br 36=true:=by kernel_rfl
 show(if DP br 36=true then(GZ (.list false (e::es))).map V.bool else none)=_;rw[if_pos h];rfl
theorem ABM(n:Nat)(ls:List AK)(hl:ls.length<=90):A4 br kn (AF br ann kn (n+100)) 118 [.list false (ls.map AD)]=some (.list false (ls.map AD)):=by
 cases ls with
 |nil=>exact cZ rfl
 |cons x xs=>
  rw[AP rfl,AQ Tryz.func118 A4E rfl (by simp[AD])]
  have ha:CL br 96 0 ((x::xs).map AD)=true:=by rw[D5 (by simp) (by simp[AD])];simp[maxLen,AD]at hl|-;omega
  simp only[bw]at ha|-
  simp[AUA,AJ,ha,ASS]
  have ht:List.take xs.length (bp AD xs)=bp AD xs:=List.take_of_length_le (by simp)
  refine⟨⟨by simp[AD],fun e he v hv=>?_⟩,ht⟩
  rw[ht]at he
  obtain⟨l,_,rfl⟩:=bh.1 he
  simp only[AD,List.mem_cons,List.not_mem_nil,or_false]at hv
  rcases hv with rfl|rfl|rfl<;>rfl
theorem uI(n:Nat)(c:DR)(ls:List AK)(hts:∀t∈ls,ZN t)(hl:ls.length<=90)(loc:AB)(hs:∀t:St,1<=t.up.length->A6 t loc=loc)(d cc:Nat)(fr:Fr):NS (BU br ann kn (n+1200)) (some d) ⟨cc,fr,⟨[],loc⟩⟩ 79 [.agg (AH c),.list false (ls.map AD)]=some ⟨cc+3,(d,true,.tup [sc ls,.bool (HC c.book ls)])::fr,⟨[],loc⟩⟩:=by
 rw[AEU Tryz.func79 b79 rfl (by simp)];have q1:=fun n=>ABM n ls hl;have q2:=fun n=>k53 n c.book ls hts;simp only[AC]at q2;simp only[AH,sc];have hcl:AL 9 (.list false (ls.map AD))=true:=by simp[AD]
 have m1:∀st:XS,sZ 3000000000010008 st=LW 8 10 st:=fun st=>AEA (by decide) st;have m2:∀st:XS,sZ 10 st=D7 10 st:=fun st=>zZ (by decide) st;have m3:∀(c:Nat) (fr:Fr) (up:List AB) (loc:AB),D7 10 ⟨c,fr,⟨up,loc⟩⟩=⟨c,LO up.length 10 (loc.get 10) fr,⟨up,FY up.length 10 (loc.get 10) loc⟩⟩:=fun _ _ _ _=>rfl;simp[c79,AJ,q1,q2,tK,m1,m2,LW,oA,hcl,sJ,O9,IV,bH,m3,hs]
structure OkC(c:DR):Prop where
 ask:E6 c.book true=0
 li:EW c.liars 0 4=true
 cl:c.claims.length<=4
 wl:c.wits.length<=4
 wx:∀l∈c.wits,l.length<=4
 cw:∀w∈c.claims,LQ c.book.lines.length w
 ww:∀l∈c.wits,∀w∈l,LQ c.book.lines.length w
theorem Z0{c:DR}(h:EG c=0):OkC c:=by
 unfold EG at h;split at h
 ·omega
 ·rename_i h1;split at h
  ·rename_i h2;split at h
   ·rename_i h3;simp only[Bool.or_eq_true,decide_eq_true_eq,Bool.not_eq_true',not_or,Bool.not_eq_false,Nat.not_lt]at h1;simp only[Bool.and_eq_true]at h3;obtain⟨h0,_,_⟩:=cP h2;obtain⟨_,h4,_⟩:=W2 h0;exact⟨h2,h3.1,h1.2.1,h1.1,fun l hl=>by simpa using bj.1 h1.2.2 l hl,fun w hw=>AFF (bj.1 h3.2.1 w hw) h4,fun l hl w hw=>AFF (bj.1 (bj.1 h3.2.2 l hl) w hw) h4⟩
   ·omega
  ·rename_i h2;exact absurd h h2
theorem OkC.book{c:DR}(h:OkC c):EL c.book=0:=(cP h.ask).1
theorem OT{b:A5}{ts:List AK}(h:HC b ts=true):ts.length=b.lines.length:=by
 unfold HC E4 at h;split at h
 ·rename_i h1;split at h1
  ·assumption
  ·cases h1
 ·simp at h
theorem OkC.lines{c:DR}(h:OkC c):c.book.lines.length<=8:=(W2 h.book).2.2.1
def uJ(c:DR)(ls:List AK):Bool:=decide (EG c=0)&&(HC c.book ls&&decide (Q9 c ls<=c.liars))
theorem ABN(n:Nat)(c:DR)(ls:List AK)(hts:∀t∈ls,ZN t)(hl:ls.length<=90):A4 br kn (AF br ann kn (n+3700)) 58 [.agg (AH c),.list false (ls.map AD)]=some (.bool (uJ c ls)):=by
 rw[AP rfl,AQ Tryz.func58 b58 rfl (by simp[AH,AD,AN,AM,AR])];have q1:=fun n=>ZZ n c;have q2:=fun n=>uI n c ls hts hl [(2,0,.box (AH c))] (fun t ht=>by
  obtain⟨up,loc⟩:=t;simp[AH,AD,AN,AM,AR])
 unfold uJ;by_cases he:EG c=0
 ·have ok:=Z0 he;have hlen:=ok.lines;have hwx:=ok.wl;rw[he]at q1|-;cases hp:HC c.book ls with
  |false=>
   rw[hp]at q2
   simp only[AH,sc]at q1 q2|-
   simp[c58,AJ,gK,q1,q2,AD,AN,AM,AR]
  |true=>
   have hll:=OT hp
   have q3:=fun n=>AH4 n c ls (by omega) (by omega) (fun l hm=>⟨by have:=ok.wx l hm;omega,fun w hw=>by rw[hll];exact ok.ww l hm w hw⟩)
   rw[hp]at q2
   simp only[AH,sc]at q1 q2 q3|-
   simp[c58,AJ,gK,q1,q2,q3,AD,AN,AM,AR]
 ·have hd:decide (EG c=0)=false:=by simpa using he
  rw[hd];simp only[AH]at q1|-;simp[c58,AJ,q1,hd,he,AD,AN,AM,AR]
theorem Z1{j k m:Nat}(h1:j≠m)(h2:k≠m)(γ:Nat)(T:TypeId)(es:List (List V))(x:Nat×AY):(pl j γ T es++[(k,x)]).get m=none:=by cases es<;>simp[h1.symm,h2.symm]
def CA(b:Bool):List V:=[.bool b]
theorem AFJ{k:Nat}{x:Bool}(h:k<=1000):CL br 4 k [[.bool x]]=true:=by rw[D5 (by simp) (by simp)];simp[maxLen];omega
theorem uK(c:DR)(ls:List AK)(hl:ls.length<=1000)(hc4:c.claims.length<=40)(hw:∀w∈c.claims,LQ ls.length w):∀(d k:Nat) (out:List Bool) (cc γ:Nat),k+d=c.claims.length->out.length<=k ->
  ∃c' γ',cc<=c'/\∀n m,d<m->BQ (AF br ann kn (n+450) 57) UL (ann 57 (CO UL)) m ⟨cc,[(2,true,.ptr 0 2 0 0),(4,true,pv 39 γ (out.map CA)),(5,true,.nil),(8,true,sc ls),(28,true,.list false (c.claims.map AM)),(29,true,i c.claims.length),(30,true,i k)],⟨[],(2,0,.box (AH c))::pl 39 γ 4 (out.map CA)⟩⟩ =
  some (.exit 0,⟨c',[(31,true,.bool false),(2,true,.ptr 0 2 0 0),(4,true,pv 39 γ' ((out++(c.claims.drop k).map (BI ls)).map CA)),(5,true,.nil),(8,true,sc ls),(28,true,.list false (c.claims.map AM)),(29,true,i c.claims.length),(30,true,i c.claims.length)],⟨[],(2,0,.box (AH c))::pl 39 γ' 4 ((out++(c.claims.drop k).map (BI ls)).map CA)⟩⟩)
 |0,k,out,cc,γ,hd,ho=>by
  have:k=c.claims.length:=by omega
  subst this;refine⟨cc,γ,Nat.le_refl _,fun n m hm=>?_⟩;obtain⟨m,rfl⟩:=qNz m (by omega);simp[AE,sc,AH]
 |d+1,k,out,cc,γ,hd,ho=>by
  have hk:k<c.claims.length:=by omega
  have hwk:=GP (k:=k) (by omega);have q:=fun n=>kIs (AF br ann kn n) ls c.claims[k] hl (hw _ (bx hk));obtain⟨c',γ',hc,ih⟩:=uK c ls hl hc4 hw d (k+1) (out++[BI ls c.claims[k]]) (cc+2) (cc+1) (by omega) (by simp;omega);have happ:=AFJ (k:=out.length) (x:=BI ls c.claims[k]) (by omega);refine⟨c',γ',by omega,fun n m hm=>?_⟩;obtain⟨m,rfl⟩:=qNz m (by omega);have ih:=ih n m (by omega);rw[AE,bq hk];simp only[bw];generalize BI ls c.claims[k]=b at q ih happ|-;simp only[List.map_append,bw,bn,H8,CA,AM,sc,AH,bg,List.cons_append,bz]at q ih|-;try simp at ih
  simp[hk,hwk,AM,AR,AD,AN,CA,q,happ,RK,ih]
theorem mY(c:DR)(ls:List AK)(A:List Bool)(γA:Nat)(hl:ls.length<=1000)(hw4:c.wits.length<=40)(hx:∀l∈c.wits,l.length<=40/\∀w∈l,LQ ls.length w):∀(d k:Nat) (out:List Bool) (cc γ:Nat),k+d=c.wits.length->out.length<=k ->
  ∃c' γ',cc<=c'/\∀n m,d<m->BQ (AF br ann kn (n+450) 57) PM (ann 57 (CO PM)) m ⟨cc,[(4,true,pv 39 γA (A.map CA)),(5,true,pv 53 γ (out.map CA)),(8,true,sc ls),(42,true,.list false (c.wits.map AR)),(43,true,i c.wits.length),(44,true,i k)],⟨[],(2,0,.box (AH c))::(pl 39 γA 4 (A.map CA)++pl 53 γ 4 (out.map CA))⟩⟩ =
  some (.exit 2,⟨c',[(45,true,.bool false),(4,true,pv 39 γA (A.map CA)),(5,true,pv 53 γ' ((out++(c.wits.drop k).map fun l=>!l.all (BI ls)).map CA)),(8,true,sc ls),(42,true,.list false (c.wits.map AR)),(43,true,i c.wits.length),(44,true,i c.wits.length)],⟨[],(2,0,.box (AH c))::(pl 39 γA 4 (A.map CA)++pl 53 γ' 4 ((out++(c.wits.drop k).map fun l=>!l.all (BI ls)).map CA))⟩⟩)
 |0,k,out,cc,γ,hd,ho=>by
  have:k=c.wits.length:=by omega
  subst this;refine⟨cc,γ,Nat.le_refl _,fun n m hm=>?_⟩;obtain⟨m,rfl⟩:=qNz m (by omega);simp[AE,sc,AH,lT,lU,lV,lW,UD,bV,UE,bW,Z1]
 |d+1,k,out,cc,γ,hd,ho=>by
  have hk:k<c.wits.length:=by omega
  have hwk:=GP (k:=k) (by omega);obtain⟨g1,g2⟩:=hx _ (bx hk);have q:=fun n=>AFG n ls c.wits[k] hl g1 g2;obtain⟨c',γ',hc,ih⟩:=mY c ls A γA hl hw4 hx d (k+1) (out++[!c.wits[k].all (BI ls)]) (cc+1) cc (by omega) (by simp;omega);have happ:=AFJ (k:=out.length) (x:=!c.wits[k].all (BI ls)) (by omega);refine⟨c',γ',by omega,fun n m hm=>?_⟩;obtain⟨m,rfl⟩:=qNz m (by omega);have ih:=ih n m (by omega);rw[AE,bq hk];generalize A.map CA=AA at ih|-;simp only[bw];generalize (!c.wits[k].all (BI ls))=b at q ih happ|-;simp only[List.map_append,bw,bn,H8,CA,sc,AH,bg,List.cons_append,bz]at q ih|-;try simp at ih
  simp[hk,hwk,AM,AR,AD,AN,CA,q,happ,RK,ih,lT,lU,lV,lW,UD,bV,UE,bW,Z1]
def uL(c:DR)(ls:List AK):V:=if EG c=0 then(if HC c.book ls=true then .tup [sl ((c.claims.map (BI ls)).map CA),sl ((c.wits.map fun l=>!l.all (BI ls)).map CA),i 0] else .tup [.nil,.nil,i 2]) else .tup [.nil,.nil,i (EG c)]
theorem AH6(n:Nat)(c:DR)(ls:List AK)(hts:∀t∈ls,ZN t)(hl:ls.length<=90):A4 br kn (AF br ann kn (n+3700)) 57 [.agg (AH c),.list false (ls.map AD)]=some (uL c ls):=by
 rw[AP rfl,AQ Tryz.func57 b57 rfl (by simp[AH,AD,AN,AM,AR])];have q1:=fun n=>ZZ n c;have q2:=fun n=>uI n c ls hts hl [(2,0,.box (AH c))] (fun t ht=>by
  obtain⟨up,loc⟩:=t;simp[AH,AD,AN,AM,AR])
 unfold uL;by_cases he:EG c=0
 ·have ok:=Z0 he;have hlen:=ok.lines;have hwx:=ok.wl;have hcx:=ok.cl;rw[if_pos he];rw[he]at q1;cases hp:HC c.book ls with
  |false=>
   rw[hp]at q2
   simp only[AH,sc]at q1 q2|-
   simp[c57,AJ,q1,q2,AD,AN,AM,AR]
  |true=>
   have hll:=OT hp
   rw[hp]at q2
   obtain⟨c1,γ1,h1,r1⟩:=uK c ls (by omega) (by omega) (fun w hw=>by rw[hll];exact ok.cw w hw) c.claims.length 0 [] 4 0 (by omega) (by simp)
   obtain⟨c2,γ2,h2,r2⟩:=mY c ls (c.claims.map (BI ls)) γ1 (by omega) (by omega) (fun l hm=>⟨by have:=ok.wx l hm;omega,fun w hw=>by rw[hll];exact ok.ww l hm w hw⟩) c.wits.length 0 [] c1 0 (by omega) (by simp)
   have r1:=r1 (n+3242) (n+3692) (by omega)
   have r2:=r2 (n+3241) (n+3691) (by omega)
   simp only[List.drop_zero,bz,bn,cD,cE,List.append_nil,Int.natCast_zero,AH,sc,bc,bf]at q1 q2 r1 r2|-
   have hA:((c.claims.map (BI ls)).map CA).all (fun e=>e.all (AL 7))=true:=by simp[CA]
   have hB:((c.wits.map fun l=>!l.all (BI ls)).map CA).all (fun e=>e.all (AL 7))=true:=by simp[CA]
   generalize (c.claims.map (BI ls)).map CA=AA at r1 r2 hA|-
   generalize (c.wits.map fun l=>!l.all (BI ls)).map CA=BB at r2 hB|-
   try simp at r1 r2
   simp[c57,AJ,q1,q2,AD,AN,AM,AR]
   simp[r1]
   simp[r2,lT,lU,lV,lW,UD,bV,UE,bW,Z1]
   rw[J8 (T:=4) 2 _ 39 γ1 AA (UE (by decide) _ _ _ _ _ _),J8 (T:=4) 2 _ 53 γ2 BB (UD (by decide) _ _ _ _ _ _)]
   simp
   exact⟨fun x hx v hv=>bj.1 (bj.1 hA x hx) v hv,fun x hx v hv=>bj.1 (bj.1 hB x hx) v hv⟩
 ·have hd:decide (EG c=0)=false:=by simpa using he
  rw[if_neg he];simp only[AH]at q1|-;generalize EG c=A at q1 hd;simp[c57,AJ,q1,hd,AD,AN,AM,AR]
end Go.Proofs.Tryz.Op
