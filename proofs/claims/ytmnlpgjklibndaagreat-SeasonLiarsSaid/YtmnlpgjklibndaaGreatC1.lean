/- Contracts: season's within, word, CheckCase. No condition. -/
import Derived.Test.YtmnlpgjklibndaaGreatB2
import Derived.Test.YtmnlpgjklibndaaGreatZ2
open Go.Proofs.Tryz renaming prog->bq
open List renaming all_eq_true->bj
set_option maxRecDepth 100000
set_option linter.unusedSimpArgs false
open Go Go.Pg Go.Proofs Go.Season
namespace Go.Proofs.Tryz.Op
theorem kIn(n:Nat)(x lo hi:Int):A5 bq kn (AG bq ann kn (n+100)) 100 [i x,i lo,i hi]=some (.bool (EL x lo hi)):=by rw[AQ rfl,AR Tryz.func100 A9E rfl rfl];unfold EL;generalize e1:decide (lo<=x)=b1;simp[e1,AY2,AH];cases b1<;>simp
def DO(c:BL)(w:Wrd):Bool:=EL w.after 0 c.book.lines.length&&EL w.num 0 (c.book.chairs-1)
theorem AI0(n:Nat)(c:BL)(w:Wrd)(h1:1<=c.book.chairs)(h4:c.book.chairs<=4):A5 bq kn (AG bq ann kn (n+200)) 99 [.agg (AF c),.agg (AL w)]=some (.bool (DO c w)):=by rw[AQ rfl,AR Tryz.func99 b99 rfl (by simp[AF,AB,AM,AL,AO])];have hw:IntKind.i64.wrap (c.book.chairs-1)=c.book.chairs-1:=AV (by omega) (by omega);have q:=fun n x lo hi=>kIn n x lo hi;unfold DO;generalize e1:EL w.after 0 c.book.lines.length=b1;generalize e2:EL w.num 0 (c.book.chairs-1)=b2;simp[c99,AH,AF,AL,q,e1,e2,hw];cases b1<;>(try simp[e2,q,hw])
theorem A8E(n:Nat)(l:List Wrd):A5 bq kn (AG bq ann kn (n+100)) 96 [VX l]=some (.bool (decide (l.length<=4))):=by
 rw[AQ rfl,AR Tryz.func96 b96 rfl (by simp[AL])];have e:decide ((l.length:Int)<=4)=decide (l.length<=4):=by congr 1;apply propext;omega
 simp[c96,AH,e]
theorem AXB(c:BL)(h1:1<=c.book.chairs)(h4:c.book.chairs<=4)(hl:c.wits.length<=4)(hx:∀l∈c.wits,l.length<=4)(L:AA)(g:Nat)(hg:L.get 6=some (g,.box [.fn 99 [.agg (AF c)] []]))(hs:∀t:St,1<=t.up.length->AN t L=L)(n cc dd:Nat)(fr:Fr) :
  ∃c',cc<=c'/\ME (BR bq ann kn (n+1100)) (some dd) ⟨cc,fr,⟨[],L⟩⟩ 97 [.list false (c.wits.map AO),.fn 102 [] [.ptr 0 6 g 0]]=some ⟨c',(dd,true,.bool (c.wits.all fun l=>l.all (DO c)))::fr,⟨[],L⟩⟩:=by
 obtain⟨c',h2,q⟩:=ALY (σ:=Unit) n 800 0 (fun _=>[]) (fun _=>L) (fun _=>rfl) (fun _=>True) 102 [.ptr 0 6 g 0] (by simp) (by simp) (fun _ l=>l.all (DO c)) (fun _ _=>()) c.wits (by omega) (fun _ t h=>by simp[hs t h]) (fun t γ h=>by
   have h0:¬0=t.up.length:=by omega
   obtain⟨up,loc⟩:=t;simp[h0]) cc (fun n c1 fr s x hc1 hi hxm=>⟨fun _=>trivial,c1,by omega,by
   have q:=fun n=>AIY n 200 c 99 (DO c) x (by have:=hx x hxm;omega) (fun n w _=>AI0 n c w h1 h4);have q:=q (n+297);have e:n+297+200+300=n+797:=by omega
   rw[e]at q;have hs1:=fun t h=>hs t h;simp only[AF]at q hg;rw[BP Tryz.func102 b102 rfl (by simp)];have h0:∀t:St,1<=t.up.length->¬0=t.up.length:=fun t h=>by omega
   simp[AY3,AH,hg,q,hs1,AB,AM,AO,AL]⟩) dd fr () trivial
 refine⟨c',h2,?_⟩
 rw[F6]at q
 have:=J2 (fun l:List Wrd=>l.all (DO c)) c.wits
 rw[this]at q
 exact q
def DZ(c:BL):Int :=
 if (decide (4<c.wits.length)||(decide (4<c.claims.length)||!c.wits.all fun l=>decide (l.length<=4)))=true then 3
 else if DW c.book true=0 then(if (EL c.liars 0 4&&(c.claims.all (DO c)&&c.wits.all fun l=>l.all (DO c)))=true then 0 else 1)
 else DW c.book true
theorem qY(n:Nat)(c:BL):A5 bq kn (AG bq ann kn (n+3500)) 59 [.agg (AF c)]=some (i (DZ c)):=by
 rw[AQ rfl,AR Tryz.func59 b59 rfl (by simp[AF,AB,AM,AL,AO])];unfold DZ;generalize e1:decide (4<c.wits.length)=b1;have e1':decide ((4:Int)<(c.wits.length:Int))=b1:=by rw[<-e1];congr 1;apply propext;omega
 generalize e2:decide (4<c.claims.length)=b2;have e2':decide ((4:Int)<(c.claims.length:Int))=b2:=by rw[<-e2];congr 1;apply propext;omega
 cases b1 with
 |true=>simp[c59,AH,AF,e1',AB,AM,AL,AO]
 |false=>
  cases b2 with
  |true=>simp[c59,AH,AF,e1',e2',AB,AM,AL,AO]
  |false=>
   have hl:c.wits.length<=4:=by simpa using e1
   have hk:c.claims.length<=4:=by simpa using e2
   have qF:=fun n=>AXA n 100 96 (fun l:List Wrd=>decide (l.length<=4)) c.wits (by omega) (fun n l _=>A8E n l)
   generalize e3:(c.wits.all fun l=>decide (l.length<=4))=b3 at qF
   cases b3 with
   |false=>simp[c59,AH,AF,e1',e2',qF,AB,AM,AL,AO]
   |true=>
    have hx:∀l∈c.wits,l.length<=4:=fun l hm=>by simpa using bj.1 e3 l hm
    have qM:=fun n=>k29 n c.book
    unfold qH at qM
    by_cases he:DW c.book true=0
    ·obtain⟨h0,_,_⟩:=QG he;obtain⟨h1,h4,_⟩:=TL h0;have qW:=fun n=>AIY n 200 c 99 (DO c) c.claims (by omega) (fun n w _=>AI0 n c w h1 h4);rw[if_pos he]at qM;rw[if_pos he];have qI:=fun n x lo hi=>kIn n x lo hi;generalize e4:EL c.liars 0 4=b4;generalize e5:c.claims.all (DO c)=b5 at qW;generalize e6:(c.wits.all fun l=>l.all (DO c))=b6;simp only[AF,AC]at qM qW;cases b4 with
     |false=>simp[c59,AH,AF,e1',e2',qF,qM,qI,e4,AB,AM,AL,AO]
     |true=>
      cases b5 with
      |false=>simp[c59,AH,AF,e1',e2',qF,qM,qI,qW,e4,AB,AM,AL,AO]
      |true=>
       simp[c59,AH,AF,e1',e2',qF,qM,qI,qW,e4,AB,AM,AL,AO]
       obtain⟨c',_,qO⟩:=AXB c h1 h4 hl hx [(1,0,.box (AF c)),(6,2,.box [.fn 99 [.agg (AF c)] []])] 2 (by simp) (fun t ht=>by
        have h0:¬0=t.up.length:=by omega
        obtain⟨up,loc⟩:=t;simp[AF,h0,AB,AM,AL,AO]) (n+2392) 3 50 [(49,true,V.fn 102 [] [V.ptr 0 6 2 0]),(48,true,V.list false (List.map AO c.wits)),(47,true,V.ptr 0 1 0 5),(46,true,V.bool false),(45,true,V.bool false),(44,true,V.bool false),(43,true,V.bool true),
         (42,true,V.fn 99 [V.agg (AF c)] []),(41,true,V.list false (List.map AL c.claims)),(40,true,V.ptr 0 1 0 7),(39,true,V.bool false),(38,true,V.bool false),(37,true,V.bool true),(36,true,i c.liars),(35,true,V.ptr 0 1 0 6),(1,true,V.ptr 0 1 0 0),(6,true,V.ptr 0 6 2 0)]
       rw[e6]at qO
       simp only[AF,Nat.add_assoc,Nat.reduceAdd]at qO
       cases b6<;>simp[qO]
    ·have hd:decide (DW c.book true=0)=false:=by simpa using he
     rw[if_neg he]at qM;rw[if_neg he];simp only[AF,AC]at qM;generalize DW c.book true=A at qM hd;simp[c59,AH,AF,e1',e2',qF,qM,hd,AB,AM,AL,AO]
end Go.Proofs.Tryz.Op
namespace Go.Pg
theorem yA{P:Program}{kn:CF0}{rec:FK}{f:FuncId}{args:List V}{r:V}(h:kn f args=some r):A5 P kn rec f args=some r:=by unfold A5;rw[h]
end Go.Pg
namespace Go.Proofs.Tryz.Op
theorem fY:∀ls:List AE,Go.Pg.eqL (Go.Pg.eqL (ZT 8)) (ls.map AB) (ls.map AB)=true
 |[]=>rfl
 |l::ls=>by
  have h:=fY ls;have e:∀n:Int,ZT 8 (i n) (i n)=true:=fun n=>by show(decide (IntKind.i64=IntKind.i64)&&decide (n=n))=true;simp
  show((ZT 8 (i l.k) (i l.k)&&(ZT 8 (i l.c) (i l.c)&&(ZT 8 (i l.t) (i l.t)&&true)))&&Go.Pg.eqL (Go.Pg.eqL (ZT 8)) (ls.map AB) (ls.map AB))=true;rw[e,e,e,h];rfl
theorem mN(ls:List AE):(ls.map AB).all gS=true:=bj.2 fun e he=>by obtain⟨l,_,rfl⟩:=List.mem_map.1 he;rfl
theorem mO(ls:List AE):E7 9 (.list false (ls.map AB))=true:=bj.2 fun e he=>by obtain⟨l,_,rfl⟩:=List.mem_map.1 he;rfl
def HD(ls:List AE)(w:Wrd):Bool:=ZD w.tok w.num ((ls.map AB).take w.after.toNat) false==w.out
structure cJ(n:Nat)(w:Wrd):Prop where
 a0:0<=w.after
 a1:w.after<=n
 m0:0<=w.num
 m1:w.num<=1000
theorem AI1{c:BL}{w:Wrd}(h:DO c w=true)(h4:c.book.chairs<=4):cJ c.book.lines.length w:=by simp only[DO,EL,Bool.and_eq_true,decide_eq_true_eq]at h;exact⟨by omega,by omega,by omega,by omega⟩
theorem kIs(rec:FK)(ls:List AE)(w:Wrd)(hl:ls.length<=1000)(h:cJ ls.length w):A5 bq kn rec 78 [sc ls,.agg (AL w)]=some (.bool (HD ls w)):=by
 refine yA ?_;have wa:=YR (N3 (n:=w.after) (by have:=h.a0;omega) (by have:=h.a1;omega));have wn:=YR (N3 (n:=w.num) (by have:=h.m0;omega) (by have:=h.m1;omega));have hw:wfK (ls.map AB) w.after w.num=true:=by unfold wfK;rw[wa,wn,mN];simp[h.a0,h.a1]
 have hi:isV [.list false (ls.map AB)] (.agg (AL w))=some (HD ls w):=by show cond (wfK (ls.map AB) w.after w.num) (some (HD ls w)) none=_;rw[hw];rfl
 have hm:tA [sc ls,.agg (AL w)]=some (.bool (HD ls w)):=by
  show cond (ZT 9 (.list false (ls.map AB)) (.list false (ls.map AB))&&(E7 9 (.list false (ls.map AB))&&true)) (match isV [.list false (ls.map AB)] (.agg (AL w))with
   |some b=>some (V.bool b)
   | none=>none) none=_
  have he:ZT 9 (.list false (ls.map AB)) (.list false (ls.map AB))=true:=by show(false==false&&Go.Pg.eqL (Go.Pg.eqL (ZT 8)) (ls.map AB) (ls.map AB))=true;rw[fY];rfl
  rw[he,mO,hi];rfl
 show(match bQ 78 78 [sc ls,.agg (AL w)]with
  |some r=>some r
  | none=>_)=_
 have hc:bQ 78 78 [sc ls,.agg (AL w)]=some (.bool (HD ls w)):=hm;rw[hc]
theorem AXC(n:Nat)(ls:List AE)(ws:List Wrd)(hl:ls.length<=1000)(hn:ws.length<=40)(h:∀w∈ws,cJ ls.length w):A5 bq kn (AG bq ann kn (n+400)) 68 [sc ls,VX ws]=some (.bool (!ws.all (HD ls))):=by rw[AQ rfl,AR Tryz.func68 b68 rfl (by simp[sc,AB,AL])];have q:=fun n=>AIZ n 0 ls 78 (HD ls) ws hn (fun n w hw=>kIs _ ls w hl (h w hw));simp only[sc,Nat.add_zero]at q|-;simp[c68,AH,q,AB,AL]
def PB(p:List Wrd->Bool):Int->List (List Wrd)->Int
 |v,[]=>v
 |v,x::r=>PB p (cond (p x) (v+1) v) r
theorem yB(n:Nat)(c:BL)(ls:List AE)(hl:ls.length<=1000)(hw4:c.wits.length<=40)(hx:∀l∈c.wits,l.length<=40/\∀w∈l,cJ ls.length w):∀(d k:Nat) (v:Int) (m:Nat),k+d=c.wits.length->d<m->0<=v->v<=k ->
  BS (AG bq ann kn (n+450) 21) V6 (ann 21 (CP V6)) m ⟨1,[(1,true,sc ls),(4,true,i v),(8,true,.list false (c.wits.map AO)),(9,true,i c.wits.length),(10,true,i k)],⟨[],[(2,0,.box (AF c))]⟩⟩ =
  some (.exit 0,⟨1,[(11,true,.bool false),(1,true,sc ls),(4,true,i (PB (fun l=>!l.all (HD ls)) v (c.wits.drop k))),(8,true,.list false (c.wits.map AO)),(9,true,i c.wits.length),(10,true,i c.wits.length)],⟨[],[(2,0,.box (AF c))]⟩⟩)
 |0,k,v,m+1,hd,hm,h0,h1=>by
  have:k=c.wits.length:=by omega
  subst this;simp[AD,PB,sc,AF]
 |d+1,k,v,m+1,hd,hm,h0,h1=>by
  have hk:k<c.wits.length:=by omega
  have hw:=FO (k:=k) (by omega);have hv:IntKind.i64.wrap (v+1)=v+1:=AV (by omega) (by omega);obtain⟨g1,g2⟩:=hx _ (List.getElem_mem hk);have q:=fun n=>AXC n ls c.wits[k] hl g1 g2;have ih:=yB n c ls hl hw4 hx d (k+1) (cond (!c.wits[k].all (HD ls)) (v+1) v) m (by omega) (by omega) (by cases c.wits[k].all (HD ls)<;>simp<;>omega) (by cases c.wits[k].all (HD ls)<;>simp<;>omega);rw[AD,List.drop_eq_getElem_cons hk];simp only[PB];generalize c.wits[k].all (HD ls)=b at q ih|-;simp only[sc,AF]at q ih|-;try simp at ih
  cases b<;>(try simp at ih)<;>simp[hk,hw,hv,AO,AB,AM,AL,q,ih]
def CQ(c:BL)(ls:List AE):Int:=PB (fun l=>!l.all (HD ls)) 0 c.wits
theorem yC(n:Nat)(c:BL)(ls:List AE)(hl:ls.length<=1000)(hw4:c.wits.length<=40)(hx:∀l∈c.wits,l.length<=40/\∀w∈l,cJ ls.length w):A5 bq kn (AG bq ann kn (n+550)) 72 [.agg (AF c),sc ls]=some (i (CQ c ls)):=by
 rw[AQ rfl,AR Tryz.func72 b72 rfl (by simp[sc,AF,AB,AM,AL,AO])];have q:=yB (n+95) c ls hl hw4 hx c.wits.length 0 0 (n+545) (by omega) (by omega) (by omega) (by omega);simp only[List.drop_zero,sc,AF,Nat.add_assoc,Nat.reduceAdd,Int.natCast_zero]at q|-;try simp at q
 simp[c72,AH,q,CQ]
end Go.Proofs.Tryz.Op
namespace Go.Pg
variable {P:Program}{E:XE}{d:Option Tmp}{c:Nat}{fr:Fr}{s:St}
noncomputable def cl1(E:XE)(d:Option Tmp)(g:FuncId)(st:XS):Option V->Option XS
 |some (.vec l q γ n)=>dV E.co d g γ n (st.s.get l q) st
 |some v=>DA d st (E.c0 g [weakV v])
 |none=>none
@[simp] theorem AXD(g:FuncId)(st:XS)(b:Bool)(es:List (List V)):cl1 E d g st (some (.list b es))=DA d st (E.c0 g [.list false es]):=rfl
@[simp] theorem A5E(g:FuncId)(st:XS):cl1 E d g st (some .nil)=DA d st (E.c0 g [.nil]):=rfl
@[simp] theorem A5F(g:FuncId)(st:XS)(l q γ n:Nat):cl1 E d g st (some (.vec l q γ n))=dV E.co d g γ n (st.s.get l q) st:=rfl
@[simp] theorem AI2(t:Option Tmp)(g:FuncId)(x:Operand)(hr:FL (.func g)=true):CL P E d (.call false t (.func g) [x]) ⟨c,fr,s⟩=nw (cl1 E d g ⟨c,fr,s⟩ (BT fr x)):=by
 show noW (cond (FL (.func g)) (NJ E.c0 E.co d (.func g) [x] ⟨c,fr,s⟩) _)=_;rw[hr,cond_true,EZ];congr 1;have hf:BT fr (.func g)=some (.fn g [] []):=rfl;have h0:∀v,BT fr x=some v->E6 E.c0 d (.func g) [x] ⟨c,fr,s⟩=DA d ⟨c,fr,s⟩ (E.c0 g [weakV v]):=fun v hv=>by
  unfold E6;have hm:D6 (BT fr) [x]=some [v]:=by simp[D6,hv]
  simp only[hf,hm];show(match E.c0 g [weakV v]with|some r=>_|none=>none)=_;cases E.c0 g [weakV v]<;>rfl
 have h1:NJ E.c0 E.co d (.func g) [x] ⟨c,fr,s⟩=(match BT fr x with
  |some (.vec l q γ n)=>dV E.co d g γ n (s.get l q) ⟨c,fr,s⟩
  | _=>E6 E.c0 d (.func g) [x] ⟨c,fr,s⟩):=rfl
 rw[h1];cases hx:BT fr x with
 |none=>
  have hm:D6 (BT fr) [x]=none:=by simp[D6,hx]
  show E6 E.c0 d (.func g) [x] ⟨c,fr,s⟩=none
  unfold E6
  simp only[hf,hm]
 |some v=>cases v<;>first
   |rfl
   |exact h0 _ hx
@[simp] theorem AI3(b:Bool)(es:List (List V)):D7 (some (.list b es))=[]:=rfl
@[simp] theorem ALZ:D7 (some .nil)=[]:=rfl
@[simp] theorem AR5(d:List V):LH (.memo d)=.memo d:=rfl
@[simp] theorem AEJ:CB (.pointer none)=some (.raw (.pointer none)):=rfl
end Go.Pg
namespace Go.Proofs.Tryz.Op
theorem AXE(e:List V)(es:List (List V)):FP bq .eql 36 (.list false (e::es)) .nil=some (.bool false):=by
 have h:DP bq 36=true:=by kernel_rfl
 show(if DP bq 36=true then(HN (.list false (e::es))).map V.bool else none)=_;rw[if_pos h];rfl
structure UU(c:BL):Prop where
 ask:DW c.book true=0
 li:EL c.liars 0 4=true
 cl:c.claims.length<=4
 wl:c.wits.length<=4
 wx:∀l∈c.wits,l.length<=4
 cw:∀w∈c.claims,cJ c.book.lines.length w
 ww:∀l∈c.wits,∀w∈l,cJ c.book.lines.length w
theorem UV{c:BL}(h:DZ c=0):UU c:=by
 unfold DZ at h;split at h
 ·omega
 ·rename_i h1;split at h
  ·rename_i h2;split at h
   ·rename_i h3;simp only[Bool.or_eq_true,decide_eq_true_eq,Bool.not_eq_true',not_or,Bool.not_eq_false,Nat.not_lt]at h1;simp only[Bool.and_eq_true]at h3;obtain⟨h0,_,_⟩:=QG h2;obtain⟨_,h4,_⟩:=TL h0;exact⟨h2,h3.1,h1.2.1,h1.1,fun l hl=>by simpa using bj.1 h1.2.2 l hl,fun w hw=>AI1 (bj.1 h3.2.1 w hw) h4,fun l hl w hw=>AI1 (bj.1 (bj.1 h3.2.2 l hl) w hw) h4⟩
   ·omega
  ·rename_i h2;exact absurd h h2
theorem UU.book{c:BL}(h:UU c):EP c.book=0:=(QG h.ask).1
theorem K4{b:AY}{ts:List AE}(h:FN b ts=true):ts.length=b.lines.length:=by
 unfold FN FG at h;split at h
 ·rename_i h1;split at h1
  ·assumption
  ·cases h1
 ·simp at h
theorem UU.lines{c:BL}(h:UU c):c.book.lines.length<=8:=(TL h.book).2.2.1
end Go.Proofs.Tryz.Op
