/- Contracts: season's within, word, CheckCase. No condition. -/
import Derived.Test.YtmnlpgjklibndaaGreatB2
import Derived.Test.YtmnlpgjklibndaaGreatZ2
open Go.Proofs.Tryz renaming prog->bq
open List renaming all_eq_true->bj
set_option maxRecDepth 100000
set_option linter.unusedSimpArgs false
open Go Go.Pg Go.Proofs Go.Season
namespace Go.Proofs.Tryz.Op
theorem kIn(n:Nat)(x lo hi:Int):A4 bq kn (AG bq ann kn (n+100)) 100 [i x,i lo,i hi]=some (.bool (EW x lo hi)):=by rw[AP rfl,AQ Tryz.func100 BA5 rfl rfl];unfold EW;generalize e1:decide (lo<=x)=b1;simp[e1,A0P,AH];cases b1<;>simp
def DU(c:BF)(w:Wrd):Bool:=EW w.after 0 c.book.lines.length&&EW w.num 0 (c.book.chairs-1)
theorem AKB(n:Nat)(c:BF)(w:Wrd)(h1:1<=c.book.chairs)(h4:c.book.chairs<=4):A4 bq kn (AG bq ann kn (n+200)) 99 [.agg (AD c),.agg (AJ w)]=some (.bool (DU c w)):=by rw[AP rfl,AQ Tryz.func99 b99 rfl (by simp[AD,AB,AN,AJ,AM])];have hw:IntKind.i64.wrap (c.book.chairs-1)=c.book.chairs-1:=AV (by omega) (by omega);have q:=fun n x lo hi=>kIn n x lo hi;unfold DU;generalize e1:EW w.after 0 c.book.lines.length=b1;generalize e2:EW w.num 0 (c.book.chairs-1)=b2;simp[c99,AH,AD,AJ,q,e1,e2,hw];cases b1<;>(try simp[e2,q,hw])
theorem A95(n:Nat)(l:List Wrd):A4 bq kn (AG bq ann kn (n+100)) 96 [NH l]=some (.bool (decide (l.length<=4))):=by
 rw[AP rfl,AQ Tryz.func96 b96 rfl (by simp[AJ])];have e:decide ((l.length:Int)<=4)=decide (l.length<=4):=by congr 1;apply propext;omega
 simp[c96,AH,e]
theorem AY3(c:BF)(h1:1<=c.book.chairs)(h4:c.book.chairs<=4)(hl:c.wits.length<=4)(hx:∀l∈c.wits,l.length<=4)(L:AA)(g:Nat)(hg:L.get 6=some (g,.box [.fn 99 [.agg (AD c)] []]))(hs:∀t:St,1<=t.up.length->AO t L=L)(n cc dd:Nat)(fr:Fr) :
  ∃c',cc<=c'/\MU (BS bq ann kn (n+1100)) (some dd) ⟨cc,fr,⟨[],L⟩⟩ 97 [.list false (c.wits.map AM),.fn 102 [] [.ptr 0 6 g 0]]=some ⟨c',(dd,true,.bool (c.wits.all fun l=>l.all (DU c)))::fr,⟨[],L⟩⟩:=by
 obtain⟨c',h2,q⟩:=ANK (σ:=Unit) n 800 0 (fun _=>[]) (fun _=>L) (fun _=>rfl) (fun _=>True) 102 [.ptr 0 6 g 0] (by simp) (by simp) (fun _ l=>l.all (DU c)) (fun _ _=>()) c.wits (by omega) (fun _ t h=>by simp[hs t h]) (fun t γ h=>by
   have h0:¬0=t.up.length:=by omega
   obtain⟨up,loc⟩:=t;simp[h0]) cc (fun n c1 fr s x hc1 hi hxm=>⟨fun _=>trivial,c1,by omega,by
   have q:=fun n=>AJ9 n 200 c 99 (DU c) x (by have:=hx x hxm;omega) (fun n w _=>AKB n c w h1 h4);have q:=q (n+297);have e:n+297+200+300=n+797:=by omega
   rw[e]at q;have hs1:=fun t h=>hs t h;simp only[AD]at q hg;rw[BQ Tryz.func102 b102 rfl (by simp)];have h0:∀t:St,1<=t.up.length->¬0=t.up.length:=fun t h=>by omega
   simp[A0Q,AH,hg,q,hs1,AB,AN,AM,AJ]⟩) dd fr () trivial
 refine⟨c',h2,?_⟩
 rw[GI]at q
 have:=KG (fun l:List Wrd=>l.all (DU c)) c.wits
 rw[this]at q
 exact q
def EB(c:BF):Int :=
 if (decide (4<c.wits.length)||(decide (4<c.claims.length)||!c.wits.all fun l=>decide (l.length<=4)))=true then 3
 else if D8 c.book true=0 then(if (EW c.liars 0 4&&(c.claims.all (DU c)&&c.wits.all fun l=>l.all (DU c)))=true then 0 else 1)
 else D8 c.book true
theorem sT(n:Nat)(c:BF):A4 bq kn (AG bq ann kn (n+3500)) 59 [.agg (AD c)]=some (i (EB c)):=by
 rw[AP rfl,AQ Tryz.func59 b59 rfl (by simp[AD,AB,AN,AJ,AM])];unfold EB;generalize e1:decide (4<c.wits.length)=b1;have e1':decide ((4:Int)<(c.wits.length:Int))=b1:=by rw[<-e1];congr 1;apply propext;omega
 generalize e2:decide (4<c.claims.length)=b2;have e2':decide ((4:Int)<(c.claims.length:Int))=b2:=by rw[<-e2];congr 1;apply propext;omega
 cases b1 with
 |true=>simp[c59,AH,AD,e1',AB,AN,AJ,AM]
 |false=>
  cases b2 with
  |true=>simp[c59,AH,AD,e1',e2',AB,AN,AJ,AM]
  |false=>
   have hl:c.wits.length<=4:=by simpa using e1
   have hk:c.claims.length<=4:=by simpa using e2
   have qF:=fun n=>AY2 n 100 96 (fun l:List Wrd=>decide (l.length<=4)) c.wits (by omega) (fun n l _=>A95 n l)
   generalize e3:(c.wits.all fun l=>decide (l.length<=4))=b3 at qF
   cases b3 with
   |false=>simp[c59,AH,AD,e1',e2',qF,AB,AN,AJ,AM]
   |true=>
    have hx:∀l∈c.wits,l.length<=4:=fun l hm=>by simpa using bj.1 e3 l hm
    have qM:=fun n=>k29 n c.book
    unfold sN at qM
    by_cases he:D8 c.book true=0
    ·obtain⟨h0,_,_⟩:=Q5 he;obtain⟨h1,h4,_⟩:=UF h0;have qW:=fun n=>AJ9 n 200 c 99 (DU c) c.claims (by omega) (fun n w _=>AKB n c w h1 h4);rw[if_pos he]at qM;rw[if_pos he];have qI:=fun n x lo hi=>kIn n x lo hi;generalize e4:EW c.liars 0 4=b4;generalize e5:c.claims.all (DU c)=b5 at qW;generalize e6:(c.wits.all fun l=>l.all (DU c))=b6;simp only[AD,AC]at qM qW;cases b4 with
     |false=>simp[c59,AH,AD,e1',e2',qF,qM,qI,e4,AB,AN,AJ,AM]
     |true=>
      cases b5 with
      |false=>simp[c59,AH,AD,e1',e2',qF,qM,qI,qW,e4,AB,AN,AJ,AM]
      |true=>
       simp[c59,AH,AD,e1',e2',qF,qM,qI,qW,e4,AB,AN,AJ,AM]
       obtain⟨c',_,qO⟩:=AY3 c h1 h4 hl hx [(1,0,.box (AD c)),(6,2,.box [.fn 99 [.agg (AD c)] []])] 2 (by simp) (fun t ht=>by
        have h0:¬0=t.up.length:=by omega
        obtain⟨up,loc⟩:=t;simp[AD,h0,AB,AN,AJ,AM]) (n+2392) 3 50 [(49,true,V.fn 102 [] [V.ptr 0 6 2 0]),(48,true,V.list false (List.map AM c.wits)),(47,true,V.ptr 0 1 0 5),(46,true,V.bool false),(45,true,V.bool false),(44,true,V.bool false),(43,true,V.bool true),
         (42,true,V.fn 99 [V.agg (AD c)] []),(41,true,V.list false (List.map AJ c.claims)),(40,true,V.ptr 0 1 0 7),(39,true,V.bool false),(38,true,V.bool false),(37,true,V.bool true),(36,true,i c.liars),(35,true,V.ptr 0 1 0 6),(1,true,V.ptr 0 1 0 0),(6,true,V.ptr 0 6 2 0)]
       rw[e6]at qO
       simp only[AD,Nat.add_assoc,Nat.reduceAdd]at qO
       cases b6<;>simp[qO]
    ·have hd:decide (D8 c.book true=0)=false:=by simpa using he
     rw[if_neg he]at qM;rw[if_neg he];simp only[AD,AC]at qM;generalize D8 c.book true=A at qM hd;simp[c59,AH,AD,e1',e2',qF,qM,hd,AB,AN,AJ,AM]
end Go.Proofs.Tryz.Op
namespace Go.Pg
theorem AAI{P:Program}{kn:CF0}{rec:FU}{f:FuncId}{args:List V}{r:V}(h:kn f args=some r):A4 P kn rec f args=some r:=by unfold A4;rw[h]
end Go.Pg
namespace Go.Proofs.Tryz.Op
theorem iD:∀ls:List AF,Go.Pg.eqL (Go.Pg.eqL (aT 8)) (ls.map AB) (ls.map AB)=true
 |[]=>rfl
 |l::ls=>by
  have h:=iD ls;have e:∀n:Int,aT 8 (i n) (i n)=true:=fun n=>by show(decide (IntKind.i64=IntKind.i64)&&decide (n=n))=true;simp
  show((aT 8 (i l.k) (i l.k)&&(aT 8 (i l.c) (i l.c)&&(aT 8 (i l.t) (i l.t)&&true)))&&Go.Pg.eqL (Go.Pg.eqL (aT 8)) (ls.map AB) (ls.map AB))=true;rw[e,e,e,h];rfl
theorem oE(ls:List AF):(ls.map AB).all jE=true:=bj.2 fun e he=>by obtain⟨l,_,rfl⟩:=List.mem_map.1 he;rfl
theorem oF(ls:List AF):FG 9 (.list false (ls.map AB))=true:=bj.2 fun e he=>by obtain⟨l,_,rfl⟩:=List.mem_map.1 he;rfl
def D9(ls:List AF)(w:Wrd):Bool:=XC w.tok w.num ((ls.map AB).take w.after.toNat) false==w.out
structure dR(n:Nat)(w:Wrd):Prop where
 a0:0<=w.after
 a1:w.after<=n
 m0:0<=w.num
 m1:w.num<=1000
theorem AKC{c:BF}{w:Wrd}(h:DU c w=true)(h4:c.book.chairs<=4):dR c.book.lines.length w:=by simp only[DU,EW,Bool.and_eq_true,decide_eq_true_eq]at h;exact⟨by omega,by omega,by omega,by omega⟩
theorem kIs(rec:FU)(ls:List AF)(w:Wrd)(hl:ls.length<=1000)(h:dR ls.length w):A4 bq kn rec 78 [sc ls,.agg (AJ w)]=some (.bool (D9 ls w)):=by
 refine AAI ?_;have wa:=ZN (ON (n:=w.after) (by have:=h.a0;omega) (by have:=h.a1;omega));have wn:=ZN (ON (n:=w.num) (by have:=h.m0;omega) (by have:=h.m1;omega));have hw:wfK (ls.map AB) w.after w.num=true:=by unfold wfK;rw[wa,wn,oE];simp[h.a0,h.a1]
 have hi:isV [.list false (ls.map AB)] (.agg (AJ w))=some (D9 ls w):=by show cond (wfK (ls.map AB) w.after w.num) (some (D9 ls w)) none=_;rw[hw];rfl
 have hm:uY [sc ls,.agg (AJ w)]=some (.bool (D9 ls w)):=by
  show cond (aT 9 (.list false (ls.map AB)) (.list false (ls.map AB))&&(FG 9 (.list false (ls.map AB))&&true)) (match isV [.list false (ls.map AB)] (.agg (AJ w))with
   |some b=>some (V.bool b)
   | none=>none) none=_
  have he:aT 9 (.list false (ls.map AB)) (.list false (ls.map AB))=true:=by show(false==false&&Go.Pg.eqL (Go.Pg.eqL (aT 8)) (ls.map AB) (ls.map AB))=true;rw[iD];rfl
  rw[he,oF,hi];rfl
 show(match cX 78 78 [sc ls,.agg (AJ w)]with
  |some r=>some r
  | none=>_)=_
 have hc:cX 78 78 [sc ls,.agg (AJ w)]=some (.bool (D9 ls w)):=hm;rw[hc]
theorem AKD(n:Nat)(ls:List AF)(ws:List Wrd)(hl:ls.length<=1000)(hn:ws.length<=40)(h:∀w∈ws,dR ls.length w):A4 bq kn (AG bq ann kn (n+400)) 68 [sc ls,NH ws]=some (.bool (!ws.all (D9 ls))):=by rw[AP rfl,AQ Tryz.func68 b68 rfl (by simp[sc,AB,AJ])];have q:=fun n=>AKA n 0 ls 78 (D9 ls) ws hn (fun n w hw=>kIs _ ls w hl (h w hw));simp only[sc,Nat.add_zero]at q|-;simp[c68,AH,q,AB,AJ]
def I6(p:List Wrd->Bool):Int->List (List Wrd)->Int
 |v,[]=>v
 |v,x::r=>I6 p (cond (p x) (v+1) v) r
theorem AAJ(n:Nat)(c:BF)(ls:List AF)(hl:ls.length<=1000)(hw4:c.wits.length<=40)(hx:∀l∈c.wits,l.length<=40/\∀w∈l,dR ls.length w):∀(d k:Nat) (v:Int) (m:Nat),k+d=c.wits.length->d<m->0<=v->v<=k ->
  BR (AG bq ann kn (n+450) 21) WZ (ann 21 (CU WZ)) m ⟨1,[(1,true,sc ls),(4,true,i v),(8,true,.list false (c.wits.map AM)),(9,true,i c.wits.length),(10,true,i k)],⟨[],[(2,0,.box (AD c))]⟩⟩ =
  some (.exit 0,⟨1,[(11,true,.bool false),(1,true,sc ls),(4,true,i (I6 (fun l=>!l.all (D9 ls)) v (c.wits.drop k))),(8,true,.list false (c.wits.map AM)),(9,true,i c.wits.length),(10,true,i c.wits.length)],⟨[],[(2,0,.box (AD c))]⟩⟩)
 |0,k,v,m+1,hd,hm,h0,h1=>by
  have:k=c.wits.length:=by omega
  subst this;simp[AE,I6,sc,AD]
 |d+1,k,v,m+1,hd,hm,h0,h1=>by
  have hk:k<c.wits.length:=by omega
  have hw:=FB (k:=k) (by omega);have hv:IntKind.i64.wrap (v+1)=v+1:=AV (by omega) (by omega);obtain⟨g1,g2⟩:=hx _ (List.getElem_mem hk);have q:=fun n=>AKD n ls c.wits[k] hl g1 g2;have ih:=AAJ n c ls hl hw4 hx d (k+1) (cond (!c.wits[k].all (D9 ls)) (v+1) v) m (by omega) (by omega) (by cases c.wits[k].all (D9 ls)<;>simp<;>omega) (by cases c.wits[k].all (D9 ls)<;>simp<;>omega);rw[AE,List.drop_eq_getElem_cons hk];simp only[I6];generalize c.wits[k].all (D9 ls)=b at q ih|-;simp only[sc,AD]at q ih|-;try simp at ih
  cases b<;>(try simp at ih)<;>simp[hk,hw,hv,AM,AB,AN,AJ,q,ih]
def B4(c:BF)(ls:List AF):Int:=I6 (fun l=>!l.all (D9 ls)) 0 c.wits
theorem AAK(n:Nat)(c:BF)(ls:List AF)(hl:ls.length<=1000)(hw4:c.wits.length<=40)(hx:∀l∈c.wits,l.length<=40/\∀w∈l,dR ls.length w):A4 bq kn (AG bq ann kn (n+550)) 72 [.agg (AD c),sc ls]=some (i (B4 c ls)):=by
 rw[AP rfl,AQ Tryz.func72 b72 rfl (by simp[sc,AD,AB,AN,AJ,AM])];have q:=AAJ (n+95) c ls hl hw4 hx c.wits.length 0 0 (n+545) (by omega) (by omega) (by omega) (by omega);simp only[List.drop_zero,sc,AD,Nat.add_assoc,Nat.reduceAdd,Int.natCast_zero]at q|-;try simp at q
 simp[c72,AH,q,B4]
end Go.Proofs.Tryz.Op
namespace Go.Pg
variable {P:Program}{E:XE}{d:Option Tmp}{c:Nat}{fr:Fr}{s:St}
noncomputable def cl1(E:XE)(d:Option Tmp)(g:FuncId)(st:XS):Option V->Option XS
 |some (.vec l q γ n)=>fD E.co d g γ n (st.s.get l q) st
 |some v=>DH d st (E.c0 g [weakV v])
 |none=>none
@[simp] theorem AY4(g:FuncId)(st:XS)(b:Bool)(es:List (List V)):cl1 E d g st (some (.list b es))=DH d st (E.c0 g [.list false es]):=rfl
@[simp] theorem A66(g:FuncId)(st:XS):cl1 E d g st (some .nil)=DH d st (E.c0 g [.nil]):=rfl
@[simp] theorem A67(g:FuncId)(st:XS)(l q γ n:Nat):cl1 E d g st (some (.vec l q γ n))=fD E.co d g γ n (st.s.get l q) st:=rfl
@[simp] theorem AKE(t:Option Tmp)(g:FuncId)(x:Operand)(hr:FV (.func g)=true):CT P E d (.call false t (.func g) [x]) ⟨c,fr,s⟩=nw (cl1 E d g ⟨c,fr,s⟩ (BV fr x)):=by
 show noW (cond (FV (.func g)) (N7 E.c0 E.co d (.func g) [x] ⟨c,fr,s⟩) _)=_;rw[hr,cond_true,E6];congr 1;have hf:BV fr (.func g)=some (.fn g [] []):=rfl;have h0:∀v,BV fr x=some v->FF E.c0 d (.func g) [x] ⟨c,fr,s⟩=DH d ⟨c,fr,s⟩ (E.c0 g [weakV v]):=fun v hv=>by
  unfold FF;have hm:EE (BV fr) [x]=some [v]:=by simp[EE,hv]
  simp only[hf,hm];show(match E.c0 g [weakV v]with|some r=>_|none=>none)=_;cases E.c0 g [weakV v]<;>rfl
 have h1:N7 E.c0 E.co d (.func g) [x] ⟨c,fr,s⟩=(match BV fr x with
  |some (.vec l q γ n)=>fD E.co d g γ n (s.get l q) ⟨c,fr,s⟩
  | _=>FF E.c0 d (.func g) [x] ⟨c,fr,s⟩):=rfl
 rw[h1];cases hx:BV fr x with
 |none=>
  have hm:EE (BV fr) [x]=none:=by simp[EE,hx]
  show FF E.c0 d (.func g) [x] ⟨c,fr,s⟩=none
  unfold FF
  simp only[hf,hm]
 |some v=>cases v<;>first
   |rfl
   |exact h0 _ hx
@[simp] theorem AKF(b:Bool)(es:List (List V)):EF (some (.list b es))=[]:=rfl
@[simp] theorem ANL:EF (some .nil)=[]:=rfl
@[simp] theorem ATS(d:List V):L6 (.memo d)=.memo d:=rfl
@[simp] theorem AF0:CH (.pointer none)=some (.raw (.pointer none)):=rfl
end Go.Pg
namespace Go.Proofs.Tryz.Op
theorem AY5(e:List V)(es:List (List V)):FZ bq .eql 36 (.list false (e::es)) .nil=some (.bool false):=by
 have h:DW bq 36=true:=by kernel_rfl
 show(if DW bq 36=true then(HZ (.list false (e::es))).map V.bool else none)=_;rw[if_pos h];rfl
structure Q6(c:BF):Prop where
 ask:D8 c.book true=0
 li:EW c.liars 0 4=true
 cl:c.claims.length<=4
 wl:c.wits.length<=4
 wx:∀l∈c.wits,l.length<=4
 cw:∀w∈c.claims,dR c.book.lines.length w
 ww:∀l∈c.wits,∀w∈l,dR c.book.lines.length w
theorem VO{c:BF}(h:EB c=0):Q6 c:=by
 unfold EB at h;split at h
 ·omega
 ·rename_i h1;split at h
  ·rename_i h2;split at h
   ·rename_i h3;simp only[Bool.or_eq_true,decide_eq_true_eq,Bool.not_eq_true',not_or,Bool.not_eq_false,Nat.not_lt]at h1;simp only[Bool.and_eq_true]at h3;obtain⟨h0,_,_⟩:=Q5 h2;obtain⟨_,h4,_⟩:=UF h0;exact⟨h2,h3.1,h1.2.1,h1.1,fun l hl=>by simpa using bj.1 h1.2.2 l hl,fun w hw=>AKC (bj.1 h3.2.1 w hw) h4,fun l hl w hw=>AKC (bj.1 (bj.1 h3.2.2 l hl) w hw) h4⟩
   ·omega
  ·rename_i h2;exact absurd h h2
theorem Q6.book{c:BF}(h:Q6 c):EX c.book=0:=(Q5 h.ask).1
theorem LN{b:AY}{ts:List AF}(h:FY b ts=true):ts.length=b.lines.length:=by
 unfold FY FQ at h;split at h
 ·rename_i h1;split at h1
  ·assumption
  ·cases h1
 ·simp at h
theorem Q6.lines{c:BF}(h:Q6 c):c.book.lines.length<=8:=(UF h.book).2.2.1
end Go.Proofs.Tryz.Op
