/- The winds that the truths of a beach have, hour by hour. No condition; no program in sight. -/
import Derived.Test.YthhdhbalenanjaaGreatL
namespace Go.Wind
def N5(ws:List (List Int))(h:Nat)(n:Int):List (List Int):=if n∈ws.getD h [] then ws else ws.set h (ws.getD h []++[n])
def JS:List (List Int)→Nat→List Int→List (List Int)
 |ws,_,[]=>ws
 |ws,h,n::t=>JS (N5 ws h n) (h+1) t
def jF(k:Nat)(T:List (List Int)):List (List Int):=T.foldl (fun ws t=>JS ws 0 t) (List.replicate k [])
theorem jG(ws:List (List Int))(h:Nat)(n:Int):(N5 ws h n).length=ws.length:=by unfold N5;split<;>simp
theorem YH:∀(t:List Int) (ws:List (List Int)) (h:Nat),(JS ws h t).length=ws.length
 |[],_,_=>rfl
 |n::t,ws,h=>(YH t (N5 ws h n) (h+1)).trans (jG ws h n)
theorem jH:∀(T:List (List Int)) (ws:List (List Int)),(T.foldl (fun ws t=>JS ws 0 t) ws).length=ws.length
 |[],_=>rfl
 |t::T,ws=>(jH T (JS ws 0 t)).trans (YH t ws 0)
theorem AB1(k:Nat)(T:List (List Int)):(jF k T).length=k:=by unfold jF;rw[jH];simp
theorem AB2(ws:List (List Int))(h:Nat)(l:List Int)(j:Nat)(hj:j<ws.length):(ws.set h l).getD j []=if h=j then l else ws.getD j []:=by
 simp only[List.getD_eq_getElem?_getD,List.getElem?_set];by_cases e:h=j
 ·subst e;simp[hj]
 ·simp[e]
theorem AB3{ws:List (List Int)}{h:Nat}{n x:Int}{j:Nat}(hj:j<ws.length):x∈(N5 ws h n).getD j []↔x∈ws.getD j []∨(h=j∧n=x):=by
 unfold N5;split
 ·rename_i hn;refine⟨.inl,fun h'=>?_⟩;rcases h' with h'|⟨rfl,rfl⟩
  ·exact h'
  ·exact hn
 ·rw[AB2 _ _ _ _ hj];by_cases e:h=j
  ·subst e;rw[if_pos rfl,List.mem_append,List.mem_singleton];simp[eq_comm]
  ·rw[if_neg e];simp[e]
theorem jI:∀(t:List Int) {ws:List (List Int)} {h j:Nat} {x:Int} (_:j<ws.length),x∈(JS ws h t).getD j []↔x∈ws.getD j []∨∃i,i<t.length∧h+i=j∧t.getD i 0=x
 |[],ws,h,j,x,hj=>by simp[JS]
 |n::t,ws,h,j,x,hj=>by
  show x∈(JS (N5 ws h n) (h+1) t).getD j []↔_;rw[jI t (by rw[jG];exact hj),AB3 hj];constructor
  ·rintro ((h1|⟨h1,h2⟩)|⟨i,h1,h2,h3⟩)
   ·exact .inl h1
   ·exact .inr ⟨0,by simp,by omega,by simpa using h2⟩
   ·exact .inr ⟨i+1,by simpa using h1,by omega,by simpa using h3⟩
  ·rintro (h1|⟨i,h1,h2,h3⟩)
   ·exact .inl (.inl h1)
   ·cases i with
    |zero=>exact .inl (.inr ⟨by omega,by simpa using h3⟩)
    |succ i=>exact .inr ⟨i,by simpa using h1,by omega,by simpa using h3⟩
theorem jJ:∀(T:List (List Int)) {ws:List (List Int)} {j:Nat} {x:Int} (_:j<ws.length),x∈(T.foldl (fun ws t=>JS ws 0 t) ws).getD j []↔x∈ws.getD j []∨∃t∈T,j<t.length∧t.getD j 0=x
 |[],ws,j,x,hj=>by simp
 |t::T,ws,j,x,hj=>by
  rw[List.foldl_cons,jJ T (by rw[YH];exact hj),jI t hj];constructor
  ·rintro ((h1|⟨i,h1,h2,h3⟩)|⟨u,h1,h2⟩)
   ·exact .inl h1
   ·have:i=j:=by omega
    subst this;exact .inr ⟨t,by simp,h1,h3⟩
   ·exact .inr ⟨u,by simp[h1],h2⟩
  ·rintro (h1|⟨u,h1,h2,h3⟩)
   ·exact .inl (.inl h1)
   ·rcases List.mem_cons.1 h1 with rfl|h1
    ·exact .inl (.inr ⟨j,h2,by omega,h3⟩)
    ·exact .inr ⟨u,h1,h2,h3⟩
theorem AIC{k:Nat}{T:List (List Int)}{j:Nat}{x:Int}(hj:j<k):x∈(jF k T).getD j []↔∃t∈T,j<t.length∧t.getD j 0=x:=by unfold jF;rw[jJ T (by simpa using hj)];simp[List.getD_eq_getElem?_getD,hj]
def fD(ws:List (List Int)):Prop:=∀l∈ws,l.Nodup
theorem oM{ws:List (List Int)}(h:fD ws)(k:Nat)(n:Int):fD (N5 ws k n):=by
 unfold N5;split
 ·exact h
 ·rename_i hn;intro l hl;rcases Nat.lt_or_ge k ws.length with hk|hk
  ·rcases List.mem_or_eq_of_mem_set hl with h1|h1
   ·exact h l h1
   ·subst h1;have hm:ws.getD k []=ws[k]:=by rw[List.getD_eq_getElem?_getD,List.getElem?_eq_getElem hk];rfl
    rw[hm]at hn⊢;rw[List.nodup_append];refine⟨h _ (List.getElem_mem hk),by simp,fun a ha b hb=>?_⟩;simp only[List.mem_singleton]at hb;subst hb;exact fun e=>hn (e▸ha)
  ·rw[List.set_eq_of_length_le hk]at hl;exact h l hl
theorem VV:∀(k:Nat) (l:List Int),l.Nodup→(∀x∈l,0≤x∧x<k)→l.length≤k
 |0,l,_,hx=>by
  cases l with
  |nil=>simp
  |cons x l=>have:=hx x (by simp);omega
 |k+1,l,hn,hx=>by
  have h1:(l.erase (k:Int)).length≤k:=VV k _ (hn.erase _) fun x hm=>by have hm1:=(hn.mem_erase_iff.1 hm);have:=hx x hm1.2;have:=hm1.1;omega
  rw[List.length_erase]at h1;split at h1<;>omega
structure DN(ws:List (List Int)):Prop where
 nd:fD ws
 lo:∀l∈ws,∀x∈l,0≤x∧x≤3
theorem DN.len{ws:List (List Int)}(h:DN ws):∀l∈ws,l.length≤4:=fun l hl=>VV 4 l (h.nd l hl) fun x hx=>by have:=h.lo l hl x hx;omega
theorem DN.add{ws:List (List Int)}(h:DN ws)(k:Nat)(n:Int)(hn:0≤n∧n≤3):DN (N5 ws k n):=by
 refine⟨oM h.nd k n,fun l hl x hx=>?_⟩;unfold N5 at hl;split at hl
 ·exact h.lo l hl x hx
 ·rcases List.mem_or_eq_of_mem_set hl with h1|h1
  ·exact h.lo l h1 x hx
  ·subst h1;rcases List.mem_append.1 hx with hx|hx
   ·rcases Nat.lt_or_ge k ws.length with hk|hk
    ·have hm:ws.getD k []=ws[k]:=by rw[List.getD_eq_getElem?_getD,List.getElem?_eq_getElem hk];rfl
     rw[hm]at hx;exact h.lo _ (List.getElem_mem hk) x hx
    ·rw[List.getD_eq_getElem?_getD,List.getElem?_eq_none hk]at hx;simp at hx
   ·rw[List.mem_singleton.1 hx];exact hn
theorem DN.adds:∀(t:List Int) {ws:List (List Int)} (_:DN ws) (k:Nat) (_:∀n∈t,0≤n∧n≤3),DN (JS ws k t)
 |[],_,h,_,_=>h
 |n::t,_,h,k,hn=>DN.adds t (h.add k n (hn n (by simp))) (k+1) fun x hx=>hn x (by simp[hx])
theorem DN.fold:∀(T:List (List Int)) {ws:List (List Int)} (_:DN ws) (_:∀t∈T,∀n∈t,0≤n∧n≤3),DN (T.foldl (fun ws t=>JS ws 0 t) ws)
 |[],_,h,_=>h
 |t::T,_,h,hT=>DN.fold T (h.adds t 0 (hT t (by simp))) fun u hu=>hT u (by simp[hu])
theorem DN.ask(k:Nat)(T:List (List Int))(hT:∀t∈T,∀n∈t,0≤n∧n≤3):DN (jF k T):=DN.fold T ⟨fun l hl=>by rw[List.eq_of_mem_replicate hl];simp,fun l hl x hx=>by rw[List.eq_of_mem_replicate hl]at hx;cases hx⟩ hT
theorem N6{b:AJ}(hb:Valid b){t:List Int}(ht:AV t b.winds=true):∀n∈t,0≤n∧n≤3:=fun n hn=>by obtain⟨j,hj,rfl⟩:=List.getElem_of_mem hn;have:=MD hb ht hj;rw[List.getD_eq_getElem?_getD,List.getElem?_eq_getElem hj,DS]at this;exact this
def H0(f:Nat→Int):Nat→Int
 |0=>0
 |n+1=>H0 f n+f n
theorem WX{f:Nat→Int}{c:Int}:∀{n:Nat},(∀i,i<n→0≤f i∧f i≤c)→0≤H0 f n∧H0 f n≤n*c
 |0,_=>by simp[H0]
 |n+1,h=>by
  have h1:=WX (n:=n) fun i hi=>h i (by omega);have h2:=h n (by omega);simp only[H0];have e:((n+1:Nat):Int)*c=(n:Int)*c+c:=by rw[Int.natCast_succ,Int.add_mul,Int.one_mul]
  omega
def DJ(z:Int×Int)(l:List Int):Int×Int:=l.foldl (fun r n=>(min r.1 n,max r.2 n)) z
theorem fE:∀(l:List Int) (z:Int×Int),DJ z l=(bO z.1 l,bP z.2 l)
 |[],_=>rfl
 |n::l,z=>fE l (min z.1 n,max z.2 n)
theorem sZ:∀(l:List Int) (z:Int×Int) (lo hi:Int),(∀x∈l,lo≤x∧x≤hi)→lo≤z.1→z.2≤hi→lo≤(DJ z l).1∧(DJ z l).1≤z.1∧z.2≤(DJ z l).2∧(DJ z l).2≤hi
 |[],z,lo,hi,_,h1,h2=>⟨h1,Int.le_refl _,Int.le_refl _,h2⟩
 |n::l,z,lo,hi,h,h1,h2=>by have hn:=h n (by simp);have:=sZ l (min z.1 n,max z.2 n) lo hi (fun x hx=>h x (by simp[hx])) (by simp only;omega) (by simp only;omega);have e:DJ z (n::l)=DJ (min z.1 n,max z.2 n) l:=rfl;rw[e];simp only at this;omega
theorem N7.congr{α:Type}{l m:List α}{f:α→Int}{v:Int}(h:∀x,x∈l↔x∈m)(hm:N7 l f v):N7 m f v :=
 ⟨fun x hx=>hm.le x ((h x).2 hx),by obtain⟨x,h1,h2⟩:=hm.at';exact⟨x,(h x).1 h1,h2⟩⟩
theorem N8.congr{α:Type}{l m:List α}{f:α→Int}{v:Int}(h:∀x,x∈l↔x∈m)(hm:N8 l f v):N8 m f v :=
 ⟨fun x hx=>hm.le x ((h x).2 hx),by obtain⟨x,h1,h2⟩:=hm.at';exact⟨x,(h x).1 h1,h2⟩⟩
def A3D(z:Int×Int)(ws:List (List Int))(g:Nat→Int→Int)(n:Nat):Int×Int:=(H0 (fun h=>(DJ z ((ws.getD h []).map (g h))).1) n,H0 (fun h=>(DJ z ((ws.getD h []).map (g h))).2) n)
structure AML(b:AJ)(ws:List (List Int)):Prop where
 len:ws.length=b.winds.length
 ok:DN ws
 mem:∀j (hj:j<b.winds.length) (x:Int),x∈ws.getD j []↔x∈(aw b)[j]'(by rw[ACA];exact hj)
 ne:∀l∈aw b,l≠[]
theorem AML.row{b:AJ}{ws:List (List Int)}(h:AML b ws){j:Nat}(hj:j<b.winds.length):ws.getD j []≠[]:=by have h1:=h.ne _ (List.getElem_mem (by rw[ACA];exact hj:j<(aw b).length));obtain⟨x,hx⟩:=List.exists_mem_of_ne_nil _ h1;exact List.ne_nil_of_mem ((h.mem j hj x).2 hx)
def jK(b:Bool):Int:=if b=true then 1 else 0
theorem jL(b:Bool):0≤jK b∧jK b≤1:=by cases b<;>simp[jK]
def AB4(b:AJ)(s:Int×Int)(h:Nat)(f w:Int):Int:=jK (decide (b.sun.getD h 0=f)&&OA b s f w)
def A3E(b:AJ)(s:Int×Int)(f w:Int):Int:=jK (OA b s f w)
def A3F(b:AJ)(h:Nat)(f:Nat→Int)(w:Int):Int:=H0 (fun r=>H0 (fun p=>AB4 b (r,p) h (f r) w) b.places.toNat) b.rows.toNat
def BEP(b:AJ)(plan:List (List Int))(t:List Int):Int:=H0 (fun r=>H0 (fun p=>(DD b plan t r p).good) b.places.toNat) b.rows.toNat
def jM(b:AJ)(ws:List (List Int))(h:Nat)(f:Nat→Int):Int×Int:=DJ (b.rows*b.places,0) ((ws.getD h []).map (A3F b h f))
def AQP(b:AJ)(ws plan:List (List Int)):Int×Int:=(H0 (fun h=>(jM b ws h (CB plan h)).1) plan.length,H0 (fun h=>(jM b ws h (CB plan h)).2) plan.length)
def AB5(ws:List (List Int))(g:Nat→Int→Int):Int×Int:=A3D (1,0) ws g ws.length
def BOV{α:Type}(l:List α)(q:α→Bool):Int:=if l.countP q=l.length then 1 else if l.countP q=0 then 2 else 3
def A3G(a b:Int):Int:=min (max (a-b) (b-a)) (4-max (a-b) (b-a))
def A3H(a b:Int):Int:=min ((b-a+4) % 4) ((a-b+4) % 4)
def tA(b:AJ)(f g:Nat→Int):Int:=H0 (fun r=>A3G (f r) (g r)*b.places) b.rows.toNat
def tB(b:AJ)(plan:List (List Int))(h:Nat):Nat→Int:=if h=0 then fun r=>b.face.getD r 0 else CB plan (h-1)
def A3I(b:AJ)(plan:List (List Int))(n:Nat):Int:=H0 (fun h=>tA b (tB b plan h) (CB plan h)) n
def A3J(b:AJ)(plan:List (List Int)):Int:=A3I b plan plan.length
def BJT(b:AJ)(plan:List (List Int)):Int:=H0 (fun h=>H0 (fun r=>A3H (tB b plan h r) (CB plan h r)*b.places) b.rows.toNat) plan.length
def C8:Int×Int:=(1099511627776,-1)
def A3K(b:AJ)(plan:List (List Int)):Int×Int:=DJ C8 ((BU b).map (BEP b plan))
def A9K(b:AJ)(plan:List (List Int))(r p:Nat):Int×Int:=DJ C8 ((BU b).map fun t=>(DD b plan t r p).calm)
def A9L(b:AJ)(plan:List (List Int))(r p:Nat):Int×Int:=DJ C8 ((BU b).map fun t=>(DD b plan t r p).good)
theorem JB{b:AJ}{t:List Int}(h:t∈BU b):AV t b.winds=true:=by have:=H1.1 h;simp only[CS,Bool.and_eq_true]at this;exact this.1
theorem AQQ{α:Type}{l:List α}{f:α→Int}{m n:Int}(h1:N7 l f m)(h2:N8 l f n)(hf:∀x∈l,0≤f x∧f x≤1000):DJ C8 (l.map f)=(m,n):=by
 have hne:l≠[]:=by obtain⟨x,hx,_⟩:=h1.at';exact List.ne_nil_of_mem hx
 rw[fE];have e1:=(tI (z:=C8.1) (fun x hx=>by have:=hf x hx;simp only[C8];omega) hne).uniq h1;have e2:=(tJ (z:=C8.2) (fun x hx=>by have:=hf x hx;simp only[C8];omega) hne).uniq h2;rw[e1,e2]
def jN(b:AJ)(ws plan:List (List Int))(r p:Nat):Int×Int:=AB5 ws fun h w=>A3E b (r,p) (CB plan h r) w
def jO(b:AJ)(ws plan:List (List Int))(r p:Nat):Int×Int:=AB5 ws fun h w=>AB4 b (r,p) h (CB plan h r) w
def LN(b:AJ)(plan:List (List Int))(r n:Nat):Int:=((fH (IH b plan r) n:Nat):Int)
def AID(g:List Int):Nat→Int:=fun r=>g.getD r 0
def BEQ:List Int:=[0,1,2,3]
def BER(R:Nat):List (List Int):=(S4 (List.replicate R BEQ)).map (· ++ List.replicate (3-R) 0)
def AIE(l:List Int):List Int:=l++List.replicate (3-l.length) 0
def AMM(b:AJ)(ws:List (List Int))(h:Nat)(g:List Int):Int:=(jM b ws h (AID g)).1
def tC(b:AJ)(f g:List Int):Int:=tA b (AID f) (AID g)
def AB6(work sure:List Int→Int)(left:Int)(acc:Int×List Int)(g:List Int):Int×List Int:=if left<work g then acc else if acc.1<sure g then(sure g,g) else acc
def jP(b:AJ)(ws:List (List Int)):Nat→Nat→Int→List Int→Int×List Int
 |0,_,_,_=>(0,[0,0,0])
 |d+1,h,left,f=>(BER b.rows.toNat).foldl (AB6 (tC b f) (fun g=>AMM b ws h g+(jP b ws d (h+1) (left-tC b f g) g).1) left) (-1,[0,0,0])
def BES(b:AJ):List Int→List (List Int)→Int
 |_,[]=>0
 |f,g::gs=>tC b f g+BES b g gs
def BET(b:AJ)(ws:List (List Int)):Nat→List (List Int)→Int
 |_,[]=>0
 |h,g::gs=>AMM b ws h g+BET b ws (h+1) gs
def AMN(b:AJ)(ws:List (List Int)):Nat→Nat→Int→List Int→List (List Int)
 |0,_,_,_=>[]
 |d+1,h,left,f=>(jP b ws (d+1) h left f).2::AMN b ws d (h+1) (left-tC b f (jP b ws (d+1) h left f).2) (jP b ws (d+1) h left f).2
def BJU(b:AJ)(plan gs:List (List Int)):Prop:=plan.length=gs.length∧∀h,h<plan.length→∀r,r<b.rows.toNat→CB plan h r=AID (gs.getD h []) r
def BJV(b:AJ)(ws:List (List Int))(most:Int):Int:=(jP b ws b.winds.length 0 most (AIE b.face)).1
def BEU(b:AJ)(ws:List (List Int))(most:Int):List (List Int):=(AMN b ws b.winds.length 0 most (AIE b.face)).map (List.take b.rows.toNat)
theorem N7.sub{α:Type}{l m:List α}{f g:α→Int}{v w:Int}(hl:N7 l f v)(hm:N7 m g w)(hsub:∀x∈m,x∈l)(hfg:∀x∈m,f x≤g x):v≤w:=by obtain⟨x,h1,h2⟩:=hm.at';have:=hl.le x (hsub x h1);have:=hfg x h1;omega
theorem N8.sub{α:Type}{l m:List α}{f g:α→Int}{v w:Int}(hl:N8 l f v)(hm:N8 m g w)(hsub:∀x∈m,x∈l)(hfg:∀x∈m,g x≤f x):w≤v:=by obtain⟨x,h1,h2⟩:=hm.at';have:=hl.le x (hsub x h1);have:=hfg x h1;omega
def A9M(b:AJ):AJ:={ b with notes:=[] }
def BJW(b:AJ)(h:Nat):AJ:={ b with last:=0,sun:=[b.sun.getD h 0],winds:=[b.winds.getD h []],notes:=[] }
end Go.Wind
