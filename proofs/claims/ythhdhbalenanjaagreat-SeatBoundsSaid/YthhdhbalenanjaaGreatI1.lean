/- The winds that the truths of a beach have, hour by hour. No condition; no program in sight. -/
import Derived.Test.YthhdhbalenanjaaGreatL
namespace Go.Wind
def N8(ws:List (List Int))(h:Nat)(n:Int):List (List Int):=if n∈ws.getD h [] then ws else ws.set h (ws.getD h []++[n])
def JS:List (List Int)→Nat→List Int→List (List Int)
 |ws,_,[]=>ws
 |ws,h,n::t=>JS (N8 ws h n) (h+1) t
def jK(k:Nat)(T:List (List Int)):List (List Int):=T.foldl (fun ws t=>JS ws 0 t) (List.replicate k [])
theorem jL(ws:List (List Int))(h:Nat)(n:Int):(N8 ws h n).length=ws.length:=by unfold N8;split<;>simp
theorem YQ:∀(t:List Int) (ws:List (List Int)) (h:Nat),(JS ws h t).length=ws.length
 |[],_,_=>rfl
 |n::t,ws,h=>(YQ t (N8 ws h n) (h+1)).trans (jL ws h n)
theorem jM:∀(T:List (List Int)) (ws:List (List Int)),(T.foldl (fun ws t=>JS ws 0 t) ws).length=ws.length
 |[],_=>rfl
 |t::T,ws=>(jM T (JS ws 0 t)).trans (YQ t ws 0)
theorem ACH(k:Nat)(T:List (List Int)):(jK k T).length=k:=by unfold jK;rw[jM];simp
theorem ACI(ws:List (List Int))(h:Nat)(l:List Int)(j:Nat)(hj:j<ws.length):(ws.set h l).getD j []=if h=j then l else ws.getD j []:=by
 simp only[List.getD_eq_getElem?_getD,List.getElem?_set];by_cases e:h=j
 ·subst e;simp[hj]
 ·simp[e]
theorem ACJ{ws:List (List Int)}{h:Nat}{n x:Int}{j:Nat}(hj:j<ws.length):x∈(N8 ws h n).getD j []↔x∈ws.getD j []∨(h=j∧n=x):=by
 unfold N8;split
 ·rename_i hn;refine⟨.inl,fun h'=>?_⟩;rcases h' with h'|⟨rfl,rfl⟩
  ·exact h'
  ·exact hn
 ·rw[ACI _ _ _ _ hj];by_cases e:h=j
  ·subst e;rw[if_pos rfl,List.mem_append,List.mem_singleton];simp[eq_comm]
  ·rw[if_neg e];simp[e]
theorem jN:∀(t:List Int) {ws:List (List Int)} {h j:Nat} {x:Int} (_:j<ws.length),x∈(JS ws h t).getD j []↔x∈ws.getD j []∨∃i,i<t.length∧h+i=j∧t.getD i 0=x
 |[],ws,h,j,x,hj=>by simp[JS]
 |n::t,ws,h,j,x,hj=>by
  show x∈(JS (N8 ws h n) (h+1) t).getD j []↔_;rw[jN t (by rw[jL];exact hj),ACJ hj];constructor
  ·rintro ((h1|⟨h1,h2⟩)|⟨i,h1,h2,h3⟩)
   ·exact .inl h1
   ·exact .inr ⟨0,by simp,by omega,by simpa using h2⟩
   ·exact .inr ⟨i+1,by simpa using h1,by omega,by simpa using h3⟩
  ·rintro (h1|⟨i,h1,h2,h3⟩)
   ·exact .inl (.inl h1)
   ·cases i with
    |zero=>exact .inl (.inr ⟨by omega,by simpa using h3⟩)
    |succ i=>exact .inr ⟨i,by simpa using h1,by omega,by simpa using h3⟩
theorem jO:∀(T:List (List Int)) {ws:List (List Int)} {j:Nat} {x:Int} (_:j<ws.length),x∈(T.foldl (fun ws t=>JS ws 0 t) ws).getD j []↔x∈ws.getD j []∨∃t∈T,j<t.length∧t.getD j 0=x
 |[],ws,j,x,hj=>by simp
 |t::T,ws,j,x,hj=>by
  rw[List.foldl_cons,jO T (by rw[YQ];exact hj),jN t hj];constructor
  ·rintro ((h1|⟨i,h1,h2,h3⟩)|⟨u,h1,h2⟩)
   ·exact .inl h1
   ·have:i=j:=by omega
    subst this;exact .inr ⟨t,by simp,h1,h3⟩
   ·exact .inr ⟨u,by simp[h1],h2⟩
  ·rintro (h1|⟨u,h1,h2,h3⟩)
   ·exact .inl (.inl h1)
   ·rcases List.mem_cons.1 h1 with rfl|h1
    ·exact .inl (.inr ⟨j,h2,by omega,h3⟩)
    ·exact .inr ⟨u,h1,h2,h3⟩
theorem AIY{k:Nat}{T:List (List Int)}{j:Nat}{x:Int}(hj:j<k):x∈(jK k T).getD j []↔∃t∈T,j<t.length∧t.getD j 0=x:=by unfold jK;rw[jO T (by simpa using hj)];simp[List.getD_eq_getElem?_getD,hj]
def fI(ws:List (List Int)):Prop:=∀l∈ws,l.Nodup
theorem oX{ws:List (List Int)}(h:fI ws)(k:Nat)(n:Int):fI (N8 ws k n):=by
 unfold N8;split
 ·exact h
 ·rename_i hn;intro l hl;rcases Nat.lt_or_ge k ws.length with hk|hk
  ·rcases List.mem_or_eq_of_mem_set hl with h1|h1
   ·exact h l h1
   ·subst h1;have hm:ws.getD k []=ws[k]:=by rw[List.getD_eq_getElem?_getD,List.getElem?_eq_getElem hk];rfl
    rw[hm]at hn⊢;rw[List.nodup_append];refine⟨h _ (List.getElem_mem hk),by simp,fun a ha b hb=>?_⟩;simp only[List.mem_singleton]at hb;subst hb;exact fun e=>hn (e▸ha)
  ·rw[List.set_eq_of_length_le hk]at hl;exact h l hl
theorem V1:∀(k:Nat) (l:List Int),l.Nodup→(∀x∈l,0≤x∧x<k)→l.length≤k
 |0,l,_,hx=>by
  cases l with
  |nil=>simp
  |cons x l=>have:=hx x (by simp);omega
 |k+1,l,hn,hx=>by
  have h1:(l.erase (k:Int)).length≤k:=V1 k _ (hn.erase _) fun x hm=>by have hm1:=(hn.mem_erase_iff.1 hm);have:=hx x hm1.2;have:=hm1.1;omega
  rw[List.length_erase]at h1;split at h1<;>omega
structure DN(ws:List (List Int)):Prop where
 nd:fI ws
 lo:∀l∈ws,∀x∈l,0≤x∧x≤3
theorem DN.len{ws:List (List Int)}(h:DN ws):∀l∈ws,l.length≤4:=fun l hl=>V1 4 l (h.nd l hl) fun x hx=>by have:=h.lo l hl x hx;omega
theorem DN.add{ws:List (List Int)}(h:DN ws)(k:Nat)(n:Int)(hn:0≤n∧n≤3):DN (N8 ws k n):=by
 refine⟨oX h.nd k n,fun l hl x hx=>?_⟩;unfold N8 at hl;split at hl
 ·exact h.lo l hl x hx
 ·rcases List.mem_or_eq_of_mem_set hl with h1|h1
  ·exact h.lo l h1 x hx
  ·subst h1;rcases List.mem_append.1 hx with hx|hx
   ·rcases Nat.lt_or_ge k ws.length with hk|hk
    ·have hm:ws.getD k []=ws[k]:=by rw[List.getD_eq_getElem?_getD,List.getElem?_eq_getElem hk];rfl
     rw[hm]at hx;exact h.lo _ (List.getElem_mem hk) x hx
    ·rw[List.getD_eq_getElem?_getD,List.getElem?_eq_none hk]at hx;simp at hx
   ·rw[List.mem_singleton.1 hx];exact hn
theorem DN.adds:∀(t:List Int) {ws:List (List Int)} (_:DN ws) (k:Nat) (_:∀n∈t,0≤n∧n≤3),DN (JS ws k t)
 |[],_,h,_,_=>h
 |n::t,_,h,k,hn=>DN.adds t (h.add k n (hn n (by simp))) (k+1) fun x hx=>hn x (by simp[hx])
theorem DN.fold:∀(T:List (List Int)) {ws:List (List Int)} (_:DN ws) (_:∀t∈T,∀n∈t,0≤n∧n≤3),DN (T.foldl (fun ws t=>JS ws 0 t) ws)
 |[],_,h,_=>h
 |t::T,_,h,hT=>DN.fold T (h.adds t 0 (hT t (by simp))) fun u hu=>hT u (by simp[hu])
theorem DN.ask(k:Nat)(T:List (List Int))(hT:∀t∈T,∀n∈t,0≤n∧n≤3):DN (jK k T):=DN.fold T ⟨fun l hl=>by rw[List.eq_of_mem_replicate hl];simp,fun l hl x hx=>by rw[List.eq_of_mem_replicate hl]at hx;cases hx⟩ hT
theorem N9{b:AJ}(hb:Valid b){t:List Int}(ht:AU t b.winds=true):∀n∈t,0≤n∧n≤3:=fun n hn=>by obtain⟨j,hj,rfl⟩:=List.getElem_of_mem hn;have:=ME hb ht hj;rw[List.getD_eq_getElem?_getD,List.getElem?_eq_getElem hj,DV]at this;exact this
def H7(f:Nat→Int):Nat→Int
 |0=>0
 |n+1=>H7 f n+f n
theorem W3{f:Nat→Int}{c:Int}:∀{n:Nat},(∀i,i<n→0≤f i∧f i≤c)→0≤H7 f n∧H7 f n≤n*c
 |0,_=>by simp[H7]
 |n+1,h=>by
  have h1:=W3 (n:=n) fun i hi=>h i (by omega);have h2:=h n (by omega);simp only[H7];have e:((n+1:Nat):Int)*c=(n:Int)*c+c:=by rw[Int.natCast_succ,Int.add_mul,Int.one_mul]
  omega
def DI(z:Int×Int)(l:List Int):Int×Int:=l.foldl (fun r n=>(min r.1 n,max r.2 n)) z
theorem fJ:∀(l:List Int) (z:Int×Int),DI z l=(bT z.1 l,bU z.2 l)
 |[],_=>rfl
 |n::l,z=>fJ l (min z.1 n,max z.2 n)
theorem fK:∀(l:List Int) (z:Int×Int) (lo hi:Int),(∀x∈l,lo≤x∧x≤hi)→lo≤z.1→z.2≤hi→lo≤(DI z l).1∧(DI z l).1≤z.1∧z.2≤(DI z l).2∧(DI z l).2≤hi
 |[],z,lo,hi,_,h1,h2=>⟨h1,Int.le_refl _,Int.le_refl _,h2⟩
 |n::l,z,lo,hi,h,h1,h2=>by have hn:=h n (by simp);have:=fK l (min z.1 n,max z.2 n) lo hi (fun x hx=>h x (by simp[hx])) (by simp only;omega) (by simp only;omega);have e:DI z (n::l)=DI (min z.1 n,max z.2 n) l:=rfl;rw[e];simp only at this;omega
theorem OA.congr{α:Type}{l m:List α}{f:α→Int}{v:Int}(h:∀x,x∈l↔x∈m)(hm:OA l f v):OA m f v :=
 ⟨fun x hx=>hm.le x ((h x).2 hx),by obtain⟨x,h1,h2⟩:=hm.at';exact⟨x,(h x).1 h1,h2⟩⟩
theorem OB.congr{α:Type}{l m:List α}{f:α→Int}{v:Int}(h:∀x,x∈l↔x∈m)(hm:OB l f v):OB m f v :=
 ⟨fun x hx=>hm.le x ((h x).2 hx),by obtain⟨x,h1,h2⟩:=hm.at';exact⟨x,(h x).1 h1,h2⟩⟩
def A3Z(z:Int×Int)(ws:List (List Int))(g:Nat→Int→Int)(n:Nat):Int×Int:=(H7 (fun h=>(DI z ((ws.getD h []).map (g h))).1) n,H7 (fun h=>(DI z ((ws.getD h []).map (g h))).2) n)
structure AM3(b:AJ)(ws:List (List Int)):Prop where
 len:ws.length=b.winds.length
 ok:DN ws
 mem:∀j (hj:j<b.winds.length) (x:Int),x∈ws.getD j []↔x∈(aw b)[j]'(by rw[ACQ];exact hj)
 ne:∀l∈aw b,l≠[]
theorem AM3.row{b:AJ}{ws:List (List Int)}(h:AM3 b ws){j:Nat}(hj:j<b.winds.length):ws.getD j []≠[]:=by have h1:=h.ne _ (List.getElem_mem (by rw[ACQ];exact hj:j<(aw b).length));obtain⟨x,hx⟩:=List.exists_mem_of_ne_nil _ h1;exact List.ne_nil_of_mem ((h.mem j hj x).2 hx)
def jP(b:Bool):Int:=if b=true then 1 else 0
theorem jQ(b:Bool):0≤jP b∧jP b≤1:=by cases b<;>simp[jP]
def ACK(b:AJ)(s:Int×Int)(h:Nat)(f w:Int):Int:=jP (decide (b.sun.getD h 0=f)&&OD b s f w)
def A30(b:AJ)(s:Int×Int)(f w:Int):Int:=jP (OD b s f w)
def A31(b:AJ)(h:Nat)(f:Nat→Int)(w:Int):Int:=H7 (fun r=>H7 (fun p=>ACK b (r,p) h (f r) w) b.places.toNat) b.rows.toNat
def BE9(b:AJ)(plan:List (List Int))(t:List Int):Int:=H7 (fun r=>H7 (fun p=>(DC b plan t r p).good) b.places.toNat) b.rows.toNat
def jR(b:AJ)(ws:List (List Int))(h:Nat)(f:Nat→Int):Int×Int:=DI (b.rows*b.places,0) ((ws.getD h []).map (A31 b h f))
def AQ7(b:AJ)(ws plan:List (List Int)):Int×Int:=(H7 (fun h=>(jR b ws h (B7 plan h)).1) plan.length,H7 (fun h=>(jR b ws h (B7 plan h)).2) plan.length)
def ACL(ws:List (List Int))(g:Nat→Int→Int):Int×Int:=A3Z (1,0) ws g ws.length
def jS{α:Type}(l:List α)(q:α→Bool):Int:=if l.countP q=l.length then 1 else if l.countP q=0 then 2 else 3
theorem tL{α β:Type}{l:List α}{m:List β}{q:α→Bool}{u:β→Bool}(h1:(∀x∈l,q x=true)↔∀y∈m,u y=true)(h2:(∀x∈l,q x=false)↔∀y∈m,u y=false):jS l q=jS m u:=by
 unfold jS;have e1:(l.countP q=l.length)=(m.countP u=m.length):=by rw[List.countP_eq_length,List.countP_eq_length];exact propext h1
 have e2:(l.countP q=0)=(m.countP u=0):=by rw[List.countP_eq_zero,List.countP_eq_zero];simp only[Bool.not_eq_true];exact propext h2
 simp only[e1,e2]
def A32(a b:Int):Int:=min (max (a-b) (b-a)) (4-max (a-b) (b-a))
def A33(a b:Int):Int:=min ((b-a+4) % 4) ((a-b+4) % 4)
def tM(b:AJ)(f g:Nat→Int):Int:=H7 (fun r=>A32 (f r) (g r)*b.places) b.rows.toNat
def tN(b:AJ)(plan:List (List Int))(h:Nat):Nat→Int:=if h=0 then fun r=>b.face.getD r 0 else B7 plan (h-1)
def A34(b:AJ)(plan:List (List Int))(n:Nat):Int:=H7 (fun h=>tM b (tN b plan h) (B7 plan h)) n
def A35(b:AJ)(plan:List (List Int)):Int:=A34 b plan plan.length
def BKG(b:AJ)(plan:List (List Int)):Int:=H7 (fun h=>H7 (fun r=>A33 (tN b plan h r) (B7 plan h r)*b.places) b.rows.toNat) plan.length
def B6:Int×Int:=(1099511627776,-1)
def A36(b:AJ)(plan:List (List Int)):Int×Int:=DI B6 ((BJ b).map (BE9 b plan))
def A96(b:AJ)(plan:List (List Int))(r p:Nat):Int×Int:=DI B6 ((BJ b).map fun t=>(DC b plan t r p).calm)
def A97(b:AJ)(plan:List (List Int))(r p:Nat):Int×Int:=DI B6 ((BJ b).map fun t=>(DC b plan t r p).good)
theorem E5{b:AJ}{t:List Int}(h:t∈BJ b):AU t b.winds=true:=by have:=GI.1 h;simp only[CS,Bool.and_eq_true]at this;exact this.1
theorem AQ8{α:Type}{l:List α}{f:α→Int}{m n:Int}(h1:OA l f m)(h2:OB l f n)(hf:∀x∈l,0≤f x∧f x≤1000):DI B6 (l.map f)=(m,n):=by
 have hne:l≠[]:=by obtain⟨x,hx,_⟩:=h1.at';exact List.ne_nil_of_mem hx
 rw[fJ];have e1:=(tU (z:=B6.1) (fun x hx=>by have:=hf x hx;simp only[B6];omega) hne).uniq h1;have e2:=(tV (z:=B6.2) (fun x hx=>by have:=hf x hx;simp only[B6];omega) hne).uniq h2;rw[e1,e2]
def jT(b:AJ)(ws plan:List (List Int))(r p:Nat):Int×Int:=ACL ws fun h w=>A30 b (r,p) (B7 plan h r) w
def jU(b:AJ)(ws plan:List (List Int))(r p:Nat):Int×Int:=ACL ws fun h w=>ACK b (r,p) h (B7 plan h r) w
def LN(b:AJ)(plan:List (List Int))(r n:Nat):Int:=((fN (IL b plan r) n:Nat):Int)
def AIZ(g:List Int):Nat→Int:=fun r=>g.getD r 0
def BFA:List Int:=[0,1,2,3]
def BFB(R:Nat):List (List Int):=(S8 (List.replicate R BFA)).map (· ++ List.replicate (3-R) 0)
def AI0(l:List Int):List Int:=l++List.replicate (3-l.length) 0
def AM4(b:AJ)(ws:List (List Int))(h:Nat)(g:List Int):Int:=(jR b ws h (AIZ g)).1
def tO(b:AJ)(f g:List Int):Int:=tM b (AIZ f) (AIZ g)
def ACM(work sure:List Int→Int)(left:Int)(acc:Int×List Int)(g:List Int):Int×List Int:=if left<work g then acc else if acc.1<sure g then(sure g,g) else acc
def jV(b:AJ)(ws:List (List Int)):Nat→Nat→Int→List Int→Int×List Int
 |0,_,_,_=>(0,[0,0,0])
 |d+1,h,left,f=>(BFB b.rows.toNat).foldl (ACM (tO b f) (fun g=>AM4 b ws h g+(jV b ws d (h+1) (left-tO b f g) g).1) left) (-1,[0,0,0])
def BFC(b:AJ):List Int→List (List Int)→Int
 |_,[]=>0
 |f,g::gs=>tO b f g+BFC b g gs
def BFD(b:AJ)(ws:List (List Int)):Nat→List (List Int)→Int
 |_,[]=>0
 |h,g::gs=>AM4 b ws h g+BFD b ws (h+1) gs
def AM5(b:AJ)(ws:List (List Int)):Nat→Nat→Int→List Int→List (List Int)
 |0,_,_,_=>[]
 |d+1,h,left,f=>(jV b ws (d+1) h left f).2::AM5 b ws d (h+1) (left-tO b f (jV b ws (d+1) h left f).2) (jV b ws (d+1) h left f).2
def BKH(b:AJ)(plan gs:List (List Int)):Prop:=plan.length=gs.length∧∀h,h<plan.length→∀r,r<b.rows.toNat→B7 plan h r=AIZ (gs.getD h []) r
def BKI(b:AJ)(ws:List (List Int))(most:Int):Int:=(jV b ws b.winds.length 0 most (AI0 b.face)).1
def BFE(b:AJ)(ws:List (List Int))(most:Int):List (List Int):=(AM5 b ws b.winds.length 0 most (AI0 b.face)).map (List.take b.rows.toNat)
theorem OA.sub{α:Type}{l m:List α}{f g:α→Int}{v w:Int}(hl:OA l f v)(hm:OA m g w)(hsub:∀x∈m,x∈l)(hfg:∀x∈m,f x≤g x):v≤w:=by obtain⟨x,h1,h2⟩:=hm.at';have:=hl.le x (hsub x h1);have:=hfg x h1;omega
theorem OB.sub{α:Type}{l m:List α}{f g:α→Int}{v w:Int}(hl:OB l f v)(hm:OB m g w)(hsub:∀x∈m,x∈l)(hfg:∀x∈m,g x≤f x):w≤v:=by obtain⟨x,h1,h2⟩:=hm.at';have:=hl.le x (hsub x h1);have:=hfg x h1;omega
def A98(b:AJ):AJ:={ b with notes:=[] }
def BKJ(b:AJ)(h:Nat):AJ:={ b with last:=0,sun:=[b.sun.getD h 0],winds:=[b.winds.getD h []],notes:=[] }
end Go.Wind
