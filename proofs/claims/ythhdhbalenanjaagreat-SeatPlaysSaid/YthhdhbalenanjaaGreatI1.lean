/- The winds that the truths of a beach have, hour by hour. No condition; no program in sight. -/
import Derived.Test.YthhdhbalenanjaaGreatL
namespace Go.Wind
def NE(ws:List (List Int))(h:Nat)(n:Int):List (List Int):=if n∈ws.getD h [] then ws else ws.set h (ws.getD h []++[n])
def JA:List (List Int)→Nat→List Int→List (List Int)
 | ws,_,[]=>ws
 | ws,h,n :: t=>JA (NE ws h n) (h+1) t
def gC(k:Nat)(T:List (List Int)):List (List Int):=T.foldl (fun ws t=>JA ws 0 t) (List.replicate k [])
theorem gD(ws:List (List Int))(h:Nat)(n:Int):(NE ws h n).length=ws.length:=by
 unfold NE; split <;> simp
theorem XG:∀(t:List Int) (ws:List (List Int)) (h:Nat),(JA ws h t).length=ws.length
 | [],_,_=>rfl
 | n :: t,ws,h=>(XG t (NE ws h n) (h+1)).trans (gD ws h n)
theorem gE:∀(T:List (List Int)) (ws:List (List Int)),(T.foldl (fun ws t=>JA ws 0 t) ws).length=ws.length
 | [],_=>rfl
 | t :: T,ws=>(gE T (JA ws 0 t)).trans (XG t ws 0)
theorem zR(k:Nat)(T:List (List Int)):(gC k T).length=k:=by
 unfold gC; rw[gE]; simp
theorem zS(ws:List (List Int))(h:Nat)(l:List Int)(j:Nat)(hj:j<ws.length):(ws.set h l).getD j []=if h=j then l else ws.getD j []:=by
 simp only[List.getD_eq_getElem?_getD,List.getElem?_set]
 by_cases e:h=j
 ·subst e; simp[hj]
 ·simp[e]
theorem zT{ws:List (List Int)}{h:Nat}{n x:Int}{j:Nat}(hj:j<ws.length):x∈(NE ws h n).getD j []↔x∈ws.getD j []∨(h=j∧n=x):=by
 unfold NE
 split
 ·rename_i hn
  refine⟨.inl,fun h'=>?_⟩
  rcases h' with h' | ⟨rfl,rfl⟩
  ·exact h'
  ·exact hn
 ·rw[zS _ _ _ _ hj]
  by_cases e:h=j
  ·subst e
   rw[if_pos rfl,List.mem_append,List.mem_singleton]
   simp[eq_comm]
  ·rw[if_neg e]
   simp[e]
theorem gF:∀(t:List Int) {ws:List (List Int)} {h j:Nat} {x:Int} (_:j<ws.length),x∈(JA ws h t).getD j []↔x∈ws.getD j []∨∃i,i<t.length∧h+i=j∧t.getD i 0=x
 | [],ws,h,j,x,hj=>by simp[JA]
 | n :: t,ws,h,j,x,hj=>by
  show x∈(JA (NE ws h n) (h+1) t).getD j []↔_
  rw[gF t (by rw[gD]; exact hj),zT hj]
  constructor
  ·rintro ((h1 | ⟨h1,h2⟩) | ⟨i,h1,h2,h3⟩)
   ·exact .inl h1
   ·exact .inr ⟨0,by simp,by omega,by simpa using h2⟩
   ·exact .inr ⟨i+1,by simpa using h1,by omega,by simpa using h3⟩
  ·rintro (h1 | ⟨i,h1,h2,h3⟩)
   ·exact .inl (.inl h1)
   ·cases i with
    | zero=>exact .inl (.inr ⟨by omega,by simpa using h3⟩)
    | succ i=>exact .inr ⟨i,by simpa using h1,by omega,by simpa using h3⟩
theorem gG:∀(T:List (List Int)) {ws:List (List Int)} {j:Nat} {x:Int} (_:j<ws.length),x∈(T.foldl (fun ws t=>JA ws 0 t) ws).getD j []↔x∈ws.getD j []∨∃t∈T,j<t.length∧t.getD j 0=x
 | [],ws,j,x,hj=>by simp
 | t :: T,ws,j,x,hj=>by
  rw[List.foldl_cons,gG T (by rw[XG]; exact hj),gF t hj]
  constructor
  ·rintro ((h1 | ⟨i,h1,h2,h3⟩) | ⟨u,h1,h2⟩)
   ·exact .inl h1
   ·have:i=j:=by omega
    subst this
    exact .inr ⟨t,by simp,h1,h3⟩
   ·exact .inr ⟨u,by simp[h1],h2⟩
  ·rintro (h1 | ⟨u,h1,h2,h3⟩)
   ·exact .inl (.inl h1)
   ·rcases List.mem_cons.1 h1 with rfl | h1
    ·exact .inl (.inr ⟨j,h2,by omega,h3⟩)
    ·exact .inr ⟨u,h1,h2,h3⟩
theorem AF1{k:Nat}{T:List (List Int)}{j:Nat}{x:Int}(hj:j<k):x∈(gC k T).getD j []↔∃t∈T,j<t.length∧t.getD j 0=x:=by
 unfold gC
 rw[gG T (by simpa using hj)]
 simp[List.getD_eq_getElem?_getD,hj]
def dJ(ws:List (List Int)):Prop:=∀l∈ws,l.Nodup
theorem mG{ws:List (List Int)}(h:dJ ws)(k:Nat)(n:Int):dJ (NE ws k n):=by
 unfold NE
 split
 ·exact h
 ·rename_i hn
  intro l hl
  rcases Nat.lt_or_ge k ws.length with hk | hk
  ·rcases List.mem_or_eq_of_mem_set hl with h1 | h1
   ·exact h l h1
   ·subst h1
    have hm:ws.getD k []=ws[k]:=by rw[List.getD_eq_getElem?_getD,List.getElem?_eq_getElem hk]; rfl
    rw[hm]at hn ⊢
    rw[List.nodup_append]
    refine⟨h _ (List.getElem_mem hk),by simp,fun a ha b hb=>?_⟩
    simp only[List.mem_singleton]at hb
    subst hb
    exact fun e=>hn (e▸ha)
  ·rw[List.set_eq_of_length_le hk]at hl
   exact h l hl
theorem U2:∀(k:Nat) (l:List Int),l.Nodup→(∀x∈l,0≤x∧x<k)→l.length≤k
 | 0,l,_,hx=>by
  cases l with
  | nil=>simp
  | cons x l=>have:=hx x (by simp); omega
 | k+1,l,hn,hx=>by
  have h1:(l.erase (k:Int)).length≤k:=U2 k _ (hn.erase _) fun x hm=>by
   have hm1:=(hn.mem_erase_iff.1 hm)
   have:=hx x hm1.2
   have:=hm1.1
   omega
  rw[List.length_erase]at h1
  split at h1 <;> omega
structure DH(ws:List (List Int)):Prop where
 nd:dJ ws
 lo:∀l∈ws,∀x∈l,0≤x∧x≤3
theorem DH.len{ws:List (List Int)}(h:DH ws):∀l∈ws,l.length≤4:=fun l hl=>U2 4 l (h.nd l hl) fun x hx=>by have:=h.lo l hl x hx; omega
theorem DH.add{ws:List (List Int)}(h:DH ws)(k:Nat)(n:Int)(hn:0≤n∧n≤3):DH (NE ws k n):=by
 refine⟨mG h.nd k n,fun l hl x hx=>?_⟩
 unfold NE at hl
 split at hl
 ·exact h.lo l hl x hx
 ·rcases List.mem_or_eq_of_mem_set hl with h1 | h1
  ·exact h.lo l h1 x hx
  ·subst h1
   rcases List.mem_append.1 hx with hx | hx
   ·rcases Nat.lt_or_ge k ws.length with hk | hk
    ·have hm:ws.getD k []=ws[k]:=by rw[List.getD_eq_getElem?_getD,List.getElem?_eq_getElem hk]; rfl
     rw[hm]at hx
     exact h.lo _ (List.getElem_mem hk) x hx
    ·rw[List.getD_eq_getElem?_getD,List.getElem?_eq_none hk]at hx
     simp at hx
   ·rw[List.mem_singleton.1 hx]; exact hn
theorem DH.adds:∀(t:List Int) {ws:List (List Int)} (_:DH ws) (k:Nat) (_:∀n∈t,0≤n∧n≤3),DH (JA ws k t)
 | [],_,h,_,_=>h
 | n :: t,_,h,k,hn=>DH.adds t (h.add k n (hn n (by simp))) (k+1) fun x hx=>hn x (by simp[hx])
theorem DH.fold:∀(T:List (List Int)) {ws:List (List Int)} (_:DH ws) (_:∀t∈T,∀n∈t,0≤n∧n≤3),DH (T.foldl (fun ws t=>JA ws 0 t) ws)
 | [],_,h,_=>h
 | t :: T,_,h,hT=>DH.fold T (h.adds t 0 (hT t (by simp))) fun u hu=>hT u (by simp[hu])
theorem DH.ask(k:Nat)(T:List (List Int))(hT:∀t∈T,∀n∈t,0≤n∧n≤3):DH (gC k T):=DH.fold T ⟨fun l hl=>by rw[List.eq_of_mem_replicate hl]; simp,fun l hl x hx=>by rw[List.eq_of_mem_replicate hl]at hx; cases hx⟩ hT
theorem NF{b:AJ}(hb:Valid b){t:List Int}(ht:AV t b.winds=true):∀n∈t,0≤n∧n≤3:=fun n hn=>by
 obtain⟨j,hj,rfl⟩:=List.getElem_of_mem hn
 have:=LI hb ht hj
 rw[List.getD_eq_getElem?_getD,List.getElem?_eq_getElem hj,DM]at this
 exact this
end Go.Wind
namespace Go.Wind
def HO(f:Nat→Int):Nat→Int
 | 0=>0
 | n+1=>HO f n+f n
theorem V2{f:Nat→Int}{c:Int}:∀{n:Nat},(∀i,i<n→0≤f i∧f i≤c)→0≤HO f n∧HO f n≤n*c
 | 0,_=>by simp[HO]
 | n+1,h=>by
  have h1:=V2 (n:=n) fun i hi=>h i (by omega)
  have h2:=h n (by omega)
  simp only[HO]
  have e:((n+1:Nat):Int)*c=(n:Int)*c+c:=by rw[Int.natCast_succ,Int.add_mul,Int.one_mul]
  omega
def FW(z:Int×Int)(l:List Int):Int×Int:=l.foldl (fun r n=>(min r.1 n,max r.2 n)) z
theorem qA:∀(l:List Int) (z:Int×Int) (lo hi:Int),(∀x∈l,lo≤x∧x≤hi)→lo≤z.1→z.2≤hi→lo≤(FW z l).1∧(FW z l).1≤z.1∧z.2≤(FW z l).2∧(FW z l).2≤hi
 | [],z,lo,hi,_,h1,h2=>⟨h1,Int.le_refl _,Int.le_refl _,h2⟩
 | n :: l,z,lo,hi,h,h1,h2=>by
  have hn:=h n (by simp)
  have:=qA l (min z.1 n,max z.2 n) lo hi (fun x hx=>h x (by simp[hx])) (by simp only; omega) (by simp only; omega)
  have e:FW z (n :: l)=FW (min z.1 n,max z.2 n) l:=rfl
  rw[e]
  simp only at this
  omega
theorem bB.congr{α:Type}{l m:List α}{f:α→Int}{v:Int}(h:∀x,x∈l↔x∈m)(hm:bB l f v):bB m f v :=
 ⟨fun x hx=>hm.le x ((h x).2 hx),by obtain⟨x,h1,h2⟩:=hm.at'; exact⟨x,(h x).1 h1,h2⟩⟩
theorem bC.congr{α:Type}{l m:List α}{f:α→Int}{v:Int}(h:∀x,x∈l↔x∈m)(hm:bC l f v):bC m f v :=
 ⟨fun x hx=>hm.le x ((h x).2 hx),by obtain⟨x,h1,h2⟩:=hm.at'; exact⟨x,(h x).1 h1,h2⟩⟩
def A0E(z:Int×Int)(ws:List (List Int))(g:Nat→Int→Int)(n:Nat):Int×Int:=(HO (fun h=>(FW z ((ws.getD h []).map (g h))).1) n,HO (fun h=>(FW z ((ws.getD h []).map (g h))).2) n)
structure AJV(b:AJ)(ws:List (List Int)):Prop where
 len:ws.length=b.winds.length
 ok:DH ws
 mem:∀j (hj:j<b.winds.length) (x:Int),x∈ws.getD j []↔x∈(aw b)[j]'(by rw[zZ]; exact hj)
 ne:∀l∈aw b,l≠[]
theorem AJV.row{b:AJ}{ws:List (List Int)}(h:AJV b ws){j:Nat}(hj:j<b.winds.length):ws.getD j []≠[]:=by
 have h1:=h.ne _ (List.getElem_mem (by rw[zZ]; exact hj:j<(aw b).length))
 obtain⟨x,hx⟩:=List.exists_mem_of_ne_nil _ h1
 exact List.ne_nil_of_mem ((h.mem j hj x).2 hx)
def gH(b:Bool):Int:=if b=true then 1 else 0
theorem gJ(b:Bool):0≤gH b∧gH b≤1:=by cases b <;> simp[gH]
def zU(b:AJ)(s:Int×Int)(h:Nat)(f w:Int):Int:=gH (decide (b.sun.getD h 0=f)&&NH b s f w)
def A0F(b:AJ)(s:Int×Int)(f w:Int):Int:=gH (NH b s f w)
def A0G(b:AJ)(h:Nat)(f:Nat→Int)(w:Int):Int:=HO (fun r=>HO (fun p=>zU b (r,p) h (f r) w) b.places.toNat) b.rows.toNat
def BBD(b:AJ)(plan:List (List Int))(t:List Int):Int:=HO (fun r=>HO (fun p=>(C7 b plan t r p).good) b.places.toNat) b.rows.toNat
def gK(b:AJ)(ws:List (List Int))(h:Nat)(f:Nat→Int):Int×Int:=FW (b.rows*b.places,0) ((ws.getD h []).map (A0G b h f))
def ANS(b:AJ)(ws plan:List (List Int)):Int×Int:=(HO (fun h=>(gK b ws h (BW plan h)).1) plan.length,HO (fun h=>(gK b ws h (BW plan h)).2) plan.length)
def zV(ws:List (List Int))(g:Nat→Int→Int):Int×Int:=A0E (1,0) ws g ws.length
def BOJ{α:Type}(l:List α)(q:α→Bool):Int:=if l.countP q=l.length then 1 else if l.countP q=0 then 2 else 3
end Go.Wind
namespace Go.Wind
def A0H(a b:Int):Int:=min (max (a-b) (b-a)) (4-max (a-b) (b-a))
def A0I(a b:Int):Int:=min ((b-a+4) % 4) ((a-b+4) % 4)
def qD(b:AJ)(f g:Nat→Int):Int:=HO (fun r=>A0H (f r) (g r)*b.places) b.rows.toNat
def qE(b:AJ)(plan:List (List Int))(h:Nat):Nat→Int:=if h=0 then fun r=>b.face.getD r 0 else BW plan (h-1)
def A0J(b:AJ)(plan:List (List Int))(n:Nat):Int:=HO (fun h=>qD b (qE b plan h) (BW plan h)) n
def A0K(b:AJ)(plan:List (List Int)):Int:=A0J b plan plan.length
def BHV(b:AJ)(plan:List (List Int)):Int:=HO (fun h=>HO (fun r=>A0I (qE b plan h r) (BW plan h r)*b.places) b.rows.toNat) plan.length
end Go.Wind
namespace Go.Wind
def mH:Int×Int:=(1099511627776,-1)
def A0L(b:AJ)(plan:List (List Int)):Int×Int:=FW mH ((DE b).map (BBD b plan))
def A6C(b:AJ)(plan:List (List Int))(r p:Nat):Int×Int:=FW mH ((DE b).map fun t=>(C7 b plan t r p).calm)
def A6D(b:AJ)(plan:List (List Int))(r p:Nat):Int×Int:=FW mH ((DE b).map fun t=>(C7 b plan t r p).good)
def gL(b:AJ)(ws plan:List (List Int))(r p:Nat):Int×Int:=zV ws fun h w=>A0F b (r,p) (BW plan h r) w
def gM(b:AJ)(ws plan:List (List Int))(r p:Nat):Int×Int:=zV ws fun h w=>zU b (r,p) h (BW plan h r) w
def KV(b:AJ)(plan:List (List Int))(r n:Nat):Int:=((dM (H4 b plan r) n:Nat):Int)
end Go.Wind
namespace Go.Wind
def AF2(g:List Int):Nat→Int:=fun r=>g.getD r 0
def BBE:List Int:=[0,1,2,3]
def BBF(R:Nat):List (List Int):=(R6 (List.replicate R BBE)).map (· ++ List.replicate (3-R) 0)
def AF3(l:List Int):List Int:=l++List.replicate (3-l.length) 0
def AJW(b:AJ)(ws:List (List Int))(h:Nat)(g:List Int):Int:=(gK b ws h (AF2 g)).1
def qF(b:AJ)(f g:List Int):Int:=qD b (AF2 f) (AF2 g)
def A0M(work sure:List Int→Int)(left:Int)(acc:Int×List Int)(g:List Int):Int×List Int:=if left<work g then acc else if acc.1<sure g then(sure g,g) else acc
def gN(b:AJ)(ws:List (List Int)):Nat→Nat→Int→List Int→Int×List Int
 | 0,_,_,_=>(0,[0,0,0])
 | d+1,h,left,f=>(BBF b.rows.toNat).foldl (A0M (qF b f) (fun g=>AJW b ws h g+(gN b ws d (h+1) (left-qF b f g) g).1) left) (-1,[0,0,0])
def BBG(b:AJ):List Int→List (List Int)→Int
 | _,[]=>0
 | f,g :: gs=>qF b f g+BBG b g gs
def BBH(b:AJ)(ws:List (List Int)):Nat→List (List Int)→Int
 | _,[]=>0
 | h,g :: gs=>AJW b ws h g+BBH b ws (h+1) gs
def AJX(b:AJ)(ws:List (List Int)):Nat→Nat→Int→List Int→List (List Int)
 | 0,_,_,_=>[]
 | d+1,h,left,f=>(gN b ws (d+1) h left f).2 :: AJX b ws d (h+1) (left-qF b f (gN b ws (d+1) h left f).2) (gN b ws (d+1) h left f).2
def BHW(b:AJ)(plan gs:List (List Int)):Prop:=plan.length=gs.length∧∀h,h<plan.length→∀r,r<b.rows.toNat→BW plan h r=AF2 (gs.getD h []) r
def BHX(b:AJ)(ws:List (List Int))(most:Int):Int:=(gN b ws b.winds.length 0 most (AF3 b.face)).1
def BBI(b:AJ)(ws:List (List Int))(most:Int):List (List Int):=(AJX b ws b.winds.length 0 most (AF3 b.face)).map (List.take b.rows.toNat)
end Go.Wind
namespace Go.Wind
theorem bB.sub{α:Type}{l m:List α}{f g:α→Int}{v w:Int}(hl:bB l f v)(hm:bB m g w)(hsub:∀x∈m,x∈l)(hfg:∀x∈m,f x≤g x):v≤w:=by
 obtain⟨x,h1,h2⟩:=hm.at'
 have:=hl.le x (hsub x h1)
 have:=hfg x h1
 omega
theorem bC.sub{α:Type}{l m:List α}{f g:α→Int}{v w:Int}(hl:bC l f v)(hm:bC m g w)(hsub:∀x∈m,x∈l)(hfg:∀x∈m,g x≤f x):w≤v:=by
 obtain⟨x,h1,h2⟩:=hm.at'
 have:=hl.le x (hsub x h1)
 have:=hfg x h1
 omega
end Go.Wind
namespace Go.Wind
def A6E(b:AJ):AJ:={ b with notes:=[] }
def BHY(b:AJ)(h:Nat):AJ:={ b with last:=0,sun:=[b.sun.getD h 0],winds:=[b.winds.getD h []],notes:=[] }
end Go.Wind
