/- What serves the contracts of IndexFunc and its like: a predicate with a state. No condition. (printed by pred.py) -/
import Derived.Test.YthhdhbalenanjaaGreatW1
open Go renaming FuncId->ck
open Go.Proofs.Tryz renaming prog->cj
open List renaming drop_eq_getElem_cons->bj,append_assoc->bk,map_append->bq,nil_append->bw,map_cons->bx,getElem_mem->bz,map_nil->bc,getElem?_append_right->bf,drop_zero->bg,length_append->bn,map->bp
open Nat renaming le_refl->bb,zero_le->bh
open Bool renaming not_not->bm
set_option maxRecDepth 100000
set_option linter.unusedSimpArgs false
open Go Go.Pg Go.Proofs Go.Wind
namespace Go.Wind
def B0{σ α:Type}(p:σ->α->Bool)(nx:σ->α->σ):σ->List α->Bool×σ
 |s,[]=>(false,s)
 |s,x::xs=>bif p s x then(true,nx s x) else B0 p nx (nx s x) xs
theorem F8{α:Type}(p:α->Bool):∀(xs:List α),B0 (fun (_:Unit) x=>p x) (fun _ _=>()) () xs=(xs.any p,())
 |[]=>rfl
 |x::xs=>by simp only[B0,List.any_cons,F8 p xs];cases p x<;>rfl
end Go.Wind
namespace Go.Proofs.Tryz.Op
def sI{σ:Type}(U:σ->List AA)(I:σ->Prop)(K:Nat)(f:ck)(cap:List V)(p:σ->Int->Bool)(nx:σ->Int->σ)(xs:List (Int))(c0:Nat):Prop:=∀n c fr s x,c0<=c->I s->x∈xs->(p s x=false->I (nx s x))/\∃c',c<=c'/\H9 (BS cj ann kn (n+K)) (some 16) ⟨c,fr,⟨U s,[]⟩⟩ f (i x::cap)=some ⟨c',(16,true,.bool (p s x))::fr,⟨U (nx s x),[]⟩⟩
theorem AAK{σ:Type}(n K:Nat)(U:σ->List AA)(I:σ->Prop)(f:ck)(cap:List V)(hcw:cap.map weakV=cap)(p:σ->Int->Bool)(nx:σ->Int->σ)(xs:List (Int))(c0:Nat)(hp:sI U I K f cap p nx xs c0)(hl:xs.length<=1000):∀(d k:Nat) (s:σ) (c m:Nat),k+d=xs.length->d<m->c0<=c->I s ->
  ∃(c':Nat) (j:Int),c<=c'/\0<=j/\A9 (AE cj ann kn (n+K+50) 19) TH (ann 19 (BV TH)) m ⟨c,[(0,true,.list false (xs.map AW)),(1,true,.fn f [] cap),(7,true,i xs.length),(8,true,i k)],⟨U s,[]⟩⟩ =
   bif (B0 p nx s (xs.drop k)).1 then some (.ret,⟨c',[(4,true,i j),(17,true,i j),(5,true,i j)],⟨U (B0 p nx s (xs.drop k)).2,[]⟩⟩)
   else some (.exit 0,⟨c',[(9,true,.bool false),(0,true,.list false (xs.map AW)),(1,true,.fn f [] cap),(7,true,i xs.length),(8,true,i xs.length)],⟨U (B0 p nx s (xs.drop k)).2,[]⟩⟩)
 |0,k,s,c,m+1,hd,hm,hc0,hi=>by
  have:k=xs.length:=by omega
  subst this;refine⟨c,0,bb _,by omega,?_⟩;simp[AB,B0]
 |d+1,k,s,c,m+1,hd,hm,hc0,hi=>by
  have hk:k<xs.length:=by omega
  have hw:=BH (k:=k) (by omega);have nrm:∀a:Nat,n+K+a=(n+a)+K:=fun a=>by omega
  rw[AB,bj hk];simp only[B0];obtain⟨hi',c1,hc1,q⟩:=hp (n+43) c [(15,true,i xs[k]),(14,true,.ref (AW xs[k])),(13,true,i k),(12,true,.list false (xs.map AW)),(11,true,.fn f [] cap),(0,true,.list false (xs.map AW)),(1,true,.fn f [] cap),(5,true,i k),(7,true,i xs.length),(8,true,i k)] s xs[k] hc0 hi (bz hk);generalize e:p s xs[k]=b at q hi';cases b with
  |true=>
   refine⟨c1,k,hc1,by omega,?_⟩
   try simp only[AW]at q
   rw[<-nrm]at q
   try simp at q
   simp[hk,AW,q,hcw]
  |false=>
   obtain⟨c',j,h1,h2,ih⟩:=AAK n K U I f cap hcw p nx xs c0 hp hl d (k+1) (nx s xs[k]) c1 m (by omega) (by omega) (by omega) (hi' rfl)
   refine⟨c',j,by omega,h2,?_⟩
   try simp only[AW]at q ih
   rw[<-nrm]at q
   try simp at q
   simp at ih
   simp[hk,hw,AW,q,ih,hcw]
theorem APB{σ:Type}(n K:Nat)(up:σ->List AA)(loc:σ->AA)(I:σ->Prop)(f:ck)(cap:List V)(hcw:cap.map weakV=cap)(hco:cap.all (AG 8)=false)(p:σ->Int->Bool)(nx:σ->Int->σ)(xs:List (Int))(c0:Nat)(hp:sI (fun s=>up s++[loc s]) I K f cap p nx xs c0)(hl:xs.length<=40)(hsh:∀s (t:St),(up s).length+1<=t.up.length->(up s++[loc s]).map (AJ t)=up s++[loc s])(c dd:Nat)(fr:Fr)(s:σ)(hc0:c0<=c)(hi:I s) :
  ∃(c':Nat) (j:Int),c<=c'/\decide (0<=j)=(B0 p nx s xs).1/\H9 (BS cj ann kn (n+K+100)) (some dd) ⟨c,fr,⟨up s,loc s⟩⟩ 190 [.list false (xs.map AW),.fn f [] cap]=some ⟨c',(dd,true,i j)::fr,⟨up (B0 p nx s xs).2,loc (B0 p nx s xs).2⟩⟩:=by
 obtain⟨c1,j,h1,h2,q⟩:=AAK (n+45) K (fun s=>up s++[loc s]) I f cap hcw p nx xs c0 hp (by omega) xs.length 0 s c (n+K+95) (by omega) (by omega) hc0 hi
 have e:n+45+K+50=n+K+95:=by omega
 rw[e]at q
 have hcl:([V.list false (xs.map AW),V.fn f [] cap]).all (AG 9)=false:=by simp[hco]
 have hs:=fun s=>hsh s ⟨up s++[loc s],[]⟩ (by simp)
 simp at hs
 rw[BC Tryz.func190 b190 rfl hcl]
 simp only[bg]at q
 generalize (B0 p nx s xs).2=s' at q|-
 generalize e:(B0 p nx s xs).1=b at q
 cases b with
 |true=>
  refine⟨c1,j,h1,by simpa using h2,?_⟩
  simp at q
  simp[ATJ,AF,q,hs]
 |false=>
  refine⟨c1,-1,h1,by simp,?_⟩
  simp at q
  simp[ATJ,AF,q,hs]
theorem ASW{σ:Type}(n K:Nat)(up:σ->List AA)(loc:σ->AA)(I:σ->Prop)(f:ck)(cap:List V)(hcw:cap.map weakV=cap)(hco:cap.all (AG 8)=false)(p:σ->Int->Bool)(nx:σ->Int->σ)(xs:List (Int))(c0:Nat)(hp:sI (fun s=>up s++[loc s]++[[]]) I K f cap p nx xs c0)(hl:xs.length<=40)(hsh:∀s (t:St),(up s).length+1<=t.up.length->(up s++[loc s]).map (AJ t)=up s++[loc s])(c dd:Nat)(fr:Fr)(s:σ)(hc0:c0<=c)(hi:I s) :
  ∃c':Nat,c<=c'/\H9 (BS cj ann kn (n+K+200)) (some dd) ⟨c,fr,⟨up s,loc s⟩⟩ 175 [.list false (xs.map AW),.fn f [] cap]=some ⟨c',(dd,true,.bool (B0 p nx s xs).1)::fr,⟨up (B0 p nx s xs).2,loc (B0 p nx s xs).2⟩⟩:=by
 have hcl:([V.list false (xs.map AW),V.fn f [] cap]).all (AG 9)=false:=by simp[hco]
 have hsh2:∀s (t:St),(up s++[loc s]).length+1<=t.up.length->(up s++[loc s]++[[]]).map (AJ t)=up s++[loc s]++[[]]:=fun s t h=>by have:=hsh s t (by simp at h;omega);simp only[bq,bx,bc,FZ]at this|-;rw[this]
 obtain⟨c1,j,h1,h2,q⟩:=APB (n+97) K (fun s=>up s++[loc s]) (fun _=>[]) I f cap hcw hco p nx xs c0 hp hl hsh2 c 7 [(6,true,.fn f [] cap),(5,true,.list false (xs.map AW)),(0,true,.list false (xs.map AW)),(1,true,.fn f [] cap)] s hc0 hi
 refine⟨c1,h1,?_⟩
 have e:n+97+K+100=n+K+197:=by omega
 rw[e]at q
 have hs:=fun s=>hsh s ⟨up s++[loc s],[]⟩ (by simp)
 simp at hs
 rw[BC Tryz.func175 b175 rfl hcl]
 simp[A4E,AF,q,h2,hs]
theorem AYK{σ:Type}(n K L:Nat)(up:σ->List AA)(loc:σ->AA)(hL:∀s,(up s).length=L)(I:σ->Prop)(f:ck)(cap:List V)(hcw:cap.map weakV=cap)(hco:cap.all (AG 8)=false)(p:σ->Int->Bool)(nx:σ->Int->σ)(xs:List (Int))(hl:xs.length<=40)
  (hsh:∀s (t:St),L+1<=t.up.length->(up s++[loc s]).map (AJ t)=up s++[loc s]) (hcap:∀(t:St) γ,L+1<=t.up.length->AJ t [(3,γ,A0.box [V.fn f [] cap])]=[(3,γ,A0.box [V.fn f [] cap])]) (c:Nat)
  (hp:∀n c1 fr s x,c<c1->I s->x∈xs->(p s x=true->I (nx s x))/\∃c',c1<=c'/\H9 (BS cj ann kn (n+K)) (some 6) ⟨c1,fr,⟨up s++[loc s]++[[(3,c,A0.box [V.fn f [] cap])]]++[[]]++[[]],[]⟩⟩ f (i x::cap)=some ⟨c',(6,true,.bool (p s x))::fr,⟨up (nx s x)++[loc (nx s x)]++[[(3,c,A0.box [V.fn f [] cap])]]++[[]]++[[]],[]⟩⟩) (dd:Nat) (fr:Fr) (s:σ) (hi:I s) :
  ∃c':Nat,c<=c'/\H9 (BS cj ann kn (n+K+300)) (some dd) ⟨c,fr,⟨up s,loc s⟩⟩ 144 [.list false (xs.map AW),.fn f [] cap]=some ⟨c',(dd,true,.bool (!(B0 (fun s x=>!p s x) nx s xs).1))::fr,⟨up (B0 (fun s x=>!p s x) nx s xs).2,loc (B0 (fun s x=>!p s x) nx s xs).2⟩⟩:=by
 have hcl:([V.list false (xs.map AW),V.fn f [] cap]).all (AG 9)=false:=by simp[hco]
 have hp2:sI (fun s=>up s++[loc s]++[[(3,c,A0.box [V.fn f [] cap])]]++[[]]) I (K+20) 176 [.ptr (L+1) 3 c 0] (fun s x=>!p s x) nx xs (c+1):=by
  have hcap':∀t:St,L+1<=t.up.length->AJ t [(3,c,A0.box [V.fn f [] cap])]=[(3,c,A0.box [V.fn f [] cap])]:=fun t h=>hcap t c h;intro n c1 fr s x hc0 hi hx;obtain⟨h1,c',h2,q⟩:=hp (n+17) c1 [(5,true,i x),(4,true,.fn f [] cap),(0,true,i x),(1,true,.ptr (L+1) 3 c 0)] s x hc0 hi hx;refine⟨fun h=>h1 (by simpa using h),c',h2,?_⟩;have e:n+17+K=n+K+17:=by omega
  rw[e]at q;rw[show n+(K+20)=n+K+20 from by omega,BC Tryz.func176 b176 rfl (by simp)];generalize hB:[(3,c,A0.box [V.fn f [] cap])]=B at q hcap';have hB1:AA.get B 3=some (c,.box [.fn f [] cap]):=by rw[<-hB];rfl
  have hg:(up s++[loc s]++[B]++[[]])[L+1]? = some B:=by simp only[bk];rw[bf (by rw[hL];omega)];simp[hL]
  have hs1:∀s (t:St),L+1<=t.up.length->bp (AJ t) (up s)=up s/\AJ t (loc s)=loc s:=fun s t h=>by simpa using hsh s t h
  have hu:∀(l:List AA) a b,CO (l++[a,b,[],[]])=some (l++[a,b,[]],[]):=fun l a b=>by have:=DG ([]:AA) (l++[a,b,[]]);rwa [bk]at this
  simp only[bk,List.cons_append,bw]at q hg|-;simp[hu,ATL,AF,hcw,q,hL,hB1,(hs1 _ _ _).1,(hs1 _ _ _).2,hcap']
 have hsh2:∀s (t:St),(up s++[loc s]).length+1<=t.up.length->(up s++[loc s]++[[(3,c,A0.box [V.fn f [] cap])]]).map (AJ t)=up s++[loc s]++[[(3,c,A0.box [V.fn f [] cap])]]:=fun s t h=>by
  have h':L+1<=t.up.length:=by simp[hL]at h;omega
  have:=hsh s t h';have h3:=hcap t c h';rw[bq,this];simp only[bx,bc,h3]
 obtain⟨c',h1,q⟩:=ASW (n+77) (K+20) (fun s=>up s++[loc s]) (fun _=>[(3,c,A0.box [V.fn f [] cap])]) I 176 [.ptr (L+1) 3 c 0] (by simp) (by simp) (fun s x=>!p s x) nx xs (c+1) hp2 hl hsh2 (c+1) 7 [(6,true,.fn 176 [] [.ptr (L+1) 3 c 0]),(5,true,.list false (xs.map AW)),(0,true,.list false (xs.map AW)),(1,true,.fn f [] cap),(3,true,.ptr (L+1) 3 c 0)] s (bb _) hi
 refine⟨c',by omega,?_⟩
 have e:n+77+(K+20)+200=n+K+297:=by omega
 rw[e]at q
 have hs1:∀s (t:St),L+1<=t.up.length->bp (AJ t) (up s)=up s/\AJ t (loc s)=loc s:=fun s t h=>by simpa using hsh s t h
 rw[BC Tryz.func144 b144 rfl hcl]
 try simp only[bn,List.length_cons,List.length_nil]at q|-
 simp[ATK,AF,hL,q,(hs1 _ _ _).1,(hs1 _ _ _).2]
theorem AKC(n K:Nat)(f:ck)(p:Int->Bool)(xs:List (Int))(hl:xs.length<=40)(hf:∀n x,x∈xs->AZ cj kn (AE cj ann kn (n+K)) f [i x]=some (.bool (p x)))(hh:BJ cj f=false:=by simp) :
  AZ cj kn (AE cj ann kn (n+K+300)) 144 [.list false (xs.map AW),.fn f [] []]=some (.bool (xs.all p)):=by
 rw[AN rfl,AO Tryz.func144 b144 rfl (by simp[AW])]
 have hp2:sI (fun (_:Unit)=>[]++[[(3,0,A0.box [V.fn f [] []])]]++[[]]) (fun _=>True) (K+20) 176 [.ptr 0 3 0 0] (fun _ x=>!p x) (fun _ _=>()) xs 0:=by
  intro n c1 fr s x hc0 hi hx;refine⟨fun _=>trivial,c1+0,by omega,?_⟩;have q:=fun n=>hf n x hx;have q2:=q (n+17);have e:n+17+K=n+K+17:=by omega
  rw[e]at q2;skip;try simp[AW]at q2
  rw[show n+(K+20)=n+K+20 from by omega,bw,BC Tryz.func176 b176 rfl (by simp)];simp[ATL,AF,q2,hh];try simp[AW,q2,hh]
 obtain⟨c',h1,q⟩:=ASW (n+77) (K+20) (fun _=>[]) (fun _=>[(3,0,.box [.fn f [] []])]) (fun _=>True) 176 [.ptr 0 3 0 0] (by simp) (by simp) (fun _ x=>!p x) (fun _ _=>()) xs 0 hp2 hl (by simp) 1 7 [(6,true,.fn 176 [] [.ptr 0 3 0 0]),(5,true,.list false (xs.map AW)),(0,true,.list false (xs.map AW)),(1,true,.fn f [] []),(3,true,.ptr 0 3 0 0)] () (bh _) trivial
 have e:n+77+(K+20)+200=n+K+297:=by omega
 rw[e,F8]at q
 have:=LH p xs
 skip
 simp[ATK,AF,q]
 rw[<-this,bm]
def sJ{σ:Type}(U:σ->List AA)(I:σ->Prop)(K:Nat)(f:ck)(cap:List V)(p:σ->List Int->Bool)(nx:σ->List Int->σ)(xs:List (List Int))(c0:Nat):Prop:=∀n c fr s x,c0<=c->I s->x∈xs->(p s x=false->I (nx s x))/\∃c',c<=c'/\H9 (BS cj ann kn (n+K)) (some 16) ⟨c,fr,⟨U s,[]⟩⟩ f (li x::cap)=some ⟨c',(16,true,.bool (p s x))::fr,⟨U (nx s x),[]⟩⟩
theorem AAL{σ:Type}(n K:Nat)(U:σ->List AA)(I:σ->Prop)(f:ck)(cap:List V)(hcw:cap.map weakV=cap)(p:σ->List Int->Bool)(nx:σ->List Int->σ)(xs:List (List Int))(c0:Nat)(hp:sJ U I K f cap p nx xs c0)(hl:xs.length<=1000):∀(d k:Nat) (s:σ) (c m:Nat),k+d=xs.length->d<m->c0<=c->I s ->
  ∃(c':Nat) (j:Int),c<=c'/\0<=j/\A9 (AE cj ann kn (n+K+50) 19) TI (ann 19 (BV TI)) m ⟨c,[(0,true,.list false (xs.map AY)),(1,true,.fn f [] cap),(7,true,i xs.length),(8,true,i k)],⟨U s,[]⟩⟩ =
   bif (B0 p nx s (xs.drop k)).1 then some (.ret,⟨c',[(4,true,i j),(17,true,i j),(5,true,i j)],⟨U (B0 p nx s (xs.drop k)).2,[]⟩⟩)
   else some (.exit 0,⟨c',[(9,true,.bool false),(0,true,.list false (xs.map AY)),(1,true,.fn f [] cap),(7,true,i xs.length),(8,true,i xs.length)],⟨U (B0 p nx s (xs.drop k)).2,[]⟩⟩)
 |0,k,s,c,m+1,hd,hm,hc0,hi=>by
  have:k=xs.length:=by omega
  subst this;refine⟨c,0,bb _,by omega,?_⟩;simp[AB,B0]
 |d+1,k,s,c,m+1,hd,hm,hc0,hi=>by
  have hk:k<xs.length:=by omega
  have hw:=BH (k:=k) (by omega);have nrm:∀a:Nat,n+K+a=(n+a)+K:=fun a=>by omega
  rw[AB,bj hk];simp only[B0];obtain⟨hi',c1,hc1,q⟩:=hp (n+43) c [(15,true,li xs[k]),(14,true,.ref (AY xs[k])),(13,true,i k),(12,true,.list false (xs.map AY)),(11,true,.fn f [] cap),(0,true,.list false (xs.map AY)),(1,true,.fn f [] cap),(5,true,i k),(7,true,i xs.length),(8,true,i k)] s xs[k] hc0 hi (bz hk);generalize e:p s xs[k]=b at q hi';cases b with
  |true=>
   refine⟨c1,k,hc1,by omega,?_⟩
   try simp only[AY]at q
   rw[<-nrm]at q
   try simp at q
   simp[hk,AY,q,hcw]
  |false=>
   obtain⟨c',j,h1,h2,ih⟩:=AAL n K U I f cap hcw p nx xs c0 hp hl d (k+1) (nx s xs[k]) c1 m (by omega) (by omega) (by omega) (hi' rfl)
   refine⟨c',j,by omega,h2,?_⟩
   try simp only[AY]at q ih
   rw[<-nrm]at q
   try simp at q
   simp at ih
   simp[hk,hw,AY,q,ih,hcw]
theorem APC{σ:Type}(n K:Nat)(up:σ->List AA)(loc:σ->AA)(I:σ->Prop)(f:ck)(cap:List V)(hcw:cap.map weakV=cap)(hco:cap.all (AG 8)=false)(p:σ->List Int->Bool)(nx:σ->List Int->σ)(xs:List (List Int))(c0:Nat)(hp:sJ (fun s=>up s++[loc s]) I K f cap p nx xs c0)(hl:xs.length<=40)(hsh:∀s (t:St),(up s).length+1<=t.up.length->(up s++[loc s]).map (AJ t)=up s++[loc s])(c dd:Nat)(fr:Fr)(s:σ)(hc0:c0<=c)(hi:I s) :
  ∃(c':Nat) (j:Int),c<=c'/\decide (0<=j)=(B0 p nx s xs).1/\H9 (BS cj ann kn (n+K+100)) (some dd) ⟨c,fr,⟨up s,loc s⟩⟩ 191 [.list false (xs.map AY),.fn f [] cap]=some ⟨c',(dd,true,i j)::fr,⟨up (B0 p nx s xs).2,loc (B0 p nx s xs).2⟩⟩:=by
 obtain⟨c1,j,h1,h2,q⟩:=AAL (n+45) K (fun s=>up s++[loc s]) I f cap hcw p nx xs c0 hp (by omega) xs.length 0 s c (n+K+95) (by omega) (by omega) hc0 hi
 have e:n+45+K+50=n+K+95:=by omega
 rw[e]at q
 have hcl:([V.list false (xs.map AY),V.fn f [] cap]).all (AG 9)=false:=by simp[hco]
 have hs:=fun s=>hsh s ⟨up s++[loc s],[]⟩ (by simp)
 simp at hs
 rw[BC Tryz.func191 b191 rfl hcl]
 simp only[bg]at q
 generalize (B0 p nx s xs).2=s' at q|-
 generalize e:(B0 p nx s xs).1=b at q
 cases b with
 |true=>
  refine⟨c1,j,h1,by simpa using h2,?_⟩
  simp at q
  simp[ATM,AF,q,hs]
 |false=>
  refine⟨c1,-1,h1,by simp,?_⟩
  simp at q
  simp[ATM,AF,q,hs]
theorem ASX{σ:Type}(n K:Nat)(up:σ->List AA)(loc:σ->AA)(I:σ->Prop)(f:ck)(cap:List V)(hcw:cap.map weakV=cap)(hco:cap.all (AG 8)=false)(p:σ->List Int->Bool)(nx:σ->List Int->σ)(xs:List (List Int))(c0:Nat)(hp:sJ (fun s=>up s++[loc s]++[[]]) I K f cap p nx xs c0)(hl:xs.length<=40)(hsh:∀s (t:St),(up s).length+1<=t.up.length->(up s++[loc s]).map (AJ t)=up s++[loc s])(c dd:Nat)(fr:Fr)(s:σ)(hc0:c0<=c)(hi:I s) :
  ∃c':Nat,c<=c'/\H9 (BS cj ann kn (n+K+200)) (some dd) ⟨c,fr,⟨up s,loc s⟩⟩ 177 [.list false (xs.map AY),.fn f [] cap]=some ⟨c',(dd,true,.bool (B0 p nx s xs).1)::fr,⟨up (B0 p nx s xs).2,loc (B0 p nx s xs).2⟩⟩:=by
 have hcl:([V.list false (xs.map AY),V.fn f [] cap]).all (AG 9)=false:=by simp[hco]
 have hsh2:∀s (t:St),(up s++[loc s]).length+1<=t.up.length->(up s++[loc s]++[[]]).map (AJ t)=up s++[loc s]++[[]]:=fun s t h=>by have:=hsh s t (by simp at h;omega);simp only[bq,bx,bc,FZ]at this|-;rw[this]
 obtain⟨c1,j,h1,h2,q⟩:=APC (n+97) K (fun s=>up s++[loc s]) (fun _=>[]) I f cap hcw hco p nx xs c0 hp hl hsh2 c 7 [(6,true,.fn f [] cap),(5,true,.list false (xs.map AY)),(0,true,.list false (xs.map AY)),(1,true,.fn f [] cap)] s hc0 hi
 refine⟨c1,h1,?_⟩
 have e:n+97+K+100=n+K+197:=by omega
 rw[e]at q
 have hs:=fun s=>hsh s ⟨up s++[loc s],[]⟩ (by simp)
 simp at hs
 rw[BC Tryz.func177 b177 rfl hcl]
 simp[A4F,AF,q,h2,hs]
theorem AYL{σ:Type}(n K L:Nat)(up:σ->List AA)(loc:σ->AA)(hL:∀s,(up s).length=L)(I:σ->Prop)(f:ck)(cap:List V)(hcw:cap.map weakV=cap)(hco:cap.all (AG 8)=false)(p:σ->List Int->Bool)(nx:σ->List Int->σ)(xs:List (List Int))(hl:xs.length<=40)
  (hsh:∀s (t:St),L+1<=t.up.length->(up s++[loc s]).map (AJ t)=up s++[loc s]) (hcap:∀(t:St) γ,L+1<=t.up.length->AJ t [(3,γ,A0.box [V.fn f [] cap])]=[(3,γ,A0.box [V.fn f [] cap])]) (c:Nat)
  (hp:∀n c1 fr s x,c<c1->I s->x∈xs->(p s x=true->I (nx s x))/\∃c',c1<=c'/\H9 (BS cj ann kn (n+K)) (some 6) ⟨c1,fr,⟨up s++[loc s]++[[(3,c,A0.box [V.fn f [] cap])]]++[[]]++[[]],[]⟩⟩ f (li x::cap)=some ⟨c',(6,true,.bool (p s x))::fr,⟨up (nx s x)++[loc (nx s x)]++[[(3,c,A0.box [V.fn f [] cap])]]++[[]]++[[]],[]⟩⟩) (dd:Nat) (fr:Fr) (s:σ) (hi:I s) :
  ∃c':Nat,c<=c'/\H9 (BS cj ann kn (n+K+300)) (some dd) ⟨c,fr,⟨up s,loc s⟩⟩ 147 [.list false (xs.map AY),.fn f [] cap]=some ⟨c',(dd,true,.bool (!(B0 (fun s x=>!p s x) nx s xs).1))::fr,⟨up (B0 (fun s x=>!p s x) nx s xs).2,loc (B0 (fun s x=>!p s x) nx s xs).2⟩⟩:=by
 have hcl:([V.list false (xs.map AY),V.fn f [] cap]).all (AG 9)=false:=by simp[hco]
 have hp2:sJ (fun s=>up s++[loc s]++[[(3,c,A0.box [V.fn f [] cap])]]++[[]]) I (K+20) 178 [.ptr (L+1) 3 c 0] (fun s x=>!p s x) nx xs (c+1):=by
  have hcap':∀t:St,L+1<=t.up.length->AJ t [(3,c,A0.box [V.fn f [] cap])]=[(3,c,A0.box [V.fn f [] cap])]:=fun t h=>hcap t c h;intro n c1 fr s x hc0 hi hx;obtain⟨h1,c',h2,q⟩:=hp (n+17) c1 [(5,true,li x),(4,true,.fn f [] cap),(0,true,li x),(1,true,.ptr (L+1) 3 c 0)] s x hc0 hi hx;refine⟨fun h=>h1 (by simpa using h),c',h2,?_⟩;have e:n+17+K=n+K+17:=by omega
  rw[e]at q;rw[show n+(K+20)=n+K+20 from by omega,BC Tryz.func178 b178 rfl (by simp)];generalize hB:[(3,c,A0.box [V.fn f [] cap])]=B at q hcap';have hB1:AA.get B 3=some (c,.box [.fn f [] cap]):=by rw[<-hB];rfl
  have hg:(up s++[loc s]++[B]++[[]])[L+1]? = some B:=by simp only[bk];rw[bf (by rw[hL];omega)];simp[hL]
  have hs1:∀s (t:St),L+1<=t.up.length->bp (AJ t) (up s)=up s/\AJ t (loc s)=loc s:=fun s t h=>by simpa using hsh s t h
  have hu:∀(l:List AA) a b,CO (l++[a,b,[],[]])=some (l++[a,b,[]],[]):=fun l a b=>by have:=DG ([]:AA) (l++[a,b,[]]);rwa [bk]at this
  simp only[bk,List.cons_append,bw]at q hg|-;simp[hu,ATO,AF,hcw,q,hL,hB1,(hs1 _ _ _).1,(hs1 _ _ _).2,hcap']
 have hsh2:∀s (t:St),(up s++[loc s]).length+1<=t.up.length->(up s++[loc s]++[[(3,c,A0.box [V.fn f [] cap])]]).map (AJ t)=up s++[loc s]++[[(3,c,A0.box [V.fn f [] cap])]]:=fun s t h=>by
  have h':L+1<=t.up.length:=by simp[hL]at h;omega
  have:=hsh s t h';have h3:=hcap t c h';rw[bq,this];simp only[bx,bc,h3]
 obtain⟨c',h1,q⟩:=ASX (n+77) (K+20) (fun s=>up s++[loc s]) (fun _=>[(3,c,A0.box [V.fn f [] cap])]) I 178 [.ptr (L+1) 3 c 0] (by simp) (by simp) (fun s x=>!p s x) nx xs (c+1) hp2 hl hsh2 (c+1) 7 [(6,true,.fn 178 [] [.ptr (L+1) 3 c 0]),(5,true,.list false (xs.map AY)),(0,true,.list false (xs.map AY)),(1,true,.fn f [] cap),(3,true,.ptr (L+1) 3 c 0)] s (bb _) hi
 refine⟨c',by omega,?_⟩
 have e:n+77+(K+20)+200=n+K+297:=by omega
 rw[e]at q
 have hs1:∀s (t:St),L+1<=t.up.length->bp (AJ t) (up s)=up s/\AJ t (loc s)=loc s:=fun s t h=>by simpa using hsh s t h
 rw[BC Tryz.func147 b147 rfl hcl]
 try simp only[bn,List.length_cons,List.length_nil]at q|-
 simp[ATN,AF,hL,q,(hs1 _ _ _).1,(hs1 _ _ _).2]
theorem BBF(n K:Nat)(f:ck)(p:List Int->Bool)(xs:List (List Int))(hl:xs.length<=40)(hf:∀n x,x∈xs->AZ cj kn (AE cj ann kn (n+K)) f [li x]=some (.bool (p x)))(hh:BJ cj f=false:=by simp) :
  AZ cj kn (AE cj ann kn (n+K+300)) 147 [.list false (xs.map AY),.fn f [] []]=some (.bool (xs.all p)):=by
 rw[AN rfl,AO Tryz.func147 b147 rfl (by simp[AW,AY])]
 have hp2:sJ (fun (_:Unit)=>[]++[[(3,0,A0.box [V.fn f [] []])]]++[[]]) (fun _=>True) (K+20) 178 [.ptr 0 3 0 0] (fun _ x=>!p x) (fun _ _=>()) xs 0:=by
  intro n c1 fr s x hc0 hi hx;refine⟨fun _=>trivial,c1+0,by omega,?_⟩;have q:=fun n=>hf n x hx;have q2:=q (n+17);have e:n+17+K=n+K+17:=by omega
  rw[e]at q2;skip;try simp[AW]at q2
  rw[show n+(K+20)=n+K+20 from by omega,bw,BC Tryz.func178 b178 rfl (by simp)];simp[ATO,AF,AW,q2,hh];try simp[AW,q2,hh]
 obtain⟨c',h1,q⟩:=ASX (n+77) (K+20) (fun _=>[]) (fun _=>[(3,0,.box [.fn f [] []])]) (fun _=>True) 178 [.ptr 0 3 0 0] (by simp) (by simp) (fun _ x=>!p x) (fun _ _=>()) xs 0 hp2 hl (by simp) 1 7 [(6,true,.fn 178 [] [.ptr 0 3 0 0]),(5,true,.list false (xs.map AY)),(0,true,.list false (xs.map AY)),(1,true,.fn f [] []),(3,true,.ptr 0 3 0 0)] () (bh _) trivial
 have e:n+77+(K+20)+200=n+K+297:=by omega
 rw[e,F8]at q
 have:=LH p xs
 skip
 simp[ATN,AF,q]
 rw[<-this,bm]
def AAM{σ:Type}(U:σ->List AA)(I:σ->Prop)(K:Nat)(f:ck)(cap:List V)(p:σ->Int×Int->Bool)(nx:σ->Int×Int->σ)(xs:List (Int×Int))(c0:Nat):Prop:=∀n c fr s x,c0<=c->I s->x∈xs->(p s x=false->I (nx s x))/\∃c',c<=c'/\H9 (BS cj ann kn (n+K)) (some 16) ⟨c,fr,⟨U s,[]⟩⟩ f (.agg (AH x)::cap)=some ⟨c',(16,true,.bool (p s x))::fr,⟨U (nx s x),[]⟩⟩
theorem AAN{σ:Type}(n K:Nat)(U:σ->List AA)(I:σ->Prop)(f:ck)(cap:List V)(hcw:cap.map weakV=cap)(p:σ->Int×Int->Bool)(nx:σ->Int×Int->σ)(xs:List (Int×Int))(c0:Nat)(hp:AAM U I K f cap p nx xs c0)(hl:xs.length<=1000):∀(d k:Nat) (s:σ) (c m:Nat),k+d=xs.length->d<m->c0<=c->I s ->
  ∃(c':Nat) (j:Int),c<=c'/\0<=j/\A9 (AE cj ann kn (n+K+50) 19) TJ (ann 19 (BV TJ)) m ⟨c,[(0,true,.list false (xs.map AH)),(1,true,.fn f [] cap),(7,true,i xs.length),(8,true,i k)],⟨U s,[]⟩⟩ =
   bif (B0 p nx s (xs.drop k)).1 then some (.ret,⟨c',[(4,true,i j),(17,true,i j),(5,true,i j)],⟨U (B0 p nx s (xs.drop k)).2,[]⟩⟩)
   else some (.exit 0,⟨c',[(9,true,.bool false),(0,true,.list false (xs.map AH)),(1,true,.fn f [] cap),(7,true,i xs.length),(8,true,i xs.length)],⟨U (B0 p nx s (xs.drop k)).2,[]⟩⟩)
 |0,k,s,c,m+1,hd,hm,hc0,hi=>by
  have:k=xs.length:=by omega
  subst this;refine⟨c,0,bb _,by omega,?_⟩;simp[AB,B0]
 |d+1,k,s,c,m+1,hd,hm,hc0,hi=>by
  have hk:k<xs.length:=by omega
  have hw:=BH (k:=k) (by omega);have nrm:∀a:Nat,n+K+a=(n+a)+K:=fun a=>by omega
  rw[AB,bj hk];simp only[B0];obtain⟨hi',c1,hc1,q⟩:=hp (n+43) c [(15,true,.agg (AH xs[k])),(14,true,.ref (AH xs[k])),(13,true,i k),(12,true,.list false (xs.map AH)),(11,true,.fn f [] cap),(0,true,.list false (xs.map AH)),(1,true,.fn f [] cap),(5,true,i k),(7,true,i xs.length),(8,true,i k)] s xs[k] hc0 hi (bz hk);generalize e:p s xs[k]=b at q hi';cases b with
  |true=>
   refine⟨c1,k,hc1,by omega,?_⟩
   try simp only[AH]at q
   rw[<-nrm]at q
   try simp at q
   simp[hk,AH,q,hcw]
  |false=>
   obtain⟨c',j,h1,h2,ih⟩:=AAN n K U I f cap hcw p nx xs c0 hp hl d (k+1) (nx s xs[k]) c1 m (by omega) (by omega) (by omega) (hi' rfl)
   refine⟨c',j,by omega,h2,?_⟩
   try simp only[AH]at q ih
   rw[<-nrm]at q
   try simp at q
   simp at ih
   simp[hk,hw,AH,q,ih,hcw]
theorem APD{σ:Type}(n K:Nat)(up:σ->List AA)(loc:σ->AA)(I:σ->Prop)(f:ck)(cap:List V)(hcw:cap.map weakV=cap)(hco:cap.all (AG 8)=false)(p:σ->Int×Int->Bool)(nx:σ->Int×Int->σ)(xs:List (Int×Int))(c0:Nat)(hp:AAM (fun s=>up s++[loc s]) I K f cap p nx xs c0)(hl:xs.length<=40)(hsh:∀s (t:St),(up s).length+1<=t.up.length->(up s++[loc s]).map (AJ t)=up s++[loc s])(c dd:Nat)(fr:Fr)(s:σ)(hc0:c0<=c)(hi:I s) :
  ∃(c':Nat) (j:Int),c<=c'/\decide (0<=j)=(B0 p nx s xs).1/\H9 (BS cj ann kn (n+K+100)) (some dd) ⟨c,fr,⟨up s,loc s⟩⟩ 192 [.list false (xs.map AH),.fn f [] cap]=some ⟨c',(dd,true,i j)::fr,⟨up (B0 p nx s xs).2,loc (B0 p nx s xs).2⟩⟩:=by
 obtain⟨c1,j,h1,h2,q⟩:=AAN (n+45) K (fun s=>up s++[loc s]) I f cap hcw p nx xs c0 hp (by omega) xs.length 0 s c (n+K+95) (by omega) (by omega) hc0 hi
 have e:n+45+K+50=n+K+95:=by omega
 rw[e]at q
 have hcl:([V.list false (xs.map AH),V.fn f [] cap]).all (AG 9)=false:=by simp[hco]
 have hs:=fun s=>hsh s ⟨up s++[loc s],[]⟩ (by simp)
 simp at hs
 rw[BC Tryz.func192 b192 rfl hcl]
 simp only[bg]at q
 generalize (B0 p nx s xs).2=s' at q|-
 generalize e:(B0 p nx s xs).1=b at q
 cases b with
 |true=>
  refine⟨c1,j,h1,by simpa using h2,?_⟩
  simp at q
  simp[ATQ,AF,q,hs]
 |false=>
  refine⟨c1,-1,h1,by simp,?_⟩
  simp at q
  simp[ATQ,AF,q,hs]
theorem ASY{σ:Type}(n K:Nat)(up:σ->List AA)(loc:σ->AA)(I:σ->Prop)(f:ck)(cap:List V)(hcw:cap.map weakV=cap)(hco:cap.all (AG 8)=false)(p:σ->Int×Int->Bool)(nx:σ->Int×Int->σ)(xs:List (Int×Int))(c0:Nat)(hp:AAM (fun s=>up s++[loc s]++[[]]) I K f cap p nx xs c0)(hl:xs.length<=40)(hsh:∀s (t:St),(up s).length+1<=t.up.length->(up s++[loc s]).map (AJ t)=up s++[loc s])(c dd:Nat)(fr:Fr)(s:σ)(hc0:c0<=c)(hi:I s) :
  ∃c':Nat,c<=c'/\H9 (BS cj ann kn (n+K+200)) (some dd) ⟨c,fr,⟨up s,loc s⟩⟩ 180 [.list false (xs.map AH),.fn f [] cap]=some ⟨c',(dd,true,.bool (B0 p nx s xs).1)::fr,⟨up (B0 p nx s xs).2,loc (B0 p nx s xs).2⟩⟩:=by
 have hcl:([V.list false (xs.map AH),V.fn f [] cap]).all (AG 9)=false:=by simp[hco]
 have hsh2:∀s (t:St),(up s++[loc s]).length+1<=t.up.length->(up s++[loc s]++[[]]).map (AJ t)=up s++[loc s]++[[]]:=fun s t h=>by have:=hsh s t (by simp at h;omega);simp only[bq,bx,bc,FZ]at this|-;rw[this]
 obtain⟨c1,j,h1,h2,q⟩:=APD (n+97) K (fun s=>up s++[loc s]) (fun _=>[]) I f cap hcw hco p nx xs c0 hp hl hsh2 c 7 [(6,true,.fn f [] cap),(5,true,.list false (xs.map AH)),(0,true,.list false (xs.map AH)),(1,true,.fn f [] cap)] s hc0 hi
 refine⟨c1,h1,?_⟩
 have e:n+97+K+100=n+K+197:=by omega
 rw[e]at q
 have hs:=fun s=>hsh s ⟨up s++[loc s],[]⟩ (by simp)
 simp at hs
 rw[BC Tryz.func180 b180 rfl hcl]
 simp[A4N,AF,q,h2,hs]
theorem BBG(n K:Nat)(b:AK)(f:ck)(p:Int×Int->Bool)(xs:List (Int×Int))(hl:xs.length<=40)(hf:∀n x,x∈xs->AZ cj kn (AE cj ann kn (n+K)) f [.agg (AC b),.agg (AH x)]=some (.bool (p x)))(hh:BJ cj f=false:=by simp) :
  AZ cj kn (AE cj ann kn (n+K+300)) 149 [.list false (xs.map AH),.fn f [.agg (AC b)] []]=some (.bool (xs.all p)):=by
 rw[AN rfl,AO Tryz.func149 BE7 rfl (by simp[AC,AW,AY,AH])]
 have hp2:AAM (fun (_:Unit)=>[]++[[(3,0,A0.box [V.fn f [.agg (AC b)] []])]]++[[]]) (fun _=>True) (K+20) 181 [.ptr 0 3 0 0] (fun _ x=>!p x) (fun _ _=>()) xs 0:=by
  intro n c1 fr s x hc0 hi hx;refine⟨fun _=>trivial,c1+1,by omega,?_⟩;have q:=fun n=>hf n x hx;have q2:=q (n+17);have e:n+17+K=n+K+17:=by omega
  rw[e]at q2;simp only[AC,AH]at q2|-;try simp[AW]at q2
  rw[show n+(K+20)=n+K+20 from by omega,bw,BC Tryz.func181 b181 rfl (by simp)];simp[A4P,AF,AW,AY,AH,q2,hh];try simp[AC,AW,AY,AH,q2,hh]
 obtain⟨c',h1,q⟩:=ASY (n+77) (K+20) (fun _=>[]) (fun _=>[(3,0,.box [.fn f [.agg (AC b)] []])]) (fun _=>True) 181 [.ptr 0 3 0 0] (by simp) (by simp) (fun _ x=>!p x) (fun _ _=>()) xs 0 hp2 hl (by simp[AC]) 1 7 [(6,true,.fn 181 [] [.ptr 0 3 0 0]),(5,true,.list false (xs.map AH)),(0,true,.list false (xs.map AH)),(1,true,.fn f [.agg (AC b)] []),(3,true,.ptr 0 3 0 0)] () (bh _) trivial
 have e:n+77+(K+20)+200=n+K+297:=by omega
 rw[e,F8]at q
 have:=LH p xs
 simp only[AC]at q|-
 simp[A4O,AF,q]
 rw[<-this,bm]
def AAO{σ:Type}(U:σ->List AA)(I:σ->Prop)(K:Nat)(f:ck)(cap:List V)(p:σ->Int×Int->Bool)(nx:σ->Int×Int->σ)(xs:List (Int×Int))(c0:Nat):Prop:=∀n c fr s x,c0<=c->I s->x∈xs->(p s x=false->I (nx s x))/\∃c',c<=c'/\H9 (BS cj ann kn (n+K)) (some 16) ⟨c,fr,⟨U s,[]⟩⟩ f (.agg (AH x)::cap)=some ⟨c',(16,true,.bool (p s x))::fr,⟨U (nx s x),[]⟩⟩
theorem AAP{σ:Type}(n K:Nat)(U:σ->List AA)(I:σ->Prop)(f:ck)(cap:List V)(hcw:cap.map weakV=cap)(p:σ->Int×Int->Bool)(nx:σ->Int×Int->σ)(xs:List (Int×Int))(c0:Nat)(hp:AAO U I K f cap p nx xs c0)(hl:xs.length<=1000):∀(d k:Nat) (s:σ) (c m:Nat),k+d=xs.length->d<m->c0<=c->I s ->
  ∃(c':Nat) (j:Int),c<=c'/\0<=j/\A9 (AE cj ann kn (n+K+50) 19) TK (ann 19 (BV TK)) m ⟨c,[(0,true,.list false (xs.map AH)),(1,true,.fn f [] cap),(7,true,i xs.length),(8,true,i k)],⟨U s,[]⟩⟩ =
   bif (B0 p nx s (xs.drop k)).1 then some (.ret,⟨c',[(4,true,i j),(17,true,i j),(5,true,i j)],⟨U (B0 p nx s (xs.drop k)).2,[]⟩⟩)
   else some (.exit 0,⟨c',[(9,true,.bool false),(0,true,.list false (xs.map AH)),(1,true,.fn f [] cap),(7,true,i xs.length),(8,true,i xs.length)],⟨U (B0 p nx s (xs.drop k)).2,[]⟩⟩)
 |0,k,s,c,m+1,hd,hm,hc0,hi=>by
  have:k=xs.length:=by omega
  subst this;refine⟨c,0,bb _,by omega,?_⟩;simp[AB,B0]
 |d+1,k,s,c,m+1,hd,hm,hc0,hi=>by
  have hk:k<xs.length:=by omega
  have hw:=BH (k:=k) (by omega);have nrm:∀a:Nat,n+K+a=(n+a)+K:=fun a=>by omega
  rw[AB,bj hk];simp only[B0];obtain⟨hi',c1,hc1,q⟩:=hp (n+43) c [(15,true,.agg (AH xs[k])),(14,true,.ref (AH xs[k])),(13,true,i k),(12,true,.list false (xs.map AH)),(11,true,.fn f [] cap),(0,true,.list false (xs.map AH)),(1,true,.fn f [] cap),(5,true,i k),(7,true,i xs.length),(8,true,i k)] s xs[k] hc0 hi (bz hk);generalize e:p s xs[k]=b at q hi';cases b with
  |true=>
   refine⟨c1,k,hc1,by omega,?_⟩
   try simp only[AH]at q
   rw[<-nrm]at q
   try simp at q
   simp[hk,AH,q,hcw]
  |false=>
   obtain⟨c',j,h1,h2,ih⟩:=AAP n K U I f cap hcw p nx xs c0 hp hl d (k+1) (nx s xs[k]) c1 m (by omega) (by omega) (by omega) (hi' rfl)
   refine⟨c',j,by omega,h2,?_⟩
   try simp only[AH]at q ih
   rw[<-nrm]at q
   try simp at q
   simp at ih
   simp[hk,hw,AH,q,ih,hcw]
theorem APE{σ:Type}(n K:Nat)(up:σ->List AA)(loc:σ->AA)(I:σ->Prop)(f:ck)(cap:List V)(hcw:cap.map weakV=cap)(hco:cap.all (AG 8)=false)(p:σ->Int×Int->Bool)(nx:σ->Int×Int->σ)(xs:List (Int×Int))(c0:Nat)(hp:AAO (fun s=>up s++[loc s]) I K f cap p nx xs c0)(hl:xs.length<=40)(hsh:∀s (t:St),(up s).length+1<=t.up.length->(up s++[loc s]).map (AJ t)=up s++[loc s])(c dd:Nat)(fr:Fr)(s:σ)(hc0:c0<=c)(hi:I s) :
  ∃(c':Nat) (j:Int),c<=c'/\decide (0<=j)=(B0 p nx s xs).1/\H9 (BS cj ann kn (n+K+100)) (some dd) ⟨c,fr,⟨up s,loc s⟩⟩ 193 [.list false (xs.map AH),.fn f [] cap]=some ⟨c',(dd,true,i j)::fr,⟨up (B0 p nx s xs).2,loc (B0 p nx s xs).2⟩⟩:=by
 obtain⟨c1,j,h1,h2,q⟩:=AAP (n+45) K (fun s=>up s++[loc s]) I f cap hcw p nx xs c0 hp (by omega) xs.length 0 s c (n+K+95) (by omega) (by omega) hc0 hi
 have e:n+45+K+50=n+K+95:=by omega
 rw[e]at q
 have hcl:([V.list false (xs.map AH),V.fn f [] cap]).all (AG 9)=false:=by simp[hco]
 have hs:=fun s=>hsh s ⟨up s++[loc s],[]⟩ (by simp)
 simp at hs
 rw[BC Tryz.func193 b193 rfl hcl]
 simp only[bg]at q
 generalize (B0 p nx s xs).2=s' at q|-
 generalize e:(B0 p nx s xs).1=b at q
 cases b with
 |true=>
  refine⟨c1,j,h1,by simpa using h2,?_⟩
  simp at q
  simp[ATR,AF,q,hs]
 |false=>
  refine⟨c1,-1,h1,by simp,?_⟩
  simp at q
  simp[ATR,AF,q,hs]
theorem BBH{σ:Type}(n K:Nat)(up:σ->List AA)(loc:σ->AA)(I:σ->Prop)(f:ck)(cap:List V)(hcw:cap.map weakV=cap)(hco:cap.all (AG 8)=false)(p:σ->Int×Int->Bool)(nx:σ->Int×Int->σ)(xs:List (Int×Int))(c0:Nat)(hp:AAO (fun s=>up s++[loc s]++[[]]) I K f cap p nx xs c0)(hl:xs.length<=40)(hsh:∀s (t:St),(up s).length+1<=t.up.length->(up s++[loc s]).map (AJ t)=up s++[loc s])(c dd:Nat)(fr:Fr)(s:σ)(hc0:c0<=c)(hi:I s) :
  ∃c':Nat,c<=c'/\H9 (BS cj ann kn (n+K+200)) (some dd) ⟨c,fr,⟨up s,loc s⟩⟩ 182 [.list false (xs.map AH),.fn f [] cap]=some ⟨c',(dd,true,.bool (B0 p nx s xs).1)::fr,⟨up (B0 p nx s xs).2,loc (B0 p nx s xs).2⟩⟩:=by
 have hcl:([V.list false (xs.map AH),V.fn f [] cap]).all (AG 9)=false:=by simp[hco]
 have hsh2:∀s (t:St),(up s++[loc s]).length+1<=t.up.length->(up s++[loc s]++[[]]).map (AJ t)=up s++[loc s]++[[]]:=fun s t h=>by have:=hsh s t (by simp at h;omega);simp only[bq,bx,bc,FZ]at this|-;rw[this]
 obtain⟨c1,j,h1,h2,q⟩:=APE (n+97) K (fun s=>up s++[loc s]) (fun _=>[]) I f cap hcw hco p nx xs c0 hp hl hsh2 c 7 [(6,true,.fn f [] cap),(5,true,.list false (xs.map AH)),(0,true,.list false (xs.map AH)),(1,true,.fn f [] cap)] s hc0 hi
 refine⟨c1,h1,?_⟩
 have e:n+97+K+100=n+K+197:=by omega
 rw[e]at q
 have hs:=fun s=>hsh s ⟨up s++[loc s],[]⟩ (by simp)
 simp at hs
 rw[BC Tryz.func182 b182 rfl hcl]
 simp[A4Q,AF,q,h2,hs]
theorem BBI(n K:Nat)(b:AK)(f:ck)(p:Int×Int->Bool)(xs:List (Int×Int))(hl:xs.length<=40)(hf:∀n x,x∈xs->AZ cj kn (AE cj ann kn (n+K)) f [.agg (AC b),.agg (AH x)]=some (.bool (p x)))(hh:BJ cj f=false:=by simp) :
  AZ cj kn (AE cj ann kn (n+K+300)) 150 [.list false (xs.map AH),.fn f [.agg (AC b)] []]=some (.bool (xs.all p)):=by
 rw[AN rfl,AO Tryz.func150 BE8 rfl (by simp[AC,AW,AY,AH])]
 have hp2:AAO (fun (_:Unit)=>[]++[[(3,0,A0.box [V.fn f [.agg (AC b)] []])]]++[[]]) (fun _=>True) (K+20) 183 [.ptr 0 3 0 0] (fun _ x=>!p x) (fun _ _=>()) xs 0:=by
  intro n c1 fr s x hc0 hi hx;refine⟨fun _=>trivial,c1+1,by omega,?_⟩;have q:=fun n=>hf n x hx;have q2:=q (n+17);have e:n+17+K=n+K+17:=by omega
  rw[e]at q2;simp only[AC,AH]at q2|-;try simp[AW]at q2
  rw[show n+(K+20)=n+K+20 from by omega,bw,BC Tryz.func183 b183 rfl (by simp)];simp[A4S,AF,AW,AY,AH,q2,hh];try simp[AC,AW,AY,AH,q2,hh]
 obtain⟨c',h1,q⟩:=BBH (n+77) (K+20) (fun _=>[]) (fun _=>[(3,0,.box [.fn f [.agg (AC b)] []])]) (fun _=>True) 183 [.ptr 0 3 0 0] (by simp) (by simp) (fun _ x=>!p x) (fun _ _=>()) xs 0 hp2 hl (by simp[AC]) 1 7 [(6,true,.fn 183 [] [.ptr 0 3 0 0]),(5,true,.list false (xs.map AH)),(0,true,.list false (xs.map AH)),(1,true,.fn f [.agg (AC b)] []),(3,true,.ptr 0 3 0 0)] () (bh _) trivial
 have e:n+77+(K+20)+200=n+K+297:=by omega
 rw[e,F8]at q
 have:=LH p xs
 simp only[AC]at q|-
 simp[A4R,AF,q]
 rw[<-this,bm]
end Go.Proofs.Tryz.Op
