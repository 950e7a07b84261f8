/- What serves the contracts of IndexFunc and its like: a predicate with a state. No condition. (printed by pred.py) -/
import Derived.Test.YtanlhbmliegjeaaGreatW1
open Go renaming FuncId->ck
open Go.Proofs.Tryz renaming prog->cj
open List renaming drop_eq_getElem_cons->bj,append_assoc->bk,map_append->bq,nil_append->bw,map_cons->bx,getElem_mem->bz,map_nil->bc,getElem?_append_right->bf,drop_zero->bg,length_append->bn,map->bp
open Nat renaming le_refl->bb,zero_le->bh
open Bool renaming not_not->bm
set_option maxRecDepth 100000
set_option linter.unusedSimpArgs false
open Go Go.Pg Go.Proofs Go.Wind
namespace Go.Wind
def BI{σ α:Type}(p:σ->α->Bool)(nx:σ->α->σ):σ->List α->Bool×σ
 |s,[]=>(false,s)
 |s,x::xs=>bif p s x then(true,nx s x) else BI p nx (nx s x) xs
theorem E9{α:Type}(p:α->Bool):∀(xs:List α),BI (fun (_:Unit) x=>p x) (fun _ _=>()) () xs=(xs.any p,())
 |[]=>rfl
 |x::xs=>by simp only[BI,List.any_cons,E9 p xs];cases p x<;>rfl
end Go.Wind
namespace Go.Proofs.Tryz.Op
def oD{σ:Type}(U:σ->List AA)(I:σ->Prop)(K:Nat)(f:ck)(cap:List V)(p:σ->Int->Bool)(nx:σ->Int->σ)(xs:List (Int))(c0:Nat):Prop:=∀n c fr s x,c0<=c->I s->x∈xs->(p s x=false->I (nx s x))/\∃c',c<=c'/\GH (BH cj ann kn (n+K)) (some 16) ⟨c,fr,⟨U s,[]⟩⟩ f (i x::cap)=some ⟨c',(16,true,.bool (p s x))::fr,⟨U (nx s x),[]⟩⟩
theorem wJ{σ:Type}(n K:Nat)(U:σ->List AA)(I:σ->Prop)(f:ck)(cap:List V)(hcw:cap.map weakV=cap)(p:σ->Int->Bool)(nx:σ->Int->σ)(xs:List (Int))(c0:Nat)(hp:oD U I K f cap p nx xs c0)(hl:xs.length<=1000):∀(d k:Nat) (s:σ) (c m:Nat),k+d=xs.length->d<m->c0<=c->I s ->
  ∃(c':Nat) (j:Int),c<=c'/\0<=j/\BG (AE cj ann kn (n+K+50) 19) RF (ann 19 (BX RF)) m ⟨c,[(0,true,.list false (xs.map AH)),(1,true,.fn f [] cap),(7,true,i xs.length),(8,true,i k)],⟨U s,[]⟩⟩ =
   bif (BI p nx s (xs.drop k)).1 then some (.ret,⟨c',[(4,true,i j),(17,true,i j),(5,true,i j)],⟨U (BI p nx s (xs.drop k)).2,[]⟩⟩)
   else some (.exit 0,⟨c',[(9,true,.bool false),(0,true,.list false (xs.map AH)),(1,true,.fn f [] cap),(7,true,i xs.length),(8,true,i xs.length)],⟨U (BI p nx s (xs.drop k)).2,[]⟩⟩)
 |0,k,s,c,m+1,hd,hm,hc0,hi=>by
  have:k=xs.length:=by omega
  subst this;refine⟨c,0,bb _,by omega,?_⟩;simp[AC,BI]
 |d+1,k,s,c,m+1,hd,hm,hc0,hi=>by
  have hk:k<xs.length:=by omega
  have hw:=BS (k:=k) (by omega);have nrm:∀a:Nat,n+K+a=(n+a)+K:=fun a=>by omega
  rw[AC,bj hk];simp only[BI];obtain⟨hi',c1,hc1,q⟩:=hp (n+43) c [(15,true,i xs[k]),(14,true,.ref (AH xs[k])),(13,true,i k),(12,true,.list false (xs.map AH)),(11,true,.fn f [] cap),(0,true,.list false (xs.map AH)),(1,true,.fn f [] cap),(5,true,i k),(7,true,i xs.length),(8,true,i k)] s xs[k] hc0 hi (bz hk);generalize e:p s xs[k]=b at q hi';cases b with
  |true=>
   refine⟨c1,k,hc1,by omega,?_⟩
   try simp only[AH]at q
   rw[<-nrm]at q
   try simp at q
   simp[hk,hw,AH,q,hcw]
  |false=>
   obtain⟨c',j,h1,h2,ih⟩:=wJ n K U I f cap hcw p nx xs c0 hp hl d (k+1) (nx s xs[k]) c1 m (by omega) (by omega) (by omega) (hi' rfl)
   refine⟨c',j,by omega,h2,?_⟩
   try simp only[AH]at q ih
   rw[<-nrm]at q
   try simp at q
   simp at ih
   simp[hk,hw,AH,q,ih,hcw]
theorem AKA{σ:Type}(n K:Nat)(up:σ->List AA)(loc:σ->AA)(I:σ->Prop)(f:ck)(cap:List V)(hcw:cap.map weakV=cap)(hco:cap.all (AG 8)=false)(p:σ->Int->Bool)(nx:σ->Int->σ)(xs:List (Int))(c0:Nat)(hp:oD (fun s=>up s++[loc s]) I K f cap p nx xs c0)(hl:xs.length<=40)(hsh:∀s (t:St),(up s).length+1<=t.up.length->(up s++[loc s]).map (AJ t)=up s++[loc s])(c dd:Nat)(fr:Fr)(s:σ)(hc0:c0<=c)(hi:I s) :
  ∃(c':Nat) (j:Int),c<=c'/\decide (0<=j)=(BI p nx s xs).1/\GH (BH cj ann kn (n+K+100)) (some dd) ⟨c,fr,⟨up s,loc s⟩⟩ 108 [.list false (xs.map AH),.fn f [] cap]=some ⟨c',(dd,true,i j)::fr,⟨up (BI p nx s xs).2,loc (BI p nx s xs).2⟩⟩:=by
 obtain⟨c1,j,h1,h2,q⟩:=wJ (n+45) K (fun s=>up s++[loc s]) I f cap hcw p nx xs c0 hp (by omega) xs.length 0 s c (n+K+95) (by omega) (by omega) hc0 hi
 have e:n+45+K+50=n+K+95:=by omega
 rw[e]at q
 have hcl:([V.list false (xs.map AH),V.fn f [] cap]).all (AG 9)=false:=by simp[hco]
 have hs:=fun s=>hsh s ⟨up s++[loc s],[]⟩ (by simp)
 simp at hs
 rw[A3 Tryz.func108 b108 rfl hcl]
 simp only[bg]at q
 generalize (BI p nx s xs).2=s' at q|-
 generalize e:(BI p nx s xs).1=b at q
 cases b with
 |true=>
  refine⟨c1,j,h1,by simpa using h2,?_⟩
  simp at q
  simp[AO9,AD,q,hs]
 |false=>
  refine⟨c1,-1,h1,by simp,?_⟩
  simp at q
  simp[AO9,AD,q,hs]
theorem AOL{σ:Type}(n K:Nat)(up:σ->List AA)(loc:σ->AA)(I:σ->Prop)(f:ck)(cap:List V)(hcw:cap.map weakV=cap)(hco:cap.all (AG 8)=false)(p:σ->Int->Bool)(nx:σ->Int->σ)(xs:List (Int))(c0:Nat)(hp:oD (fun s=>up s++[loc s]++[[]]) I K f cap p nx xs c0)(hl:xs.length<=40)(hsh:∀s (t:St),(up s).length+1<=t.up.length->(up s++[loc s]).map (AJ t)=up s++[loc s])(c dd:Nat)(fr:Fr)(s:σ)(hc0:c0<=c)(hi:I s) :
  ∃c':Nat,c<=c'/\GH (BH cj ann kn (n+K+200)) (some dd) ⟨c,fr,⟨up s,loc s⟩⟩ 90 [.list false (xs.map AH),.fn f [] cap]=some ⟨c',(dd,true,.bool (BI p nx s xs).1)::fr,⟨up (BI p nx s xs).2,loc (BI p nx s xs).2⟩⟩:=by
 have hcl:([V.list false (xs.map AH),V.fn f [] cap]).all (AG 9)=false:=by simp[hco]
 have hsh2:∀s (t:St),(up s++[loc s]).length+1<=t.up.length->(up s++[loc s]++[[]]).map (AJ t)=up s++[loc s]++[[]]:=fun s t h=>by have:=hsh s t (by simp at h;omega);simp only[bq,bx,bc,E5]at this|-;rw[this]
 obtain⟨c1,j,h1,h2,q⟩:=AKA (n+97) K (fun s=>up s++[loc s]) (fun _=>[]) I f cap hcw hco p nx xs c0 hp hl hsh2 c 7 [(6,true,.fn f [] cap),(5,true,.list false (xs.map AH)),(0,true,.list false (xs.map AH)),(1,true,.fn f [] cap)] s hc0 hi
 refine⟨c1,h1,?_⟩
 have e:n+97+K+100=n+K+197:=by omega
 rw[e]at q
 have hs:=fun s=>hsh s ⟨up s++[loc s],[]⟩ (by simp)
 simp at hs
 rw[A3 Tryz.func90 b90 rfl hcl]
 simp[c90,AD,hcw,q,h2,hs]
theorem AUC{σ:Type}(n K L:Nat)(up:σ->List AA)(loc:σ->AA)(hL:∀s,(up s).length=L)(I:σ->Prop)(f:ck)(cap:List V)(hcw:cap.map weakV=cap)(hco:cap.all (AG 8)=false)(p:σ->Int->Bool)(nx:σ->Int->σ)(xs:List (Int))(hl:xs.length<=40)
  (hsh:∀s (t:St),L+1<=t.up.length->(up s++[loc s]).map (AJ t)=up s++[loc s]) (hcap:∀(t:St) γ,L+1<=t.up.length->AJ t [(3,γ,AX.box [V.fn f [] cap])]=[(3,γ,AX.box [V.fn f [] cap])]) (c:Nat)
  (hp:∀n c1 fr s x,c<c1->I s->x∈xs->(p s x=true->I (nx s x))/\∃c',c1<=c'/\GH (BH cj ann kn (n+K)) (some 6) ⟨c1,fr,⟨up s++[loc s]++[[(3,c,AX.box [V.fn f [] cap])]]++[[]]++[[]],[]⟩⟩ f (i x::cap)=some ⟨c',(6,true,.bool (p s x))::fr,⟨up (nx s x)++[loc (nx s x)]++[[(3,c,AX.box [V.fn f [] cap])]]++[[]]++[[]],[]⟩⟩) (dd:Nat) (fr:Fr) (s:σ) (hi:I s) :
  ∃c':Nat,c<=c'/\GH (BH cj ann kn (n+K+300)) (some dd) ⟨c,fr,⟨up s,loc s⟩⟩ 53 [.list false (xs.map AH),.fn f [] cap]=some ⟨c',(dd,true,.bool (!(BI (fun s x=>!p s x) nx s xs).1))::fr,⟨up (BI (fun s x=>!p s x) nx s xs).2,loc (BI (fun s x=>!p s x) nx s xs).2⟩⟩:=by
 have hcl:([V.list false (xs.map AH),V.fn f [] cap]).all (AG 9)=false:=by simp[Q2,hco]
 have hp2:oD (fun s=>up s++[loc s]++[[(3,c,AX.box [V.fn f [] cap])]]++[[]]) I (K+20) 91 [.ptr (L+1) 3 c 0] (fun s x=>!p s x) nx xs (c+1):=by
  have hcap':∀t:St,L+1<=t.up.length->AJ t [(3,c,AX.box [V.fn f [] cap])]=[(3,c,AX.box [V.fn f [] cap])]:=fun t h=>hcap t c h;intro n c1 fr s x hc0 hi hx;obtain⟨h1,c',h2,q⟩:=hp (n+17) c1 [(5,true,i x),(4,true,.fn f [] cap),(0,true,i x),(1,true,.ptr (L+1) 3 c 0)] s x hc0 hi hx;refine⟨fun h=>h1 (by simpa using h),c',h2,?_⟩;have e:n+17+K=n+K+17:=by omega
  rw[e]at q;rw[show n+(K+20)=n+K+20 from by omega,A3 Tryz.func91 b91 rfl (by simp)];generalize hB:[(3,c,AX.box [V.fn f [] cap])]=B at q hcap';have hB1:AA.get B 3=some (c,.box [.fn f [] cap]):=by rw[<-hB];rfl
  have hg:(up s++[loc s]++[B]++[[]])[L+1]? = some B:=by simp only[bk];rw[bf (by rw[hL];omega)];simp[hL]
  have hs1:∀s (t:St),L+1<=t.up.length->bp (AJ t) (up s)=up s/\AJ t (loc s)=loc s:=fun s t h=>by simpa using hsh s t h
  have hu:∀(l:List AA) a b,CM (l++[a,b,[],[]])=some (l++[a,b,[]],[]):=fun l a b=>by have:=C9 ([]:AA) (l++[a,b,[]]);rwa [bk]at this
  simp only[bk,List.cons_append,bw]at q hg|-;simp[hu,c91,AD,hcw,q,hg,hL,hB1,(hs1 _ _ _).1,(hs1 _ _ _).2,hcap']
 have hsh2:∀s (t:St),(up s++[loc s]).length+1<=t.up.length->(up s++[loc s]++[[(3,c,AX.box [V.fn f [] cap])]]).map (AJ t)=up s++[loc s]++[[(3,c,AX.box [V.fn f [] cap])]]:=fun s t h=>by
  have h':L+1<=t.up.length:=by simp[hL]at h;omega
  have:=hsh s t h';have h3:=hcap t c h';rw[bq,this];simp only[bx,bc,h3]
 obtain⟨c',h1,q⟩:=AOL (n+77) (K+20) (fun s=>up s++[loc s]) (fun _=>[(3,c,AX.box [V.fn f [] cap])]) I 91 [.ptr (L+1) 3 c 0] (by simp) (by simp) (fun s x=>!p s x) nx xs (c+1) hp2 hl hsh2 (c+1) 7 [(6,true,.fn 91 [] [.ptr (L+1) 3 c 0]),(5,true,.list false (xs.map AH)),(0,true,.list false (xs.map AH)),(1,true,.fn f [] cap),(3,true,.ptr (L+1) 3 c 0)] s (bb _) hi
 refine⟨c',by omega,?_⟩
 have e:n+77+(K+20)+200=n+K+297:=by omega
 rw[e]at q
 have hs1:∀s (t:St),L+1<=t.up.length->bp (AJ t) (up s)=up s/\AJ t (loc s)=loc s:=fun s t h=>by simpa using hsh s t h
 rw[A3 Tryz.func53 b53 rfl hcl]
 try simp only[bn,List.length_cons,List.length_nil]at q|-
 simp[c53,AD,hcw,hL,q,(hs1 _ _ _).1,(hs1 _ _ _).2]
theorem AF4(n K:Nat)(f:ck)(p:Int->Bool)(xs:List (Int))(hl:xs.length<=40)(hf:∀n x,x∈xs->AZ cj kn (AE cj ann kn (n+K)) f [i x]=some (.bool (p x)))(hh:BK cj f=false:=by simp) :
  AZ cj kn (AE cj ann kn (n+K+300)) 53 [.list false (xs.map AH),.fn f [] []]=some (.bool (xs.all p)):=by
 rw[AP rfl,AQ Tryz.func53 b53 rfl (by simp[AB,AH,AN,AM])]
 have hp2:oD (fun (_:Unit)=>[]++[[(3,0,AX.box [V.fn f [] []])]]++[[]]) (fun _=>True) (K+20) 91 [.ptr 0 3 0 0] (fun _ x=>!p x) (fun _ _=>()) xs 0:=by
  intro n c1 fr s x hc0 hi hx;refine⟨fun _=>trivial,c1+0,by omega,?_⟩;have q:=fun n=>hf n x hx;have q2:=q (n+17);have e:n+17+K=n+K+17:=by omega
  rw[e]at q2;skip;try simp[AH]at q2
  rw[show n+(K+20)=n+K+20 from by omega,bw,A3 Tryz.func91 b91 rfl (by simp)];simp[c91,AD,AH,q2,hh];try simp[AH,q2,hh]
 obtain⟨c',h1,q⟩:=AOL (n+77) (K+20) (fun _=>[]) (fun _=>[(3,0,.box [.fn f [] []])]) (fun _=>True) 91 [.ptr 0 3 0 0] (by simp) (by simp) (fun _ x=>!p x) (fun _ _=>()) xs 0 hp2 hl (by simp[AB,AH,AN,AM]) 1 7 [(6,true,.fn 91 [] [.ptr 0 3 0 0]),(5,true,.list false (xs.map AH)),(0,true,.list false (xs.map AH)),(1,true,.fn f [] []),(3,true,.ptr 0 3 0 0)] () (bh _) trivial
 have e:n+77+(K+20)+200=n+K+297:=by omega
 rw[e,E9]at q
 have:=JS p xs
 skip
 simp[c53,AD,q]
 rw[<-this,bm]
def oE{σ:Type}(U:σ->List AA)(I:σ->Prop)(K:Nat)(f:ck)(cap:List V)(p:σ->List Int->Bool)(nx:σ->List Int->σ)(xs:List (List Int))(c0:Nat):Prop:=∀n c fr s x,c0<=c->I s->x∈xs->(p s x=false->I (nx s x))/\∃c',c<=c'/\GH (BH cj ann kn (n+K)) (some 16) ⟨c,fr,⟨U s,[]⟩⟩ f (li x::cap)=some ⟨c',(16,true,.bool (p s x))::fr,⟨U (nx s x),[]⟩⟩
theorem wK{σ:Type}(n K:Nat)(U:σ->List AA)(I:σ->Prop)(f:ck)(cap:List V)(hcw:cap.map weakV=cap)(p:σ->List Int->Bool)(nx:σ->List Int->σ)(xs:List (List Int))(c0:Nat)(hp:oE U I K f cap p nx xs c0)(hl:xs.length<=1000):∀(d k:Nat) (s:σ) (c m:Nat),k+d=xs.length->d<m->c0<=c->I s ->
  ∃(c':Nat) (j:Int),c<=c'/\0<=j/\BG (AE cj ann kn (n+K+50) 19) RG (ann 19 (BX RG)) m ⟨c,[(0,true,.list false (xs.map AN)),(1,true,.fn f [] cap),(7,true,i xs.length),(8,true,i k)],⟨U s,[]⟩⟩ =
   bif (BI p nx s (xs.drop k)).1 then some (.ret,⟨c',[(4,true,i j),(17,true,i j),(5,true,i j)],⟨U (BI p nx s (xs.drop k)).2,[]⟩⟩)
   else some (.exit 0,⟨c',[(9,true,.bool false),(0,true,.list false (xs.map AN)),(1,true,.fn f [] cap),(7,true,i xs.length),(8,true,i xs.length)],⟨U (BI p nx s (xs.drop k)).2,[]⟩⟩)
 |0,k,s,c,m+1,hd,hm,hc0,hi=>by
  have:k=xs.length:=by omega
  subst this;refine⟨c,0,bb _,by omega,?_⟩;simp[AC,BI]
 |d+1,k,s,c,m+1,hd,hm,hc0,hi=>by
  have hk:k<xs.length:=by omega
  have hw:=BS (k:=k) (by omega);have nrm:∀a:Nat,n+K+a=(n+a)+K:=fun a=>by omega
  rw[AC,bj hk];simp only[BI];obtain⟨hi',c1,hc1,q⟩:=hp (n+43) c [(15,true,li xs[k]),(14,true,.ref (AN xs[k])),(13,true,i k),(12,true,.list false (xs.map AN)),(11,true,.fn f [] cap),(0,true,.list false (xs.map AN)),(1,true,.fn f [] cap),(5,true,i k),(7,true,i xs.length),(8,true,i k)] s xs[k] hc0 hi (bz hk);generalize e:p s xs[k]=b at q hi';cases b with
  |true=>
   refine⟨c1,k,hc1,by omega,?_⟩
   try simp only[AN]at q
   rw[<-nrm]at q
   try simp at q
   simp[hk,hw,AN,q,hcw]
  |false=>
   obtain⟨c',j,h1,h2,ih⟩:=wK n K U I f cap hcw p nx xs c0 hp hl d (k+1) (nx s xs[k]) c1 m (by omega) (by omega) (by omega) (hi' rfl)
   refine⟨c',j,by omega,h2,?_⟩
   try simp only[AN]at q ih
   rw[<-nrm]at q
   try simp at q
   simp at ih
   simp[hk,hw,AN,q,ih,hcw]
theorem AKB{σ:Type}(n K:Nat)(up:σ->List AA)(loc:σ->AA)(I:σ->Prop)(f:ck)(cap:List V)(hcw:cap.map weakV=cap)(hco:cap.all (AG 8)=false)(p:σ->List Int->Bool)(nx:σ->List Int->σ)(xs:List (List Int))(c0:Nat)(hp:oE (fun s=>up s++[loc s]) I K f cap p nx xs c0)(hl:xs.length<=40)(hsh:∀s (t:St),(up s).length+1<=t.up.length->(up s++[loc s]).map (AJ t)=up s++[loc s])(c dd:Nat)(fr:Fr)(s:σ)(hc0:c0<=c)(hi:I s) :
  ∃(c':Nat) (j:Int),c<=c'/\decide (0<=j)=(BI p nx s xs).1/\GH (BH cj ann kn (n+K+100)) (some dd) ⟨c,fr,⟨up s,loc s⟩⟩ 107 [.list false (xs.map AN),.fn f [] cap]=some ⟨c',(dd,true,i j)::fr,⟨up (BI p nx s xs).2,loc (BI p nx s xs).2⟩⟩:=by
 obtain⟨c1,j,h1,h2,q⟩:=wK (n+45) K (fun s=>up s++[loc s]) I f cap hcw p nx xs c0 hp (by omega) xs.length 0 s c (n+K+95) (by omega) (by omega) hc0 hi
 have e:n+45+K+50=n+K+95:=by omega
 rw[e]at q
 have hcl:([V.list false (xs.map AN),V.fn f [] cap]).all (AG 9)=false:=by simp[hco]
 have hs:=fun s=>hsh s ⟨up s++[loc s],[]⟩ (by simp)
 simp at hs
 rw[A3 Tryz.func107 b107 rfl hcl]
 simp only[bg]at q
 generalize (BI p nx s xs).2=s' at q|-
 generalize e:(BI p nx s xs).1=b at q
 cases b with
 |true=>
  refine⟨c1,j,h1,by simpa using h2,?_⟩
  simp at q
  simp[APA,AD,q,hs]
 |false=>
  refine⟨c1,-1,h1,by simp,?_⟩
  simp at q
  simp[APA,AD,q,hs]
theorem AOM{σ:Type}(n K:Nat)(up:σ->List AA)(loc:σ->AA)(I:σ->Prop)(f:ck)(cap:List V)(hcw:cap.map weakV=cap)(hco:cap.all (AG 8)=false)(p:σ->List Int->Bool)(nx:σ->List Int->σ)(xs:List (List Int))(c0:Nat)(hp:oE (fun s=>up s++[loc s]++[[]]) I K f cap p nx xs c0)(hl:xs.length<=40)(hsh:∀s (t:St),(up s).length+1<=t.up.length->(up s++[loc s]).map (AJ t)=up s++[loc s])(c dd:Nat)(fr:Fr)(s:σ)(hc0:c0<=c)(hi:I s) :
  ∃c':Nat,c<=c'/\GH (BH cj ann kn (n+K+200)) (some dd) ⟨c,fr,⟨up s,loc s⟩⟩ 88 [.list false (xs.map AN),.fn f [] cap]=some ⟨c',(dd,true,.bool (BI p nx s xs).1)::fr,⟨up (BI p nx s xs).2,loc (BI p nx s xs).2⟩⟩:=by
 have hcl:([V.list false (xs.map AN),V.fn f [] cap]).all (AG 9)=false:=by simp[hco]
 have hsh2:∀s (t:St),(up s++[loc s]).length+1<=t.up.length->(up s++[loc s]++[[]]).map (AJ t)=up s++[loc s]++[[]]:=fun s t h=>by have:=hsh s t (by simp at h;omega);simp only[bq,bx,bc,E5]at this|-;rw[this]
 obtain⟨c1,j,h1,h2,q⟩:=AKB (n+97) K (fun s=>up s++[loc s]) (fun _=>[]) I f cap hcw hco p nx xs c0 hp hl hsh2 c 7 [(6,true,.fn f [] cap),(5,true,.list false (xs.map AN)),(0,true,.list false (xs.map AN)),(1,true,.fn f [] cap)] s hc0 hi
 refine⟨c1,h1,?_⟩
 have e:n+97+K+100=n+K+197:=by omega
 rw[e]at q
 have hs:=fun s=>hsh s ⟨up s++[loc s],[]⟩ (by simp)
 simp at hs
 rw[A3 Tryz.func88 b88 rfl hcl]
 simp[c88,AD,hcw,q,h2,hs]
theorem AUD{σ:Type}(n K L:Nat)(up:σ->List AA)(loc:σ->AA)(hL:∀s,(up s).length=L)(I:σ->Prop)(f:ck)(cap:List V)(hcw:cap.map weakV=cap)(hco:cap.all (AG 8)=false)(p:σ->List Int->Bool)(nx:σ->List Int->σ)(xs:List (List Int))(hl:xs.length<=40)
  (hsh:∀s (t:St),L+1<=t.up.length->(up s++[loc s]).map (AJ t)=up s++[loc s]) (hcap:∀(t:St) γ,L+1<=t.up.length->AJ t [(3,γ,AX.box [V.fn f [] cap])]=[(3,γ,AX.box [V.fn f [] cap])]) (c:Nat)
  (hp:∀n c1 fr s x,c<c1->I s->x∈xs->(p s x=true->I (nx s x))/\∃c',c1<=c'/\GH (BH cj ann kn (n+K)) (some 6) ⟨c1,fr,⟨up s++[loc s]++[[(3,c,AX.box [V.fn f [] cap])]]++[[]]++[[]],[]⟩⟩ f (li x::cap)=some ⟨c',(6,true,.bool (p s x))::fr,⟨up (nx s x)++[loc (nx s x)]++[[(3,c,AX.box [V.fn f [] cap])]]++[[]]++[[]],[]⟩⟩) (dd:Nat) (fr:Fr) (s:σ) (hi:I s) :
  ∃c':Nat,c<=c'/\GH (BH cj ann kn (n+K+300)) (some dd) ⟨c,fr,⟨up s,loc s⟩⟩ 51 [.list false (xs.map AN),.fn f [] cap]=some ⟨c',(dd,true,.bool (!(BI (fun s x=>!p s x) nx s xs).1))::fr,⟨up (BI (fun s x=>!p s x) nx s xs).2,loc (BI (fun s x=>!p s x) nx s xs).2⟩⟩:=by
 have hcl:([V.list false (xs.map AN),V.fn f [] cap]).all (AG 9)=false:=by simp[Q2,hco]
 have hp2:oE (fun s=>up s++[loc s]++[[(3,c,AX.box [V.fn f [] cap])]]++[[]]) I (K+20) 89 [.ptr (L+1) 3 c 0] (fun s x=>!p s x) nx xs (c+1):=by
  have hcap':∀t:St,L+1<=t.up.length->AJ t [(3,c,AX.box [V.fn f [] cap])]=[(3,c,AX.box [V.fn f [] cap])]:=fun t h=>hcap t c h;intro n c1 fr s x hc0 hi hx;obtain⟨h1,c',h2,q⟩:=hp (n+17) c1 [(5,true,li x),(4,true,.fn f [] cap),(0,true,li x),(1,true,.ptr (L+1) 3 c 0)] s x hc0 hi hx;refine⟨fun h=>h1 (by simpa using h),c',h2,?_⟩;have e:n+17+K=n+K+17:=by omega
  rw[e]at q;rw[show n+(K+20)=n+K+20 from by omega,A3 Tryz.func89 b89 rfl (by simp)];generalize hB:[(3,c,AX.box [V.fn f [] cap])]=B at q hcap';have hB1:AA.get B 3=some (c,.box [.fn f [] cap]):=by rw[<-hB];rfl
  have hg:(up s++[loc s]++[B]++[[]])[L+1]? = some B:=by simp only[bk];rw[bf (by rw[hL];omega)];simp[hL]
  have hs1:∀s (t:St),L+1<=t.up.length->bp (AJ t) (up s)=up s/\AJ t (loc s)=loc s:=fun s t h=>by simpa using hsh s t h
  have hu:∀(l:List AA) a b,CM (l++[a,b,[],[]])=some (l++[a,b,[]],[]):=fun l a b=>by have:=C9 ([]:AA) (l++[a,b,[]]);rwa [bk]at this
  simp only[bk,List.cons_append,bw]at q hg|-;simp[hu,c89,AD,hcw,q,hg,hL,hB1,(hs1 _ _ _).1,(hs1 _ _ _).2,hcap']
 have hsh2:∀s (t:St),(up s++[loc s]).length+1<=t.up.length->(up s++[loc s]++[[(3,c,AX.box [V.fn f [] cap])]]).map (AJ t)=up s++[loc s]++[[(3,c,AX.box [V.fn f [] cap])]]:=fun s t h=>by
  have h':L+1<=t.up.length:=by simp[hL]at h;omega
  have:=hsh s t h';have h3:=hcap t c h';rw[bq,this];simp only[bx,bc,h3]
 obtain⟨c',h1,q⟩:=AOM (n+77) (K+20) (fun s=>up s++[loc s]) (fun _=>[(3,c,AX.box [V.fn f [] cap])]) I 89 [.ptr (L+1) 3 c 0] (by simp) (by simp) (fun s x=>!p s x) nx xs (c+1) hp2 hl hsh2 (c+1) 7 [(6,true,.fn 89 [] [.ptr (L+1) 3 c 0]),(5,true,.list false (xs.map AN)),(0,true,.list false (xs.map AN)),(1,true,.fn f [] cap),(3,true,.ptr (L+1) 3 c 0)] s (bb _) hi
 refine⟨c',by omega,?_⟩
 have e:n+77+(K+20)+200=n+K+297:=by omega
 rw[e]at q
 have hs1:∀s (t:St),L+1<=t.up.length->bp (AJ t) (up s)=up s/\AJ t (loc s)=loc s:=fun s t h=>by simpa using hsh s t h
 rw[A3 Tryz.func51 b51 rfl hcl]
 try simp only[bn,List.length_cons,List.length_nil]at q|-
 simp[c51,AD,hcw,hL,q,(hs1 _ _ _).1,(hs1 _ _ _).2]
theorem A6O(n K:Nat)(f:ck)(p:List Int->Bool)(xs:List (List Int))(hl:xs.length<=40)(hf:∀n x,x∈xs->AZ cj kn (AE cj ann kn (n+K)) f [li x]=some (.bool (p x)))(hh:BK cj f=false:=by simp) :
  AZ cj kn (AE cj ann kn (n+K+300)) 51 [.list false (xs.map AN),.fn f [] []]=some (.bool (xs.all p)):=by
 rw[AP rfl,AQ Tryz.func51 b51 rfl (by simp[AB,AH,AN,AM])]
 have hp2:oE (fun (_:Unit)=>[]++[[(3,0,AX.box [V.fn f [] []])]]++[[]]) (fun _=>True) (K+20) 89 [.ptr 0 3 0 0] (fun _ x=>!p x) (fun _ _=>()) xs 0:=by
  intro n c1 fr s x hc0 hi hx;refine⟨fun _=>trivial,c1+0,by omega,?_⟩;have q:=fun n=>hf n x hx;have q2:=q (n+17);have e:n+17+K=n+K+17:=by omega
  rw[e]at q2;skip;try simp[AH]at q2
  rw[show n+(K+20)=n+K+20 from by omega,bw,A3 Tryz.func89 b89 rfl (by simp)];simp[c89,AD,AH,q2,hh];try simp[AH,q2,hh]
 obtain⟨c',h1,q⟩:=AOM (n+77) (K+20) (fun _=>[]) (fun _=>[(3,0,.box [.fn f [] []])]) (fun _=>True) 89 [.ptr 0 3 0 0] (by simp) (by simp) (fun _ x=>!p x) (fun _ _=>()) xs 0 hp2 hl (by simp[AB,AH,AN,AM]) 1 7 [(6,true,.fn 89 [] [.ptr 0 3 0 0]),(5,true,.list false (xs.map AN)),(0,true,.list false (xs.map AN)),(1,true,.fn f [] []),(3,true,.ptr 0 3 0 0)] () (bh _) trivial
 have e:n+77+(K+20)+200=n+K+297:=by omega
 rw[e,E9]at q
 have:=JS p xs
 skip
 simp[c51,AD,q]
 rw[<-this,bm]
def wL{σ:Type}(U:σ->List AA)(I:σ->Prop)(K:Nat)(f:ck)(cap:List V)(p:σ->Int×Int->Bool)(nx:σ->Int×Int->σ)(xs:List (Int×Int))(c0:Nat):Prop:=∀n c fr s x,c0<=c->I s->x∈xs->(p s x=false->I (nx s x))/\∃c',c<=c'/\GH (BH cj ann kn (n+K)) (some 16) ⟨c,fr,⟨U s,[]⟩⟩ f (.agg (AM x)::cap)=some ⟨c',(16,true,.bool (p s x))::fr,⟨U (nx s x),[]⟩⟩
theorem wM{σ:Type}(n K:Nat)(U:σ->List AA)(I:σ->Prop)(f:ck)(cap:List V)(hcw:cap.map weakV=cap)(p:σ->Int×Int->Bool)(nx:σ->Int×Int->σ)(xs:List (Int×Int))(c0:Nat)(hp:wL U I K f cap p nx xs c0)(hl:xs.length<=1000):∀(d k:Nat) (s:σ) (c m:Nat),k+d=xs.length->d<m->c0<=c->I s ->
  ∃(c':Nat) (j:Int),c<=c'/\0<=j/\BG (AE cj ann kn (n+K+50) 19) RH (ann 19 (BX RH)) m ⟨c,[(0,true,.list false (xs.map AM)),(1,true,.fn f [] cap),(7,true,i xs.length),(8,true,i k)],⟨U s,[]⟩⟩ =
   bif (BI p nx s (xs.drop k)).1 then some (.ret,⟨c',[(4,true,i j),(17,true,i j),(5,true,i j)],⟨U (BI p nx s (xs.drop k)).2,[]⟩⟩)
   else some (.exit 0,⟨c',[(9,true,.bool false),(0,true,.list false (xs.map AM)),(1,true,.fn f [] cap),(7,true,i xs.length),(8,true,i xs.length)],⟨U (BI p nx s (xs.drop k)).2,[]⟩⟩)
 |0,k,s,c,m+1,hd,hm,hc0,hi=>by
  have:k=xs.length:=by omega
  subst this;refine⟨c,0,bb _,by omega,?_⟩;simp[AC,BI]
 |d+1,k,s,c,m+1,hd,hm,hc0,hi=>by
  have hk:k<xs.length:=by omega
  have hw:=BS (k:=k) (by omega);have nrm:∀a:Nat,n+K+a=(n+a)+K:=fun a=>by omega
  rw[AC,bj hk];simp only[BI];obtain⟨hi',c1,hc1,q⟩:=hp (n+43) c [(15,true,.agg (AM xs[k])),(14,true,.ref (AM xs[k])),(13,true,i k),(12,true,.list false (xs.map AM)),(11,true,.fn f [] cap),(0,true,.list false (xs.map AM)),(1,true,.fn f [] cap),(5,true,i k),(7,true,i xs.length),(8,true,i k)] s xs[k] hc0 hi (bz hk);generalize e:p s xs[k]=b at q hi';cases b with
  |true=>
   refine⟨c1,k,hc1,by omega,?_⟩
   try simp only[AM]at q
   rw[<-nrm]at q
   try simp at q
   simp[hk,hw,AM,q,hcw]
  |false=>
   obtain⟨c',j,h1,h2,ih⟩:=wM n K U I f cap hcw p nx xs c0 hp hl d (k+1) (nx s xs[k]) c1 m (by omega) (by omega) (by omega) (hi' rfl)
   refine⟨c',j,by omega,h2,?_⟩
   try simp only[AM]at q ih
   rw[<-nrm]at q
   try simp at q
   simp at ih
   simp[hk,hw,AM,q,ih,hcw]
theorem AKC{σ:Type}(n K:Nat)(up:σ->List AA)(loc:σ->AA)(I:σ->Prop)(f:ck)(cap:List V)(hcw:cap.map weakV=cap)(hco:cap.all (AG 8)=false)(p:σ->Int×Int->Bool)(nx:σ->Int×Int->σ)(xs:List (Int×Int))(c0:Nat)(hp:wL (fun s=>up s++[loc s]) I K f cap p nx xs c0)(hl:xs.length<=40)(hsh:∀s (t:St),(up s).length+1<=t.up.length->(up s++[loc s]).map (AJ t)=up s++[loc s])(c dd:Nat)(fr:Fr)(s:σ)(hc0:c0<=c)(hi:I s) :
  ∃(c':Nat) (j:Int),c<=c'/\decide (0<=j)=(BI p nx s xs).1/\GH (BH cj ann kn (n+K+100)) (some dd) ⟨c,fr,⟨up s,loc s⟩⟩ 110 [.list false (xs.map AM),.fn f [] cap]=some ⟨c',(dd,true,i j)::fr,⟨up (BI p nx s xs).2,loc (BI p nx s xs).2⟩⟩:=by
 obtain⟨c1,j,h1,h2,q⟩:=wM (n+45) K (fun s=>up s++[loc s]) I f cap hcw p nx xs c0 hp (by omega) xs.length 0 s c (n+K+95) (by omega) (by omega) hc0 hi
 have e:n+45+K+50=n+K+95:=by omega
 rw[e]at q
 have hcl:([V.list false (xs.map AM),V.fn f [] cap]).all (AG 9)=false:=by simp[hco]
 have hs:=fun s=>hsh s ⟨up s++[loc s],[]⟩ (by simp)
 simp at hs
 rw[A3 Tryz.func110 b110 rfl hcl]
 simp only[bg]at q
 generalize (BI p nx s xs).2=s' at q|-
 generalize e:(BI p nx s xs).1=b at q
 cases b with
 |true=>
  refine⟨c1,j,h1,by simpa using h2,?_⟩
  simp at q
  simp[APB,AD,q,hs]
 |false=>
  refine⟨c1,-1,h1,by simp,?_⟩
  simp at q
  simp[APB,AD,q,hs]
theorem AON{σ:Type}(n K:Nat)(up:σ->List AA)(loc:σ->AA)(I:σ->Prop)(f:ck)(cap:List V)(hcw:cap.map weakV=cap)(hco:cap.all (AG 8)=false)(p:σ->Int×Int->Bool)(nx:σ->Int×Int->σ)(xs:List (Int×Int))(c0:Nat)(hp:wL (fun s=>up s++[loc s]++[[]]) I K f cap p nx xs c0)(hl:xs.length<=40)(hsh:∀s (t:St),(up s).length+1<=t.up.length->(up s++[loc s]).map (AJ t)=up s++[loc s])(c dd:Nat)(fr:Fr)(s:σ)(hc0:c0<=c)(hi:I s) :
  ∃c':Nat,c<=c'/\GH (BH cj ann kn (n+K+200)) (some dd) ⟨c,fr,⟨up s,loc s⟩⟩ 97 [.list false (xs.map AM),.fn f [] cap]=some ⟨c',(dd,true,.bool (BI p nx s xs).1)::fr,⟨up (BI p nx s xs).2,loc (BI p nx s xs).2⟩⟩:=by
 have hcl:([V.list false (xs.map AM),V.fn f [] cap]).all (AG 9)=false:=by simp[hco]
 have hsh2:∀s (t:St),(up s++[loc s]).length+1<=t.up.length->(up s++[loc s]++[[]]).map (AJ t)=up s++[loc s]++[[]]:=fun s t h=>by have:=hsh s t (by simp at h;omega);simp only[bq,bx,bc,E5]at this|-;rw[this]
 obtain⟨c1,j,h1,h2,q⟩:=AKC (n+97) K (fun s=>up s++[loc s]) (fun _=>[]) I f cap hcw hco p nx xs c0 hp hl hsh2 c 7 [(6,true,.fn f [] cap),(5,true,.list false (xs.map AM)),(0,true,.list false (xs.map AM)),(1,true,.fn f [] cap)] s hc0 hi
 refine⟨c1,h1,?_⟩
 have e:n+97+K+100=n+K+197:=by omega
 rw[e]at q
 have hs:=fun s=>hsh s ⟨up s++[loc s],[]⟩ (by simp)
 simp at hs
 rw[A3 Tryz.func97 b97 rfl hcl]
 simp[c97,AD,hcw,q,h2,hs]
theorem A6P(n K:Nat)(b:AL)(f:ck)(p:Int×Int->Bool)(xs:List (Int×Int))(hl:xs.length<=40)(hf:∀n x,x∈xs->AZ cj kn (AE cj ann kn (n+K)) f [.agg (AB b),.agg (AM x)]=some (.bool (p x)))(hh:BK cj f=false:=by simp) :
  AZ cj kn (AE cj ann kn (n+K+300)) 63 [.list false (xs.map AM),.fn f [.agg (AB b)] []]=some (.bool (xs.all p)):=by
 rw[AP rfl,AQ Tryz.func63 b63 rfl (by simp[AB,AH,AN,AM])]
 have hp2:wL (fun (_:Unit)=>[]++[[(3,0,AX.box [V.fn f [.agg (AB b)] []])]]++[[]]) (fun _=>True) (K+20) 98 [.ptr 0 3 0 0] (fun _ x=>!p x) (fun _ _=>()) xs 0:=by
  intro n c1 fr s x hc0 hi hx;refine⟨fun _=>trivial,c1+1,by omega,?_⟩;have q:=fun n=>hf n x hx;have q2:=q (n+17);have e:n+17+K=n+K+17:=by omega
  rw[e]at q2;simp only[AB,AM]at q2|-;try simp[AH]at q2
  rw[show n+(K+20)=n+K+20 from by omega,bw,A3 Tryz.func98 b98 rfl (by simp)];simp[c98,AD,AB,AH,AN,AM,q2,hh];try simp[AB,AH,AN,AM,q2,hh]
 obtain⟨c',h1,q⟩:=AON (n+77) (K+20) (fun _=>[]) (fun _=>[(3,0,.box [.fn f [.agg (AB b)] []])]) (fun _=>True) 98 [.ptr 0 3 0 0] (by simp) (by simp) (fun _ x=>!p x) (fun _ _=>()) xs 0 hp2 hl (by simp[AB,AH,AN,AM]) 1 7 [(6,true,.fn 98 [] [.ptr 0 3 0 0]),(5,true,.list false (xs.map AM)),(0,true,.list false (xs.map AM)),(1,true,.fn f [.agg (AB b)] []),(3,true,.ptr 0 3 0 0)] () (bh _) trivial
 have e:n+77+(K+20)+200=n+K+297:=by omega
 rw[e,E9]at q
 have:=JS p xs
 simp only[AB]at q|-
 simp[c63,AD,q]
 rw[<-this,bm]
def wN{σ:Type}(U:σ->List AA)(I:σ->Prop)(K:Nat)(f:ck)(cap:List V)(p:σ->Int×Int->Bool)(nx:σ->Int×Int->σ)(xs:List (Int×Int))(c0:Nat):Prop:=∀n c fr s x,c0<=c->I s->x∈xs->(p s x=false->I (nx s x))/\∃c',c<=c'/\GH (BH cj ann kn (n+K)) (some 16) ⟨c,fr,⟨U s,[]⟩⟩ f (.agg (AM x)::cap)=some ⟨c',(16,true,.bool (p s x))::fr,⟨U (nx s x),[]⟩⟩
theorem wO{σ:Type}(n K:Nat)(U:σ->List AA)(I:σ->Prop)(f:ck)(cap:List V)(hcw:cap.map weakV=cap)(p:σ->Int×Int->Bool)(nx:σ->Int×Int->σ)(xs:List (Int×Int))(c0:Nat)(hp:wN U I K f cap p nx xs c0)(hl:xs.length<=1000):∀(d k:Nat) (s:σ) (c m:Nat),k+d=xs.length->d<m->c0<=c->I s ->
  ∃(c':Nat) (j:Int),c<=c'/\0<=j/\BG (AE cj ann kn (n+K+50) 19) RI (ann 19 (BX RI)) m ⟨c,[(0,true,.list false (xs.map AM)),(1,true,.fn f [] cap),(7,true,i xs.length),(8,true,i k)],⟨U s,[]⟩⟩ =
   bif (BI p nx s (xs.drop k)).1 then some (.ret,⟨c',[(4,true,i j),(17,true,i j),(5,true,i j)],⟨U (BI p nx s (xs.drop k)).2,[]⟩⟩)
   else some (.exit 0,⟨c',[(9,true,.bool false),(0,true,.list false (xs.map AM)),(1,true,.fn f [] cap),(7,true,i xs.length),(8,true,i xs.length)],⟨U (BI p nx s (xs.drop k)).2,[]⟩⟩)
 |0,k,s,c,m+1,hd,hm,hc0,hi=>by
  have:k=xs.length:=by omega
  subst this;refine⟨c,0,bb _,by omega,?_⟩;simp[AC,BI]
 |d+1,k,s,c,m+1,hd,hm,hc0,hi=>by
  have hk:k<xs.length:=by omega
  have hw:=BS (k:=k) (by omega);have nrm:∀a:Nat,n+K+a=(n+a)+K:=fun a=>by omega
  rw[AC,bj hk];simp only[BI];obtain⟨hi',c1,hc1,q⟩:=hp (n+43) c [(15,true,.agg (AM xs[k])),(14,true,.ref (AM xs[k])),(13,true,i k),(12,true,.list false (xs.map AM)),(11,true,.fn f [] cap),(0,true,.list false (xs.map AM)),(1,true,.fn f [] cap),(5,true,i k),(7,true,i xs.length),(8,true,i k)] s xs[k] hc0 hi (bz hk);generalize e:p s xs[k]=b at q hi';cases b with
  |true=>
   refine⟨c1,k,hc1,by omega,?_⟩
   try simp only[AM]at q
   rw[<-nrm]at q
   try simp at q
   simp[hk,hw,AM,q,hcw]
  |false=>
   obtain⟨c',j,h1,h2,ih⟩:=wO n K U I f cap hcw p nx xs c0 hp hl d (k+1) (nx s xs[k]) c1 m (by omega) (by omega) (by omega) (hi' rfl)
   refine⟨c',j,by omega,h2,?_⟩
   try simp only[AM]at q ih
   rw[<-nrm]at q
   try simp at q
   simp at ih
   simp[hk,hw,AM,q,ih,hcw]
theorem AKD{σ:Type}(n K:Nat)(up:σ->List AA)(loc:σ->AA)(I:σ->Prop)(f:ck)(cap:List V)(hcw:cap.map weakV=cap)(hco:cap.all (AG 8)=false)(p:σ->Int×Int->Bool)(nx:σ->Int×Int->σ)(xs:List (Int×Int))(c0:Nat)(hp:wN (fun s=>up s++[loc s]) I K f cap p nx xs c0)(hl:xs.length<=40)(hsh:∀s (t:St),(up s).length+1<=t.up.length->(up s++[loc s]).map (AJ t)=up s++[loc s])(c dd:Nat)(fr:Fr)(s:σ)(hc0:c0<=c)(hi:I s) :
  ∃(c':Nat) (j:Int),c<=c'/\decide (0<=j)=(BI p nx s xs).1/\GH (BH cj ann kn (n+K+100)) (some dd) ⟨c,fr,⟨up s,loc s⟩⟩ 111 [.list false (xs.map AM),.fn f [] cap]=some ⟨c',(dd,true,i j)::fr,⟨up (BI p nx s xs).2,loc (BI p nx s xs).2⟩⟩:=by
 obtain⟨c1,j,h1,h2,q⟩:=wO (n+45) K (fun s=>up s++[loc s]) I f cap hcw p nx xs c0 hp (by omega) xs.length 0 s c (n+K+95) (by omega) (by omega) hc0 hi
 have e:n+45+K+50=n+K+95:=by omega
 rw[e]at q
 have hcl:([V.list false (xs.map AM),V.fn f [] cap]).all (AG 9)=false:=by simp[hco]
 have hs:=fun s=>hsh s ⟨up s++[loc s],[]⟩ (by simp)
 simp at hs
 rw[A3 Tryz.func111 b111 rfl hcl]
 simp only[bg]at q
 generalize (BI p nx s xs).2=s' at q|-
 generalize e:(BI p nx s xs).1=b at q
 cases b with
 |true=>
  refine⟨c1,j,h1,by simpa using h2,?_⟩
  simp at q
  simp[APC,AD,q,hs]
 |false=>
  refine⟨c1,-1,h1,by simp,?_⟩
  simp at q
  simp[APC,AD,q,hs]
theorem A6Q{σ:Type}(n K:Nat)(up:σ->List AA)(loc:σ->AA)(I:σ->Prop)(f:ck)(cap:List V)(hcw:cap.map weakV=cap)(hco:cap.all (AG 8)=false)(p:σ->Int×Int->Bool)(nx:σ->Int×Int->σ)(xs:List (Int×Int))(c0:Nat)(hp:wN (fun s=>up s++[loc s]++[[]]) I K f cap p nx xs c0)(hl:xs.length<=40)(hsh:∀s (t:St),(up s).length+1<=t.up.length->(up s++[loc s]).map (AJ t)=up s++[loc s])(c dd:Nat)(fr:Fr)(s:σ)(hc0:c0<=c)(hi:I s) :
  ∃c':Nat,c<=c'/\GH (BH cj ann kn (n+K+200)) (some dd) ⟨c,fr,⟨up s,loc s⟩⟩ 99 [.list false (xs.map AM),.fn f [] cap]=some ⟨c',(dd,true,.bool (BI p nx s xs).1)::fr,⟨up (BI p nx s xs).2,loc (BI p nx s xs).2⟩⟩:=by
 have hcl:([V.list false (xs.map AM),V.fn f [] cap]).all (AG 9)=false:=by simp[hco]
 have hsh2:∀s (t:St),(up s++[loc s]).length+1<=t.up.length->(up s++[loc s]++[[]]).map (AJ t)=up s++[loc s]++[[]]:=fun s t h=>by have:=hsh s t (by simp at h;omega);simp only[bq,bx,bc,E5]at this|-;rw[this]
 obtain⟨c1,j,h1,h2,q⟩:=AKD (n+97) K (fun s=>up s++[loc s]) (fun _=>[]) I f cap hcw hco p nx xs c0 hp hl hsh2 c 7 [(6,true,.fn f [] cap),(5,true,.list false (xs.map AM)),(0,true,.list false (xs.map AM)),(1,true,.fn f [] cap)] s hc0 hi
 refine⟨c1,h1,?_⟩
 have e:n+97+K+100=n+K+197:=by omega
 rw[e]at q
 have hs:=fun s=>hsh s ⟨up s++[loc s],[]⟩ (by simp)
 simp at hs
 rw[A3 Tryz.func99 b99 rfl hcl]
 simp[c99,AD,hcw,q,h2,hs]
theorem A6R(n K:Nat)(b:AL)(f:ck)(p:Int×Int->Bool)(xs:List (Int×Int))(hl:xs.length<=40)(hf:∀n x,x∈xs->AZ cj kn (AE cj ann kn (n+K)) f [.agg (AB b),.agg (AM x)]=some (.bool (p x)))(hh:BK cj f=false:=by simp) :
  AZ cj kn (AE cj ann kn (n+K+300)) 64 [.list false (xs.map AM),.fn f [.agg (AB b)] []]=some (.bool (xs.all p)):=by
 rw[AP rfl,AQ Tryz.func64 b64 rfl (by simp[AB,AH,AN,AM])]
 have hp2:wN (fun (_:Unit)=>[]++[[(3,0,AX.box [V.fn f [.agg (AB b)] []])]]++[[]]) (fun _=>True) (K+20) 100 [.ptr 0 3 0 0] (fun _ x=>!p x) (fun _ _=>()) xs 0:=by
  intro n c1 fr s x hc0 hi hx;refine⟨fun _=>trivial,c1+1,by omega,?_⟩;have q:=fun n=>hf n x hx;have q2:=q (n+17);have e:n+17+K=n+K+17:=by omega
  rw[e]at q2;simp only[AB,AM]at q2|-;try simp[AH]at q2
  rw[show n+(K+20)=n+K+20 from by omega,bw,A3 Tryz.func100 b100 rfl (by simp)];simp[AZ5,AD,AB,AH,AN,AM,q2,hh];try simp[AB,AH,AN,AM,q2,hh]
 obtain⟨c',h1,q⟩:=A6Q (n+77) (K+20) (fun _=>[]) (fun _=>[(3,0,.box [.fn f [.agg (AB b)] []])]) (fun _=>True) 100 [.ptr 0 3 0 0] (by simp) (by simp) (fun _ x=>!p x) (fun _ _=>()) xs 0 hp2 hl (by simp[AB,AH,AN,AM]) 1 7 [(6,true,.fn 100 [] [.ptr 0 3 0 0]),(5,true,.list false (xs.map AM)),(0,true,.list false (xs.map AM)),(1,true,.fn f [.agg (AB b)] []),(3,true,.ptr 0 3 0 0)] () (bh _) trivial
 have e:n+77+(K+20)+200=n+K+297:=by omega
 rw[e,E9]at q
 have:=JS p xs
 simp only[AB]at q|-
 simp[c64,AD,q]
 rw[<-this,bm]
end Go.Proofs.Tryz.Op
