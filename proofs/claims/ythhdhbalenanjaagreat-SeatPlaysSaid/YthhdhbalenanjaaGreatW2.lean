/- What serves the contracts of IndexFunc and its like: a predicate with a state. No condition. (printed by pred.py) -/
import Derived.Test.YthhdhbalenanjaaGreatW1
import Derived.Test.YthhdhbalenanjaaGreatFz
open Go Go.Pg Go.Proofs Go.Wind
namespace Go.Wind
def BE{σ α:Type}(p:σ→α→Bool)(nx:σ→α→σ):σ→List α→Bool×σ
 | s,[]=>(false,s)
 | s,x :: xs=>bif p s x then(true,nx s x) else BE p nx (nx s x) xs
theorem ET{α:Type}(p:α→Bool):∀(xs:List α),BE (fun (_:Unit) x=>p x) (fun _ _=>()) () xs=(xs.any p,())
 | []=>rfl
 | x :: xs=>by
  simp only[BE,List.any_cons,ET p xs]
  cases p x <;> rfl
end Go.Wind
open Go Go.Pg Go.Proofs Go.Wind
namespace Go.Proofs.Tryz.Op
set_option maxRecDepth 100000
set_option linter.unusedSimpArgs false
def lF{σ:Type}(U:σ→List AB)(I:σ→Prop)(K:Nat)(f:FuncId)(cap:List V)(p:σ→Int→Bool)(nx:σ→Int→σ)(xs:List (Int))(c0:Nat):Prop:=∀n c fr s x,c0≤c→I s→x∈xs→(p s x=false→I (nx s x))∧∃c',c≤c'∧IQ (BQ Tryz.prog ann kn (n+K)) (some 16) ⟨c,fr,⟨U s,[]⟩⟩ f (i x :: cap)=some ⟨c',(16,true,.bool (p s x)) :: fr,⟨U (nx s x),[]⟩⟩
theorem sN{σ:Type}(n K:Nat)(U:σ→List AB)(I:σ→Prop)(f:FuncId)(cap:List V)(hcw:cap.map weakV=cap)(p:σ→Int→Bool)(nx:σ→Int→σ)(xs:List (Int))(c0:Nat)(hp:lF U I K f cap p nx xs c0)(hl:xs.length≤1000):∀(d k:Nat) (s:σ) (c m:Nat),k+d=xs.length→d<m→c0≤c→I s →
  ∃(c':Nat) (j:Int),c≤c'∧0≤j∧A9 (AE Tryz.prog ann kn (n+K+50) 19) Q4 (ann 19 (BN Q4)) m ⟨c,[(0,true,.list false (xs.map AH)),(1,true,.fn f [] cap),(7,true,i xs.length),(8,true,i k)],⟨U s,[]⟩⟩ =
   bif (BE p nx s (xs.drop k)).1 then some (.ret,⟨c',[(4,true,i j),(17,true,i j),(5,true,i j)],⟨U (BE p nx s (xs.drop k)).2,[]⟩⟩)
   else some (.exit 0,⟨c',[(9,true,.bool false),(0,true,.list false (xs.map AH)),(1,true,.fn f [] cap),(7,true,i xs.length),(8,true,i xs.length)],⟨U (BE p nx s (xs.drop k)).2,[]⟩⟩)
 | 0,k,s,c,m+1,hd,hm,hc0,hi=>by
  have:k=xs.length:=by omega
  subst this
  refine⟨c,0,Nat.le_refl _,by omega,?_⟩
  simp[AC,BE]
 | d+1,k,s,c,m+1,hd,hm,hc0,hi=>by
  have hk:k<xs.length:=by omega
  have hw:=BH (k:=k) (by omega)
  have nrm:∀a:Nat,n+K+a=(n+a)+K:=fun a=>by omega
  rw[AC,List.drop_eq_getElem_cons hk]
  simp only[BE]
  obtain⟨hi',c1,hc1,q⟩:=hp (n+43) c [(15,true,i xs[k]),(14,true,.ref (AH xs[k])),(13,true,i k),(12,true,.list false (xs.map AH)),(11,true,.fn f [] cap),(0,true,.list false (xs.map AH)),(1,true,.fn f [] cap),(5,true,i k),(7,true,i xs.length),(8,true,i k)] s xs[k] hc0 hi (List.getElem_mem hk)
  generalize e:p s xs[k]=b at q hi'
  cases b with
  | true =>
   refine⟨c1,k,hc1,by omega,?_⟩
   try simp only[AH]at q
   rw[← nrm]at q
   try simp at q
   simp[hk,hw,AH,q,hcw]
  | false =>
   obtain⟨c',j,h1,h2,ih⟩:=sN n K U I f cap hcw p nx xs c0 hp hl d (k+1) (nx s xs[k]) c1 m (by omega) (by omega) (by omega) (hi' rfl)
   refine⟨c',j,by omega,h2,?_⟩
   try simp only[AH]at q ih
   rw[← nrm]at q
   try simp at q
   simp at ih
   simp[hk,hw,AH,q,ih,hcw]
theorem AH8{σ:Type}(n K:Nat)(up:σ→List AB)(loc:σ→AB)(I:σ→Prop)(f:FuncId)(cap:List V)(hcw:cap.map weakV=cap)(hco:cap.all (AL 8)=false)(p:σ→Int→Bool)(nx:σ→Int→σ)(xs:List (Int))(c0:Nat)(hp:lF (fun s=>up s++[loc s]) I K f cap p nx xs c0)(hl:xs.length≤40)(hsh:∀s (t:St),(up s).length+1≤t.up.length→(up s++[loc s]).map (AQ t)=up s++[loc s])(c dd:Nat)(fr:Fr)(s:σ)(hc0:c0≤c)(hi:I s) :
  ∃(c':Nat) (j:Int),c≤c'∧decide (0≤j)=(BE p nx s xs).1∧IQ (BQ Tryz.prog ann kn (n+K+100)) (some dd) ⟨c,fr,⟨up s,loc s⟩⟩ 190 [.list false (xs.map AH),.fn f [] cap]=some ⟨c',(dd,true,i j) :: fr,⟨up (BE p nx s xs).2,loc (BE p nx s xs).2⟩⟩:=by
 obtain⟨c1,j,h1,h2,q⟩:=sN (n+45) K (fun s=>up s++[loc s]) I f cap hcw p nx xs c0 hp (by omega) xs.length 0 s c (n+K+95) (by omega) (by omega) hc0 hi
 have e:n+45+K+50=n+K+95:=by omega
 rw[e]at q
 have hcl:([V.list false (xs.map AH),V.fn f [] cap]).all (AL 9)=false:=by simp[hco]
 have hs:=fun s=>hsh s ⟨up s++[loc s],[]⟩ (by simp)
 simp at hs
 rw[BK Tryz.func190 b190 rfl hcl]
 simp only[List.drop_zero]at q
 generalize (BE p nx s xs).2=s' at q ⊢
 generalize e:(BE p nx s xs).1=b at q
 cases b with
 | true =>
  refine⟨c1,j,h1,by simpa using h2,?_⟩
  simp at q
  simp[AMA,AF,q,hs]
 | false =>
  refine⟨c1,-1,h1,by simp,?_⟩
  simp at q
  simp[AMA,AF,q,hs]
theorem ALP{σ:Type}(n K:Nat)(up:σ→List AB)(loc:σ→AB)(I:σ→Prop)(f:FuncId)(cap:List V)(hcw:cap.map weakV=cap)(hco:cap.all (AL 8)=false)(p:σ→Int→Bool)(nx:σ→Int→σ)(xs:List (Int))(c0:Nat)(hp:lF (fun s=>up s++[loc s]++[[]]) I K f cap p nx xs c0)(hl:xs.length≤40)(hsh:∀s (t:St),(up s).length+1≤t.up.length→(up s++[loc s]).map (AQ t)=up s++[loc s])(c dd:Nat)(fr:Fr)(s:σ)(hc0:c0≤c)(hi:I s) :
  ∃c':Nat,c≤c'∧IQ (BQ Tryz.prog ann kn (n+K+200)) (some dd) ⟨c,fr,⟨up s,loc s⟩⟩ 175 [.list false (xs.map AH),.fn f [] cap]=some ⟨c',(dd,true,.bool (BE p nx s xs).1) :: fr,⟨up (BE p nx s xs).2,loc (BE p nx s xs).2⟩⟩:=by
 have hcl:([V.list false (xs.map AH),V.fn f [] cap]).all (AL 9)=false:=by simp[hco]
 have hsh2:∀s (t:St),(up s++[loc s]).length+1≤t.up.length→(up s++[loc s]++[[]]).map (AQ t)=up s++[loc s]++[[]]:=fun s t h=>by
  have:=hsh s t (by simp at h; omega)
  simp only[List.map_append,List.map_cons,List.map_nil,EP]at this ⊢
  rw[this]
 obtain⟨c1,j,h1,h2,q⟩:=AH8 (n+97) K (fun s=>up s++[loc s]) (fun _=>[]) I f cap hcw hco p nx xs c0 hp hl hsh2 c 7 [(6,true,.fn f [] cap),(5,true,.list false (xs.map AH)),(0,true,.list false (xs.map AH)),(1,true,.fn f [] cap)] s hc0 hi
 refine⟨c1,h1,?_⟩
 have e:n+97+K+100=n+K+197:=by omega
 rw[e]at q
 have hs:=fun s=>hsh s ⟨up s++[loc s],[]⟩ (by simp)
 simp at hs
 rw[BK Tryz.func175 b175 rfl hcl]
 simp[AXQ,AF,hcw,q,h2,hs]
end Go.Proofs.Tryz.Op
open Go Go.Pg Go.Proofs Go.Wind
namespace Go.Proofs.Tryz.Op
set_option maxRecDepth 100000
set_option linter.unusedSimpArgs false
theorem ARF{σ:Type}(n K L:Nat)(up:σ→List AB)(loc:σ→AB)(hL:∀s,(up s).length=L)(I:σ→Prop)(f:FuncId)(cap:List V)(hcw:cap.map weakV=cap)(hco:cap.all (AL 8)=false)(p:σ→Int→Bool)(nx:σ→Int→σ)(xs:List (Int))(hl:xs.length≤40)
  (hsh:∀s (t:St),L+1≤t.up.length→(up s++[loc s]).map (AQ t)=up s++[loc s]) (hcap:∀(t:St) γ,L+1≤t.up.length→AQ t [(3,γ,AX.box [V.fn f [] cap])]=[(3,γ,AX.box [V.fn f [] cap])]) (c:Nat)
  (hp:∀n c1 fr s x,c<c1→I s→x∈xs→(p s x=true→I (nx s x))∧∃c',c1≤c'∧IQ (BQ Tryz.prog ann kn (n+K)) (some 6) ⟨c1,fr,⟨up s++[loc s]++[[(3,c,AX.box [V.fn f [] cap])]]++[[]]++[[]],[]⟩⟩ f (i x :: cap)=some ⟨c',(6,true,.bool (p s x)) :: fr,⟨up (nx s x)++[loc (nx s x)]++[[(3,c,AX.box [V.fn f [] cap])]]++[[]]++[[]],[]⟩⟩) (dd:Nat) (fr:Fr) (s:σ) (hi:I s) :
  ∃c':Nat,c≤c'∧IQ (BQ Tryz.prog ann kn (n+K+300)) (some dd) ⟨c,fr,⟨up s,loc s⟩⟩ 144 [.list false (xs.map AH),.fn f [] cap]=some ⟨c',(dd,true,.bool (!(BE (fun s x=>!p s x) nx s xs).1)) :: fr,⟨up (BE (fun s x=>!p s x) nx s xs).2,loc (BE (fun s x=>!p s x) nx s xs).2⟩⟩:=by
 have hcl:([V.list false (xs.map AH),V.fn f [] cap]).all (AL 9)=false:=by simp[QN,hco]
 have hp2:lF (fun s=>up s++[loc s]++[[(3,c,AX.box [V.fn f [] cap])]]++[[]]) I (K+20) 176 [.ptr (L+1) 3 c 0] (fun s x=>!p s x) nx xs (c+1):=by
  have hcap':∀t:St,L+1≤t.up.length→AQ t [(3,c,AX.box [V.fn f [] cap])]=[(3,c,AX.box [V.fn f [] cap])]:=fun t h=>hcap t c h
  intro n c1 fr s x hc0 hi hx
  obtain⟨h1,c',h2,q⟩:=hp (n+17) c1 [(5,true,i x),(4,true,.fn f [] cap),(0,true,i x),(1,true,.ptr (L+1) 3 c 0)] s x hc0 hi hx
  refine⟨fun h=>h1 (by simpa using h),c',h2,?_⟩
  have e:n+17+K=n+K+17:=by omega
  rw[e]at q
  rw[show n+(K+20)=n+K+20 from by omega,BK Tryz.func176 b176 rfl (by simp)]
  generalize hB:[(3,c,AX.box [V.fn f [] cap])]=B at q hcap'
  have hB1:AB.get B 3=some (c,.box [.fn f [] cap]):=by rw[← hB]; rfl
  have hg:(up s++[loc s]++[B]++[[]])[L+1]? = some B:=by
   simp only[List.append_assoc]
   rw[List.getElem?_append_right (by rw[hL]; omega)]
   simp[hL]
  have hs1:∀s (t:St),L+1≤t.up.length→List.map (AQ t) (up s)=up s∧AQ t (loc s)=loc s:=fun s t h=>by simpa using hsh s t h
  have hu:∀(l:List AB) a b,DA (l++[a,b,[],[]])=some (l++[a,b,[]],[]):=fun l a b=>by
   have:=GA ([]:AB) (l++[a,b,[]])
   rwa [List.append_assoc]at this
  simp only[List.append_assoc,List.cons_append,List.nil_append]at q hg ⊢
  simp[hu,AMC,AF,hcw,q,hg,hL,hB1,(hs1 _ _ _).1,(hs1 _ _ _).2,hcap']
 have hsh2:∀s (t:St),(up s++[loc s]).length+1≤t.up.length→(up s++[loc s]++[[(3,c,AX.box [V.fn f [] cap])]]).map (AQ t)=up s++[loc s]++[[(3,c,AX.box [V.fn f [] cap])]]:=fun s t h=>by
  have h':L+1≤t.up.length:=by simp[hL]at h; omega
  have:=hsh s t h'
  have h3:=hcap t c h'
  rw[List.map_append,this]
  simp only[List.map_cons,List.map_nil,h3]
 obtain⟨c',h1,q⟩:=ALP (n+77) (K+20) (fun s=>up s++[loc s]) (fun _=>[(3,c,AX.box [V.fn f [] cap])]) I 176 [.ptr (L+1) 3 c 0] (by simp) (by simp) (fun s x=>!p s x) nx xs (c+1) hp2 hl hsh2 (c+1) 7 [(6,true,.fn 176 [] [.ptr (L+1) 3 c 0]),(5,true,.list false (xs.map AH)),(0,true,.list false (xs.map AH)),(1,true,.fn f [] cap),(3,true,.ptr (L+1) 3 c 0)] s (Nat.le_refl _) hi
 refine⟨c',by omega,?_⟩
 have e:n+77+(K+20)+200=n+K+297:=by omega
 rw[e]at q
 have hs1:∀s (t:St),L+1≤t.up.length→List.map (AQ t) (up s)=up s∧AQ t (loc s)=loc s:=fun s t h=>by simpa using hsh s t h
 rw[BK Tryz.func144 b144 rfl hcl]
 try simp only[List.length_append,List.length_cons,List.length_nil]at q ⊢
 simp[AMB,AF,hcw,hL,q,(hs1 _ _ _).1,(hs1 _ _ _).2]
theorem ADE(n K:Nat)(f:FuncId)(p:Int→Bool)(xs:List (Int))(hl:xs.length≤40)(hf:∀n x,x∈xs→AY Tryz.prog kn (AE Tryz.prog ann kn (n+K)) f [i x]=some (.bool (p x)))(hh:AK Tryz.prog f=false:=by simp) :
  AY Tryz.prog kn (AE Tryz.prog ann kn (n+K+300)) 144 [.list false (xs.map AH),.fn f [] []]=some (.bool (xs.all p)):=by
 rw[AP rfl,AO Tryz.func144 b144 rfl (by simp[AA,AH,AN,AG])]
 have hp2:lF (fun (_:Unit)=>[]++[[(3,0,AX.box [V.fn f [] []])]]++[[]]) (fun _=>True) (K+20) 176 [.ptr 0 3 0 0] (fun _ x=>!p x) (fun _ _=>()) xs 0:=by
  intro n c1 fr s x hc0 hi hx
  refine⟨fun _=>trivial,c1+0,by omega,?_⟩
  have q:=fun n=>hf n x hx
  have q2:=q (n+17)
  have e:n+17+K=n+K+17:=by omega
  rw[e]at q2
  skip
  try simp[AH]at q2
  rw[show n+(K+20)=n+K+20 from by omega,List.nil_append,BK Tryz.func176 b176 rfl (by simp)]
  simp[AMC,AF,AH,q2,hh]
  try simp[AH,q2,hh]
 obtain⟨c',h1,q⟩:=ALP (n+77) (K+20) (fun _=>[]) (fun _=>[(3,0,.box [.fn f [] []])]) (fun _=>True) 176 [.ptr 0 3 0 0] (by simp) (by simp) (fun _ x=>!p x) (fun _ _=>()) xs 0 hp2 hl (by simp[AA,AH,AN,AG]) 1 7 [(6,true,.fn 176 [] [.ptr 0 3 0 0]),(5,true,.list false (xs.map AH)),(0,true,.list false (xs.map AH)),(1,true,.fn f [] []),(3,true,.ptr 0 3 0 0)] () (Nat.zero_le _) trivial
 have e:n+77+(K+20)+200=n+K+297:=by omega
 rw[e,ET]at q
 have:=I1 p xs
 skip
 simp[AMB,AF,q]
 rw[← this,Bool.not_not]
end Go.Proofs.Tryz.Op
open Go Go.Pg Go.Proofs Go.Wind
namespace Go.Proofs.Tryz.Op
set_option maxRecDepth 100000
set_option linter.unusedSimpArgs false
def lG{σ:Type}(U:σ→List AB)(I:σ→Prop)(K:Nat)(f:FuncId)(cap:List V)(p:σ→List Int→Bool)(nx:σ→List Int→σ)(xs:List (List Int))(c0:Nat):Prop:=∀n c fr s x,c0≤c→I s→x∈xs→(p s x=false→I (nx s x))∧∃c',c≤c'∧IQ (BQ Tryz.prog ann kn (n+K)) (some 16) ⟨c,fr,⟨U s,[]⟩⟩ f (li x :: cap)=some ⟨c',(16,true,.bool (p s x)) :: fr,⟨U (nx s x),[]⟩⟩
theorem sO{σ:Type}(n K:Nat)(U:σ→List AB)(I:σ→Prop)(f:FuncId)(cap:List V)(hcw:cap.map weakV=cap)(p:σ→List Int→Bool)(nx:σ→List Int→σ)(xs:List (List Int))(c0:Nat)(hp:lG U I K f cap p nx xs c0)(hl:xs.length≤1000):∀(d k:Nat) (s:σ) (c m:Nat),k+d=xs.length→d<m→c0≤c→I s →
  ∃(c':Nat) (j:Int),c≤c'∧0≤j∧A9 (AE Tryz.prog ann kn (n+K+50) 19) Q5 (ann 19 (BN Q5)) m ⟨c,[(0,true,.list false (xs.map AN)),(1,true,.fn f [] cap),(7,true,i xs.length),(8,true,i k)],⟨U s,[]⟩⟩ =
   bif (BE p nx s (xs.drop k)).1 then some (.ret,⟨c',[(4,true,i j),(17,true,i j),(5,true,i j)],⟨U (BE p nx s (xs.drop k)).2,[]⟩⟩)
   else some (.exit 0,⟨c',[(9,true,.bool false),(0,true,.list false (xs.map AN)),(1,true,.fn f [] cap),(7,true,i xs.length),(8,true,i xs.length)],⟨U (BE p nx s (xs.drop k)).2,[]⟩⟩)
 | 0,k,s,c,m+1,hd,hm,hc0,hi=>by
  have:k=xs.length:=by omega
  subst this
  refine⟨c,0,Nat.le_refl _,by omega,?_⟩
  simp[AC,BE]
 | d+1,k,s,c,m+1,hd,hm,hc0,hi=>by
  have hk:k<xs.length:=by omega
  have hw:=BH (k:=k) (by omega)
  have nrm:∀a:Nat,n+K+a=(n+a)+K:=fun a=>by omega
  rw[AC,List.drop_eq_getElem_cons hk]
  simp only[BE]
  obtain⟨hi',c1,hc1,q⟩:=hp (n+43) c [(15,true,li xs[k]),(14,true,.ref (AN xs[k])),(13,true,i k),(12,true,.list false (xs.map AN)),(11,true,.fn f [] cap),(0,true,.list false (xs.map AN)),(1,true,.fn f [] cap),(5,true,i k),(7,true,i xs.length),(8,true,i k)] s xs[k] hc0 hi (List.getElem_mem hk)
  generalize e:p s xs[k]=b at q hi'
  cases b with
  | true =>
   refine⟨c1,k,hc1,by omega,?_⟩
   try simp only[AN]at q
   rw[← nrm]at q
   try simp at q
   simp[hk,hw,AN,q,hcw]
  | false =>
   obtain⟨c',j,h1,h2,ih⟩:=sO n K U I f cap hcw p nx xs c0 hp hl d (k+1) (nx s xs[k]) c1 m (by omega) (by omega) (by omega) (hi' rfl)
   refine⟨c',j,by omega,h2,?_⟩
   try simp only[AN]at q ih
   rw[← nrm]at q
   try simp at q
   simp at ih
   simp[hk,hw,AN,q,ih,hcw]
theorem AH9{σ:Type}(n K:Nat)(up:σ→List AB)(loc:σ→AB)(I:σ→Prop)(f:FuncId)(cap:List V)(hcw:cap.map weakV=cap)(hco:cap.all (AL 8)=false)(p:σ→List Int→Bool)(nx:σ→List Int→σ)(xs:List (List Int))(c0:Nat)(hp:lG (fun s=>up s++[loc s]) I K f cap p nx xs c0)(hl:xs.length≤40)(hsh:∀s (t:St),(up s).length+1≤t.up.length→(up s++[loc s]).map (AQ t)=up s++[loc s])(c dd:Nat)(fr:Fr)(s:σ)(hc0:c0≤c)(hi:I s) :
  ∃(c':Nat) (j:Int),c≤c'∧decide (0≤j)=(BE p nx s xs).1∧IQ (BQ Tryz.prog ann kn (n+K+100)) (some dd) ⟨c,fr,⟨up s,loc s⟩⟩ 191 [.list false (xs.map AN),.fn f [] cap]=some ⟨c',(dd,true,i j) :: fr,⟨up (BE p nx s xs).2,loc (BE p nx s xs).2⟩⟩:=by
 obtain⟨c1,j,h1,h2,q⟩:=sO (n+45) K (fun s=>up s++[loc s]) I f cap hcw p nx xs c0 hp (by omega) xs.length 0 s c (n+K+95) (by omega) (by omega) hc0 hi
 have e:n+45+K+50=n+K+95:=by omega
 rw[e]at q
 have hcl:([V.list false (xs.map AN),V.fn f [] cap]).all (AL 9)=false:=by simp[hco]
 have hs:=fun s=>hsh s ⟨up s++[loc s],[]⟩ (by simp)
 simp at hs
 rw[BK Tryz.func191 b191 rfl hcl]
 simp only[List.drop_zero]at q
 generalize (BE p nx s xs).2=s' at q ⊢
 generalize e:(BE p nx s xs).1=b at q
 cases b with
 | true =>
  refine⟨c1,j,h1,by simpa using h2,?_⟩
  simp at q
  simp[AMD,AF,q,hs]
 | false =>
  refine⟨c1,-1,h1,by simp,?_⟩
  simp at q
  simp[AMD,AF,q,hs]
theorem ALQ{σ:Type}(n K:Nat)(up:σ→List AB)(loc:σ→AB)(I:σ→Prop)(f:FuncId)(cap:List V)(hcw:cap.map weakV=cap)(hco:cap.all (AL 8)=false)(p:σ→List Int→Bool)(nx:σ→List Int→σ)(xs:List (List Int))(c0:Nat)(hp:lG (fun s=>up s++[loc s]++[[]]) I K f cap p nx xs c0)(hl:xs.length≤40)(hsh:∀s (t:St),(up s).length+1≤t.up.length→(up s++[loc s]).map (AQ t)=up s++[loc s])(c dd:Nat)(fr:Fr)(s:σ)(hc0:c0≤c)(hi:I s) :
  ∃c':Nat,c≤c'∧IQ (BQ Tryz.prog ann kn (n+K+200)) (some dd) ⟨c,fr,⟨up s,loc s⟩⟩ 177 [.list false (xs.map AN),.fn f [] cap]=some ⟨c',(dd,true,.bool (BE p nx s xs).1) :: fr,⟨up (BE p nx s xs).2,loc (BE p nx s xs).2⟩⟩:=by
 have hcl:([V.list false (xs.map AN),V.fn f [] cap]).all (AL 9)=false:=by simp[hco]
 have hsh2:∀s (t:St),(up s++[loc s]).length+1≤t.up.length→(up s++[loc s]++[[]]).map (AQ t)=up s++[loc s]++[[]]:=fun s t h=>by
  have:=hsh s t (by simp at h; omega)
  simp only[List.map_append,List.map_cons,List.map_nil,EP]at this ⊢
  rw[this]
 obtain⟨c1,j,h1,h2,q⟩:=AH9 (n+97) K (fun s=>up s++[loc s]) (fun _=>[]) I f cap hcw hco p nx xs c0 hp hl hsh2 c 7 [(6,true,.fn f [] cap),(5,true,.list false (xs.map AN)),(0,true,.list false (xs.map AN)),(1,true,.fn f [] cap)] s hc0 hi
 refine⟨c1,h1,?_⟩
 have e:n+97+K+100=n+K+197:=by omega
 rw[e]at q
 have hs:=fun s=>hsh s ⟨up s++[loc s],[]⟩ (by simp)
 simp at hs
 rw[BK Tryz.func177 b177 rfl hcl]
 simp[AXR,AF,hcw,q,h2,hs]
end Go.Proofs.Tryz.Op
open Go Go.Pg Go.Proofs Go.Wind
namespace Go.Proofs.Tryz.Op
set_option maxRecDepth 100000
set_option linter.unusedSimpArgs false
theorem ARG{σ:Type}(n K L:Nat)(up:σ→List AB)(loc:σ→AB)(hL:∀s,(up s).length=L)(I:σ→Prop)(f:FuncId)(cap:List V)(hcw:cap.map weakV=cap)(hco:cap.all (AL 8)=false)(p:σ→List Int→Bool)(nx:σ→List Int→σ)(xs:List (List Int))(hl:xs.length≤40)
  (hsh:∀s (t:St),L+1≤t.up.length→(up s++[loc s]).map (AQ t)=up s++[loc s]) (hcap:∀(t:St) γ,L+1≤t.up.length→AQ t [(3,γ,AX.box [V.fn f [] cap])]=[(3,γ,AX.box [V.fn f [] cap])]) (c:Nat)
  (hp:∀n c1 fr s x,c<c1→I s→x∈xs→(p s x=true→I (nx s x))∧∃c',c1≤c'∧IQ (BQ Tryz.prog ann kn (n+K)) (some 6) ⟨c1,fr,⟨up s++[loc s]++[[(3,c,AX.box [V.fn f [] cap])]]++[[]]++[[]],[]⟩⟩ f (li x :: cap)=some ⟨c',(6,true,.bool (p s x)) :: fr,⟨up (nx s x)++[loc (nx s x)]++[[(3,c,AX.box [V.fn f [] cap])]]++[[]]++[[]],[]⟩⟩) (dd:Nat) (fr:Fr) (s:σ) (hi:I s) :
  ∃c':Nat,c≤c'∧IQ (BQ Tryz.prog ann kn (n+K+300)) (some dd) ⟨c,fr,⟨up s,loc s⟩⟩ 147 [.list false (xs.map AN),.fn f [] cap]=some ⟨c',(dd,true,.bool (!(BE (fun s x=>!p s x) nx s xs).1)) :: fr,⟨up (BE (fun s x=>!p s x) nx s xs).2,loc (BE (fun s x=>!p s x) nx s xs).2⟩⟩:=by
 have hcl:([V.list false (xs.map AN),V.fn f [] cap]).all (AL 9)=false:=by simp[QN,hco]
 have hp2:lG (fun s=>up s++[loc s]++[[(3,c,AX.box [V.fn f [] cap])]]++[[]]) I (K+20) 178 [.ptr (L+1) 3 c 0] (fun s x=>!p s x) nx xs (c+1):=by
  have hcap':∀t:St,L+1≤t.up.length→AQ t [(3,c,AX.box [V.fn f [] cap])]=[(3,c,AX.box [V.fn f [] cap])]:=fun t h=>hcap t c h
  intro n c1 fr s x hc0 hi hx
  obtain⟨h1,c',h2,q⟩:=hp (n+17) c1 [(5,true,li x),(4,true,.fn f [] cap),(0,true,li x),(1,true,.ptr (L+1) 3 c 0)] s x hc0 hi hx
  refine⟨fun h=>h1 (by simpa using h),c',h2,?_⟩
  have e:n+17+K=n+K+17:=by omega
  rw[e]at q
  rw[show n+(K+20)=n+K+20 from by omega,BK Tryz.func178 b178 rfl (by simp)]
  generalize hB:[(3,c,AX.box [V.fn f [] cap])]=B at q hcap'
  have hB1:AB.get B 3=some (c,.box [.fn f [] cap]):=by rw[← hB]; rfl
  have hg:(up s++[loc s]++[B]++[[]])[L+1]? = some B:=by
   simp only[List.append_assoc]
   rw[List.getElem?_append_right (by rw[hL]; omega)]
   simp[hL]
  have hs1:∀s (t:St),L+1≤t.up.length→List.map (AQ t) (up s)=up s∧AQ t (loc s)=loc s:=fun s t h=>by simpa using hsh s t h
  have hu:∀(l:List AB) a b,DA (l++[a,b,[],[]])=some (l++[a,b,[]],[]):=fun l a b=>by
   have:=GA ([]:AB) (l++[a,b,[]])
   rwa [List.append_assoc]at this
  simp only[List.append_assoc,List.cons_append,List.nil_append]at q hg ⊢
  simp[hu,AMF,AF,hcw,q,hg,hL,hB1,(hs1 _ _ _).1,(hs1 _ _ _).2,hcap']
 have hsh2:∀s (t:St),(up s++[loc s]).length+1≤t.up.length→(up s++[loc s]++[[(3,c,AX.box [V.fn f [] cap])]]).map (AQ t)=up s++[loc s]++[[(3,c,AX.box [V.fn f [] cap])]]:=fun s t h=>by
  have h':L+1≤t.up.length:=by simp[hL]at h; omega
  have:=hsh s t h'
  have h3:=hcap t c h'
  rw[List.map_append,this]
  simp only[List.map_cons,List.map_nil,h3]
 obtain⟨c',h1,q⟩:=ALQ (n+77) (K+20) (fun s=>up s++[loc s]) (fun _=>[(3,c,AX.box [V.fn f [] cap])]) I 178 [.ptr (L+1) 3 c 0] (by simp) (by simp) (fun s x=>!p s x) nx xs (c+1) hp2 hl hsh2 (c+1) 7 [(6,true,.fn 178 [] [.ptr (L+1) 3 c 0]),(5,true,.list false (xs.map AN)),(0,true,.list false (xs.map AN)),(1,true,.fn f [] cap),(3,true,.ptr (L+1) 3 c 0)] s (Nat.le_refl _) hi
 refine⟨c',by omega,?_⟩
 have e:n+77+(K+20)+200=n+K+297:=by omega
 rw[e]at q
 have hs1:∀s (t:St),L+1≤t.up.length→List.map (AQ t) (up s)=up s∧AQ t (loc s)=loc s:=fun s t h=>by simpa using hsh s t h
 rw[BK Tryz.func147 b147 rfl hcl]
 try simp only[List.length_append,List.length_cons,List.length_nil]at q ⊢
 simp[AME,AF,hcw,hL,q,(hs1 _ _ _).1,(hs1 _ _ _).2]
theorem A44(n K:Nat)(f:FuncId)(p:List Int→Bool)(xs:List (List Int))(hl:xs.length≤40)(hf:∀n x,x∈xs→AY Tryz.prog kn (AE Tryz.prog ann kn (n+K)) f [li x]=some (.bool (p x)))(hh:AK Tryz.prog f=false:=by simp) :
  AY Tryz.prog kn (AE Tryz.prog ann kn (n+K+300)) 147 [.list false (xs.map AN),.fn f [] []]=some (.bool (xs.all p)):=by
 rw[AP rfl,AO Tryz.func147 b147 rfl (by simp[AA,AH,AN,AG])]
 have hp2:lG (fun (_:Unit)=>[]++[[(3,0,AX.box [V.fn f [] []])]]++[[]]) (fun _=>True) (K+20) 178 [.ptr 0 3 0 0] (fun _ x=>!p x) (fun _ _=>()) xs 0:=by
  intro n c1 fr s x hc0 hi hx
  refine⟨fun _=>trivial,c1+0,by omega,?_⟩
  have q:=fun n=>hf n x hx
  have q2:=q (n+17)
  have e:n+17+K=n+K+17:=by omega
  rw[e]at q2
  skip
  try simp[AH]at q2
  rw[show n+(K+20)=n+K+20 from by omega,List.nil_append,BK Tryz.func178 b178 rfl (by simp)]
  simp[AMF,AF,AH,q2,hh]
  try simp[AH,q2,hh]
 obtain⟨c',h1,q⟩:=ALQ (n+77) (K+20) (fun _=>[]) (fun _=>[(3,0,.box [.fn f [] []])]) (fun _=>True) 178 [.ptr 0 3 0 0] (by simp) (by simp) (fun _ x=>!p x) (fun _ _=>()) xs 0 hp2 hl (by simp[AA,AH,AN,AG]) 1 7 [(6,true,.fn 178 [] [.ptr 0 3 0 0]),(5,true,.list false (xs.map AN)),(0,true,.list false (xs.map AN)),(1,true,.fn f [] []),(3,true,.ptr 0 3 0 0)] () (Nat.zero_le _) trivial
 have e:n+77+(K+20)+200=n+K+297:=by omega
 rw[e,ET]at q
 have:=I1 p xs
 skip
 simp[AME,AF,q]
 rw[← this,Bool.not_not]
end Go.Proofs.Tryz.Op
open Go Go.Pg Go.Proofs Go.Wind
namespace Go.Proofs.Tryz.Op
set_option maxRecDepth 100000
set_option linter.unusedSimpArgs false
def sP{σ:Type}(U:σ→List AB)(I:σ→Prop)(K:Nat)(f:FuncId)(cap:List V)(p:σ→Int×Int→Bool)(nx:σ→Int×Int→σ)(xs:List (Int×Int))(c0:Nat):Prop:=∀n c fr s x,c0≤c→I s→x∈xs→(p s x=false→I (nx s x))∧∃c',c≤c'∧IQ (BQ Tryz.prog ann kn (n+K)) (some 16) ⟨c,fr,⟨U s,[]⟩⟩ f (.agg (AG x) :: cap)=some ⟨c',(16,true,.bool (p s x)) :: fr,⟨U (nx s x),[]⟩⟩
theorem sQ{σ:Type}(n K:Nat)(U:σ→List AB)(I:σ→Prop)(f:FuncId)(cap:List V)(hcw:cap.map weakV=cap)(p:σ→Int×Int→Bool)(nx:σ→Int×Int→σ)(xs:List (Int×Int))(c0:Nat)(hp:sP U I K f cap p nx xs c0)(hl:xs.length≤1000):∀(d k:Nat) (s:σ) (c m:Nat),k+d=xs.length→d<m→c0≤c→I s →
  ∃(c':Nat) (j:Int),c≤c'∧0≤j∧A9 (AE Tryz.prog ann kn (n+K+50) 19) Q6 (ann 19 (BN Q6)) m ⟨c,[(0,true,.list false (xs.map AG)),(1,true,.fn f [] cap),(7,true,i xs.length),(8,true,i k)],⟨U s,[]⟩⟩ =
   bif (BE p nx s (xs.drop k)).1 then some (.ret,⟨c',[(4,true,i j),(17,true,i j),(5,true,i j)],⟨U (BE p nx s (xs.drop k)).2,[]⟩⟩)
   else some (.exit 0,⟨c',[(9,true,.bool false),(0,true,.list false (xs.map AG)),(1,true,.fn f [] cap),(7,true,i xs.length),(8,true,i xs.length)],⟨U (BE p nx s (xs.drop k)).2,[]⟩⟩)
 | 0,k,s,c,m+1,hd,hm,hc0,hi=>by
  have:k=xs.length:=by omega
  subst this
  refine⟨c,0,Nat.le_refl _,by omega,?_⟩
  simp[AC,BE]
 | d+1,k,s,c,m+1,hd,hm,hc0,hi=>by
  have hk:k<xs.length:=by omega
  have hw:=BH (k:=k) (by omega)
  have nrm:∀a:Nat,n+K+a=(n+a)+K:=fun a=>by omega
  rw[AC,List.drop_eq_getElem_cons hk]
  simp only[BE]
  obtain⟨hi',c1,hc1,q⟩:=hp (n+43) c [(15,true,.agg (AG xs[k])),(14,true,.ref (AG xs[k])),(13,true,i k),(12,true,.list false (xs.map AG)),(11,true,.fn f [] cap),(0,true,.list false (xs.map AG)),(1,true,.fn f [] cap),(5,true,i k),(7,true,i xs.length),(8,true,i k)] s xs[k] hc0 hi (List.getElem_mem hk)
  generalize e:p s xs[k]=b at q hi'
  cases b with
  | true =>
   refine⟨c1,k,hc1,by omega,?_⟩
   try simp only[AG]at q
   rw[← nrm]at q
   try simp at q
   simp[hk,hw,AG,q,hcw]
  | false =>
   obtain⟨c',j,h1,h2,ih⟩:=sQ n K U I f cap hcw p nx xs c0 hp hl d (k+1) (nx s xs[k]) c1 m (by omega) (by omega) (by omega) (hi' rfl)
   refine⟨c',j,by omega,h2,?_⟩
   try simp only[AG]at q ih
   rw[← nrm]at q
   try simp at q
   simp at ih
   simp[hk,hw,AG,q,ih,hcw]
theorem AIA{σ:Type}(n K:Nat)(up:σ→List AB)(loc:σ→AB)(I:σ→Prop)(f:FuncId)(cap:List V)(hcw:cap.map weakV=cap)(hco:cap.all (AL 8)=false)(p:σ→Int×Int→Bool)(nx:σ→Int×Int→σ)(xs:List (Int×Int))(c0:Nat)(hp:sP (fun s=>up s++[loc s]) I K f cap p nx xs c0)(hl:xs.length≤40)(hsh:∀s (t:St),(up s).length+1≤t.up.length→(up s++[loc s]).map (AQ t)=up s++[loc s])(c dd:Nat)(fr:Fr)(s:σ)(hc0:c0≤c)(hi:I s) :
  ∃(c':Nat) (j:Int),c≤c'∧decide (0≤j)=(BE p nx s xs).1∧IQ (BQ Tryz.prog ann kn (n+K+100)) (some dd) ⟨c,fr,⟨up s,loc s⟩⟩ 192 [.list false (xs.map AG),.fn f [] cap]=some ⟨c',(dd,true,i j) :: fr,⟨up (BE p nx s xs).2,loc (BE p nx s xs).2⟩⟩:=by
 obtain⟨c1,j,h1,h2,q⟩:=sQ (n+45) K (fun s=>up s++[loc s]) I f cap hcw p nx xs c0 hp (by omega) xs.length 0 s c (n+K+95) (by omega) (by omega) hc0 hi
 have e:n+45+K+50=n+K+95:=by omega
 rw[e]at q
 have hcl:([V.list false (xs.map AG),V.fn f [] cap]).all (AL 9)=false:=by simp[hco]
 have hs:=fun s=>hsh s ⟨up s++[loc s],[]⟩ (by simp)
 simp at hs
 rw[BK Tryz.func192 b192 rfl hcl]
 simp only[List.drop_zero]at q
 generalize (BE p nx s xs).2=s' at q ⊢
 generalize e:(BE p nx s xs).1=b at q
 cases b with
 | true =>
  refine⟨c1,j,h1,by simpa using h2,?_⟩
  simp at q
  simp[AMH,AF,q,hs]
 | false =>
  refine⟨c1,-1,h1,by simp,?_⟩
  simp at q
  simp[AMH,AF,q,hs]
theorem ALR{σ:Type}(n K:Nat)(up:σ→List AB)(loc:σ→AB)(I:σ→Prop)(f:FuncId)(cap:List V)(hcw:cap.map weakV=cap)(hco:cap.all (AL 8)=false)(p:σ→Int×Int→Bool)(nx:σ→Int×Int→σ)(xs:List (Int×Int))(c0:Nat)(hp:sP (fun s=>up s++[loc s]++[[]]) I K f cap p nx xs c0)(hl:xs.length≤40)(hsh:∀s (t:St),(up s).length+1≤t.up.length→(up s++[loc s]).map (AQ t)=up s++[loc s])(c dd:Nat)(fr:Fr)(s:σ)(hc0:c0≤c)(hi:I s) :
  ∃c':Nat,c≤c'∧IQ (BQ Tryz.prog ann kn (n+K+200)) (some dd) ⟨c,fr,⟨up s,loc s⟩⟩ 180 [.list false (xs.map AG),.fn f [] cap]=some ⟨c',(dd,true,.bool (BE p nx s xs).1) :: fr,⟨up (BE p nx s xs).2,loc (BE p nx s xs).2⟩⟩:=by
 have hcl:([V.list false (xs.map AG),V.fn f [] cap]).all (AL 9)=false:=by simp[hco]
 have hsh2:∀s (t:St),(up s++[loc s]).length+1≤t.up.length→(up s++[loc s]++[[]]).map (AQ t)=up s++[loc s]++[[]]:=fun s t h=>by
  have:=hsh s t (by simp at h; omega)
  simp only[List.map_append,List.map_cons,List.map_nil,EP]at this ⊢
  rw[this]
 obtain⟨c1,j,h1,h2,q⟩:=AIA (n+97) K (fun s=>up s++[loc s]) (fun _=>[]) I f cap hcw hco p nx xs c0 hp hl hsh2 c 7 [(6,true,.fn f [] cap),(5,true,.list false (xs.map AG)),(0,true,.list false (xs.map AG)),(1,true,.fn f [] cap)] s hc0 hi
 refine⟨c1,h1,?_⟩
 have e:n+97+K+100=n+K+197:=by omega
 rw[e]at q
 have hs:=fun s=>hsh s ⟨up s++[loc s],[]⟩ (by simp)
 simp at hs
 rw[BK Tryz.func180 b180 rfl hcl]
 simp[AXZ,AF,hcw,q,h2,hs]
end Go.Proofs.Tryz.Op
open Go Go.Pg Go.Proofs Go.Wind
namespace Go.Proofs.Tryz.Op
set_option maxRecDepth 100000
set_option linter.unusedSimpArgs false
theorem A45(n K:Nat)(b:AJ)(f:FuncId)(p:Int×Int→Bool)(xs:List (Int×Int))(hl:xs.length≤40)(hf:∀n x,x∈xs→AY Tryz.prog kn (AE Tryz.prog ann kn (n+K)) f [.agg (AA b),.agg (AG x)]=some (.bool (p x)))(hh:AK Tryz.prog f=false:=by simp) :
  AY Tryz.prog kn (AE Tryz.prog ann kn (n+K+300)) 149 [.list false (xs.map AG),.fn f [.agg (AA b)] []]=some (.bool (xs.all p)):=by
 rw[AP rfl,AO Tryz.func149 A9H rfl (by simp[AA,AH,AN,AG])]
 have hp2:sP (fun (_:Unit)=>[]++[[(3,0,AX.box [V.fn f [.agg (AA b)] []])]]++[[]]) (fun _=>True) (K+20) 181 [.ptr 0 3 0 0] (fun _ x=>!p x) (fun _ _=>()) xs 0:=by
  intro n c1 fr s x hc0 hi hx
  refine⟨fun _=>trivial,c1+1,by omega,?_⟩
  have q:=fun n=>hf n x hx
  have q2:=q (n+17)
  have e:n+17+K=n+K+17:=by omega
  rw[e]at q2
  simp only[AA,AG]at q2 ⊢
  try simp[AH]at q2
  rw[show n+(K+20)=n+K+20 from by omega,List.nil_append,BK Tryz.func181 b181 rfl (by simp)]
  simp[AX1,AF,AA,AH,AN,AG,q2,hh]
  try simp[AA,AH,AN,AG,q2,hh]
 obtain⟨c',h1,q⟩:=ALR (n+77) (K+20) (fun _=>[]) (fun _=>[(3,0,.box [.fn f [.agg (AA b)] []])]) (fun _=>True) 181 [.ptr 0 3 0 0] (by simp) (by simp) (fun _ x=>!p x) (fun _ _=>()) xs 0 hp2 hl (by simp[AA,AH,AN,AG]) 1 7 [(6,true,.fn 181 [] [.ptr 0 3 0 0]),(5,true,.list false (xs.map AG)),(0,true,.list false (xs.map AG)),(1,true,.fn f [.agg (AA b)] []),(3,true,.ptr 0 3 0 0)] () (Nat.zero_le _) trivial
 have e:n+77+(K+20)+200=n+K+297:=by omega
 rw[e,ET]at q
 have:=I1 p xs
 simp only[AA]at q ⊢
 simp[AX0,AF,q]
 rw[← this,Bool.not_not]
end Go.Proofs.Tryz.Op
open Go Go.Pg Go.Proofs Go.Wind
namespace Go.Proofs.Tryz.Op
set_option maxRecDepth 100000
set_option linter.unusedSimpArgs false
def sR{σ:Type}(U:σ→List AB)(I:σ→Prop)(K:Nat)(f:FuncId)(cap:List V)(p:σ→Int×Int→Bool)(nx:σ→Int×Int→σ)(xs:List (Int×Int))(c0:Nat):Prop:=∀n c fr s x,c0≤c→I s→x∈xs→(p s x=false→I (nx s x))∧∃c',c≤c'∧IQ (BQ Tryz.prog ann kn (n+K)) (some 16) ⟨c,fr,⟨U s,[]⟩⟩ f (.agg (AG x) :: cap)=some ⟨c',(16,true,.bool (p s x)) :: fr,⟨U (nx s x),[]⟩⟩
theorem sS{σ:Type}(n K:Nat)(U:σ→List AB)(I:σ→Prop)(f:FuncId)(cap:List V)(hcw:cap.map weakV=cap)(p:σ→Int×Int→Bool)(nx:σ→Int×Int→σ)(xs:List (Int×Int))(c0:Nat)(hp:sR U I K f cap p nx xs c0)(hl:xs.length≤1000):∀(d k:Nat) (s:σ) (c m:Nat),k+d=xs.length→d<m→c0≤c→I s →
  ∃(c':Nat) (j:Int),c≤c'∧0≤j∧A9 (AE Tryz.prog ann kn (n+K+50) 19) Q7 (ann 19 (BN Q7)) m ⟨c,[(0,true,.list false (xs.map AG)),(1,true,.fn f [] cap),(7,true,i xs.length),(8,true,i k)],⟨U s,[]⟩⟩ =
   bif (BE p nx s (xs.drop k)).1 then some (.ret,⟨c',[(4,true,i j),(17,true,i j),(5,true,i j)],⟨U (BE p nx s (xs.drop k)).2,[]⟩⟩)
   else some (.exit 0,⟨c',[(9,true,.bool false),(0,true,.list false (xs.map AG)),(1,true,.fn f [] cap),(7,true,i xs.length),(8,true,i xs.length)],⟨U (BE p nx s (xs.drop k)).2,[]⟩⟩)
 | 0,k,s,c,m+1,hd,hm,hc0,hi=>by
  have:k=xs.length:=by omega
  subst this
  refine⟨c,0,Nat.le_refl _,by omega,?_⟩
  simp[AC,BE]
 | d+1,k,s,c,m+1,hd,hm,hc0,hi=>by
  have hk:k<xs.length:=by omega
  have hw:=BH (k:=k) (by omega)
  have nrm:∀a:Nat,n+K+a=(n+a)+K:=fun a=>by omega
  rw[AC,List.drop_eq_getElem_cons hk]
  simp only[BE]
  obtain⟨hi',c1,hc1,q⟩:=hp (n+43) c [(15,true,.agg (AG xs[k])),(14,true,.ref (AG xs[k])),(13,true,i k),(12,true,.list false (xs.map AG)),(11,true,.fn f [] cap),(0,true,.list false (xs.map AG)),(1,true,.fn f [] cap),(5,true,i k),(7,true,i xs.length),(8,true,i k)] s xs[k] hc0 hi (List.getElem_mem hk)
  generalize e:p s xs[k]=b at q hi'
  cases b with
  | true =>
   refine⟨c1,k,hc1,by omega,?_⟩
   try simp only[AG]at q
   rw[← nrm]at q
   try simp at q
   simp[hk,hw,AG,q,hcw]
  | false =>
   obtain⟨c',j,h1,h2,ih⟩:=sS n K U I f cap hcw p nx xs c0 hp hl d (k+1) (nx s xs[k]) c1 m (by omega) (by omega) (by omega) (hi' rfl)
   refine⟨c',j,by omega,h2,?_⟩
   try simp only[AG]at q ih
   rw[← nrm]at q
   try simp at q
   simp at ih
   simp[hk,hw,AG,q,ih,hcw]
theorem AIB{σ:Type}(n K:Nat)(up:σ→List AB)(loc:σ→AB)(I:σ→Prop)(f:FuncId)(cap:List V)(hcw:cap.map weakV=cap)(hco:cap.all (AL 8)=false)(p:σ→Int×Int→Bool)(nx:σ→Int×Int→σ)(xs:List (Int×Int))(c0:Nat)(hp:sR (fun s=>up s++[loc s]) I K f cap p nx xs c0)(hl:xs.length≤40)(hsh:∀s (t:St),(up s).length+1≤t.up.length→(up s++[loc s]).map (AQ t)=up s++[loc s])(c dd:Nat)(fr:Fr)(s:σ)(hc0:c0≤c)(hi:I s) :
  ∃(c':Nat) (j:Int),c≤c'∧decide (0≤j)=(BE p nx s xs).1∧IQ (BQ Tryz.prog ann kn (n+K+100)) (some dd) ⟨c,fr,⟨up s,loc s⟩⟩ 193 [.list false (xs.map AG),.fn f [] cap]=some ⟨c',(dd,true,i j) :: fr,⟨up (BE p nx s xs).2,loc (BE p nx s xs).2⟩⟩:=by
 obtain⟨c1,j,h1,h2,q⟩:=sS (n+45) K (fun s=>up s++[loc s]) I f cap hcw p nx xs c0 hp (by omega) xs.length 0 s c (n+K+95) (by omega) (by omega) hc0 hi
 have e:n+45+K+50=n+K+95:=by omega
 rw[e]at q
 have hcl:([V.list false (xs.map AG),V.fn f [] cap]).all (AL 9)=false:=by simp[hco]
 have hs:=fun s=>hsh s ⟨up s++[loc s],[]⟩ (by simp)
 simp at hs
 rw[BK Tryz.func193 b193 rfl hcl]
 simp only[List.drop_zero]at q
 generalize (BE p nx s xs).2=s' at q ⊢
 generalize e:(BE p nx s xs).1=b at q
 cases b with
 | true =>
  refine⟨c1,j,h1,by simpa using h2,?_⟩
  simp at q
  simp[AMI,AF,q,hs]
 | false =>
  refine⟨c1,-1,h1,by simp,?_⟩
  simp at q
  simp[AMI,AF,q,hs]
theorem A46{σ:Type}(n K:Nat)(up:σ→List AB)(loc:σ→AB)(I:σ→Prop)(f:FuncId)(cap:List V)(hcw:cap.map weakV=cap)(hco:cap.all (AL 8)=false)(p:σ→Int×Int→Bool)(nx:σ→Int×Int→σ)(xs:List (Int×Int))(c0:Nat)(hp:sR (fun s=>up s++[loc s]++[[]]) I K f cap p nx xs c0)(hl:xs.length≤40)(hsh:∀s (t:St),(up s).length+1≤t.up.length→(up s++[loc s]).map (AQ t)=up s++[loc s])(c dd:Nat)(fr:Fr)(s:σ)(hc0:c0≤c)(hi:I s) :
  ∃c':Nat,c≤c'∧IQ (BQ Tryz.prog ann kn (n+K+200)) (some dd) ⟨c,fr,⟨up s,loc s⟩⟩ 182 [.list false (xs.map AG),.fn f [] cap]=some ⟨c',(dd,true,.bool (BE p nx s xs).1) :: fr,⟨up (BE p nx s xs).2,loc (BE p nx s xs).2⟩⟩:=by
 have hcl:([V.list false (xs.map AG),V.fn f [] cap]).all (AL 9)=false:=by simp[hco]
 have hsh2:∀s (t:St),(up s++[loc s]).length+1≤t.up.length→(up s++[loc s]++[[]]).map (AQ t)=up s++[loc s]++[[]]:=fun s t h=>by
  have:=hsh s t (by simp at h; omega)
  simp only[List.map_append,List.map_cons,List.map_nil,EP]at this ⊢
  rw[this]
 obtain⟨c1,j,h1,h2,q⟩:=AIB (n+97) K (fun s=>up s++[loc s]) (fun _=>[]) I f cap hcw hco p nx xs c0 hp hl hsh2 c 7 [(6,true,.fn f [] cap),(5,true,.list false (xs.map AG)),(0,true,.list false (xs.map AG)),(1,true,.fn f [] cap)] s hc0 hi
 refine⟨c1,h1,?_⟩
 have e:n+97+K+100=n+K+197:=by omega
 rw[e]at q
 have hs:=fun s=>hsh s ⟨up s++[loc s],[]⟩ (by simp)
 simp at hs
 rw[BK Tryz.func182 b182 rfl hcl]
 simp[AX2,AF,hcw,q,h2,hs]
end Go.Proofs.Tryz.Op
open Go Go.Pg Go.Proofs Go.Wind
namespace Go.Proofs.Tryz.Op
set_option maxRecDepth 100000
set_option linter.unusedSimpArgs false
theorem A47(n K:Nat)(b:AJ)(f:FuncId)(p:Int×Int→Bool)(xs:List (Int×Int))(hl:xs.length≤40)(hf:∀n x,x∈xs→AY Tryz.prog kn (AE Tryz.prog ann kn (n+K)) f [.agg (AA b),.agg (AG x)]=some (.bool (p x)))(hh:AK Tryz.prog f=false:=by simp) :
  AY Tryz.prog kn (AE Tryz.prog ann kn (n+K+300)) 150 [.list false (xs.map AG),.fn f [.agg (AA b)] []]=some (.bool (xs.all p)):=by
 rw[AP rfl,AO Tryz.func150 A9I rfl (by simp[AA,AH,AN,AG])]
 have hp2:sR (fun (_:Unit)=>[]++[[(3,0,AX.box [V.fn f [.agg (AA b)] []])]]++[[]]) (fun _=>True) (K+20) 183 [.ptr 0 3 0 0] (fun _ x=>!p x) (fun _ _=>()) xs 0:=by
  intro n c1 fr s x hc0 hi hx
  refine⟨fun _=>trivial,c1+1,by omega,?_⟩
  have q:=fun n=>hf n x hx
  have q2:=q (n+17)
  have e:n+17+K=n+K+17:=by omega
  rw[e]at q2
  simp only[AA,AG]at q2 ⊢
  try simp[AH]at q2
  rw[show n+(K+20)=n+K+20 from by omega,List.nil_append,BK Tryz.func183 b183 rfl (by simp)]
  simp[AX4,AF,AA,AH,AN,AG,q2,hh]
  try simp[AA,AH,AN,AG,q2,hh]
 obtain⟨c',h1,q⟩:=A46 (n+77) (K+20) (fun _=>[]) (fun _=>[(3,0,.box [.fn f [.agg (AA b)] []])]) (fun _=>True) 183 [.ptr 0 3 0 0] (by simp) (by simp) (fun _ x=>!p x) (fun _ _=>()) xs 0 hp2 hl (by simp[AA,AH,AN,AG]) 1 7 [(6,true,.fn 183 [] [.ptr 0 3 0 0]),(5,true,.list false (xs.map AG)),(0,true,.list false (xs.map AG)),(1,true,.fn f [.agg (AA b)] []),(3,true,.ptr 0 3 0 0)] () (Nat.zero_le _) trivial
 have e:n+77+(K+20)+200=n+K+297:=by omega
 rw[e,ET]at q
 have:=I1 p xs
 simp only[AA]at q ⊢
 simp[AX3,AF,q]
 rw[← this,Bool.not_not]
end Go.Proofs.Tryz.Op
