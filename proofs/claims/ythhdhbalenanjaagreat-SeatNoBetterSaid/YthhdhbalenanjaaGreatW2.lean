/- What serves the contracts of IndexFunc and its like: a predicate with a state. No condition. (printed by pred.py) -/
import Derived.Test.YthhdhbalenanjaaGreatW1
import Derived.Test.YthhdhbalenanjaaGreatFz
set_option maxRecDepth 100000
set_option linter.unusedSimpArgs false
open Go Go.Pg Go.Proofs Go.Wind
namespace Go.Wind
def BR{σ α:Type}(p:σ→α→Bool)(nx:σ→α→σ):σ→List α→Bool×σ
 |s,[]=>(false,s)
 |s,x::xs=>bif p s x then(true,nx s x) else BR p nx (nx s x) xs
theorem FV{α:Type}(p:α→Bool):∀(xs:List α),BR (fun (_:Unit) x=>p x) (fun _ _=>()) () xs=(xs.any p,())
 |[]=>rfl
 |x::xs=>by simp only[BR,List.any_cons,FV p xs];cases p x<;>rfl
end Go.Wind
namespace Go.Proofs.Tryz.Op
def tS{σ:Type}(U:σ→List AA)(I:σ→Prop)(K:Nat)(f:FuncId)(cap:List V)(p:σ→Int→Bool)(nx:σ→Int→σ)(xs:List (Int))(c0:Nat):Prop:=∀n c fr s x,c0≤c→I s→x∈xs→(p s x=false→I (nx s x))∧∃c',c≤c'∧G4 (BN Tryz.prog ann kn (n+K)) (some 16) ⟨c,fr,⟨U s,[]⟩⟩ f (i x::cap)=some ⟨c',(16,true,.bool (p s x))::fr,⟨U (nx s x),[]⟩⟩
theorem ABZ{σ:Type}(n K:Nat)(U:σ→List AA)(I:σ→Prop)(f:FuncId)(cap:List V)(hcw:cap.map weakV=cap)(p:σ→Int→Bool)(nx:σ→Int→σ)(xs:List (Int))(c0:Nat)(hp:tS U I K f cap p nx xs c0)(hl:xs.length≤1000):∀(d k:Nat) (s:σ) (c m:Nat),k+d=xs.length→d<m→c0≤c→I s →
  ∃(c':Nat) (j:Int),c≤c'∧0≤j∧BF (AE Tryz.prog ann kn (n+K+50) 19) UA (ann 19 (BW UA)) m ⟨c,[(0,true,.list false (xs.map AJ)),(1,true,.fn f [] cap),(7,true,i xs.length),(8,true,i k)],⟨U s,[]⟩⟩ =
   bif (BR p nx s (xs.drop k)).1 then some (.ret,⟨c',[(4,true,i j),(17,true,i j),(5,true,i j)],⟨U (BR p nx s (xs.drop k)).2,[]⟩⟩)
   else some (.exit 0,⟨c',[(9,true,.bool false),(0,true,.list false (xs.map AJ)),(1,true,.fn f [] cap),(7,true,i xs.length),(8,true,i xs.length)],⟨U (BR p nx s (xs.drop k)).2,[]⟩⟩)
 |0,k,s,c,m+1,hd,hm,hc0,hi=>by
  have:k=xs.length:=by omega
  subst this;refine⟨c,0,Nat.le_refl _,by omega,?_⟩;simp[AB,BR]
 |d+1,k,s,c,m+1,hd,hm,hc0,hi=>by
  have hk:k<xs.length:=by omega
  have hw:=BM (k:=k) (by omega);have nrm:∀a:Nat,n+K+a=(n+a)+K:=fun a=>by omega
  rw[AB,List.drop_eq_getElem_cons hk];simp only[BR];obtain⟨hi',c1,hc1,q⟩:=hp (n+43) c [(15,true,i xs[k]),(14,true,.ref (AJ xs[k])),(13,true,i k),(12,true,.list false (xs.map AJ)),(11,true,.fn f [] cap),(0,true,.list false (xs.map AJ)),(1,true,.fn f [] cap),(5,true,i k),(7,true,i xs.length),(8,true,i k)] s xs[k] hc0 hi (List.getElem_mem hk);generalize e:p s xs[k]=b at q hi';cases b with
  |true=>
   refine⟨c1,k,hc1,by omega,?_⟩
   try simp only[AJ]at q
   rw[←nrm]at q
   try simp at q
   simp[hk,hw,AJ,q,hcw]
  |false=>
   obtain⟨c',j,h1,h2,ih⟩:=ABZ n K U I f cap hcw p nx xs c0 hp hl d (k+1) (nx s xs[k]) c1 m (by omega) (by omega) (by omega) (hi' rfl)
   refine⟨c',j,by omega,h2,?_⟩
   try simp only[AJ]at q ih
   rw[←nrm]at q
   try simp at q
   simp at ih
   simp[hk,hw,AJ,q,ih,hcw]
theorem AQY{σ:Type}(n K:Nat)(up:σ→List AA)(loc:σ→AA)(I:σ→Prop)(f:FuncId)(cap:List V)(hcw:cap.map weakV=cap)(hco:cap.all (AH 8)=false)(p:σ→Int→Bool)(nx:σ→Int→σ)(xs:List (Int))(c0:Nat)(hp:tS (fun s=>up s++[loc s]) I K f cap p nx xs c0)(hl:xs.length≤40)(hsh:∀s (t:St),(up s).length+1≤t.up.length→(up s++[loc s]).map (AL t)=up s++[loc s])(c dd:Nat)(fr:Fr)(s:σ)(hc0:c0≤c)(hi:I s) :
  ∃(c':Nat) (j:Int),c≤c'∧decide (0≤j)=(BR p nx s xs).1∧G4 (BN Tryz.prog ann kn (n+K+100)) (some dd) ⟨c,fr,⟨up s,loc s⟩⟩ 190 [.list false (xs.map AJ),.fn f [] cap]=some ⟨c',(dd,true,i j)::fr,⟨up (BR p nx s xs).2,loc (BR p nx s xs).2⟩⟩:=by
 obtain⟨c1,j,h1,h2,q⟩:=ABZ (n+45) K (fun s=>up s++[loc s]) I f cap hcw p nx xs c0 hp (by omega) xs.length 0 s c (n+K+95) (by omega) (by omega) hc0 hi
 have e:n+45+K+50=n+K+95:=by omega
 rw[e]at q
 have hcl:([V.list false (xs.map AJ),V.fn f [] cap]).all (AH 9)=false:=by simp[hco]
 have hs:=fun s=>hsh s ⟨up s++[loc s],[]⟩ (by simp)
 simp at hs
 rw[BA Tryz.func190 b190 rfl hcl]
 simp only[List.drop_zero]at q
 generalize (BR p nx s xs).2=s' at q⊢
 generalize e:(BR p nx s xs).1=b at q
 cases b with
 |true=>
  refine⟨c1,j,h1,by simpa using h2,?_⟩
  simp at q
  simp[AVX,AG,q,hs]
 |false=>
  refine⟨c1,-1,h1,by simp,?_⟩
  simp at q
  simp[AVX,AG,q,hs]
theorem AU5{σ:Type}(n K:Nat)(up:σ→List AA)(loc:σ→AA)(I:σ→Prop)(f:FuncId)(cap:List V)(hcw:cap.map weakV=cap)(hco:cap.all (AH 8)=false)(p:σ→Int→Bool)(nx:σ→Int→σ)(xs:List (Int))(c0:Nat)(hp:tS (fun s=>up s++[loc s]++[[]]) I K f cap p nx xs c0)(hl:xs.length≤40)(hsh:∀s (t:St),(up s).length+1≤t.up.length→(up s++[loc s]).map (AL t)=up s++[loc s])(c dd:Nat)(fr:Fr)(s:σ)(hc0:c0≤c)(hi:I s) :
  ∃c':Nat,c≤c'∧G4 (BN Tryz.prog ann kn (n+K+200)) (some dd) ⟨c,fr,⟨up s,loc s⟩⟩ 175 [.list false (xs.map AJ),.fn f [] cap]=some ⟨c',(dd,true,.bool (BR p nx s xs).1)::fr,⟨up (BR p nx s xs).2,loc (BR p nx s xs).2⟩⟩:=by
 have hcl:([V.list false (xs.map AJ),V.fn f [] cap]).all (AH 9)=false:=by simp[hco]
 have hsh2:∀s (t:St),(up s++[loc s]).length+1≤t.up.length→(up s++[loc s]++[[]]).map (AL t)=up s++[loc s]++[[]]:=fun s t h=>by have:=hsh s t (by simp at h;omega);simp only[List.map_append,List.map_cons,List.map_nil,FT]at this⊢;rw[this]
 obtain⟨c1,j,h1,h2,q⟩:=AQY (n+97) K (fun s=>up s++[loc s]) (fun _=>[]) I f cap hcw hco p nx xs c0 hp hl hsh2 c 7 [(6,true,.fn f [] cap),(5,true,.list false (xs.map AJ)),(0,true,.list false (xs.map AJ)),(1,true,.fn f [] cap)] s hc0 hi
 refine⟨c1,h1,?_⟩
 have e:n+97+K+100=n+K+197:=by omega
 rw[e]at q
 have hs:=fun s=>hsh s ⟨up s++[loc s],[]⟩ (by simp)
 simp at hs
 rw[BA Tryz.func175 b175 rfl hcl]
 simp[A8F,AG,hcw,q,h2,hs]
theorem A1G{σ:Type}(n K L:Nat)(up:σ→List AA)(loc:σ→AA)(hL:∀s,(up s).length=L)(I:σ→Prop)(f:FuncId)(cap:List V)(hcw:cap.map weakV=cap)(hco:cap.all (AH 8)=false)(p:σ→Int→Bool)(nx:σ→Int→σ)(xs:List (Int))(hl:xs.length≤40)
  (hsh:∀s (t:St),L+1≤t.up.length→(up s++[loc s]).map (AL t)=up s++[loc s]) (hcap:∀(t:St) γ,L+1≤t.up.length→AL t [(3,γ,A6.box [V.fn f [] cap])]=[(3,γ,A6.box [V.fn f [] cap])]) (c:Nat)
  (hp:∀n c1 fr s x,c<c1→I s→x∈xs→(p s x=true→I (nx s x))∧∃c',c1≤c'∧G4 (BN Tryz.prog ann kn (n+K)) (some 6) ⟨c1,fr,⟨up s++[loc s]++[[(3,c,A6.box [V.fn f [] cap])]]++[[]]++[[]],[]⟩⟩ f (i x::cap)=some ⟨c',(6,true,.bool (p s x))::fr,⟨up (nx s x)++[loc (nx s x)]++[[(3,c,A6.box [V.fn f [] cap])]]++[[]]++[[]],[]⟩⟩) (dd:Nat) (fr:Fr) (s:σ) (hi:I s) :
  ∃c':Nat,c≤c'∧G4 (BN Tryz.prog ann kn (n+K+300)) (some dd) ⟨c,fr,⟨up s,loc s⟩⟩ 144 [.list false (xs.map AJ),.fn f [] cap]=some ⟨c',(dd,true,.bool (!(BR (fun s x=>!p s x) nx s xs).1))::fr,⟨up (BR (fun s x=>!p s x) nx s xs).2,loc (BR (fun s x=>!p s x) nx s xs).2⟩⟩:=by
 have hcl:([V.list false (xs.map AJ),V.fn f [] cap]).all (AH 9)=false:=by simp[TL,hco]
 have hp2:tS (fun s=>up s++[loc s]++[[(3,c,A6.box [V.fn f [] cap])]]++[[]]) I (K+20) 176 [.ptr (L+1) 3 c 0] (fun s x=>!p s x) nx xs (c+1):=by
  have hcap':∀t:St,L+1≤t.up.length→AL t [(3,c,A6.box [V.fn f [] cap])]=[(3,c,A6.box [V.fn f [] cap])]:=fun t h=>hcap t c h;intro n c1 fr s x hc0 hi hx;obtain⟨h1,c',h2,q⟩:=hp (n+17) c1 [(5,true,i x),(4,true,.fn f [] cap),(0,true,i x),(1,true,.ptr (L+1) 3 c 0)] s x hc0 hi hx;refine⟨fun h=>h1 (by simpa using h),c',h2,?_⟩;have e:n+17+K=n+K+17:=by omega
  rw[e]at q;rw[show n+(K+20)=n+K+20 from by omega,BA Tryz.func176 b176 rfl (by simp)];generalize hB:[(3,c,A6.box [V.fn f [] cap])]=B at q hcap';have hB1:AA.get B 3=some (c,.box [.fn f [] cap]):=by rw[←hB];rfl
  have hg:(up s++[loc s]++[B]++[[]])[L+1]? = some B:=by simp only[List.append_assoc];rw[List.getElem?_append_right (by rw[hL];omega)];simp[hL]
  have hs1:∀s (t:St),L+1≤t.up.length→List.map (AL t) (up s)=up s∧AL t (loc s)=loc s:=fun s t h=>by simpa using hsh s t h
  have hu:∀(l:List AA) a b,CL (l++[a,b,[],[]])=some (l++[a,b,[]],[]):=fun l a b=>by have:=DG ([]:AA) (l++[a,b,[]]);rwa [List.append_assoc]at this
  simp only[List.append_assoc,List.cons_append,List.nil_append]at q hg⊢;simp[hu,AVZ,AG,hcw,q,hg,hL,hB1,(hs1 _ _ _).1,(hs1 _ _ _).2,hcap']
 have hsh2:∀s (t:St),(up s++[loc s]).length+1≤t.up.length→(up s++[loc s]++[[(3,c,A6.box [V.fn f [] cap])]]).map (AL t)=up s++[loc s]++[[(3,c,A6.box [V.fn f [] cap])]]:=fun s t h=>by
  have h':L+1≤t.up.length:=by simp[hL]at h;omega
  have:=hsh s t h';have h3:=hcap t c h';rw[List.map_append,this];simp only[List.map_cons,List.map_nil,h3]
 obtain⟨c',h1,q⟩:=AU5 (n+77) (K+20) (fun s=>up s++[loc s]) (fun _=>[(3,c,A6.box [V.fn f [] cap])]) I 176 [.ptr (L+1) 3 c 0] (by simp) (by simp) (fun s x=>!p s x) nx xs (c+1) hp2 hl hsh2 (c+1) 7 [(6,true,.fn 176 [] [.ptr (L+1) 3 c 0]),(5,true,.list false (xs.map AJ)),(0,true,.list false (xs.map AJ)),(1,true,.fn f [] cap),(3,true,.ptr (L+1) 3 c 0)] s (Nat.le_refl _) hi
 refine⟨c',by omega,?_⟩
 have e:n+77+(K+20)+200=n+K+297:=by omega
 rw[e]at q
 have hs1:∀s (t:St),L+1≤t.up.length→List.map (AL t) (up s)=up s∧AL t (loc s)=loc s:=fun s t h=>by simpa using hsh s t h
 rw[BA Tryz.func144 b144 rfl hcl]
 try simp only[List.length_append,List.length_cons,List.length_nil]at q⊢
 simp[AVY,AG,hcw,hL,q,(hs1 _ _ _).1,(hs1 _ _ _).2]
theorem ALK(n K:Nat)(f:FuncId)(p:Int→Bool)(xs:List (Int))(hl:xs.length≤40)(hf:∀n x,x∈xs→A0 Tryz.prog kn (AE Tryz.prog ann kn (n+K)) f [i x]=some (.bool (p x)))(hh:BL Tryz.prog f=false:=by simp) :
  A0 Tryz.prog kn (AE Tryz.prog ann kn (n+K+300)) 144 [.list false (xs.map AJ),.fn f [] []]=some (.bool (xs.all p)):=by
 rw[AP rfl,AR Tryz.func144 b144 rfl (by simp[AC,AJ,AM,AF])]
 have hp2:tS (fun (_:Unit)=>[]++[[(3,0,A6.box [V.fn f [] []])]]++[[]]) (fun _=>True) (K+20) 176 [.ptr 0 3 0 0] (fun _ x=>!p x) (fun _ _=>()) xs 0:=by
  intro n c1 fr s x hc0 hi hx;refine⟨fun _=>trivial,c1+0,by omega,?_⟩;have q:=fun n=>hf n x hx;have q2:=q (n+17);have e:n+17+K=n+K+17:=by omega
  rw[e]at q2;skip;try simp[AJ]at q2
  rw[show n+(K+20)=n+K+20 from by omega,List.nil_append,BA Tryz.func176 b176 rfl (by simp)];simp[AVZ,AG,AJ,q2,hh];try simp[AJ,q2,hh]
 obtain⟨c',h1,q⟩:=AU5 (n+77) (K+20) (fun _=>[]) (fun _=>[(3,0,.box [.fn f [] []])]) (fun _=>True) 176 [.ptr 0 3 0 0] (by simp) (by simp) (fun _ x=>!p x) (fun _ _=>()) xs 0 hp2 hl (by simp[AC,AJ,AM,AF]) 1 7 [(6,true,.fn 176 [] [.ptr 0 3 0 0]),(5,true,.list false (xs.map AJ)),(0,true,.list false (xs.map AJ)),(1,true,.fn f [] []),(3,true,.ptr 0 3 0 0)] () (Nat.zero_le _) trivial
 have e:n+77+(K+20)+200=n+K+297:=by omega
 rw[e,FV]at q
 have:=KJ p xs
 skip
 simp[AVY,AG,q]
 rw[←this,Bool.not_not]
def tT{σ:Type}(U:σ→List AA)(I:σ→Prop)(K:Nat)(f:FuncId)(cap:List V)(p:σ→List Int→Bool)(nx:σ→List Int→σ)(xs:List (List Int))(c0:Nat):Prop:=∀n c fr s x,c0≤c→I s→x∈xs→(p s x=false→I (nx s x))∧∃c',c≤c'∧G4 (BN Tryz.prog ann kn (n+K)) (some 16) ⟨c,fr,⟨U s,[]⟩⟩ f (li x::cap)=some ⟨c',(16,true,.bool (p s x))::fr,⟨U (nx s x),[]⟩⟩
theorem AB0{σ:Type}(n K:Nat)(U:σ→List AA)(I:σ→Prop)(f:FuncId)(cap:List V)(hcw:cap.map weakV=cap)(p:σ→List Int→Bool)(nx:σ→List Int→σ)(xs:List (List Int))(c0:Nat)(hp:tT U I K f cap p nx xs c0)(hl:xs.length≤1000):∀(d k:Nat) (s:σ) (c m:Nat),k+d=xs.length→d<m→c0≤c→I s →
  ∃(c':Nat) (j:Int),c≤c'∧0≤j∧BF (AE Tryz.prog ann kn (n+K+50) 19) UB (ann 19 (BW UB)) m ⟨c,[(0,true,.list false (xs.map AM)),(1,true,.fn f [] cap),(7,true,i xs.length),(8,true,i k)],⟨U s,[]⟩⟩ =
   bif (BR p nx s (xs.drop k)).1 then some (.ret,⟨c',[(4,true,i j),(17,true,i j),(5,true,i j)],⟨U (BR p nx s (xs.drop k)).2,[]⟩⟩)
   else some (.exit 0,⟨c',[(9,true,.bool false),(0,true,.list false (xs.map AM)),(1,true,.fn f [] cap),(7,true,i xs.length),(8,true,i xs.length)],⟨U (BR p nx s (xs.drop k)).2,[]⟩⟩)
 |0,k,s,c,m+1,hd,hm,hc0,hi=>by
  have:k=xs.length:=by omega
  subst this;refine⟨c,0,Nat.le_refl _,by omega,?_⟩;simp[AB,BR]
 |d+1,k,s,c,m+1,hd,hm,hc0,hi=>by
  have hk:k<xs.length:=by omega
  have hw:=BM (k:=k) (by omega);have nrm:∀a:Nat,n+K+a=(n+a)+K:=fun a=>by omega
  rw[AB,List.drop_eq_getElem_cons hk];simp only[BR];obtain⟨hi',c1,hc1,q⟩:=hp (n+43) c [(15,true,li xs[k]),(14,true,.ref (AM xs[k])),(13,true,i k),(12,true,.list false (xs.map AM)),(11,true,.fn f [] cap),(0,true,.list false (xs.map AM)),(1,true,.fn f [] cap),(5,true,i k),(7,true,i xs.length),(8,true,i k)] s xs[k] hc0 hi (List.getElem_mem hk);generalize e:p s xs[k]=b at q hi';cases b with
  |true=>
   refine⟨c1,k,hc1,by omega,?_⟩
   try simp only[AM]at q
   rw[←nrm]at q
   try simp at q
   simp[hk,hw,AM,q,hcw]
  |false=>
   obtain⟨c',j,h1,h2,ih⟩:=AB0 n K U I f cap hcw p nx xs c0 hp hl d (k+1) (nx s xs[k]) c1 m (by omega) (by omega) (by omega) (hi' rfl)
   refine⟨c',j,by omega,h2,?_⟩
   try simp only[AM]at q ih
   rw[←nrm]at q
   try simp at q
   simp at ih
   simp[hk,hw,AM,q,ih,hcw]
theorem AQZ{σ:Type}(n K:Nat)(up:σ→List AA)(loc:σ→AA)(I:σ→Prop)(f:FuncId)(cap:List V)(hcw:cap.map weakV=cap)(hco:cap.all (AH 8)=false)(p:σ→List Int→Bool)(nx:σ→List Int→σ)(xs:List (List Int))(c0:Nat)(hp:tT (fun s=>up s++[loc s]) I K f cap p nx xs c0)(hl:xs.length≤40)(hsh:∀s (t:St),(up s).length+1≤t.up.length→(up s++[loc s]).map (AL t)=up s++[loc s])(c dd:Nat)(fr:Fr)(s:σ)(hc0:c0≤c)(hi:I s) :
  ∃(c':Nat) (j:Int),c≤c'∧decide (0≤j)=(BR p nx s xs).1∧G4 (BN Tryz.prog ann kn (n+K+100)) (some dd) ⟨c,fr,⟨up s,loc s⟩⟩ 191 [.list false (xs.map AM),.fn f [] cap]=some ⟨c',(dd,true,i j)::fr,⟨up (BR p nx s xs).2,loc (BR p nx s xs).2⟩⟩:=by
 obtain⟨c1,j,h1,h2,q⟩:=AB0 (n+45) K (fun s=>up s++[loc s]) I f cap hcw p nx xs c0 hp (by omega) xs.length 0 s c (n+K+95) (by omega) (by omega) hc0 hi
 have e:n+45+K+50=n+K+95:=by omega
 rw[e]at q
 have hcl:([V.list false (xs.map AM),V.fn f [] cap]).all (AH 9)=false:=by simp[hco]
 have hs:=fun s=>hsh s ⟨up s++[loc s],[]⟩ (by simp)
 simp at hs
 rw[BA Tryz.func191 b191 rfl hcl]
 simp only[List.drop_zero]at q
 generalize (BR p nx s xs).2=s' at q⊢
 generalize e:(BR p nx s xs).1=b at q
 cases b with
 |true=>
  refine⟨c1,j,h1,by simpa using h2,?_⟩
  simp at q
  simp[AV0,AG,q,hs]
 |false=>
  refine⟨c1,-1,h1,by simp,?_⟩
  simp at q
  simp[AV0,AG,q,hs]
theorem AU6{σ:Type}(n K:Nat)(up:σ→List AA)(loc:σ→AA)(I:σ→Prop)(f:FuncId)(cap:List V)(hcw:cap.map weakV=cap)(hco:cap.all (AH 8)=false)(p:σ→List Int→Bool)(nx:σ→List Int→σ)(xs:List (List Int))(c0:Nat)(hp:tT (fun s=>up s++[loc s]++[[]]) I K f cap p nx xs c0)(hl:xs.length≤40)(hsh:∀s (t:St),(up s).length+1≤t.up.length→(up s++[loc s]).map (AL t)=up s++[loc s])(c dd:Nat)(fr:Fr)(s:σ)(hc0:c0≤c)(hi:I s) :
  ∃c':Nat,c≤c'∧G4 (BN Tryz.prog ann kn (n+K+200)) (some dd) ⟨c,fr,⟨up s,loc s⟩⟩ 177 [.list false (xs.map AM),.fn f [] cap]=some ⟨c',(dd,true,.bool (BR p nx s xs).1)::fr,⟨up (BR p nx s xs).2,loc (BR p nx s xs).2⟩⟩:=by
 have hcl:([V.list false (xs.map AM),V.fn f [] cap]).all (AH 9)=false:=by simp[hco]
 have hsh2:∀s (t:St),(up s++[loc s]).length+1≤t.up.length→(up s++[loc s]++[[]]).map (AL t)=up s++[loc s]++[[]]:=fun s t h=>by have:=hsh s t (by simp at h;omega);simp only[List.map_append,List.map_cons,List.map_nil,FT]at this⊢;rw[this]
 obtain⟨c1,j,h1,h2,q⟩:=AQZ (n+97) K (fun s=>up s++[loc s]) (fun _=>[]) I f cap hcw hco p nx xs c0 hp hl hsh2 c 7 [(6,true,.fn f [] cap),(5,true,.list false (xs.map AM)),(0,true,.list false (xs.map AM)),(1,true,.fn f [] cap)] s hc0 hi
 refine⟨c1,h1,?_⟩
 have e:n+97+K+100=n+K+197:=by omega
 rw[e]at q
 have hs:=fun s=>hsh s ⟨up s++[loc s],[]⟩ (by simp)
 simp at hs
 rw[BA Tryz.func177 b177 rfl hcl]
 simp[A8G,AG,hcw,q,h2,hs]
theorem A1H{σ:Type}(n K L:Nat)(up:σ→List AA)(loc:σ→AA)(hL:∀s,(up s).length=L)(I:σ→Prop)(f:FuncId)(cap:List V)(hcw:cap.map weakV=cap)(hco:cap.all (AH 8)=false)(p:σ→List Int→Bool)(nx:σ→List Int→σ)(xs:List (List Int))(hl:xs.length≤40)
  (hsh:∀s (t:St),L+1≤t.up.length→(up s++[loc s]).map (AL t)=up s++[loc s]) (hcap:∀(t:St) γ,L+1≤t.up.length→AL t [(3,γ,A6.box [V.fn f [] cap])]=[(3,γ,A6.box [V.fn f [] cap])]) (c:Nat)
  (hp:∀n c1 fr s x,c<c1→I s→x∈xs→(p s x=true→I (nx s x))∧∃c',c1≤c'∧G4 (BN Tryz.prog ann kn (n+K)) (some 6) ⟨c1,fr,⟨up s++[loc s]++[[(3,c,A6.box [V.fn f [] cap])]]++[[]]++[[]],[]⟩⟩ f (li x::cap)=some ⟨c',(6,true,.bool (p s x))::fr,⟨up (nx s x)++[loc (nx s x)]++[[(3,c,A6.box [V.fn f [] cap])]]++[[]]++[[]],[]⟩⟩) (dd:Nat) (fr:Fr) (s:σ) (hi:I s) :
  ∃c':Nat,c≤c'∧G4 (BN Tryz.prog ann kn (n+K+300)) (some dd) ⟨c,fr,⟨up s,loc s⟩⟩ 147 [.list false (xs.map AM),.fn f [] cap]=some ⟨c',(dd,true,.bool (!(BR (fun s x=>!p s x) nx s xs).1))::fr,⟨up (BR (fun s x=>!p s x) nx s xs).2,loc (BR (fun s x=>!p s x) nx s xs).2⟩⟩:=by
 have hcl:([V.list false (xs.map AM),V.fn f [] cap]).all (AH 9)=false:=by simp[TL,hco]
 have hp2:tT (fun s=>up s++[loc s]++[[(3,c,A6.box [V.fn f [] cap])]]++[[]]) I (K+20) 178 [.ptr (L+1) 3 c 0] (fun s x=>!p s x) nx xs (c+1):=by
  have hcap':∀t:St,L+1≤t.up.length→AL t [(3,c,A6.box [V.fn f [] cap])]=[(3,c,A6.box [V.fn f [] cap])]:=fun t h=>hcap t c h;intro n c1 fr s x hc0 hi hx;obtain⟨h1,c',h2,q⟩:=hp (n+17) c1 [(5,true,li x),(4,true,.fn f [] cap),(0,true,li x),(1,true,.ptr (L+1) 3 c 0)] s x hc0 hi hx;refine⟨fun h=>h1 (by simpa using h),c',h2,?_⟩;have e:n+17+K=n+K+17:=by omega
  rw[e]at q;rw[show n+(K+20)=n+K+20 from by omega,BA Tryz.func178 b178 rfl (by simp)];generalize hB:[(3,c,A6.box [V.fn f [] cap])]=B at q hcap';have hB1:AA.get B 3=some (c,.box [.fn f [] cap]):=by rw[←hB];rfl
  have hg:(up s++[loc s]++[B]++[[]])[L+1]? = some B:=by simp only[List.append_assoc];rw[List.getElem?_append_right (by rw[hL];omega)];simp[hL]
  have hs1:∀s (t:St),L+1≤t.up.length→List.map (AL t) (up s)=up s∧AL t (loc s)=loc s:=fun s t h=>by simpa using hsh s t h
  have hu:∀(l:List AA) a b,CL (l++[a,b,[],[]])=some (l++[a,b,[]],[]):=fun l a b=>by have:=DG ([]:AA) (l++[a,b,[]]);rwa [List.append_assoc]at this
  simp only[List.append_assoc,List.cons_append,List.nil_append]at q hg⊢;simp[hu,AV2,AG,hcw,q,hg,hL,hB1,(hs1 _ _ _).1,(hs1 _ _ _).2,hcap']
 have hsh2:∀s (t:St),(up s++[loc s]).length+1≤t.up.length→(up s++[loc s]++[[(3,c,A6.box [V.fn f [] cap])]]).map (AL t)=up s++[loc s]++[[(3,c,A6.box [V.fn f [] cap])]]:=fun s t h=>by
  have h':L+1≤t.up.length:=by simp[hL]at h;omega
  have:=hsh s t h';have h3:=hcap t c h';rw[List.map_append,this];simp only[List.map_cons,List.map_nil,h3]
 obtain⟨c',h1,q⟩:=AU6 (n+77) (K+20) (fun s=>up s++[loc s]) (fun _=>[(3,c,A6.box [V.fn f [] cap])]) I 178 [.ptr (L+1) 3 c 0] (by simp) (by simp) (fun s x=>!p s x) nx xs (c+1) hp2 hl hsh2 (c+1) 7 [(6,true,.fn 178 [] [.ptr (L+1) 3 c 0]),(5,true,.list false (xs.map AM)),(0,true,.list false (xs.map AM)),(1,true,.fn f [] cap),(3,true,.ptr (L+1) 3 c 0)] s (Nat.le_refl _) hi
 refine⟨c',by omega,?_⟩
 have e:n+77+(K+20)+200=n+K+297:=by omega
 rw[e]at q
 have hs1:∀s (t:St),L+1≤t.up.length→List.map (AL t) (up s)=up s∧AL t (loc s)=loc s:=fun s t h=>by simpa using hsh s t h
 rw[BA Tryz.func147 b147 rfl hcl]
 try simp only[List.length_append,List.length_cons,List.length_nil]at q⊢
 simp[AV1,AG,hcw,hL,q,(hs1 _ _ _).1,(hs1 _ _ _).2]
theorem BF2(n K:Nat)(f:FuncId)(p:List Int→Bool)(xs:List (List Int))(hl:xs.length≤40)(hf:∀n x,x∈xs→A0 Tryz.prog kn (AE Tryz.prog ann kn (n+K)) f [li x]=some (.bool (p x)))(hh:BL Tryz.prog f=false:=by simp) :
  A0 Tryz.prog kn (AE Tryz.prog ann kn (n+K+300)) 147 [.list false (xs.map AM),.fn f [] []]=some (.bool (xs.all p)):=by
 rw[AP rfl,AR Tryz.func147 b147 rfl (by simp[AC,AJ,AM,AF])]
 have hp2:tT (fun (_:Unit)=>[]++[[(3,0,A6.box [V.fn f [] []])]]++[[]]) (fun _=>True) (K+20) 178 [.ptr 0 3 0 0] (fun _ x=>!p x) (fun _ _=>()) xs 0:=by
  intro n c1 fr s x hc0 hi hx;refine⟨fun _=>trivial,c1+0,by omega,?_⟩;have q:=fun n=>hf n x hx;have q2:=q (n+17);have e:n+17+K=n+K+17:=by omega
  rw[e]at q2;skip;try simp[AJ]at q2
  rw[show n+(K+20)=n+K+20 from by omega,List.nil_append,BA Tryz.func178 b178 rfl (by simp)];simp[AV2,AG,AJ,q2,hh];try simp[AJ,q2,hh]
 obtain⟨c',h1,q⟩:=AU6 (n+77) (K+20) (fun _=>[]) (fun _=>[(3,0,.box [.fn f [] []])]) (fun _=>True) 178 [.ptr 0 3 0 0] (by simp) (by simp) (fun _ x=>!p x) (fun _ _=>()) xs 0 hp2 hl (by simp[AC,AJ,AM,AF]) 1 7 [(6,true,.fn 178 [] [.ptr 0 3 0 0]),(5,true,.list false (xs.map AM)),(0,true,.list false (xs.map AM)),(1,true,.fn f [] []),(3,true,.ptr 0 3 0 0)] () (Nat.zero_le _) trivial
 have e:n+77+(K+20)+200=n+K+297:=by omega
 rw[e,FV]at q
 have:=KJ p xs
 skip
 simp[AV1,AG,q]
 rw[←this,Bool.not_not]
def AB1{σ:Type}(U:σ→List AA)(I:σ→Prop)(K:Nat)(f:FuncId)(cap:List V)(p:σ→Int×Int→Bool)(nx:σ→Int×Int→σ)(xs:List (Int×Int))(c0:Nat):Prop:=∀n c fr s x,c0≤c→I s→x∈xs→(p s x=false→I (nx s x))∧∃c',c≤c'∧G4 (BN Tryz.prog ann kn (n+K)) (some 16) ⟨c,fr,⟨U s,[]⟩⟩ f (.agg (AF x)::cap)=some ⟨c',(16,true,.bool (p s x))::fr,⟨U (nx s x),[]⟩⟩
theorem AB2{σ:Type}(n K:Nat)(U:σ→List AA)(I:σ→Prop)(f:FuncId)(cap:List V)(hcw:cap.map weakV=cap)(p:σ→Int×Int→Bool)(nx:σ→Int×Int→σ)(xs:List (Int×Int))(c0:Nat)(hp:AB1 U I K f cap p nx xs c0)(hl:xs.length≤1000):∀(d k:Nat) (s:σ) (c m:Nat),k+d=xs.length→d<m→c0≤c→I s →
  ∃(c':Nat) (j:Int),c≤c'∧0≤j∧BF (AE Tryz.prog ann kn (n+K+50) 19) UC (ann 19 (BW UC)) m ⟨c,[(0,true,.list false (xs.map AF)),(1,true,.fn f [] cap),(7,true,i xs.length),(8,true,i k)],⟨U s,[]⟩⟩ =
   bif (BR p nx s (xs.drop k)).1 then some (.ret,⟨c',[(4,true,i j),(17,true,i j),(5,true,i j)],⟨U (BR p nx s (xs.drop k)).2,[]⟩⟩)
   else some (.exit 0,⟨c',[(9,true,.bool false),(0,true,.list false (xs.map AF)),(1,true,.fn f [] cap),(7,true,i xs.length),(8,true,i xs.length)],⟨U (BR p nx s (xs.drop k)).2,[]⟩⟩)
 |0,k,s,c,m+1,hd,hm,hc0,hi=>by
  have:k=xs.length:=by omega
  subst this;refine⟨c,0,Nat.le_refl _,by omega,?_⟩;simp[AB,BR]
 |d+1,k,s,c,m+1,hd,hm,hc0,hi=>by
  have hk:k<xs.length:=by omega
  have hw:=BM (k:=k) (by omega);have nrm:∀a:Nat,n+K+a=(n+a)+K:=fun a=>by omega
  rw[AB,List.drop_eq_getElem_cons hk];simp only[BR];obtain⟨hi',c1,hc1,q⟩:=hp (n+43) c [(15,true,.agg (AF xs[k])),(14,true,.ref (AF xs[k])),(13,true,i k),(12,true,.list false (xs.map AF)),(11,true,.fn f [] cap),(0,true,.list false (xs.map AF)),(1,true,.fn f [] cap),(5,true,i k),(7,true,i xs.length),(8,true,i k)] s xs[k] hc0 hi (List.getElem_mem hk);generalize e:p s xs[k]=b at q hi';cases b with
  |true=>
   refine⟨c1,k,hc1,by omega,?_⟩
   try simp only[AF]at q
   rw[←nrm]at q
   try simp at q
   simp[hk,hw,AF,q,hcw]
  |false=>
   obtain⟨c',j,h1,h2,ih⟩:=AB2 n K U I f cap hcw p nx xs c0 hp hl d (k+1) (nx s xs[k]) c1 m (by omega) (by omega) (by omega) (hi' rfl)
   refine⟨c',j,by omega,h2,?_⟩
   try simp only[AF]at q ih
   rw[←nrm]at q
   try simp at q
   simp at ih
   simp[hk,hw,AF,q,ih,hcw]
theorem AQ0{σ:Type}(n K:Nat)(up:σ→List AA)(loc:σ→AA)(I:σ→Prop)(f:FuncId)(cap:List V)(hcw:cap.map weakV=cap)(hco:cap.all (AH 8)=false)(p:σ→Int×Int→Bool)(nx:σ→Int×Int→σ)(xs:List (Int×Int))(c0:Nat)(hp:AB1 (fun s=>up s++[loc s]) I K f cap p nx xs c0)(hl:xs.length≤40)(hsh:∀s (t:St),(up s).length+1≤t.up.length→(up s++[loc s]).map (AL t)=up s++[loc s])(c dd:Nat)(fr:Fr)(s:σ)(hc0:c0≤c)(hi:I s) :
  ∃(c':Nat) (j:Int),c≤c'∧decide (0≤j)=(BR p nx s xs).1∧G4 (BN Tryz.prog ann kn (n+K+100)) (some dd) ⟨c,fr,⟨up s,loc s⟩⟩ 192 [.list false (xs.map AF),.fn f [] cap]=some ⟨c',(dd,true,i j)::fr,⟨up (BR p nx s xs).2,loc (BR p nx s xs).2⟩⟩:=by
 obtain⟨c1,j,h1,h2,q⟩:=AB2 (n+45) K (fun s=>up s++[loc s]) I f cap hcw p nx xs c0 hp (by omega) xs.length 0 s c (n+K+95) (by omega) (by omega) hc0 hi
 have e:n+45+K+50=n+K+95:=by omega
 rw[e]at q
 have hcl:([V.list false (xs.map AF),V.fn f [] cap]).all (AH 9)=false:=by simp[hco]
 have hs:=fun s=>hsh s ⟨up s++[loc s],[]⟩ (by simp)
 simp at hs
 rw[BA Tryz.func192 b192 rfl hcl]
 simp only[List.drop_zero]at q
 generalize (BR p nx s xs).2=s' at q⊢
 generalize e:(BR p nx s xs).1=b at q
 cases b with
 |true=>
  refine⟨c1,j,h1,by simpa using h2,?_⟩
  simp at q
  simp[AV4,AG,q,hs]
 |false=>
  refine⟨c1,-1,h1,by simp,?_⟩
  simp at q
  simp[AV4,AG,q,hs]
theorem AU7{σ:Type}(n K:Nat)(up:σ→List AA)(loc:σ→AA)(I:σ→Prop)(f:FuncId)(cap:List V)(hcw:cap.map weakV=cap)(hco:cap.all (AH 8)=false)(p:σ→Int×Int→Bool)(nx:σ→Int×Int→σ)(xs:List (Int×Int))(c0:Nat)(hp:AB1 (fun s=>up s++[loc s]++[[]]) I K f cap p nx xs c0)(hl:xs.length≤40)(hsh:∀s (t:St),(up s).length+1≤t.up.length→(up s++[loc s]).map (AL t)=up s++[loc s])(c dd:Nat)(fr:Fr)(s:σ)(hc0:c0≤c)(hi:I s) :
  ∃c':Nat,c≤c'∧G4 (BN Tryz.prog ann kn (n+K+200)) (some dd) ⟨c,fr,⟨up s,loc s⟩⟩ 180 [.list false (xs.map AF),.fn f [] cap]=some ⟨c',(dd,true,.bool (BR p nx s xs).1)::fr,⟨up (BR p nx s xs).2,loc (BR p nx s xs).2⟩⟩:=by
 have hcl:([V.list false (xs.map AF),V.fn f [] cap]).all (AH 9)=false:=by simp[hco]
 have hsh2:∀s (t:St),(up s++[loc s]).length+1≤t.up.length→(up s++[loc s]++[[]]).map (AL t)=up s++[loc s]++[[]]:=fun s t h=>by have:=hsh s t (by simp at h;omega);simp only[List.map_append,List.map_cons,List.map_nil,FT]at this⊢;rw[this]
 obtain⟨c1,j,h1,h2,q⟩:=AQ0 (n+97) K (fun s=>up s++[loc s]) (fun _=>[]) I f cap hcw hco p nx xs c0 hp hl hsh2 c 7 [(6,true,.fn f [] cap),(5,true,.list false (xs.map AF)),(0,true,.list false (xs.map AF)),(1,true,.fn f [] cap)] s hc0 hi
 refine⟨c1,h1,?_⟩
 have e:n+97+K+100=n+K+197:=by omega
 rw[e]at q
 have hs:=fun s=>hsh s ⟨up s++[loc s],[]⟩ (by simp)
 simp at hs
 rw[BA Tryz.func180 b180 rfl hcl]
 simp[A8O,AG,hcw,q,h2,hs]
theorem BF3(n K:Nat)(b:AK)(f:FuncId)(p:Int×Int→Bool)(xs:List (Int×Int))(hl:xs.length≤40)(hf:∀n x,x∈xs→A0 Tryz.prog kn (AE Tryz.prog ann kn (n+K)) f [.agg (AC b),.agg (AF x)]=some (.bool (p x)))(hh:BL Tryz.prog f=false:=by simp) :
  A0 Tryz.prog kn (AE Tryz.prog ann kn (n+K+300)) 149 [.list false (xs.map AF),.fn f [.agg (AC b)] []]=some (.bool (xs.all p)):=by
 rw[AP rfl,AR Tryz.func149 BKJ rfl (by simp[AC,AJ,AM,AF])]
 have hp2:AB1 (fun (_:Unit)=>[]++[[(3,0,A6.box [V.fn f [.agg (AC b)] []])]]++[[]]) (fun _=>True) (K+20) 181 [.ptr 0 3 0 0] (fun _ x=>!p x) (fun _ _=>()) xs 0:=by
  intro n c1 fr s x hc0 hi hx;refine⟨fun _=>trivial,c1+1,by omega,?_⟩;have q:=fun n=>hf n x hx;have q2:=q (n+17);have e:n+17+K=n+K+17:=by omega
  rw[e]at q2;simp only[AC,AF]at q2⊢;try simp[AJ]at q2
  rw[show n+(K+20)=n+K+20 from by omega,List.nil_append,BA Tryz.func181 b181 rfl (by simp)];simp[A8Q,AG,AC,AJ,AM,AF,q2,hh];try simp[AC,AJ,AM,AF,q2,hh]
 obtain⟨c',h1,q⟩:=AU7 (n+77) (K+20) (fun _=>[]) (fun _=>[(3,0,.box [.fn f [.agg (AC b)] []])]) (fun _=>True) 181 [.ptr 0 3 0 0] (by simp) (by simp) (fun _ x=>!p x) (fun _ _=>()) xs 0 hp2 hl (by simp[AC,AJ,AM,AF]) 1 7 [(6,true,.fn 181 [] [.ptr 0 3 0 0]),(5,true,.list false (xs.map AF)),(0,true,.list false (xs.map AF)),(1,true,.fn f [.agg (AC b)] []),(3,true,.ptr 0 3 0 0)] () (Nat.zero_le _) trivial
 have e:n+77+(K+20)+200=n+K+297:=by omega
 rw[e,FV]at q
 have:=KJ p xs
 simp only[AC]at q⊢
 simp[A8P,AG,q]
 rw[←this,Bool.not_not]
def AB3{σ:Type}(U:σ→List AA)(I:σ→Prop)(K:Nat)(f:FuncId)(cap:List V)(p:σ→Int×Int→Bool)(nx:σ→Int×Int→σ)(xs:List (Int×Int))(c0:Nat):Prop:=∀n c fr s x,c0≤c→I s→x∈xs→(p s x=false→I (nx s x))∧∃c',c≤c'∧G4 (BN Tryz.prog ann kn (n+K)) (some 16) ⟨c,fr,⟨U s,[]⟩⟩ f (.agg (AF x)::cap)=some ⟨c',(16,true,.bool (p s x))::fr,⟨U (nx s x),[]⟩⟩
theorem AB4{σ:Type}(n K:Nat)(U:σ→List AA)(I:σ→Prop)(f:FuncId)(cap:List V)(hcw:cap.map weakV=cap)(p:σ→Int×Int→Bool)(nx:σ→Int×Int→σ)(xs:List (Int×Int))(c0:Nat)(hp:AB3 U I K f cap p nx xs c0)(hl:xs.length≤1000):∀(d k:Nat) (s:σ) (c m:Nat),k+d=xs.length→d<m→c0≤c→I s →
  ∃(c':Nat) (j:Int),c≤c'∧0≤j∧BF (AE Tryz.prog ann kn (n+K+50) 19) UD (ann 19 (BW UD)) m ⟨c,[(0,true,.list false (xs.map AF)),(1,true,.fn f [] cap),(7,true,i xs.length),(8,true,i k)],⟨U s,[]⟩⟩ =
   bif (BR p nx s (xs.drop k)).1 then some (.ret,⟨c',[(4,true,i j),(17,true,i j),(5,true,i j)],⟨U (BR p nx s (xs.drop k)).2,[]⟩⟩)
   else some (.exit 0,⟨c',[(9,true,.bool false),(0,true,.list false (xs.map AF)),(1,true,.fn f [] cap),(7,true,i xs.length),(8,true,i xs.length)],⟨U (BR p nx s (xs.drop k)).2,[]⟩⟩)
 |0,k,s,c,m+1,hd,hm,hc0,hi=>by
  have:k=xs.length:=by omega
  subst this;refine⟨c,0,Nat.le_refl _,by omega,?_⟩;simp[AB,BR]
 |d+1,k,s,c,m+1,hd,hm,hc0,hi=>by
  have hk:k<xs.length:=by omega
  have hw:=BM (k:=k) (by omega);have nrm:∀a:Nat,n+K+a=(n+a)+K:=fun a=>by omega
  rw[AB,List.drop_eq_getElem_cons hk];simp only[BR];obtain⟨hi',c1,hc1,q⟩:=hp (n+43) c [(15,true,.agg (AF xs[k])),(14,true,.ref (AF xs[k])),(13,true,i k),(12,true,.list false (xs.map AF)),(11,true,.fn f [] cap),(0,true,.list false (xs.map AF)),(1,true,.fn f [] cap),(5,true,i k),(7,true,i xs.length),(8,true,i k)] s xs[k] hc0 hi (List.getElem_mem hk);generalize e:p s xs[k]=b at q hi';cases b with
  |true=>
   refine⟨c1,k,hc1,by omega,?_⟩
   try simp only[AF]at q
   rw[←nrm]at q
   try simp at q
   simp[hk,hw,AF,q,hcw]
  |false=>
   obtain⟨c',j,h1,h2,ih⟩:=AB4 n K U I f cap hcw p nx xs c0 hp hl d (k+1) (nx s xs[k]) c1 m (by omega) (by omega) (by omega) (hi' rfl)
   refine⟨c',j,by omega,h2,?_⟩
   try simp only[AF]at q ih
   rw[←nrm]at q
   try simp at q
   simp at ih
   simp[hk,hw,AF,q,ih,hcw]
theorem AQ1{σ:Type}(n K:Nat)(up:σ→List AA)(loc:σ→AA)(I:σ→Prop)(f:FuncId)(cap:List V)(hcw:cap.map weakV=cap)(hco:cap.all (AH 8)=false)(p:σ→Int×Int→Bool)(nx:σ→Int×Int→σ)(xs:List (Int×Int))(c0:Nat)(hp:AB3 (fun s=>up s++[loc s]) I K f cap p nx xs c0)(hl:xs.length≤40)(hsh:∀s (t:St),(up s).length+1≤t.up.length→(up s++[loc s]).map (AL t)=up s++[loc s])(c dd:Nat)(fr:Fr)(s:σ)(hc0:c0≤c)(hi:I s) :
  ∃(c':Nat) (j:Int),c≤c'∧decide (0≤j)=(BR p nx s xs).1∧G4 (BN Tryz.prog ann kn (n+K+100)) (some dd) ⟨c,fr,⟨up s,loc s⟩⟩ 193 [.list false (xs.map AF),.fn f [] cap]=some ⟨c',(dd,true,i j)::fr,⟨up (BR p nx s xs).2,loc (BR p nx s xs).2⟩⟩:=by
 obtain⟨c1,j,h1,h2,q⟩:=AB4 (n+45) K (fun s=>up s++[loc s]) I f cap hcw p nx xs c0 hp (by omega) xs.length 0 s c (n+K+95) (by omega) (by omega) hc0 hi
 have e:n+45+K+50=n+K+95:=by omega
 rw[e]at q
 have hcl:([V.list false (xs.map AF),V.fn f [] cap]).all (AH 9)=false:=by simp[hco]
 have hs:=fun s=>hsh s ⟨up s++[loc s],[]⟩ (by simp)
 simp at hs
 rw[BA Tryz.func193 b193 rfl hcl]
 simp only[List.drop_zero]at q
 generalize (BR p nx s xs).2=s' at q⊢
 generalize e:(BR p nx s xs).1=b at q
 cases b with
 |true=>
  refine⟨c1,j,h1,by simpa using h2,?_⟩
  simp at q
  simp[AV5,AG,q,hs]
 |false=>
  refine⟨c1,-1,h1,by simp,?_⟩
  simp at q
  simp[AV5,AG,q,hs]
theorem BF4{σ:Type}(n K:Nat)(up:σ→List AA)(loc:σ→AA)(I:σ→Prop)(f:FuncId)(cap:List V)(hcw:cap.map weakV=cap)(hco:cap.all (AH 8)=false)(p:σ→Int×Int→Bool)(nx:σ→Int×Int→σ)(xs:List (Int×Int))(c0:Nat)(hp:AB3 (fun s=>up s++[loc s]++[[]]) I K f cap p nx xs c0)(hl:xs.length≤40)(hsh:∀s (t:St),(up s).length+1≤t.up.length→(up s++[loc s]).map (AL t)=up s++[loc s])(c dd:Nat)(fr:Fr)(s:σ)(hc0:c0≤c)(hi:I s) :
  ∃c':Nat,c≤c'∧G4 (BN Tryz.prog ann kn (n+K+200)) (some dd) ⟨c,fr,⟨up s,loc s⟩⟩ 182 [.list false (xs.map AF),.fn f [] cap]=some ⟨c',(dd,true,.bool (BR p nx s xs).1)::fr,⟨up (BR p nx s xs).2,loc (BR p nx s xs).2⟩⟩:=by
 have hcl:([V.list false (xs.map AF),V.fn f [] cap]).all (AH 9)=false:=by simp[hco]
 have hsh2:∀s (t:St),(up s++[loc s]).length+1≤t.up.length→(up s++[loc s]++[[]]).map (AL t)=up s++[loc s]++[[]]:=fun s t h=>by have:=hsh s t (by simp at h;omega);simp only[List.map_append,List.map_cons,List.map_nil,FT]at this⊢;rw[this]
 obtain⟨c1,j,h1,h2,q⟩:=AQ1 (n+97) K (fun s=>up s++[loc s]) (fun _=>[]) I f cap hcw hco p nx xs c0 hp hl hsh2 c 7 [(6,true,.fn f [] cap),(5,true,.list false (xs.map AF)),(0,true,.list false (xs.map AF)),(1,true,.fn f [] cap)] s hc0 hi
 refine⟨c1,h1,?_⟩
 have e:n+97+K+100=n+K+197:=by omega
 rw[e]at q
 have hs:=fun s=>hsh s ⟨up s++[loc s],[]⟩ (by simp)
 simp at hs
 rw[BA Tryz.func182 b182 rfl hcl]
 simp[A8R,AG,hcw,q,h2,hs]
theorem BF5(n K:Nat)(b:AK)(f:FuncId)(p:Int×Int→Bool)(xs:List (Int×Int))(hl:xs.length≤40)(hf:∀n x,x∈xs→A0 Tryz.prog kn (AE Tryz.prog ann kn (n+K)) f [.agg (AC b),.agg (AF x)]=some (.bool (p x)))(hh:BL Tryz.prog f=false:=by simp) :
  A0 Tryz.prog kn (AE Tryz.prog ann kn (n+K+300)) 150 [.list false (xs.map AF),.fn f [.agg (AC b)] []]=some (.bool (xs.all p)):=by
 rw[AP rfl,AR Tryz.func150 BKK rfl (by simp[AC,AJ,AM,AF])]
 have hp2:AB3 (fun (_:Unit)=>[]++[[(3,0,A6.box [V.fn f [.agg (AC b)] []])]]++[[]]) (fun _=>True) (K+20) 183 [.ptr 0 3 0 0] (fun _ x=>!p x) (fun _ _=>()) xs 0:=by
  intro n c1 fr s x hc0 hi hx;refine⟨fun _=>trivial,c1+1,by omega,?_⟩;have q:=fun n=>hf n x hx;have q2:=q (n+17);have e:n+17+K=n+K+17:=by omega
  rw[e]at q2;simp only[AC,AF]at q2⊢;try simp[AJ]at q2
  rw[show n+(K+20)=n+K+20 from by omega,List.nil_append,BA Tryz.func183 b183 rfl (by simp)];simp[A8T,AG,AC,AJ,AM,AF,q2,hh];try simp[AC,AJ,AM,AF,q2,hh]
 obtain⟨c',h1,q⟩:=BF4 (n+77) (K+20) (fun _=>[]) (fun _=>[(3,0,.box [.fn f [.agg (AC b)] []])]) (fun _=>True) 183 [.ptr 0 3 0 0] (by simp) (by simp) (fun _ x=>!p x) (fun _ _=>()) xs 0 hp2 hl (by simp[AC,AJ,AM,AF]) 1 7 [(6,true,.fn 183 [] [.ptr 0 3 0 0]),(5,true,.list false (xs.map AF)),(0,true,.list false (xs.map AF)),(1,true,.fn f [.agg (AC b)] []),(3,true,.ptr 0 3 0 0)] () (Nat.zero_le _) trivial
 have e:n+77+(K+20)+200=n+K+297:=by omega
 rw[e,FV]at q
 have:=KJ p xs
 simp only[AC]at q⊢
 simp[A8S,AG,q]
 rw[←this,Bool.not_not]
end Go.Proofs.Tryz.Op
