/- What serves the contracts of IndexFunc and its like: a predicate with a state. No condition. (printed by pred-season.py) -/
import Derived.Test.YtmnlpgjklibndaaGreatW1
import Derived.Test.YtmnlpgjklibndaaGreatSw
open Go renaming FuncId->bw
open Go.Proofs.Tryz renaming prog->bq
set_option maxRecDepth 100000
set_option linter.unusedSimpArgs false
open Go Go.Pg Go.Proofs
namespace Go.Season
theorem DF{k:Nat}(h:k<=1000000):IntKind.i64.wrap ((k:Int)+1)=((k+1:Nat):Int):=by rw[AU (by omega) (by omega)];rfl
def C7{σ α:Type}(p:σ->α->Bool)(nx:σ->α->σ):σ->List α->Bool×σ
 |s,[]=>(false,s)
 |s,x::xs=>bif p s x then(true,nx s x) else C7 p nx (nx s x) xs
theorem GS{α:Type}(p:α->Bool):∀(xs:List α),C7 (fun (_:Unit) x=>p x) (fun _ _=>()) () xs=(xs.any p,())
 |[]=>rfl
 |x::xs=>by simp only[C7,List.any_cons,GS p xs];cases p x<;>rfl
end Go.Season
open Go.Season
namespace Go.Proofs.Tryz.Op
def vC{σ:Type}(U:σ->List AA)(I:σ->Prop)(K:Nat)(f:bw)(cap:List V)(p:σ->AF->Bool)(nx:σ->AF->σ)(xs:List (AF))(c0:Nat):Prop:=∀n c fr s x,c0<=c->I s->x∈xs->(p s x=false->I (nx s x))/\∃c',c<=c'/\K3 (BX bq ann kn (n+K)) (some 16) ⟨c,fr,⟨U s,[]⟩⟩ f (.agg (AB x)::cap)=some ⟨c',(16,true,.bool (p s x))::fr,⟨U (nx s x),[]⟩⟩
theorem vD{σ:Type}(n K:Nat)(U:σ->List AA)(I:σ->Prop)(f:bw)(cap:List V)(hcw:cap.map weakV=cap)(p:σ->AF->Bool)(nx:σ->AF->σ)(xs:List (AF))(c0:Nat)(hp:vC U I K f cap p nx xs c0)(hl:xs.length<=1000):∀(d k:Nat) (s:σ) (c m:Nat),k+d=xs.length->d<m->c0<=c->I s ->
  ∃(c':Nat) (j:Int),c<=c'/\0<=j/\BN (AH bq ann kn (n+K+50) 19) PE (ann 19 (CC PE)) m ⟨c,[(0,true,.list false (xs.map AB)),(1,true,.fn f [] cap),(7,true,i xs.length),(8,true,i k)],⟨U s,[]⟩⟩ =
   bif (C7 p nx s (xs.drop k)).1 then some (.ret,⟨c',[(4,true,i j),(17,true,i j),(5,true,i j)],⟨U (C7 p nx s (xs.drop k)).2,[]⟩⟩)
   else some (.exit 0,⟨c',[(9,true,.bool false),(0,true,.list false (xs.map AB)),(1,true,.fn f [] cap),(7,true,i xs.length),(8,true,i xs.length)],⟨U (C7 p nx s (xs.drop k)).2,[]⟩⟩)
 |0,k,s,c,m+1,hd,hm,hc0,hi=>by
  have:k=xs.length:=by omega
  subst this;refine⟨c,0,Nat.le_refl _,by omega,?_⟩;simp[AD,C7]
 |d+1,k,s,c,m+1,hd,hm,hc0,hi=>by
  have hk:k<xs.length:=by omega
  have hw:=DF (k:=k) (by omega);have nrm:∀a:Nat,n+K+a=(n+a)+K:=fun a=>by omega
  rw[AD,List.drop_eq_getElem_cons hk];simp only[C7];obtain⟨hi',c1,hc1,q⟩:=hp (n+43) c [(15,true,.agg (AB xs[k])),(14,true,.ref (AB xs[k])),(13,true,i k),(12,true,.list false (xs.map AB)),(11,true,.fn f [] cap),(0,true,.list false (xs.map AB)),(1,true,.fn f [] cap),(5,true,i k),(7,true,i xs.length),(8,true,i k)] s xs[k] hc0 hi (List.getElem_mem hk);generalize e:p s xs[k]=b at q hi';cases b with
  |true=>
   refine⟨c1,k,hc1,by omega,?_⟩
   try simp only[AB]at q
   rw[<-nrm]at q
   try simp at q
   simp[hk,hw,AB,q,hcw]
  |false=>
   obtain⟨c',j,h1,h2,ih⟩:=vD n K U I f cap hcw p nx xs c0 hp hl d (k+1) (nx s xs[k]) c1 m (by omega) (by omega) (by omega) (hi' rfl)
   refine⟨c',j,by omega,h2,?_⟩
   try simp only[AB]at q ih
   rw[<-nrm]at q
   try simp at q
   simp at ih
   simp[hk,hw,AB,q,ih,hcw]
theorem AIR{σ:Type}(n K:Nat)(up:σ->List AA)(loc:σ->AA)(I:σ->Prop)(f:bw)(cap:List V)(hcw:cap.map weakV=cap)(hco:cap.all (AK 8)=false)(p:σ->AF->Bool)(nx:σ->AF->σ)(xs:List (AF))(c0:Nat)(hp:vC (fun s=>up s++[loc s]) I K f cap p nx xs c0)(hl:xs.length<=40)(hsh:∀s (t:St),(up s).length+1<=t.up.length->(up s++[loc s]).map (AQ t)=up s++[loc s])(c dd:Nat)(fr:Fr)(s:σ)(hc0:c0<=c)(hi:I s) :
  ∃(c':Nat) (j:Int),c<=c'/\decide (0<=j)=(C7 p nx s xs).1/\K3 (BX bq ann kn (n+K+100)) (some dd) ⟨c,fr,⟨up s,loc s⟩⟩ 172 [.list false (xs.map AB),.fn f [] cap]=some ⟨c',(dd,true,i j)::fr,⟨up (C7 p nx s xs).2,loc (C7 p nx s xs).2⟩⟩:=by
 obtain⟨c1,j,h1,h2,q⟩:=vD (n+45) K (fun s=>up s++[loc s]) I f cap hcw p nx xs c0 hp (by omega) xs.length 0 s c (n+K+95) (by omega) (by omega) hc0 hi
 have e:n+45+K+50=n+K+95:=by omega
 rw[e]at q
 have hcl:([V.list false (xs.map AB),V.fn f [] cap]).all (AK 9)=false:=by simp[hco]
 have hs:=fun s=>hsh s ⟨up s++[loc s],[]⟩ (by simp)
 simp at hs
 rw[BP Tryz.func172 b172 rfl hcl]
 simp only[List.drop_zero]at q
 generalize (C7 p nx s xs).2=s' at q|-
 generalize e:(C7 p nx s xs).1=b at q
 cases b with
 |true=>
  refine⟨c1,j,h1,by simpa using h2,?_⟩
  simp at q
  simp[ADK,AJ,q,hs]
 |false=>
  refine⟨c1,-1,h1,by simp,?_⟩
  simp at q
  simp[ADK,AJ,q,hs]
theorem A14{σ:Type}(n K:Nat)(up:σ->List AA)(loc:σ->AA)(I:σ->Prop)(f:bw)(cap:List V)(hcw:cap.map weakV=cap)(hco:cap.all (AK 8)=false)(p:σ->AF->Bool)(nx:σ->AF->σ)(xs:List (AF))(c0:Nat)(hp:vC (fun s=>up s++[loc s]++[[]]) I K f cap p nx xs c0)(hl:xs.length<=40)(hsh:∀s (t:St),(up s).length+1<=t.up.length->(up s++[loc s]).map (AQ t)=up s++[loc s])(c dd:Nat)(fr:Fr)(s:σ)(hc0:c0<=c)(hi:I s) :
  ∃c':Nat,c<=c'/\K3 (BX bq ann kn (n+K+200)) (some dd) ⟨c,fr,⟨up s,loc s⟩⟩ 183 [.list false (xs.map AB),.fn f [] cap]=some ⟨c',(dd,true,.bool (C7 p nx s xs).1)::fr,⟨up (C7 p nx s xs).2,loc (C7 p nx s xs).2⟩⟩:=by
 have hcl:([V.list false (xs.map AB),V.fn f [] cap]).all (AK 9)=false:=by simp[hco]
 have hsh2:∀s (t:St),(up s++[loc s]).length+1<=t.up.length->(up s++[loc s]++[[]]).map (AQ t)=up s++[loc s]++[[]]:=fun s t h=>by have:=hsh s t (by simp at h;omega);simp only[List.map_append,List.map_cons,List.map_nil,KJ]at this|-;rw[this]
 obtain⟨c1,j,h1,h2,q⟩:=AIR (n+97) K (fun s=>up s++[loc s]) (fun _=>[]) I f cap hcw hco p nx xs c0 hp hl hsh2 c 7 [(6,true,.fn f [] cap),(5,true,.list false (xs.map AB)),(0,true,.list false (xs.map AB)),(1,true,.fn f [] cap)] s hc0 hi
 refine⟨c1,h1,?_⟩
 have e:n+97+K+100=n+K+197:=by omega
 rw[e]at q
 have hs:=fun s=>hsh s ⟨up s++[loc s],[]⟩ (by simp)
 simp at hs
 rw[BP Tryz.func183 b183 rfl hcl]
 simp[A25,AJ,hcw,q,h2,hs]
def kG{σ:Type}(U:σ->List AA)(I:σ->Prop)(K:Nat)(f:bw)(cap:List V)(p:σ->FK->Bool)(nx:σ->FK->σ)(xs:List (FK))(c0:Nat):Prop:=∀n c fr s x,c0<=c->I s->x∈xs->(p s x=false->I (nx s x))/\∃c',c<=c'/\K3 (BX bq ann kn (n+K)) (some 16) ⟨c,fr,⟨U s,[]⟩⟩ f (.agg (AM x)::cap)=some ⟨c',(16,true,.bool (p s x))::fr,⟨U (nx s x),[]⟩⟩
theorem vE{σ:Type}(n K:Nat)(U:σ->List AA)(I:σ->Prop)(f:bw)(cap:List V)(hcw:cap.map weakV=cap)(p:σ->FK->Bool)(nx:σ->FK->σ)(xs:List (FK))(c0:Nat)(hp:kG U I K f cap p nx xs c0)(hl:xs.length<=1000):∀(d k:Nat) (s:σ) (c m:Nat),k+d=xs.length->d<m->c0<=c->I s ->
  ∃(c':Nat) (j:Int),c<=c'/\0<=j/\BN (AH bq ann kn (n+K+50) 19) RS (ann 19 (CC RS)) m ⟨c,[(0,true,.list false (xs.map AM)),(1,true,.fn f [] cap),(7,true,i xs.length),(8,true,i k)],⟨U s,[]⟩⟩ =
   bif (C7 p nx s (xs.drop k)).1 then some (.ret,⟨c',[(4,true,i j),(17,true,i j),(5,true,i j)],⟨U (C7 p nx s (xs.drop k)).2,[]⟩⟩)
   else some (.exit 0,⟨c',[(9,true,.bool false),(0,true,.list false (xs.map AM)),(1,true,.fn f [] cap),(7,true,i xs.length),(8,true,i xs.length)],⟨U (C7 p nx s (xs.drop k)).2,[]⟩⟩)
 |0,k,s,c,m+1,hd,hm,hc0,hi=>by
  have:k=xs.length:=by omega
  subst this;refine⟨c,0,Nat.le_refl _,by omega,?_⟩;simp[AD,C7]
 |d+1,k,s,c,m+1,hd,hm,hc0,hi=>by
  have hk:k<xs.length:=by omega
  have hw:=DF (k:=k) (by omega);have nrm:∀a:Nat,n+K+a=(n+a)+K:=fun a=>by omega
  rw[AD,List.drop_eq_getElem_cons hk];simp only[C7];obtain⟨hi',c1,hc1,q⟩:=hp (n+43) c [(15,true,.agg (AM xs[k])),(14,true,.ref (AM xs[k])),(13,true,i k),(12,true,.list false (xs.map AM)),(11,true,.fn f [] cap),(0,true,.list false (xs.map AM)),(1,true,.fn f [] cap),(5,true,i k),(7,true,i xs.length),(8,true,i k)] s xs[k] hc0 hi (List.getElem_mem hk);generalize e:p s xs[k]=b at q hi';cases b with
  |true=>
   refine⟨c1,k,hc1,by omega,?_⟩
   try simp only[AM]at q
   rw[<-nrm]at q
   try simp at q
   simp[hk,hw,AM,q,hcw]
  |false=>
   obtain⟨c',j,h1,h2,ih⟩:=vE n K U I f cap hcw p nx xs c0 hp hl d (k+1) (nx s xs[k]) c1 m (by omega) (by omega) (by omega) (hi' rfl)
   refine⟨c',j,by omega,h2,?_⟩
   try simp only[AM]at q ih
   rw[<-nrm]at q
   try simp at q
   simp at ih
   simp[hk,hw,AM,q,ih,hcw]
theorem AIS{σ:Type}(n K:Nat)(up:σ->List AA)(loc:σ->AA)(I:σ->Prop)(f:bw)(cap:List V)(hcw:cap.map weakV=cap)(hco:cap.all (AK 8)=false)(p:σ->FK->Bool)(nx:σ->FK->σ)(xs:List (FK))(c0:Nat)(hp:kG (fun s=>up s++[loc s]) I K f cap p nx xs c0)(hl:xs.length<=40)(hsh:∀s (t:St),(up s).length+1<=t.up.length->(up s++[loc s]).map (AQ t)=up s++[loc s])(c dd:Nat)(fr:Fr)(s:σ)(hc0:c0<=c)(hi:I s) :
  ∃(c':Nat) (j:Int),c<=c'/\decide (0<=j)=(C7 p nx s xs).1/\K3 (BX bq ann kn (n+K+100)) (some dd) ⟨c,fr,⟨up s,loc s⟩⟩ 190 [.list false (xs.map AM),.fn f [] cap]=some ⟨c',(dd,true,i j)::fr,⟨up (C7 p nx s xs).2,loc (C7 p nx s xs).2⟩⟩:=by
 obtain⟨c1,j,h1,h2,q⟩:=vE (n+45) K (fun s=>up s++[loc s]) I f cap hcw p nx xs c0 hp (by omega) xs.length 0 s c (n+K+95) (by omega) (by omega) hc0 hi
 have e:n+45+K+50=n+K+95:=by omega
 rw[e]at q
 have hcl:([V.list false (xs.map AM),V.fn f [] cap]).all (AK 9)=false:=by simp[hco]
 have hs:=fun s=>hsh s ⟨up s++[loc s],[]⟩ (by simp)
 simp at hs
 rw[BP Tryz.func190 b190 rfl hcl]
 simp only[List.drop_zero]at q
 generalize (C7 p nx s xs).2=s' at q|-
 generalize e:(C7 p nx s xs).1=b at q
 cases b with
 |true=>
  refine⟨c1,j,h1,by simpa using h2,?_⟩
  simp at q
  simp[AQ8,AJ,q,hs]
 |false=>
  refine⟨c1,-1,h1,by simp,?_⟩
  simp at q
  simp[AQ8,AJ,q,hs]
theorem AMV{σ:Type}(n K:Nat)(up:σ->List AA)(loc:σ->AA)(I:σ->Prop)(f:bw)(cap:List V)(hcw:cap.map weakV=cap)(hco:cap.all (AK 8)=false)(p:σ->FK->Bool)(nx:σ->FK->σ)(xs:List (FK))(c0:Nat)(hp:kG (fun s=>up s++[loc s]++[[]]) I K f cap p nx xs c0)(hl:xs.length<=40)(hsh:∀s (t:St),(up s).length+1<=t.up.length->(up s++[loc s]).map (AQ t)=up s++[loc s])(c dd:Nat)(fr:Fr)(s:σ)(hc0:c0<=c)(hi:I s) :
  ∃c':Nat,c<=c'/\K3 (BX bq ann kn (n+K+200)) (some dd) ⟨c,fr,⟨up s,loc s⟩⟩ 185 [.list false (xs.map AM),.fn f [] cap]=some ⟨c',(dd,true,.bool (C7 p nx s xs).1)::fr,⟨up (C7 p nx s xs).2,loc (C7 p nx s xs).2⟩⟩:=by
 have hcl:([V.list false (xs.map AM),V.fn f [] cap]).all (AK 9)=false:=by simp[hco]
 have hsh2:∀s (t:St),(up s++[loc s]).length+1<=t.up.length->(up s++[loc s]++[[]]).map (AQ t)=up s++[loc s]++[[]]:=fun s t h=>by have:=hsh s t (by simp at h;omega);simp only[List.map_append,List.map_cons,List.map_nil,KJ]at this|-;rw[this]
 obtain⟨c1,j,h1,h2,q⟩:=AIS (n+97) K (fun s=>up s++[loc s]) (fun _=>[]) I f cap hcw hco p nx xs c0 hp hl hsh2 c 7 [(6,true,.fn f [] cap),(5,true,.list false (xs.map AM)),(0,true,.list false (xs.map AM)),(1,true,.fn f [] cap)] s hc0 hi
 refine⟨c1,h1,?_⟩
 have e:n+97+K+100=n+K+197:=by omega
 rw[e]at q
 have hs:=fun s=>hsh s ⟨up s++[loc s],[]⟩ (by simp)
 simp at hs
 rw[BP Tryz.func185 b185 rfl hcl]
 simp[A26,AJ,hcw,q,h2,hs]
theorem A15(n K:Nat)(b:A5)(f:bw)(p:AF->Bool)(xs:List AF)(hl:xs.length<=40)(hf:∀n x,x∈xs->AW bq kn (AH bq ann kn (n+K)) f [.agg (AE b),.agg (AB x)]=some (.bool (p x)))(hh:BE bq f=false:=by simp) :
  AW bq kn (AH bq ann kn (n+K+300)) 164 [.list false (xs.map AB),.fn f [.agg (AE b)] []]=some (.bool (xs.all p)):=by
 rw[AO rfl,AP Tryz.func164 BD4 rfl (by simp[AE,AB,AM])]
 have hp2:vC (fun (_:Unit)=>[]++[[(3,0,A6.box [V.fn f [.agg (AE b)] []])]]++[[]]) (fun _=>True) (K+20) 184 [.ptr 0 3 0 0] (fun _ x=>!p x) (fun _ _=>()) xs 0:=by
  intro n c1 fr s x hc0 hi hx;refine⟨fun _=>trivial,c1+1,by omega,?_⟩;have q:=fun n=>hf n x hx;have q2:=q (n+17);have e:n+17+K=n+K+17:=by omega
  rw[e]at q2;simp only[AE,AB]at q2|-;rw[show n+(K+20)=n+K+20 from by omega,List.nil_append,BP Tryz.func184 b184 rfl (by simp)];simp[A28,AJ,AB,AM,q2,hh]
 obtain⟨c',h1,q⟩:=A14 (n+77) (K+20) (fun _=>[]) (fun _=>[(3,0,.box [.fn f [.agg (AE b)] []])]) (fun _=>True) 184 [.ptr 0 3 0 0] (by simp) (by simp) (fun _ x=>!p x) (fun _ _=>()) xs 0 hp2 hl (by simp[AE,AB,AM]) 1 7 [(6,true,.fn 184 [] [.ptr 0 3 0 0]),(5,true,.list false (xs.map AB)),(0,true,.list false (xs.map AB)),(1,true,.fn f [.agg (AE b)] []),(3,true,.ptr 0 3 0 0)] () (Nat.zero_le _) trivial
 have e:n+77+(K+20)+200=n+K+297:=by omega
 rw[e,GS]at q
 have:=K1 p xs
 simp only[AE]at q|-
 simp[A27,AJ,q]
 rw[<-this,Bool.not_not]
theorem A16(n K:Nat)(b:A5)(f:bw)(p:FK->Bool)(xs:List FK)(hl:xs.length<=40)(hf:∀n x,x∈xs->AW bq kn (AH bq ann kn (n+K)) f [.agg (AE b),.agg (AM x)]=some (.bool (p x)))(hh:BE bq f=false:=by simp) :
  AW bq kn (AH bq ann kn (n+K+300)) 165 [.list false (xs.map AM),.fn f [.agg (AE b)] []]=some (.bool (xs.all p)):=by
 rw[AO rfl,AP Tryz.func165 b165 rfl (by simp[AE,AB,AM])]
 have hp2:kG (fun (_:Unit)=>[]++[[(3,0,A6.box [V.fn f [.agg (AE b)] []])]]++[[]]) (fun _=>True) (K+20) 186 [.ptr 0 3 0 0] (fun _ x=>!p x) (fun _ _=>()) xs 0:=by
  intro n c1 fr s x hc0 hi hx;refine⟨fun _=>trivial,c1+1,by omega,?_⟩;have q:=fun n=>hf n x hx;have q2:=q (n+17);have e:n+17+K=n+K+17:=by omega
  rw[e]at q2;simp only[AE,AM]at q2|-;rw[show n+(K+20)=n+K+20 from by omega,List.nil_append,BP Tryz.func186 b186 rfl (by simp)];simp[ARA,AJ,AB,AM,q2,hh]
 obtain⟨c',h1,q⟩:=AMV (n+77) (K+20) (fun _=>[]) (fun _=>[(3,0,.box [.fn f [.agg (AE b)] []])]) (fun _=>True) 186 [.ptr 0 3 0 0] (by simp) (by simp) (fun _ x=>!p x) (fun _ _=>()) xs 0 hp2 hl (by simp[AE,AB,AM]) 1 7 [(6,true,.fn 186 [] [.ptr 0 3 0 0]),(5,true,.list false (xs.map AM)),(0,true,.list false (xs.map AM)),(1,true,.fn f [.agg (AE b)] []),(3,true,.ptr 0 3 0 0)] () (Nat.zero_le _) trivial
 have e:n+77+(K+20)+200=n+K+297:=by omega
 rw[e,GS]at q
 have:=K1 p xs
 simp only[AE]at q|-
 simp[AQ9,AJ,q]
 rw[<-this,Bool.not_not]
theorem A17(n:Nat)(a b:Int):AW bq kn (AH bq ann kn (n+100)) 119 [.list false [[i a],[i b]]]=some (i (if b<a then b else a)):=by rw[AO rfl,AP Tryz.func119 BD6 rfl (by simp)];simp[A3A,AJ,AD]
theorem k98(n:Nat)(a b:Int):AW bq kn (AH bq ann kn (n+200)) 166 [.list false [[i a],[i b]]]=some (i (if b<a then b else a)):=by rw[AO rfl,AP Tryz.func166 BD5 rfl (by simp)];simp[A29,AJ,A17]
theorem k94(n:Nat)(b:A5)(l:AF)(h1:1<=b.chairs)(h4:b.chairs<=4):AW bq kn (AH bq ann kn (n+200)) 162 [.agg (AE b),.agg (AB l)]=some (.bool (CJ b.chairs l)):=by rw[AO rfl,AP Tryz.func162 BD7 rfl (by simp[AE,AB,AM])];have hw2:IntKind.i64.wrap (b.chairs-1)=b.chairs-1:=AU (by omega) (by omega);unfold CJ;generalize e1:D7 l.k 0 2=b1;generalize e2:D7 l.c (-1) (b.chairs-1)=b2;generalize e3:D7 l.t (-1) (b.chairs-1)=b3;simp[A3B,AJ,AE,AB,e1,e2,e3,hw2];cases b1<;>(try simp[e2,e3,hw2])<;>cases b2<;>(try simp[e3,hw2])<;>cases b3<;>(try simp)
theorem BDQ(n:Nat)(lo hi x:Int):AW bq kn (AH bq ann kn (n+200)) 176 [.agg [i lo,i hi],i x]=some (.bool (D7 x lo hi)):=by rw[AO rfl,AP Tryz.func176 BD9 rfl (by simp)];simp[A3D,AJ]
theorem k95(n:Nat)(b:A5)(x:FK):AW bq kn (AH bq ann kn (n+200)) 163 [.agg (AE b),.agg (AM x)]=some (.bool (FL b.lines.length x)):=by
 rw[AO rfl,AP Tryz.func163 BD8 rfl (by simp[AE,AB,AM])];unfold FL;generalize e1:D7 x.a 0 b.lines.length=b1;generalize e2:decide (x.lo<0)=b2;generalize e3:decide (x.hi<x.lo)=b3;generalize e4:decide (2000<x.hi)=b4;have e2':decide (0<=x.lo)=!b2:=by rw[<-e2];exact JZ (by omega)
 have e3':decide (x.lo<=x.hi)=!b3:=by rw[<-e3];exact JZ (by omega)
 have e4':decide (x.hi<=2000)=!b4:=by rw[<-e4];exact JZ (by omega)
 simp[A3C,AJ,AE,AM,e1,e2',e3',e4'];cases b1<;>(try simp[e2',e3',e4'])<;>cases b2<;>(try simp[e3',e4'])<;>cases b3<;>(try simp[e4'])
theorem k96(n:Nat)(b:A5)(xs:List AF)(h1:1<=b.chairs)(h4:b.chairs<=4)(hl:xs.length<=40):AW bq kn (AH bq ann kn (n+600)) 164 [.list false (xs.map AB),.fn 162 [.agg (AE b)] []]=some (.bool (xs.all (CJ b.chairs))) :=
 A15 (n+100) 200 b _ _ xs hl fun n x _=>k94 n b x h1 h4
theorem k97(n:Nat)(b:A5)(xs:List FK)(hl:xs.length<=40):AW bq kn (AH bq ann kn (n+600)) 165 [.list false (xs.map AM),.fn 163 [.agg (AE b)] []]=some (.bool (xs.all (FL b.lines.length))) :=
 A16 (n+100) 200 b _ _ xs hl fun n x _=>k95 n b x
end Go.Proofs.Tryz.Op
