/- What serves the contracts of IndexFunc and its like: a predicate with a state. No condition. (printed by pred-season.py) -/
import Derived.Test.YtmnlpgjklibndaaGreatW1
import Derived.Test.YtmnlpgjklibndaaGreatSw
open Go renaming FuncId->bw
open Go.Proofs.Tryz renaming prog->bq
set_option maxRecDepth 100000
set_option linter.unusedSimpArgs false
open Go Go.Pg Go.Proofs
namespace Go.Season
theorem GP{k:Nat}(h:k<=1000000):IntKind.i64.wrap ((k:Int)+1)=((k+1:Nat):Int):=by rw[AW (by omega) (by omega)];rfl
def CP{σ α:Type}(p:σ->α->Bool)(nx:σ->α->σ):σ->List α->Bool×σ
 |s,[]=>(false,s)
 |s,x::xs=>bif p s x then(true,nx s x) else CP p nx (nx s x) xs
theorem FP{α:Type}(p:α->Bool):∀(xs:List α),CP (fun (_:Unit) x=>p x) (fun _ _=>()) () xs=(xs.any p,())
 |[]=>rfl
 |x::xs=>by simp only[CP,List.any_cons,FP p xs];cases p x<;>rfl
end Go.Season
open Go.Season
namespace Go.Proofs.Tryz.Op
def mT{σ:Type}(U:σ->List AB)(I:σ->Prop)(K:Nat)(f:bw)(cap:List V)(p:σ->AK->Bool)(nx:σ->AK->σ)(xs:List (AK))(c0:Nat):Prop:=∀n c fr s x,c0<=c->I s->x∈xs->(p s x=false->I (nx s x))/\∃c',c<=c'/\NS (BU bq ann kn (n+K)) (some 16) ⟨c,fr,⟨U s,[]⟩⟩ f (.agg (AD x)::cap)=some ⟨c',(16,true,.bool (p s x))::fr,⟨U (nx s x),[]⟩⟩
theorem mU{σ:Type}(n K:Nat)(U:σ->List AB)(I:σ->Prop)(f:bw)(cap:List V)(hcw:cap.map weakV=cap)(p:σ->AK->Bool)(nx:σ->AK->σ)(xs:List (AK))(c0:Nat)(hp:mT U I K f cap p nx xs c0)(hl:xs.length<=1000):∀(d k:Nat) (s:σ) (c m:Nat),k+d=xs.length->d<m->c0<=c->I s ->
  ∃(c':Nat) (j:Int),c<=c'/\0<=j/\BQ (AF bq ann kn (n+K+50) 19) PG (ann 19 (CO PG)) m ⟨c,[(0,true,.list false (xs.map AD)),(1,true,.fn f [] cap),(7,true,i xs.length),(8,true,i k)],⟨U s,[]⟩⟩ =
   bif (CP p nx s (xs.drop k)).1 then some (.ret,⟨c',[(4,true,i j),(17,true,i j),(5,true,i j)],⟨U (CP p nx s (xs.drop k)).2,[]⟩⟩)
   else some (.exit 0,⟨c',[(9,true,.bool false),(0,true,.list false (xs.map AD)),(1,true,.fn f [] cap),(7,true,i xs.length),(8,true,i xs.length)],⟨U (CP p nx s (xs.drop k)).2,[]⟩⟩)
 |0,k,s,c,m+1,hd,hm,hc0,hi=>by
  have:k=xs.length:=by omega
  subst this;refine⟨c,0,Nat.le_refl _,by omega,?_⟩;simp[AE,CP]
 |d+1,k,s,c,m+1,hd,hm,hc0,hi=>by
  have hk:k<xs.length:=by omega
  have hw:=GP (k:=k) (by omega);have nrm:∀a:Nat,n+K+a=(n+a)+K:=fun a=>by omega
  rw[AE,List.drop_eq_getElem_cons hk];simp only[CP];obtain⟨hi',c1,hc1,q⟩:=hp (n+43) c [(15,true,.agg (AD xs[k])),(14,true,.ref (AD xs[k])),(13,true,i k),(12,true,.list false (xs.map AD)),(11,true,.fn f [] cap),(0,true,.list false (xs.map AD)),(1,true,.fn f [] cap),(5,true,i k),(7,true,i xs.length),(8,true,i k)] s xs[k] hc0 hi (List.getElem_mem hk);generalize e:p s xs[k]=b at q hi';cases b with
  |true=>
   refine⟨c1,k,hc1,by omega,?_⟩
   try simp only[AD]at q
   rw[<-nrm]at q
   try simp at q
   simp[hk,hw,AD,q,hcw]
  |false=>
   obtain⟨c',j,h1,h2,ih⟩:=mU n K U I f cap hcw p nx xs c0 hp hl d (k+1) (nx s xs[k]) c1 m (by omega) (by omega) (by omega) (hi' rfl)
   refine⟨c',j,by omega,h2,?_⟩
   try simp only[AD]at q ih
   rw[<-nrm]at q
   try simp at q
   simp at ih
   simp[hk,hw,AD,q,ih,hcw]
theorem ABI{σ:Type}(n K:Nat)(up:σ->List AB)(loc:σ->AB)(I:σ->Prop)(f:bw)(cap:List V)(hcw:cap.map weakV=cap)(hco:cap.all (AL 8)=false)(p:σ->AK->Bool)(nx:σ->AK->σ)(xs:List (AK))(c0:Nat)(hp:mT (fun s=>up s++[loc s]) I K f cap p nx xs c0)(hl:xs.length<=40)(hsh:∀s (t:St),(up s).length+1<=t.up.length->(up s++[loc s]).map (A6 t)=up s++[loc s])(c dd:Nat)(fr:Fr)(s:σ)(hc0:c0<=c)(hi:I s) :
  ∃(c':Nat) (j:Int),c<=c'/\decide (0<=j)=(CP p nx s xs).1/\NS (BU bq ann kn (n+K+100)) (some dd) ⟨c,fr,⟨up s,loc s⟩⟩ 172 [.list false (xs.map AD),.fn f [] cap]=some ⟨c',(dd,true,i j)::fr,⟨up (CP p nx s xs).2,loc (CP p nx s xs).2⟩⟩:=by
 obtain⟨c1,j,h1,h2,q⟩:=mU (n+45) K (fun s=>up s++[loc s]) I f cap hcw p nx xs c0 hp (by omega) xs.length 0 s c (n+K+95) (by omega) (by omega) hc0 hi
 have e:n+45+K+50=n+K+95:=by omega
 rw[e]at q
 have hcl:([V.list false (xs.map AD),V.fn f [] cap]).all (AL 9)=false:=by simp[hco]
 have hs:=fun s=>hsh s ⟨up s++[loc s],[]⟩ (by simp)
 simp at hs
 rw[CC Tryz.func172 b172 rfl hcl]
 simp only[List.drop_zero]at q
 generalize (CP p nx s xs).2=s' at q|-
 generalize e:(CP p nx s xs).1=b at q
 cases b with
 |true=>
  refine⟨c1,j,h1,by simpa using h2,?_⟩
  simp at q
  simp[AIP,AJ,q,hs]
 |false=>
  refine⟨c1,-1,h1,by simp,?_⟩
  simp at q
  simp[AIP,AJ,q,hs]
theorem ASL{σ:Type}(n K:Nat)(up:σ->List AB)(loc:σ->AB)(I:σ->Prop)(f:bw)(cap:List V)(hcw:cap.map weakV=cap)(hco:cap.all (AL 8)=false)(p:σ->AK->Bool)(nx:σ->AK->σ)(xs:List (AK))(c0:Nat)(hp:mT (fun s=>up s++[loc s]++[[]]) I K f cap p nx xs c0)(hl:xs.length<=40)(hsh:∀s (t:St),(up s).length+1<=t.up.length->(up s++[loc s]).map (A6 t)=up s++[loc s])(c dd:Nat)(fr:Fr)(s:σ)(hc0:c0<=c)(hi:I s) :
  ∃c':Nat,c<=c'/\NS (BU bq ann kn (n+K+200)) (some dd) ⟨c,fr,⟨up s,loc s⟩⟩ 183 [.list false (xs.map AD),.fn f [] cap]=some ⟨c',(dd,true,.bool (CP p nx s xs).1)::fr,⟨up (CP p nx s xs).2,loc (CP p nx s xs).2⟩⟩:=by
 have hcl:([V.list false (xs.map AD),V.fn f [] cap]).all (AL 9)=false:=by simp[hco]
 have hsh2:∀s (t:St),(up s++[loc s]).length+1<=t.up.length->(up s++[loc s]++[[]]).map (A6 t)=up s++[loc s]++[[]]:=fun s t h=>by have:=hsh s t (by simp at h;omega);simp only[List.map_append,List.map_cons,List.map_nil,IZ]at this|-;rw[this]
 obtain⟨c1,j,h1,h2,q⟩:=ABI (n+97) K (fun s=>up s++[loc s]) (fun _=>[]) I f cap hcw hco p nx xs c0 hp hl hsh2 c 7 [(6,true,.fn f [] cap),(5,true,.list false (xs.map AD)),(0,true,.list false (xs.map AD)),(1,true,.fn f [] cap)] s hc0 hi
 refine⟨c1,h1,?_⟩
 have e:n+97+K+100=n+K+197:=by omega
 rw[e]at q
 have hs:=fun s=>hsh s ⟨up s++[loc s],[]⟩ (by simp)
 simp at hs
 rw[CC Tryz.func183 b183 rfl hcl]
 simp[ATJ,AJ,hcw,q,h2,hs]
def cW{σ:Type}(U:σ->List AB)(I:σ->Prop)(K:Nat)(f:bw)(cap:List V)(p:σ->EX->Bool)(nx:σ->EX->σ)(xs:List (EX))(c0:Nat):Prop:=∀n c fr s x,c0<=c->I s->x∈xs->(p s x=false->I (nx s x))/\∃c',c<=c'/\NS (BU bq ann kn (n+K)) (some 16) ⟨c,fr,⟨U s,[]⟩⟩ f (.agg (AN x)::cap)=some ⟨c',(16,true,.bool (p s x))::fr,⟨U (nx s x),[]⟩⟩
theorem mV{σ:Type}(n K:Nat)(U:σ->List AB)(I:σ->Prop)(f:bw)(cap:List V)(hcw:cap.map weakV=cap)(p:σ->EX->Bool)(nx:σ->EX->σ)(xs:List (EX))(c0:Nat)(hp:cW U I K f cap p nx xs c0)(hl:xs.length<=1000):∀(d k:Nat) (s:σ) (c m:Nat),k+d=xs.length->d<m->c0<=c->I s ->
  ∃(c':Nat) (j:Int),c<=c'/\0<=j/\BQ (AF bq ann kn (n+K+50) 19) PH (ann 19 (CO PH)) m ⟨c,[(0,true,.list false (xs.map AN)),(1,true,.fn f [] cap),(7,true,i xs.length),(8,true,i k)],⟨U s,[]⟩⟩ =
   bif (CP p nx s (xs.drop k)).1 then some (.ret,⟨c',[(4,true,i j),(17,true,i j),(5,true,i j)],⟨U (CP p nx s (xs.drop k)).2,[]⟩⟩)
   else some (.exit 0,⟨c',[(9,true,.bool false),(0,true,.list false (xs.map AN)),(1,true,.fn f [] cap),(7,true,i xs.length),(8,true,i xs.length)],⟨U (CP p nx s (xs.drop k)).2,[]⟩⟩)
 |0,k,s,c,m+1,hd,hm,hc0,hi=>by
  have:k=xs.length:=by omega
  subst this;refine⟨c,0,Nat.le_refl _,by omega,?_⟩;simp[AE,CP]
 |d+1,k,s,c,m+1,hd,hm,hc0,hi=>by
  have hk:k<xs.length:=by omega
  have hw:=GP (k:=k) (by omega);have nrm:∀a:Nat,n+K+a=(n+a)+K:=fun a=>by omega
  rw[AE,List.drop_eq_getElem_cons hk];simp only[CP];obtain⟨hi',c1,hc1,q⟩:=hp (n+43) c [(15,true,.agg (AN xs[k])),(14,true,.ref (AN xs[k])),(13,true,i k),(12,true,.list false (xs.map AN)),(11,true,.fn f [] cap),(0,true,.list false (xs.map AN)),(1,true,.fn f [] cap),(5,true,i k),(7,true,i xs.length),(8,true,i k)] s xs[k] hc0 hi (List.getElem_mem hk);generalize e:p s xs[k]=b at q hi';cases b with
  |true=>
   refine⟨c1,k,hc1,by omega,?_⟩
   try simp only[AN]at q
   rw[<-nrm]at q
   try simp at q
   simp[hk,hw,AN,q,hcw]
  |false=>
   obtain⟨c',j,h1,h2,ih⟩:=mV n K U I f cap hcw p nx xs c0 hp hl d (k+1) (nx s xs[k]) c1 m (by omega) (by omega) (by omega) (hi' rfl)
   refine⟨c',j,by omega,h2,?_⟩
   try simp only[AN]at q ih
   rw[<-nrm]at q
   try simp at q
   simp at ih
   simp[hk,hw,AN,q,ih,hcw]
theorem ABJ{σ:Type}(n K:Nat)(up:σ->List AB)(loc:σ->AB)(I:σ->Prop)(f:bw)(cap:List V)(hcw:cap.map weakV=cap)(hco:cap.all (AL 8)=false)(p:σ->EX->Bool)(nx:σ->EX->σ)(xs:List (EX))(c0:Nat)(hp:cW (fun s=>up s++[loc s]) I K f cap p nx xs c0)(hl:xs.length<=40)(hsh:∀s (t:St),(up s).length+1<=t.up.length->(up s++[loc s]).map (A6 t)=up s++[loc s])(c dd:Nat)(fr:Fr)(s:σ)(hc0:c0<=c)(hi:I s) :
  ∃(c':Nat) (j:Int),c<=c'/\decide (0<=j)=(CP p nx s xs).1/\NS (BU bq ann kn (n+K+100)) (some dd) ⟨c,fr,⟨up s,loc s⟩⟩ 190 [.list false (xs.map AN),.fn f [] cap]=some ⟨c',(dd,true,i j)::fr,⟨up (CP p nx s xs).2,loc (CP p nx s xs).2⟩⟩:=by
 obtain⟨c1,j,h1,h2,q⟩:=mV (n+45) K (fun s=>up s++[loc s]) I f cap hcw p nx xs c0 hp (by omega) xs.length 0 s c (n+K+95) (by omega) (by omega) hc0 hi
 have e:n+45+K+50=n+K+95:=by omega
 rw[e]at q
 have hcl:([V.list false (xs.map AN),V.fn f [] cap]).all (AL 9)=false:=by simp[hco]
 have hs:=fun s=>hsh s ⟨up s++[loc s],[]⟩ (by simp)
 simp at hs
 rw[CC Tryz.func190 b190 rfl hcl]
 simp only[List.drop_zero]at q
 generalize (CP p nx s xs).2=s' at q|-
 generalize e:(CP p nx s xs).1=b at q
 cases b with
 |true=>
  refine⟨c1,j,h1,by simpa using h2,?_⟩
  simp at q
  simp[AIQ,AJ,q,hs]
 |false=>
  refine⟨c1,-1,h1,by simp,?_⟩
  simp at q
  simp[AIQ,AJ,q,hs]
theorem AFA{σ:Type}(n K:Nat)(up:σ->List AB)(loc:σ->AB)(I:σ->Prop)(f:bw)(cap:List V)(hcw:cap.map weakV=cap)(hco:cap.all (AL 8)=false)(p:σ->EX->Bool)(nx:σ->EX->σ)(xs:List (EX))(c0:Nat)(hp:cW (fun s=>up s++[loc s]++[[]]) I K f cap p nx xs c0)(hl:xs.length<=40)(hsh:∀s (t:St),(up s).length+1<=t.up.length->(up s++[loc s]).map (A6 t)=up s++[loc s])(c dd:Nat)(fr:Fr)(s:σ)(hc0:c0<=c)(hi:I s) :
  ∃c':Nat,c<=c'/\NS (BU bq ann kn (n+K+200)) (some dd) ⟨c,fr,⟨up s,loc s⟩⟩ 185 [.list false (xs.map AN),.fn f [] cap]=some ⟨c',(dd,true,.bool (CP p nx s xs).1)::fr,⟨up (CP p nx s xs).2,loc (CP p nx s xs).2⟩⟩:=by
 have hcl:([V.list false (xs.map AN),V.fn f [] cap]).all (AL 9)=false:=by simp[hco]
 have hsh2:∀s (t:St),(up s++[loc s]).length+1<=t.up.length->(up s++[loc s]++[[]]).map (A6 t)=up s++[loc s]++[[]]:=fun s t h=>by have:=hsh s t (by simp at h;omega);simp only[List.map_append,List.map_cons,List.map_nil,IZ]at this|-;rw[this]
 obtain⟨c1,j,h1,h2,q⟩:=ABJ (n+97) K (fun s=>up s++[loc s]) (fun _=>[]) I f cap hcw hco p nx xs c0 hp hl hsh2 c 7 [(6,true,.fn f [] cap),(5,true,.list false (xs.map AN)),(0,true,.list false (xs.map AN)),(1,true,.fn f [] cap)] s hc0 hi
 refine⟨c1,h1,?_⟩
 have e:n+97+K+100=n+K+197:=by omega
 rw[e]at q
 have hs:=fun s=>hsh s ⟨up s++[loc s],[]⟩ (by simp)
 simp at hs
 rw[CC Tryz.func185 b185 rfl hcl]
 simp[ATK,AJ,hcw,q,h2,hs]
theorem ASM(n K:Nat)(b:A5)(f:bw)(p:AK->Bool)(xs:List AK)(hl:xs.length<=40)(hf:∀n x,x∈xs->A4 bq kn (AF bq ann kn (n+K)) f [.agg (AC b),.agg (AD x)]=some (.bool (p x)))(hh:BF bq f=false:=by simp) :
  A4 bq kn (AF bq ann kn (n+K+300)) 164 [.list false (xs.map AD),.fn f [.agg (AC b)] []]=some (.bool (xs.all p)):=by
 rw[AP rfl,AQ Tryz.func164 A3P rfl (by simp[AC,AD,AN])]
 have hp2:mT (fun (_:Unit)=>[]++[[(3,0,AY.box [V.fn f [.agg (AC b)] []])]]++[[]]) (fun _=>True) (K+20) 184 [.ptr 0 3 0 0] (fun _ x=>!p x) (fun _ _=>()) xs 0:=by
  intro n c1 fr s x hc0 hi hx;refine⟨fun _=>trivial,c1+1,by omega,?_⟩;have q:=fun n=>hf n x hx;have q2:=q (n+17);have e:n+17+K=n+K+17:=by omega
  rw[e]at q2;simp only[AC,AD]at q2|-;rw[show n+(K+20)=n+K+20 from by omega,List.nil_append,CC Tryz.func184 b184 rfl (by simp)];simp[ATM,AJ,AD,AN,q2,hh]
 obtain⟨c',h1,q⟩:=ASL (n+77) (K+20) (fun _=>[]) (fun _=>[(3,0,.box [.fn f [.agg (AC b)] []])]) (fun _=>True) 184 [.ptr 0 3 0 0] (by simp) (by simp) (fun _ x=>!p x) (fun _ _=>()) xs 0 hp2 hl (by simp[AC,AD,AN]) 1 7 [(6,true,.fn 184 [] [.ptr 0 3 0 0]),(5,true,.list false (xs.map AD)),(0,true,.list false (xs.map AD)),(1,true,.fn f [.agg (AC b)] []),(3,true,.ptr 0 3 0 0)] () (Nat.zero_le _) trivial
 have e:n+77+(K+20)+200=n+K+297:=by omega
 rw[e,FP]at q
 have:=JN p xs
 simp only[AC]at q|-
 simp[ATL,AJ,q]
 rw[<-this,Bool.not_not]
theorem ASN(n K:Nat)(b:A5)(f:bw)(p:EX->Bool)(xs:List EX)(hl:xs.length<=40)(hf:∀n x,x∈xs->A4 bq kn (AF bq ann kn (n+K)) f [.agg (AC b),.agg (AN x)]=some (.bool (p x)))(hh:BF bq f=false:=by simp) :
  A4 bq kn (AF bq ann kn (n+K+300)) 165 [.list false (xs.map AN),.fn f [.agg (AC b)] []]=some (.bool (xs.all p)):=by
 rw[AP rfl,AQ Tryz.func165 b165 rfl (by simp[AC,AD,AN])]
 have hp2:cW (fun (_:Unit)=>[]++[[(3,0,AY.box [V.fn f [.agg (AC b)] []])]]++[[]]) (fun _=>True) (K+20) 186 [.ptr 0 3 0 0] (fun _ x=>!p x) (fun _ _=>()) xs 0:=by
  intro n c1 fr s x hc0 hi hx;refine⟨fun _=>trivial,c1+1,by omega,?_⟩;have q:=fun n=>hf n x hx;have q2:=q (n+17);have e:n+17+K=n+K+17:=by omega
  rw[e]at q2;simp only[AC,AN]at q2|-;rw[show n+(K+20)=n+K+20 from by omega,List.nil_append,CC Tryz.func186 b186 rfl (by simp)];simp[AIS,AJ,AD,AN,q2,hh]
 obtain⟨c',h1,q⟩:=AFA (n+77) (K+20) (fun _=>[]) (fun _=>[(3,0,.box [.fn f [.agg (AC b)] []])]) (fun _=>True) 186 [.ptr 0 3 0 0] (by simp) (by simp) (fun _ x=>!p x) (fun _ _=>()) xs 0 hp2 hl (by simp[AC,AD,AN]) 1 7 [(6,true,.fn 186 [] [.ptr 0 3 0 0]),(5,true,.list false (xs.map AN)),(0,true,.list false (xs.map AN)),(1,true,.fn f [.agg (AC b)] []),(3,true,.ptr 0 3 0 0)] () (Nat.zero_le _) trivial
 have e:n+77+(K+20)+200=n+K+297:=by omega
 rw[e,FP]at q
 have:=JN p xs
 simp only[AC]at q|-
 simp[AIR,AJ,q]
 rw[<-this,Bool.not_not]
theorem A3C(n:Nat)(a b:Int):A4 bq kn (AF bq ann kn (n+100)) 119 [.list false [[i a],[i b]]]=some (i (if b<a then b else a)):=by rw[AP rfl,AQ Tryz.func119 A3R rfl (by simp)];simp[ATO,AJ,AE]
theorem k98(n:Nat)(a b:Int):A4 bq kn (AF bq ann kn (n+200)) 166 [.list false [[i a],[i b]]]=some (i (if b<a then b else a)):=by rw[AP rfl,AQ Tryz.func166 A3Q rfl (by simp)];simp[ATN,AJ,A3C]
theorem k94(n:Nat)(b:A5)(l:AK)(h1:1<=b.chairs)(h4:b.chairs<=4):A4 bq kn (AF bq ann kn (n+200)) 162 [.agg (AC b),.agg (AD l)]=some (.bool (BZ b.chairs l)):=by rw[AP rfl,AQ Tryz.func162 A3S rfl (by simp[AC,AD,AN])];have hw2:IntKind.i64.wrap (b.chairs-1)=b.chairs-1:=AW (by omega) (by omega);unfold BZ;generalize e1:EW l.k 0 2=b1;generalize e2:EW l.c (-1) (b.chairs-1)=b2;generalize e3:EW l.t (-1) (b.chairs-1)=b3;simp[ATP,AJ,AC,AD,e1,e2,e3,hw2];cases b1<;>(try simp[e2,e3,hw2])<;>cases b2<;>(try simp[e3,hw2])<;>cases b3<;>(try simp)
theorem A3E(n:Nat)(lo hi x:Int):A4 bq kn (AF bq ann kn (n+200)) 176 [.agg [i lo,i hi],i x]=some (.bool (EW x lo hi)):=by rw[AP rfl,AQ Tryz.func176 A3U rfl (by simp)];simp[ATR,AJ]
theorem k95(n:Nat)(b:A5)(x:EX):A4 bq kn (AF bq ann kn (n+200)) 163 [.agg (AC b),.agg (AN x)]=some (.bool (EP b.lines.length x)):=by
 rw[AP rfl,AQ Tryz.func163 A3T rfl (by simp[AC,AD,AN])];unfold EP;generalize e1:EW x.a 0 b.lines.length=b1;generalize e2:decide (x.lo<0)=b2;generalize e3:decide (x.hi<x.lo)=b3;generalize e4:decide (2000<x.hi)=b4;have e2':decide (0<=x.lo)=!b2:=by rw[<-e2];exact H7 (by omega)
 have e3':decide (x.lo<=x.hi)=!b3:=by rw[<-e3];exact H7 (by omega)
 have e4':decide (x.hi<=2000)=!b4:=by rw[<-e4];exact H7 (by omega)
 simp[ATQ,AJ,AC,AN,e1,e2',e3',e4'];cases b1<;>(try simp[e2',e3',e4'])<;>cases b2<;>(try simp[e3',e4'])<;>cases b3<;>(try simp[e4'])
theorem k96(n:Nat)(b:A5)(xs:List AK)(h1:1<=b.chairs)(h4:b.chairs<=4)(hl:xs.length<=40):A4 bq kn (AF bq ann kn (n+600)) 164 [.list false (xs.map AD),.fn 162 [.agg (AC b)] []]=some (.bool (xs.all (BZ b.chairs))) :=
 ASM (n+100) 200 b _ _ xs hl fun n x _=>k94 n b x h1 h4
theorem k97(n:Nat)(b:A5)(xs:List EX)(hl:xs.length<=40):A4 bq kn (AF bq ann kn (n+600)) 165 [.list false (xs.map AN),.fn 163 [.agg (AC b)] []]=some (.bool (xs.all (EP b.lines.length))) :=
 ASN (n+100) 200 b _ _ xs hl fun n x _=>k95 n b x
end Go.Proofs.Tryz.Op
