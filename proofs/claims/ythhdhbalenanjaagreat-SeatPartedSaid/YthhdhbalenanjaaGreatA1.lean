/- A case of families on a beach: what is valid, and what a seating is, by the program and by the reference. No program in sight. -/
import Derived.Test.YthhdhbalenanjaaGreatX1
import Derived.Test.YthhdhbalenanjaaGreatRc
open Go renaming FuncId->bw
open Go.Proofs.Tryz renaming prog->bq
open List renaming drop_eq_getElem_cons->bj,range->bk
set_option maxRecDepth 100000
set_option linter.unusedSimpArgs false
namespace Go.Wind
structure TU where
 size:Int
 good:Int
 dog:Bool
 shy:Bool
deriving DecidableEq
structure AV where
 beach:AN
 plan:List (List Int)
 chairs:List (List Bool)
 fams:List TU
def I6(f:TU):Bool:=HQ f.size 1 4&&HQ f.good 0 5
def EI(c:AV):Bool:=decide ((c.chairs.length:Int)=c.beach.rows)&&c.chairs.all (fun l=>decide ((l.length:Int)=c.beach.places))
def D6(c:AV):Int :=
 if 3<c.fams.length then 3
 else if DJ c.beach≠0 then DJ c.beach
 else if DR c.beach c.plan=false then 2
 else if CA c.beach=[] then 11
 else if EI c=false then 1
 else if c.fams.all I6=false then 1 else 0
structure C5(c:AV):Prop where
 be:Valid c.beach
 pl:DR c.beach c.plan=true
 tr:CA c.beach≠[]
 fl:c.fams.length<=3
 ch:(c.chairs.length:Int)=c.beach.rows
 cr:∀l∈c.chairs,(l.length:Int)=c.beach.places
 fo:∀f∈c.fams,(1<=f.size/\f.size<=4)/\0<=f.good/\f.good<=5
theorem KY{c:AV}(h:D6 c=0):C5 c:=by
 unfold D6 at h;split at h
 ·cases h
 rename_i h1;split at h
 ·rename_i h2;exact absurd h h2
 rename_i h2;split at h
 ·cases h
 rename_i h3;split at h
 ·cases h
 rename_i h4;split at h
 ·cases h
 rename_i h5;split at h
 ·cases h
 rename_i h6;have hb:DJ c.beach=0:=Classical.byContradiction fun hh=>h2 hh;have h5:EI c=true:=by simpa using h5
 have h6:c.fams.all I6=true:=by simpa using h6
 simp only[EI,Bool.and_eq_true,decide_eq_true_eq,List.all_eq_true]at h5;refine⟨SG hb,by simpa using h3,h4,by omega,h5.1,h5.2,fun f hf=>?_⟩;have:=List.all_eq_true.1 h6 f hf;simp only[I6,Bool.and_eq_true,EH]at this;exact this
structure Sp where
 fam:Nat
 size:Int
 row:Int
 place:Int
deriving DecidableEq
def BR(c:AV)(k:Nat):TU:=c.fams.getD k ⟨0,0,false,false⟩
def PY(c:AV)(a b:Nat):Bool:=decide (a≠b)&&((BR c a).shy&&(BR c b).dog||(BR c a).dog&&(BR c b).shy)
def JK(c:AV)(x:Sp):Bool:=HQ x.row 0 (c.beach.rows-1)&&HQ x.place 0 (c.beach.places-x.size)
def nC(x y:Sp):Int:=max (x.place-y.place-y.size) (y.place-x.place-x.size)
def FP(c:AV)(x y:Sp):Bool:=decide (x.row≠y.row)||(decide (0<nC x y)||(decide (nC x y=0)&&!PY c x.fam y.fam))
def F8(c:AV):Nat:=(c.chairs.map fun l=>l.count true).sum
def IX(l:List Sp):Int:=(l.map Sp.size).sum
def NH(c:AV):List Sp->List Sp->Bool
 |_,[]=>true
 |before,x::r=>JK c x&&before.all (FP c x)&&NH c (before++[x]) r
def rA(k:Nat):List TU->List (Int×Int)->List Sp
 |f::fs,s::ss=>⟨k,f.size,s.1,s.2⟩::rA (k+1) fs ss
 |_,_=>[]
def zC(c:AV)(M9:List (Int×Int)):List Sp:=rA 0 c.fams M9
structure CD where
 sun:Int
 carried:Int
 enough:Bool
deriving DecidableEq
def FQ(sure:List (List Int))(r p:Int):Int:=(sure.getD r.toNat []).getD p.toNat 0
def QY(c:AV)(r p:Int):Bool:=(c.chairs.getD r.toNat []).getD p.toNat false
def BT(c:AV)(sure:List (List Int))(x:Sp):CD :=
  ⟨ID (fun p=>FQ sure x.row (x.place+(p:Int))) x.size.toNat,
   ID (fun p=>if QY c x.row (x.place+(p:Int))=true then 0 else 1) x.size.toNat,
   (bk x.size.toNat).all fun p=>decide ((BR c x.fam).good<=FQ sure x.row (x.place+(p:Int)))⟩
def EZ(c:AV)(sure:List (List Int)):List (Nat×Int)->List Sp->List (List Sp)
 |[],out=>[out]
 |g::gs,out=>(bk c.beach.rows.toNat).flatMap fun (r:Nat)=>(bk (c.beach.places-g.2+1).toNat).flatMap fun (p:Nat)=>
  if ((BT c sure ⟨g.1,g.2,(r:Int),(p:Int)⟩).enough&&out.all (FP c ⟨g.1,g.2,(r:Int),(p:Int)⟩))=true then EZ c sure gs (out++[⟨g.1,g.2,(r:Int),(p:Int)⟩]) else[]
def FS(c:AV)(sure:List (List Int))(l:List Sp):CD:=l.foldl (fun t x=>let s:=BT c sure x;⟨t.sun+s.sun,t.carried+s.carried,t.enough&&s.enough⟩) ⟨0,0,true⟩
def FT(c:AV)(sure:List (List Int))(acc:Option (List Sp×CD))(l:List Sp):Option (List Sp×CD) :=
 let s:=FS c sure l
 match acc with
 |some (b,t)=>if s.sun<t.sun\/(s.sun=t.sun/\t.carried<=s.carried) then some (b,t) else some (l,s)
 |none=>some (l,s)
def zD(c:AV)(sure:List (List Int))(ls:List (List Sp)):Option (List Sp×CD):=ls.foldl (FT c sure) none
theorem gV{c:AV}{sure:List (List Int)}:∀(ls:List (List Sp)) (acc:Option (List Sp×CD)),(match ls.foldl (FT c sure) acc with
  |some (b,t)=>(b∈ls/\t=FS c sure b)\/acc=some (b,t)
  | none=>ls=[]/\acc=none)
 |[],acc=>by
  cases acc with
  |none=>exact⟨rfl,rfl⟩
  |some bt=>exact .inr rfl
 |l::ls,acc=>by
  have ih:=gV (c:=c) (sure:=sure) ls (FT c sure acc l);simp only[List.foldl_cons];generalize ls.foldl (FT c sure) (FT c sure acc l)=R at ih|-;have hstep:FT c sure acc l=acc/\acc≠none\/FT c sure acc l=some (l,FS c sure l):=by
   cases acc with
   |none=>exact .inr rfl
   |some bt=>
    obtain⟨b,t⟩:=bt
    simp only[FT]
    split
    ·exact .inl ⟨rfl,by simp⟩
    ·exact .inr rfl
  cases R with
  |none=>
   obtain⟨_,h2⟩:=ih
   rcases hstep with⟨e,h⟩|e
   ·rw[e]at h2;exact absurd h2 h
   ·rw[e]at h2;cases h2
  |some bt=>
   obtain⟨b,t⟩:=bt
   simp only at ih|-
   rcases ih with⟨h1,h2⟩|h
   ·exact .inl ⟨by simp[h1],h2⟩
   ·rcases hstep with⟨e,_⟩|e
    ·rw[e]at h;exact .inr h
    ·rw[e]at h;cases h;exact .inl ⟨by simp,rfl⟩
end Go.Wind
open Go Go.Pg Go.Proofs Go.Wind
namespace Go.Proofs.Tryz.Op
def BH(x:Bool):List V:=[.bool x]
abbrev lb(l:List Bool):V:=.list false (l.map BH)
def AU(l:List Bool):List V:=[lb l]
def AR(f:TU):List V:=[i f.size,i f.good,.bool f.dog,.bool f.shy]
def A4(x:Sp):List V:=[i (x.fam:Int),i x.size,i x.row,i x.place]
def AG(c:AV):List V:=[i c.beach.last,i c.beach.rows,i c.beach.places,i c.beach.reach,li c.beach.face,li c.beach.sun,JA c.beach.winds,.list false (c.beach.breaks.map AL),.list false (c.beach.notes.map AL),JA c.plan,.list false (c.chairs.map AU),.list false (c.fams.map AR)]
def okF(f:TU):Prop:=MZ f.size/\MZ f.good
structure okC(c:AV):Prop where
 b:okB c.beach
 p:∀l∈c.plan,∀n∈l,MZ n
 f:∀f∈c.fams,okF f
end Go.Proofs.Tryz.Op
namespace Go.Wind
end Go.Wind
namespace Go.Proofs.Tryz.Op
def rC{σ:Type}(U:σ->List AA)(I:σ->Prop)(K:Nat)(f:bw)(cap:List V)(p:σ->List Bool->Bool)(nx:σ->List Bool->σ)(xs:List (List Bool))(c0:Nat):Prop:=∀n c fr s x,c0<=c->I s->x∈xs->(p s x=false->I (nx s x))/\∃c',c<=c'/\HK (BI bq ann kn (n+K)) (some 16) ⟨c,fr,⟨U s,[]⟩⟩ f (lb x::cap)=some ⟨c',(16,true,.bool (p s x))::fr,⟨U (nx s x),[]⟩⟩
theorem rD{σ:Type}(n K:Nat)(U:σ->List AA)(I:σ->Prop)(f:bw)(cap:List V)(hcw:cap.map weakV=cap)(p:σ->List Bool->Bool)(nx:σ->List Bool->σ)(xs:List (List Bool))(c0:Nat)(hp:rC U I K f cap p nx xs c0)(hl:xs.length<=1000):∀(d k:Nat) (s:σ) (c m:Nat),k+d=xs.length->d<m->c0<=c->I s ->
  ∃(c':Nat) (j:Int),c<=c'/\0<=j/\BM (AF bq ann kn (n+K+50) 19) RQ (ann 19 (B0 RQ)) m ⟨c,[(0,true,.list false (xs.map AU)),(1,true,.fn f [] cap),(7,true,i xs.length),(8,true,i k)],⟨U s,[]⟩⟩ =
   bif (BQ p nx s (xs.drop k)).1 then some (.ret,⟨c',[(4,true,i j),(17,true,i j),(5,true,i j)],⟨U (BQ p nx s (xs.drop k)).2,[]⟩⟩)
   else some (.exit 0,⟨c',[(9,true,.bool false),(0,true,.list false (xs.map AU)),(1,true,.fn f [] cap),(7,true,i xs.length),(8,true,i xs.length)],⟨U (BQ p nx s (xs.drop k)).2,[]⟩⟩)
 |0,k,s,c,m+1,hd,hm,hc0,hi=>by
  have:k=xs.length:=by omega
  subst this;refine⟨c,0,Nat.le_refl _,by omega,?_⟩;simp[AB,BQ]
 |d+1,k,s,c,m+1,hd,hm,hc0,hi=>by
  have hk:k<xs.length:=by omega
  have hw:=B5 (k:=k) (by omega);have nrm:∀a:Nat,n+K+a=(n+a)+K:=fun a=>by omega
  rw[AB,bj hk];simp only[BQ];obtain⟨hi',c1,hc1,q⟩:=hp (n+43) c [(15,true,lb xs[k]),(14,true,.ref (AU xs[k])),(13,true,i k),(12,true,.list false (xs.map AU)),(11,true,.fn f [] cap),(0,true,.list false (xs.map AU)),(1,true,.fn f [] cap),(5,true,i k),(7,true,i xs.length),(8,true,i k)] s xs[k] hc0 hi (List.getElem_mem hk);generalize e:p s xs[k]=b at q hi';cases b with
  |true=>
   refine⟨c1,k,hc1,by omega,?_⟩
   try simp only[AU]at q
   rw[<-nrm]at q
   try simp at q
   simp[hk,hw,AU,q,hcw]
  |false=>
   obtain⟨c',j,h1,h2,ih⟩:=rD n K U I f cap hcw p nx xs c0 hp hl d (k+1) (nx s xs[k]) c1 m (by omega) (by omega) (by omega) (hi' rfl)
   refine⟨c',j,by omega,h2,?_⟩
   try simp only[AU]at q ih
   rw[<-nrm]at q
   try simp at q
   simp at ih
   simp[hk,hw,AU,q,ih,hcw]
theorem AFS{σ:Type}(n K:Nat)(up:σ->List AA)(loc:σ->AA)(I:σ->Prop)(f:bw)(cap:List V)(hcw:cap.map weakV=cap)(hco:cap.all (AE 8)=false)(p:σ->List Bool->Bool)(nx:σ->List Bool->σ)(xs:List (List Bool))(c0:Nat)(hp:rC (fun s=>up s++[loc s]) I K f cap p nx xs c0)(hl:xs.length<=40)(hsh:∀s (t:St),(up s).length+1<=t.up.length->(up s++[loc s]).map (AH t)=up s++[loc s])(c dd:Nat)(fr:Fr)(s:σ)(hc0:c0<=c)(hi:I s) :
  ∃(c':Nat) (j:Int),c<=c'/\decide (0<=j)=(BQ p nx s xs).1/\HK (BI bq ann kn (n+K+100)) (some dd) ⟨c,fr,⟨up s,loc s⟩⟩ 187 [.list false (xs.map AU),.fn f [] cap]=some ⟨c',(dd,true,i j)::fr,⟨up (BQ p nx s xs).2,loc (BQ p nx s xs).2⟩⟩:=by
 obtain⟨c1,j,h1,h2,q⟩:=rD (n+45) K (fun s=>up s++[loc s]) I f cap hcw p nx xs c0 hp (by omega) xs.length 0 s c (n+K+95) (by omega) (by omega) hc0 hi
 have e:n+45+K+50=n+K+95:=by omega
 rw[e]at q
 have hcl:([V.list false (xs.map AU),V.fn f [] cap]).all (AE 9)=false:=by simp[hco]
 have hs:=fun s=>hsh s ⟨up s++[loc s],[]⟩ (by simp)
 simp at hs
 rw[A3 Tryz.func187 b187 rfl hcl]
 simp only[List.drop_zero]at q
 generalize (BQ p nx s xs).2=s' at q|-
 generalize e:(BQ p nx s xs).1=b at q
 cases b with
 |true=>
  refine⟨c1,j,h1,by simpa using h2,?_⟩
  simp at q
  simp[AN5,AD,q,hs]
 |false=>
  refine⟨c1,-1,h1,by simp,?_⟩
  simp at q
  simp[AN5,AD,q,hs]
theorem AYC{σ:Type}(n K:Nat)(up:σ->List AA)(loc:σ->AA)(I:σ->Prop)(f:bw)(cap:List V)(hcw:cap.map weakV=cap)(hco:cap.all (AE 8)=false)(p:σ->List Bool->Bool)(nx:σ->List Bool->σ)(xs:List (List Bool))(c0:Nat)(hp:rC (fun s=>up s++[loc s]++[[]]) I K f cap p nx xs c0)(hl:xs.length<=40)(hsh:∀s (t:St),(up s).length+1<=t.up.length->(up s++[loc s]).map (AH t)=up s++[loc s])(c dd:Nat)(fr:Fr)(s:σ)(hc0:c0<=c)(hi:I s) :
  ∃c':Nat,c<=c'/\HK (BI bq ann kn (n+K+200)) (some dd) ⟨c,fr,⟨up s,loc s⟩⟩ 159 [.list false (xs.map AU),.fn f [] cap]=some ⟨c',(dd,true,.bool (BQ p nx s xs).1)::fr,⟨up (BQ p nx s xs).2,loc (BQ p nx s xs).2⟩⟩:=by
 have hcl:([V.list false (xs.map AU),V.fn f [] cap]).all (AE 9)=false:=by simp[hco]
 have hsh2:∀s (t:St),(up s++[loc s]).length+1<=t.up.length->(up s++[loc s]++[[]]).map (AH t)=up s++[loc s]++[[]]:=fun s t h=>by have:=hsh s t (by simp at h;omega);simp only[List.map_append,List.map_cons,List.map_nil,FD]at this|-;rw[this]
 obtain⟨c1,j,h1,h2,q⟩:=AFS (n+97) K (fun s=>up s++[loc s]) (fun _=>[]) I f cap hcw hco p nx xs c0 hp hl hsh2 c 7 [(6,true,.fn f [] cap),(5,true,.list false (xs.map AU)),(0,true,.list false (xs.map AU)),(1,true,.fn f [] cap)] s hc0 hi
 refine⟨c1,h1,?_⟩
 have e:n+97+K+100=n+K+197:=by omega
 rw[e]at q
 have hs:=fun s=>hsh s ⟨up s++[loc s],[]⟩ (by simp)
 simp at hs
 rw[A3 Tryz.func159 b159 rfl hcl]
 simp[AZ1,AD,hcw,q,h2,hs]
theorem AKG(n K:Nat)(b:AV)(f:bw)(p:List Bool->Bool)(xs:List (List Bool))(hl:xs.length<=40)(hf:∀n x,x∈xs->A8 bq kn (AF bq ann kn (n+K)) f [.agg (AG b),lb x]=some (.bool (p x)))(hh:BL bq f=false:=by simp) :
  A8 bq kn (AF bq ann kn (n+K+300)) 119 [.list false (xs.map AU),.fn f [.agg (AG b)] []]=some (.bool (xs.all p)):=by
 rw[AP rfl,AQ Tryz.func119 BAQ rfl (by simp[AG,AJ,AM,AL,AU,BH,AR])]
 have hp2:rC (fun (_:Unit)=>[]++[[(3,0,AX.box [V.fn f [.agg (AG b)] []])]]++[[]]) (fun _=>True) (K+20) 160 [.ptr 0 3 0 0] (fun _ x=>!p x) (fun _ _=>()) xs 0:=by
  intro n c1 fr s x hc0 hi hx;refine⟨fun _=>trivial,c1,by omega,?_⟩;have q:=fun n=>hf n x hx;have q2:=q (n+17);have e:n+17+K=n+K+17:=by omega
  rw[e]at q2;simp only[AG]at q2|-;rw[show n+(K+20)=n+K+20 from by omega,List.nil_append,A3 Tryz.func160 b160 rfl (by simp)];simp[AZ3,AD,AG,AJ,AM,AL,AU,BH,AR,q2,hh];try simp[AG,AJ,AM,AL,AU,BH,AR,q2,hh]
 obtain⟨c',h1,q⟩:=AYC (n+77) (K+20) (fun _=>[]) (fun _=>[(3,0,.box [.fn f [.agg (AG b)] []])]) (fun _=>True) 160 [.ptr 0 3 0 0] (by simp) (by simp) (fun _ x=>!p x) (fun _ _=>()) xs 0 hp2 hl (by simp[AG,AJ,AM,AL,AU,BH,AR]) 1 7 [(6,true,.fn 160 [] [.ptr 0 3 0 0]),(5,true,.list false (xs.map AU)),(0,true,.list false (xs.map AU)),(1,true,.fn f [.agg (AG b)] []),(3,true,.ptr 0 3 0 0)] () (Nat.zero_le _) trivial
 have e:n+77+(K+20)+200=n+K+297:=by omega
 rw[e,FN]at q
 have:=KO p xs
 simp only[AG]at q|-
 simp[AZ2,AD,q]
 rw[<-this,Bool.not_not]
def rF{σ:Type}(U:σ->List AA)(I:σ->Prop)(K:Nat)(f:bw)(cap:List V)(p:σ->TU->Bool)(nx:σ->TU->σ)(xs:List (TU))(c0:Nat):Prop:=∀n c fr s x,c0<=c->I s->x∈xs->(p s x=false->I (nx s x))/\∃c',c<=c'/\HK (BI bq ann kn (n+K)) (some 16) ⟨c,fr,⟨U s,[]⟩⟩ f (.agg (AR x)::cap)=some ⟨c',(16,true,.bool (p s x))::fr,⟨U (nx s x),[]⟩⟩
theorem rG{σ:Type}(n K:Nat)(U:σ->List AA)(I:σ->Prop)(f:bw)(cap:List V)(hcw:cap.map weakV=cap)(p:σ->TU->Bool)(nx:σ->TU->σ)(xs:List (TU))(c0:Nat)(hp:rF U I K f cap p nx xs c0)(hl:xs.length<=1000):∀(d k:Nat) (s:σ) (c m:Nat),k+d=xs.length->d<m->c0<=c->I s ->
  ∃(c':Nat) (j:Int),c<=c'/\0<=j/\BM (AF bq ann kn (n+K+50) 19) RT (ann 19 (B0 RT)) m ⟨c,[(0,true,.list false (xs.map AR)),(1,true,.fn f [] cap),(7,true,i xs.length),(8,true,i k)],⟨U s,[]⟩⟩ =
   bif (BQ p nx s (xs.drop k)).1 then some (.ret,⟨c',[(4,true,i j),(17,true,i j),(5,true,i j)],⟨U (BQ p nx s (xs.drop k)).2,[]⟩⟩)
   else some (.exit 0,⟨c',[(9,true,.bool false),(0,true,.list false (xs.map AR)),(1,true,.fn f [] cap),(7,true,i xs.length),(8,true,i xs.length)],⟨U (BQ p nx s (xs.drop k)).2,[]⟩⟩)
 |0,k,s,c,m+1,hd,hm,hc0,hi=>by
  have:k=xs.length:=by omega
  subst this;refine⟨c,0,Nat.le_refl _,by omega,?_⟩;simp[AB,BQ]
 |d+1,k,s,c,m+1,hd,hm,hc0,hi=>by
  have hk:k<xs.length:=by omega
  have hw:=B5 (k:=k) (by omega);have nrm:∀a:Nat,n+K+a=(n+a)+K:=fun a=>by omega
  rw[AB,bj hk];simp only[BQ];obtain⟨hi',c1,hc1,q⟩:=hp (n+43) c [(15,true,.agg (AR xs[k])),(14,true,.ref (AR xs[k])),(13,true,i k),(12,true,.list false (xs.map AR)),(11,true,.fn f [] cap),(0,true,.list false (xs.map AR)),(1,true,.fn f [] cap),(5,true,i k),(7,true,i xs.length),(8,true,i k)] s xs[k] hc0 hi (List.getElem_mem hk);generalize e:p s xs[k]=b at q hi';cases b with
  |true=>
   refine⟨c1,k,hc1,by omega,?_⟩
   try simp only[AR]at q
   rw[<-nrm]at q
   try simp at q
   simp[hk,hw,AR,q,hcw]
  |false=>
   obtain⟨c',j,h1,h2,ih⟩:=rG n K U I f cap hcw p nx xs c0 hp hl d (k+1) (nx s xs[k]) c1 m (by omega) (by omega) (by omega) (hi' rfl)
   refine⟨c',j,by omega,h2,?_⟩
   try simp only[AR]at q ih
   rw[<-nrm]at q
   try simp at q
   simp at ih
   simp[hk,hw,AR,q,ih,hcw]
theorem AFT{σ:Type}(n K:Nat)(up:σ->List AA)(loc:σ->AA)(I:σ->Prop)(f:bw)(cap:List V)(hcw:cap.map weakV=cap)(hco:cap.all (AE 8)=false)(p:σ->TU->Bool)(nx:σ->TU->σ)(xs:List (TU))(c0:Nat)(hp:rF (fun s=>up s++[loc s]) I K f cap p nx xs c0)(hl:xs.length<=40)(hsh:∀s (t:St),(up s).length+1<=t.up.length->(up s++[loc s]).map (AH t)=up s++[loc s])(c dd:Nat)(fr:Fr)(s:σ)(hc0:c0<=c)(hi:I s) :
  ∃(c':Nat) (j:Int),c<=c'/\decide (0<=j)=(BQ p nx s xs).1/\HK (BI bq ann kn (n+K+100)) (some dd) ⟨c,fr,⟨up s,loc s⟩⟩ 188 [.list false (xs.map AR),.fn f [] cap]=some ⟨c',(dd,true,i j)::fr,⟨up (BQ p nx s xs).2,loc (BQ p nx s xs).2⟩⟩:=by
 obtain⟨c1,j,h1,h2,q⟩:=rG (n+45) K (fun s=>up s++[loc s]) I f cap hcw p nx xs c0 hp (by omega) xs.length 0 s c (n+K+95) (by omega) (by omega) hc0 hi
 have e:n+45+K+50=n+K+95:=by omega
 rw[e]at q
 have hcl:([V.list false (xs.map AR),V.fn f [] cap]).all (AE 9)=false:=by simp[hco]
 have hs:=fun s=>hsh s ⟨up s++[loc s],[]⟩ (by simp)
 simp at hs
 rw[A3 Tryz.func188 b188 rfl hcl]
 simp only[List.drop_zero]at q
 generalize (BQ p nx s xs).2=s' at q|-
 generalize e:(BQ p nx s xs).1=b at q
 cases b with
 |true=>
  refine⟨c1,j,h1,by simpa using h2,?_⟩
  simp at q
  simp[AN6,AD,q,hs]
 |false=>
  refine⟨c1,-1,h1,by simp,?_⟩
  simp at q
  simp[AN6,AD,q,hs]
theorem AYD{σ:Type}(n K:Nat)(up:σ->List AA)(loc:σ->AA)(I:σ->Prop)(f:bw)(cap:List V)(hcw:cap.map weakV=cap)(hco:cap.all (AE 8)=false)(p:σ->TU->Bool)(nx:σ->TU->σ)(xs:List (TU))(c0:Nat)(hp:rF (fun s=>up s++[loc s]++[[]]) I K f cap p nx xs c0)(hl:xs.length<=40)(hsh:∀s (t:St),(up s).length+1<=t.up.length->(up s++[loc s]).map (AH t)=up s++[loc s])(c dd:Nat)(fr:Fr)(s:σ)(hc0:c0<=c)(hi:I s) :
  ∃c':Nat,c<=c'/\HK (BI bq ann kn (n+K+200)) (some dd) ⟨c,fr,⟨up s,loc s⟩⟩ 161 [.list false (xs.map AR),.fn f [] cap]=some ⟨c',(dd,true,.bool (BQ p nx s xs).1)::fr,⟨up (BQ p nx s xs).2,loc (BQ p nx s xs).2⟩⟩:=by
 have hcl:([V.list false (xs.map AR),V.fn f [] cap]).all (AE 9)=false:=by simp[hco]
 have hsh2:∀s (t:St),(up s++[loc s]).length+1<=t.up.length->(up s++[loc s]++[[]]).map (AH t)=up s++[loc s]++[[]]:=fun s t h=>by have:=hsh s t (by simp at h;omega);simp only[List.map_append,List.map_cons,List.map_nil,FD]at this|-;rw[this]
 obtain⟨c1,j,h1,h2,q⟩:=AFT (n+97) K (fun s=>up s++[loc s]) (fun _=>[]) I f cap hcw hco p nx xs c0 hp hl hsh2 c 7 [(6,true,.fn f [] cap),(5,true,.list false (xs.map AR)),(0,true,.list false (xs.map AR)),(1,true,.fn f [] cap)] s hc0 hi
 refine⟨c1,h1,?_⟩
 have e:n+97+K+100=n+K+197:=by omega
 rw[e]at q
 have hs:=fun s=>hsh s ⟨up s++[loc s],[]⟩ (by simp)
 simp at hs
 rw[A3 Tryz.func161 b161 rfl hcl]
 simp[AZ4,AD,hcw,q,h2,hs]
theorem AKH(n K:Nat)(f:bw)(p:TU->Bool)(xs:List (TU))(hl:xs.length<=40)(hf:∀n x,x∈xs->A8 bq kn (AF bq ann kn (n+K)) f [.agg (AR x)]=some (.bool (p x)))(hh:BL bq f=false:=by simp) :
  A8 bq kn (AF bq ann kn (n+K+300)) 120 [.list false (xs.map AR),.fn f [] []]=some (.bool (xs.all p)):=by
 rw[AP rfl,AQ Tryz.func120 BAR rfl (by simp[AC,AJ,AM,AL,AU,BH,AR])]
 have hp2:rF (fun (_:Unit)=>[]++[[(3,0,AX.box [V.fn f [] []])]]++[[]]) (fun _=>True) (K+20) 162 [.ptr 0 3 0 0] (fun _ x=>!p x) (fun _ _=>()) xs 0:=by
  intro n c1 fr s x hc0 hi hx;refine⟨fun _=>trivial,c1+1,by omega,?_⟩;have q:=fun n=>hf n x hx;have q2:=q (n+17);have e:n+17+K=n+K+17:=by omega
  rw[e]at q2;simp only[AR]at q2|-;rw[show n+(K+20)=n+K+20 from by omega,List.nil_append,A3 Tryz.func162 b162 rfl (by simp)];simp[AZ6,AD,AJ,q2,hh];try simp[AJ,q2,hh]
 obtain⟨c',h1,q⟩:=AYD (n+77) (K+20) (fun _=>[]) (fun _=>[(3,0,.box [.fn f [] []])]) (fun _=>True) 162 [.ptr 0 3 0 0] (by simp) (by simp) (fun _ x=>!p x) (fun _ _=>()) xs 0 hp2 hl (by simp[AC,AJ,AM,AL,AU,BH,AR]) 1 7 [(6,true,.fn 162 [] [.ptr 0 3 0 0]),(5,true,.list false (xs.map AR)),(0,true,.list false (xs.map AR)),(1,true,.fn f [] []),(3,true,.ptr 0 3 0 0)] () (Nat.zero_le _) trivial
 have e:n+77+(K+20)+200=n+K+297:=by omega
 rw[e,FN]at q
 have:=KO p xs
 skip
 simp[AZ5,AD,q]
 rw[<-this,Bool.not_not]
def H9(P:List Int->Bool)(N x:Nat)(y:List Int):List Int:=if (ADY (F0 x N) y&&P (F0 x N))=true then F0 x N else y
def ANF(N:Nat):Nat->List Int->Prop
 |_,[]=>True
 |fr,a::r=>∃i:Nat,a=i/\fr<=i/\i<N/\ANF N (i+1) r
structure BEF(P:List Int->Bool)(N:Nat)(y:List Int):Prop where
 inc:ANF N 0 y
 can:P y=true
 min:∀t,ANF N 0 t->P t=true->ADY t y=false
end Go.Proofs.Tryz.Op
