/- A case of families on a beach: what is valid, and what a seating is, by the program and by the reference. No program in sight. -/
import Derived.Test.YthhdhbalenanjaaGreatX1
import Derived.Test.YthhdhbalenanjaaGreatR1
open Go renaming FuncId->bp
open Go.Proofs.Tryz renaming prog->bn
open Nat renaming zero_le->bj,testBit_lt_two_pow->bw,lt_or_ge->bg,le_refl->bh
open List renaming nil_append->bk,drop_eq_getElem_cons->bq,singleton_append->bb,append_assoc->bf,range->bm
open Bool renaming and_eq_true->bx,and_eq_false_iff->bz,or_eq_false_iff->bc
set_option maxRecDepth 100000
set_option linter.unusedSimpArgs false
namespace Go.Wind
structure VX where
 size:Int
 good:Int
 dog:Bool
 shy:Bool
deriving DecidableEq
structure AP where
 beach:AK
 plan:List (List Int)
 chairs:List (List Bool)
 fams:List VX
def HZ(f:VX):Bool:=HW f.size 1 4&&HW f.good 0 5
def EN(c:AP):Bool:=decide ((c.chairs.length:Int)=c.beach.rows)&&c.chairs.all (fun l=>decide ((l.length:Int)=c.beach.places))
def CZ(c:AP):Int :=
 if 3<c.fams.length then 3
 else if DJ c.beach≠0 then DJ c.beach
 else if DV c.beach c.plan=false then 2
 else if CE c.beach=[] then 11
 else if EN c=false then 1
 else if c.fams.all HZ=false then 1 else 0
structure BZ(c:AP):Prop where
 be:Valid c.beach
 pl:DV c.beach c.plan=true
 tr:CE c.beach≠[]
 fl:c.fams.length<=3
 ch:(c.chairs.length:Int)=c.beach.rows
 cr:∀l∈c.chairs,(l.length:Int)=c.beach.places
 fo:∀f∈c.fams,(1<=f.size/\f.size<=4)/\0<=f.good/\f.good<=5
theorem GR{c:AP}(h:CZ c=0):BZ c:=by
 unfold CZ at h;split at h
 ·cases h
 rename_i h1;split at h
 ·rename_i h2;exact absurd h h2
 rename_i h2;split at h
 ·cases h
 rename_i h3;split at h
 ·cases h
 rename_i h4;split at h
 ·cases h
 rename_i h5;split at h
 ·cases h
 rename_i h6;have hb:DJ c.beach=0:=Classical.byContradiction fun hh=>h2 hh;have h5:EN c=true:=by simpa using h5
 have h6:c.fams.all HZ=true:=by simpa using h6
 simp only[EN,bx,decide_eq_true_eq,List.all_eq_true]at h5;refine⟨SV hb,by simpa using h3,h4,by omega,h5.1,h5.2,fun f hf=>?_⟩;have:=List.all_eq_true.1 h6 f hf;simp only[HZ,bx,DT]at this;exact this
structure Sp where
 fam:Nat
 size:Int
 row:Int
 place:Int
deriving DecidableEq
def IG(c:AP)(k:Nat):VX:=c.fams.getD k ⟨0,0,false,false⟩
def XU(c:AP)(a b:Nat):Bool:=decide (a≠b)&&((IG c a).shy&&(IG c b).dog||(IG c a).dog&&(IG c b).shy)
def JB(c:AP)(x:Sp):Bool:=HW x.row 0 (c.beach.rows-1)&&HW x.place 0 (c.beach.places-x.size)
def oK(x y:Sp):Int:=max (x.place-y.place-y.size) (y.place-x.place-x.size)
def FV(c:AP)(x y:Sp):Bool:=decide (x.row≠y.row)||(decide (0<oK x y)||(decide (oK x y=0)&&!XU c x.fam y.fam))
def GD(c:AP):Nat:=(c.chairs.map fun l=>l.count true).sum
def L6(l:List Sp):Int:=(l.map Sp.size).sum
def NK(c:AP):List Sp->List Sp->Bool
 |_,[]=>true
 |before,x::r=>JB c x&&before.all (FV c x)&&NK c (before++[x]) r
def sJ(k:Nat):List VX->List (Int×Int)->List Sp
 |f::fs,s::ss=>⟨k,f.size,s.1,s.2⟩::sJ (k+1) fs ss
 |_,_=>[]
def AAP(c:AP)(NC:List (Int×Int)):List Sp:=sJ 0 c.fams NC
structure BJ where
 sun:Int
 carried:Int
 enough:Bool
deriving DecidableEq
def E5(sure:List (List Int))(r p:Int):Int:=(sure.getD r.toNat []).getD p.toNat 0
def RA(c:AP)(r p:Int):Bool:=(c.chairs.getD r.toNat []).getD p.toNat false
def BS(c:AP)(sure:List (List Int))(x:Sp):BJ :=
  ⟨G9 (fun p=>E5 sure x.row (x.place+(p:Int))) x.size.toNat,
   G9 (fun p=>if RA c x.row (x.place+(p:Int))=true then 0 else 1) x.size.toNat,
   (bm x.size.toNat).all fun p=>decide ((IG c x.fam).good<=E5 sure x.row (x.place+(p:Int)))⟩
def EI(c:AP)(sure:List (List Int)):List (Nat×Int)->List Sp->List (List Sp)
 |[],out=>[out]
 |g::gs,out=>(bm c.beach.rows.toNat).flatMap fun (r:Nat)=>(bm (c.beach.places-g.2+1).toNat).flatMap fun (p:Nat)=>
  if ((BS c sure ⟨g.1,g.2,(r:Int),(p:Int)⟩).enough&&out.all (FV c ⟨g.1,g.2,(r:Int),(p:Int)⟩))=true then EI c sure gs (out++[⟨g.1,g.2,(r:Int),(p:Int)⟩]) else[]
theorem XV{α β:Type}{l:List α}{f g:α->List β}(h:∀x∈l,f x=g x):l.flatMap f=l.flatMap g:=by rw[List.flatMap_def,List.flatMap_def,List.map_congr_left h]
def EW(c:AP)(sure:List (List Int))(l:List Sp):BJ:=l.foldl (fun t x=>let s:=BS c sure x;⟨t.sun+s.sun,t.carried+s.carried,t.enough&&s.enough⟩) ⟨0,0,true⟩
def EB(c:AP)(sure:List (List Int))(acc:Option (List Sp×BJ))(l:List Sp):Option (List Sp×BJ) :=
 let s:=EW c sure l
 match acc with
 |some (b,t)=>if s.sun<t.sun\/(s.sun=t.sun/\t.carried<=s.carried) then some (b,t) else some (l,s)
 |none=>some (l,s)
def XW(c:AP)(sure:List (List Int))(ls:List (List Sp)):Option (List Sp×BJ):=ls.foldl (EB c sure) none
theorem XX{c:AP}{sure:List (List Int)}:∀(ls:List (List Sp)) (acc:Option (List Sp×BJ)),(match ls.foldl (EB c sure) acc with
  |some (b,t)=>(b∈ls/\t=EW c sure b)\/acc=some (b,t)
  | none=>ls=[]/\acc=none)
 |[],acc=>by
  cases acc with
  |none=>exact⟨rfl,rfl⟩
  |some bt=>exact .inr rfl
 |l::ls,acc=>by
  have ih:=XX (c:=c) (sure:=sure) ls (EB c sure acc l);simp only[List.foldl_cons];generalize ls.foldl (EB c sure) (EB c sure acc l)=R at ih|-;have hstep:EB c sure acc l=acc/\acc≠none\/EB c sure acc l=some (l,EW c sure l):=by
   cases acc with
   |none=>exact .inr rfl
   |some bt=>
    obtain⟨b,t⟩:=bt
    simp only[EB]
    split
    ·exact .inl ⟨rfl,by simp⟩
    ·exact .inr rfl
  cases R with
  |none=>
   obtain⟨_,h2⟩:=ih
   rcases hstep with⟨e,h⟩|e
   ·rw[e]at h2;exact absurd h2 h
   ·rw[e]at h2;cases h2
  |some bt=>
   obtain⟨b,t⟩:=bt
   simp only at ih|-
   rcases ih with⟨h1,h2⟩|h
   ·exact .inl ⟨by simp[h1],h2⟩
   ·rcases hstep with⟨e,_⟩|e
    ·rw[e]at h;exact .inr h
    ·rw[e]at h;cases h;exact .inl ⟨by simp,rfl⟩
end Go.Wind
open Go Go.Pg Go.Proofs Go.Wind
namespace Go.Proofs.Tryz.Op
def BU(x:Bool):List V:=[.bool x]
abbrev lb(l:List Bool):V:=.list false (l.map BU)
def AS(l:List Bool):List V:=[lb l]
def AU(f:VX):List V:=[i f.size,i f.good,.bool f.dog,.bool f.shy]
def A6(x:Sp):List V:=[i (x.fam:Int),i x.size,i x.row,i x.place]
def AE(c:AP):List V:=[i c.beach.last,i c.beach.rows,i c.beach.places,i c.beach.reach,li c.beach.face,li c.beach.sun,I1 c.beach.winds,.list false (c.beach.breaks.map AL),.list false (c.beach.notes.map AL),I1 c.plan,.list false (c.chairs.map AS),.list false (c.fams.map AU)]
def okF(f:VX):Prop:=GQ f.size/\GQ f.good
structure okC(c:AP):Prop where
 b:okB c.beach
 p:∀l∈c.plan,∀n∈l,GQ n
 f:∀f∈c.fams,okF f
def sK{σ:Type}(U:σ->List AA)(I:σ->Prop)(K:Nat)(f:bp)(cap:List V)(p:σ->List Bool->Bool)(nx:σ->List Bool->σ)(xs:List (List Bool))(c0:Nat):Prop:=∀n c fr s x,c0<=c->I s->x∈xs->(p s x=false->I (nx s x))/\∃c',c<=c'/\G7 (BH bn ann kn (n+K)) (some 16) ⟨c,fr,⟨U s,[]⟩⟩ f (lb x::cap)=some ⟨c',(16,true,.bool (p s x))::fr,⟨U (nx s x),[]⟩⟩
theorem sM{σ:Type}(n K:Nat)(U:σ->List AA)(I:σ->Prop)(f:bp)(cap:List V)(hcw:cap.map weakV=cap)(p:σ->List Bool->Bool)(nx:σ->List Bool->σ)(xs:List (List Bool))(c0:Nat)(hp:sK U I K f cap p nx xs c0)(hl:xs.length<=1000):∀(d k:Nat) (s:σ) (c m:Nat),k+d=xs.length->d<m->c0<=c->I s ->
  ∃(c':Nat) (j:Int),c<=c'/\0<=j/\BM (AF bn ann kn (n+K+50) 19) R9 (ann 19 (CG R9)) m ⟨c,[(0,true,.list false (xs.map AS)),(1,true,.fn f [] cap),(7,true,i xs.length),(8,true,i k)],⟨U s,[]⟩⟩ =
   bif (BN p nx s (xs.drop k)).1 then some (.ret,⟨c',[(4,true,i j),(17,true,i j),(5,true,i j)],⟨U (BN p nx s (xs.drop k)).2,[]⟩⟩)
   else some (.exit 0,⟨c',[(9,true,.bool false),(0,true,.list false (xs.map AS)),(1,true,.fn f [] cap),(7,true,i xs.length),(8,true,i xs.length)],⟨U (BN p nx s (xs.drop k)).2,[]⟩⟩)
 |0,k,s,c,m+1,hd,hm,hc0,hi=>by
  have:k=xs.length:=by omega
  subst this;refine⟨c,0,bh _,by omega,?_⟩;simp[AB,BN]
 |d+1,k,s,c,m+1,hd,hm,hc0,hi=>by
  have hk:k<xs.length:=by omega
  have hw:=B7 (k:=k) (by omega);have nrm:∀a:Nat,n+K+a=(n+a)+K:=fun a=>by omega
  rw[AB,bq hk];simp only[BN];obtain⟨hi',c1,hc1,q⟩:=hp (n+43) c [(15,true,lb xs[k]),(14,true,.ref (AS xs[k])),(13,true,i k),(12,true,.list false (xs.map AS)),(11,true,.fn f [] cap),(0,true,.list false (xs.map AS)),(1,true,.fn f [] cap),(5,true,i k),(7,true,i xs.length),(8,true,i k)] s xs[k] hc0 hi (List.getElem_mem hk);generalize e:p s xs[k]=b at q hi';cases b with
  |true=>
   refine⟨c1,k,hc1,by omega,?_⟩
   try simp only[AS]at q
   rw[<-nrm]at q
   try simp at q
   simp[hk,AS,q,hcw]
  |false=>
   obtain⟨c',j,h1,h2,ih⟩:=sM n K U I f cap hcw p nx xs c0 hp hl d (k+1) (nx s xs[k]) c1 m (by omega) (by omega) (by omega) (hi' rfl)
   refine⟨c',j,by omega,h2,?_⟩
   try simp only[AS]at q ih
   rw[<-nrm]at q
   try simp at q
   simp at ih
   simp[hk,hw,AS,q,ih,hcw]
theorem AG3{σ:Type}(n K:Nat)(up:σ->List AA)(loc:σ->AA)(I:σ->Prop)(f:bp)(cap:List V)(hcw:cap.map weakV=cap)(hco:cap.all (AG 8)=false)(p:σ->List Bool->Bool)(nx:σ->List Bool->σ)(xs:List (List Bool))(c0:Nat)(hp:sK (fun s=>up s++[loc s]) I K f cap p nx xs c0)(hl:xs.length<=40)(hsh:∀s (t:St),(up s).length+1<=t.up.length->(up s++[loc s]).map (AH t)=up s++[loc s])(c dd:Nat)(fr:Fr)(s:σ)(hc0:c0<=c)(hi:I s) :
  ∃(c':Nat) (j:Int),c<=c'/\decide (0<=j)=(BN p nx s xs).1/\G7 (BH bn ann kn (n+K+100)) (some dd) ⟨c,fr,⟨up s,loc s⟩⟩ 187 [.list false (xs.map AS),.fn f [] cap]=some ⟨c',(dd,true,i j)::fr,⟨up (BN p nx s xs).2,loc (BN p nx s xs).2⟩⟩:=by
 obtain⟨c1,j,h1,h2,q⟩:=sM (n+45) K (fun s=>up s++[loc s]) I f cap hcw p nx xs c0 hp (by omega) xs.length 0 s c (n+K+95) (by omega) (by omega) hc0 hi
 have e:n+45+K+50=n+K+95:=by omega
 rw[e]at q
 have hcl:([V.list false (xs.map AS),V.fn f [] cap]).all (AG 9)=false:=by simp[hco]
 have hs:=fun s=>hsh s ⟨up s++[loc s],[]⟩ (by simp)
 simp at hs
 rw[A2 Tryz.func187 b187 rfl hcl]
 simp only[List.drop_zero]at q
 generalize (BN p nx s xs).2=s' at q|-
 generalize e:(BN p nx s xs).1=b at q
 cases b with
 |true=>
  refine⟨c1,j,h1,by simpa using h2,?_⟩
  simp at q
  simp[AO1,AD,q,hs]
 |false=>
  refine⟨c1,-1,h1,by simp,?_⟩
  simp at q
  simp[AO1,AD,q,hs]
theorem AXW{σ:Type}(n K:Nat)(up:σ->List AA)(loc:σ->AA)(I:σ->Prop)(f:bp)(cap:List V)(hcw:cap.map weakV=cap)(hco:cap.all (AG 8)=false)(p:σ->List Bool->Bool)(nx:σ->List Bool->σ)(xs:List (List Bool))(c0:Nat)(hp:sK (fun s=>up s++[loc s]++[[]]) I K f cap p nx xs c0)(hl:xs.length<=40)(hsh:∀s (t:St),(up s).length+1<=t.up.length->(up s++[loc s]).map (AH t)=up s++[loc s])(c dd:Nat)(fr:Fr)(s:σ)(hc0:c0<=c)(hi:I s) :
  ∃c':Nat,c<=c'/\G7 (BH bn ann kn (n+K+200)) (some dd) ⟨c,fr,⟨up s,loc s⟩⟩ 159 [.list false (xs.map AS),.fn f [] cap]=some ⟨c',(dd,true,.bool (BN p nx s xs).1)::fr,⟨up (BN p nx s xs).2,loc (BN p nx s xs).2⟩⟩:=by
 have hcl:([V.list false (xs.map AS),V.fn f [] cap]).all (AG 9)=false:=by simp[hco]
 have hsh2:∀s (t:St),(up s++[loc s]).length+1<=t.up.length->(up s++[loc s]++[[]]).map (AH t)=up s++[loc s]++[[]]:=fun s t h=>by have:=hsh s t (by simp at h;omega);simp only[List.map_append,List.map_cons,List.map_nil,FJ]at this|-;rw[this]
 obtain⟨c1,j,h1,h2,q⟩:=AG3 (n+97) K (fun s=>up s++[loc s]) (fun _=>[]) I f cap hcw hco p nx xs c0 hp hl hsh2 c 7 [(6,true,.fn f [] cap),(5,true,.list false (xs.map AS)),(0,true,.list false (xs.map AS)),(1,true,.fn f [] cap)] s hc0 hi
 refine⟨c1,h1,?_⟩
 have e:n+97+K+100=n+K+197:=by omega
 rw[e]at q
 have hs:=fun s=>hsh s ⟨up s++[loc s],[]⟩ (by simp)
 simp at hs
 rw[A2 Tryz.func159 b159 rfl hcl]
 simp[AZR,AD,q,h2,hs]
theorem ALN(n K:Nat)(b:AP)(f:bp)(p:List Bool->Bool)(xs:List (List Bool))(hl:xs.length<=40)(hf:∀n x,x∈xs->A3 bn kn (AF bn ann kn (n+K)) f [.agg (AE b),lb x]=some (.bool (p x)))(hh:BI bn f=false:=by simp) :
  A3 bn kn (AF bn ann kn (n+K+300)) 119 [.list false (xs.map AS),.fn f [.agg (AE b)] []]=some (.bool (xs.all p)):=by
 rw[AQ rfl,AR Tryz.func119 A9W rfl (by simp[AE,AS,BU,AU])]
 have hp2:sK (fun (_:Unit)=>[]++[[(3,0,AV.box [V.fn f [.agg (AE b)] []])]]++[[]]) (fun _=>True) (K+20) 160 [.ptr 0 3 0 0] (fun _ x=>!p x) (fun _ _=>()) xs 0:=by
  intro n c1 fr s x hc0 hi hx;refine⟨fun _=>trivial,c1,by omega,?_⟩;have q:=fun n=>hf n x hx;have q2:=q (n+17);have e:n+17+K=n+K+17:=by omega
  rw[e]at q2;simp only[AE]at q2|-;rw[show n+(K+20)=n+K+20 from by omega,bk,A2 Tryz.func160 b160 rfl (by simp)];simp[AZT,AD,AS,BU,AU,q2,hh];try simp[AE,AM,AW,AL,AS,BU,AU,q2,hh]
 obtain⟨c',h1,q⟩:=AXW (n+77) (K+20) (fun _=>[]) (fun _=>[(3,0,.box [.fn f [.agg (AE b)] []])]) (fun _=>True) 160 [.ptr 0 3 0 0] (by simp) (by simp) (fun _ x=>!p x) (fun _ _=>()) xs 0 hp2 hl (by simp[AE]) 1 7 [(6,true,.fn 160 [] [.ptr 0 3 0 0]),(5,true,.list false (xs.map AS)),(0,true,.list false (xs.map AS)),(1,true,.fn f [.agg (AE b)] []),(3,true,.ptr 0 3 0 0)] () (bj _) trivial
 have e:n+77+(K+20)+200=n+K+297:=by omega
 rw[e,FT]at q
 have:=KX p xs
 simp only[AE]at q|-
 simp[AZS,AD,q]
 rw[<-this,Bool.not_not]
def sN{σ:Type}(U:σ->List AA)(I:σ->Prop)(K:Nat)(f:bp)(cap:List V)(p:σ->VX->Bool)(nx:σ->VX->σ)(xs:List (VX))(c0:Nat):Prop:=∀n c fr s x,c0<=c->I s->x∈xs->(p s x=false->I (nx s x))/\∃c',c<=c'/\G7 (BH bn ann kn (n+K)) (some 16) ⟨c,fr,⟨U s,[]⟩⟩ f (.agg (AU x)::cap)=some ⟨c',(16,true,.bool (p s x))::fr,⟨U (nx s x),[]⟩⟩
theorem sO{σ:Type}(n K:Nat)(U:σ->List AA)(I:σ->Prop)(f:bp)(cap:List V)(hcw:cap.map weakV=cap)(p:σ->VX->Bool)(nx:σ->VX->σ)(xs:List (VX))(c0:Nat)(hp:sN U I K f cap p nx xs c0)(hl:xs.length<=1000):∀(d k:Nat) (s:σ) (c m:Nat),k+d=xs.length->d<m->c0<=c->I s ->
  ∃(c':Nat) (j:Int),c<=c'/\0<=j/\BM (AF bn ann kn (n+K+50) 19) SA (ann 19 (CG SA)) m ⟨c,[(0,true,.list false (xs.map AU)),(1,true,.fn f [] cap),(7,true,i xs.length),(8,true,i k)],⟨U s,[]⟩⟩ =
   bif (BN p nx s (xs.drop k)).1 then some (.ret,⟨c',[(4,true,i j),(17,true,i j),(5,true,i j)],⟨U (BN p nx s (xs.drop k)).2,[]⟩⟩)
   else some (.exit 0,⟨c',[(9,true,.bool false),(0,true,.list false (xs.map AU)),(1,true,.fn f [] cap),(7,true,i xs.length),(8,true,i xs.length)],⟨U (BN p nx s (xs.drop k)).2,[]⟩⟩)
 |0,k,s,c,m+1,hd,hm,hc0,hi=>by
  have:k=xs.length:=by omega
  subst this;refine⟨c,0,bh _,by omega,?_⟩;simp[AB,BN]
 |d+1,k,s,c,m+1,hd,hm,hc0,hi=>by
  have hk:k<xs.length:=by omega
  have hw:=B7 (k:=k) (by omega);have nrm:∀a:Nat,n+K+a=(n+a)+K:=fun a=>by omega
  rw[AB,bq hk];simp only[BN];obtain⟨hi',c1,hc1,q⟩:=hp (n+43) c [(15,true,.agg (AU xs[k])),(14,true,.ref (AU xs[k])),(13,true,i k),(12,true,.list false (xs.map AU)),(11,true,.fn f [] cap),(0,true,.list false (xs.map AU)),(1,true,.fn f [] cap),(5,true,i k),(7,true,i xs.length),(8,true,i k)] s xs[k] hc0 hi (List.getElem_mem hk);generalize e:p s xs[k]=b at q hi';cases b with
  |true=>
   refine⟨c1,k,hc1,by omega,?_⟩
   try simp only[AU]at q
   rw[<-nrm]at q
   try simp at q
   simp[hk,AU,q,hcw]
  |false=>
   obtain⟨c',j,h1,h2,ih⟩:=sO n K U I f cap hcw p nx xs c0 hp hl d (k+1) (nx s xs[k]) c1 m (by omega) (by omega) (by omega) (hi' rfl)
   refine⟨c',j,by omega,h2,?_⟩
   try simp only[AU]at q ih
   rw[<-nrm]at q
   try simp at q
   simp at ih
   simp[hk,hw,AU,q,ih,hcw]
theorem AG4{σ:Type}(n K:Nat)(up:σ->List AA)(loc:σ->AA)(I:σ->Prop)(f:bp)(cap:List V)(hcw:cap.map weakV=cap)(hco:cap.all (AG 8)=false)(p:σ->VX->Bool)(nx:σ->VX->σ)(xs:List (VX))(c0:Nat)(hp:sN (fun s=>up s++[loc s]) I K f cap p nx xs c0)(hl:xs.length<=40)(hsh:∀s (t:St),(up s).length+1<=t.up.length->(up s++[loc s]).map (AH t)=up s++[loc s])(c dd:Nat)(fr:Fr)(s:σ)(hc0:c0<=c)(hi:I s) :
  ∃(c':Nat) (j:Int),c<=c'/\decide (0<=j)=(BN p nx s xs).1/\G7 (BH bn ann kn (n+K+100)) (some dd) ⟨c,fr,⟨up s,loc s⟩⟩ 188 [.list false (xs.map AU),.fn f [] cap]=some ⟨c',(dd,true,i j)::fr,⟨up (BN p nx s xs).2,loc (BN p nx s xs).2⟩⟩:=by
 obtain⟨c1,j,h1,h2,q⟩:=sO (n+45) K (fun s=>up s++[loc s]) I f cap hcw p nx xs c0 hp (by omega) xs.length 0 s c (n+K+95) (by omega) (by omega) hc0 hi
 have e:n+45+K+50=n+K+95:=by omega
 rw[e]at q
 have hcl:([V.list false (xs.map AU),V.fn f [] cap]).all (AG 9)=false:=by simp[hco]
 have hs:=fun s=>hsh s ⟨up s++[loc s],[]⟩ (by simp)
 simp at hs
 rw[A2 Tryz.func188 b188 rfl hcl]
 simp only[List.drop_zero]at q
 generalize (BN p nx s xs).2=s' at q|-
 generalize e:(BN p nx s xs).1=b at q
 cases b with
 |true=>
  refine⟨c1,j,h1,by simpa using h2,?_⟩
  simp at q
  simp[AO2,AD,q,hs]
 |false=>
  refine⟨c1,-1,h1,by simp,?_⟩
  simp at q
  simp[AO2,AD,q,hs]
theorem AXX{σ:Type}(n K:Nat)(up:σ->List AA)(loc:σ->AA)(I:σ->Prop)(f:bp)(cap:List V)(hcw:cap.map weakV=cap)(hco:cap.all (AG 8)=false)(p:σ->VX->Bool)(nx:σ->VX->σ)(xs:List (VX))(c0:Nat)(hp:sN (fun s=>up s++[loc s]++[[]]) I K f cap p nx xs c0)(hl:xs.length<=40)(hsh:∀s (t:St),(up s).length+1<=t.up.length->(up s++[loc s]).map (AH t)=up s++[loc s])(c dd:Nat)(fr:Fr)(s:σ)(hc0:c0<=c)(hi:I s) :
  ∃c':Nat,c<=c'/\G7 (BH bn ann kn (n+K+200)) (some dd) ⟨c,fr,⟨up s,loc s⟩⟩ 161 [.list false (xs.map AU),.fn f [] cap]=some ⟨c',(dd,true,.bool (BN p nx s xs).1)::fr,⟨up (BN p nx s xs).2,loc (BN p nx s xs).2⟩⟩:=by
 have hcl:([V.list false (xs.map AU),V.fn f [] cap]).all (AG 9)=false:=by simp[hco]
 have hsh2:∀s (t:St),(up s++[loc s]).length+1<=t.up.length->(up s++[loc s]++[[]]).map (AH t)=up s++[loc s]++[[]]:=fun s t h=>by have:=hsh s t (by simp at h;omega);simp only[List.map_append,List.map_cons,List.map_nil,FJ]at this|-;rw[this]
 obtain⟨c1,j,h1,h2,q⟩:=AG4 (n+97) K (fun s=>up s++[loc s]) (fun _=>[]) I f cap hcw hco p nx xs c0 hp hl hsh2 c 7 [(6,true,.fn f [] cap),(5,true,.list false (xs.map AU)),(0,true,.list false (xs.map AU)),(1,true,.fn f [] cap)] s hc0 hi
 refine⟨c1,h1,?_⟩
 have e:n+97+K+100=n+K+197:=by omega
 rw[e]at q
 have hs:=fun s=>hsh s ⟨up s++[loc s],[]⟩ (by simp)
 simp at hs
 rw[A2 Tryz.func161 b161 rfl hcl]
 simp[AZU,AD,q,h2,hs]
theorem ALO(n K:Nat)(f:bp)(p:VX->Bool)(xs:List (VX))(hl:xs.length<=40)(hf:∀n x,x∈xs->A3 bn kn (AF bn ann kn (n+K)) f [.agg (AU x)]=some (.bool (p x)))(hh:BI bn f=false:=by simp) :
  A3 bn kn (AF bn ann kn (n+K+300)) 120 [.list false (xs.map AU),.fn f [] []]=some (.bool (xs.all p)):=by
 rw[AQ rfl,AR Tryz.func120 A9X rfl (by simp[AU])]
 have hp2:sN (fun (_:Unit)=>[]++[[(3,0,AV.box [V.fn f [] []])]]++[[]]) (fun _=>True) (K+20) 162 [.ptr 0 3 0 0] (fun _ x=>!p x) (fun _ _=>()) xs 0:=by
  intro n c1 fr s x hc0 hi hx;refine⟨fun _=>trivial,c1+1,by omega,?_⟩;have q:=fun n=>hf n x hx;have q2:=q (n+17);have e:n+17+K=n+K+17:=by omega
  rw[e]at q2;simp only[AU]at q2|-;rw[show n+(K+20)=n+K+20 from by omega,bk,A2 Tryz.func162 b162 rfl (by simp)];simp[AZW,AD,q2,hh];try simp[AM,q2,hh]
 obtain⟨c',h1,q⟩:=AXX (n+77) (K+20) (fun _=>[]) (fun _=>[(3,0,.box [.fn f [] []])]) (fun _=>True) 162 [.ptr 0 3 0 0] (by simp) (by simp) (fun _ x=>!p x) (fun _ _=>()) xs 0 hp2 hl (by simp) 1 7 [(6,true,.fn 162 [] [.ptr 0 3 0 0]),(5,true,.list false (xs.map AU)),(0,true,.list false (xs.map AU)),(1,true,.fn f [] []),(3,true,.ptr 0 3 0 0)] () (bj _) trivial
 have e:n+77+(K+20)+200=n+K+297:=by omega
 rw[e,FT]at q
 have:=KX p xs
 skip
 simp[AZV,AD,q]
 rw[<-this,Bool.not_not]
end Go.Proofs.Tryz.Op
namespace Go.Wind
end Go.Wind
namespace Go.Proofs.Tryz.Op
def C0(f:Nat->Option (List Int)):Nat->Nat->Option (List Int)
 |0,_=>none
 |e+1,j=>match f j with
  |some x=>some x
  |none=>C0 f e (j+1)
def DR(P:List Int->Bool)(N:Nat):Nat->Nat->List Int->Option (List Int)
 |0,_,out=>if P out=true then some out else none
 |m+1,fr,out=>C0 (fun j=>DR P N m (j+1) (out++[(j:Int)])) (N-m-fr) fr
def QI(P:List Int->Bool)(N:Nat):Option (List Int):=C0 (fun m=>DR P N m 0 []) (N+1) 0
def F1(P:List Int->Bool)(N x:Nat)(y:List Int):List Int:=if (FZ (FB x N) y&&P (FB x N))=true then FB x N else y
def goG(P:List Int->Bool)(N:Nat):Nat->Nat->List Int->List Int
 |0,_,y=>y
 |d+1,x,y=>goG P N d (x+1) (F1 P N x y)
def sP(P:List Int->Bool)(N:Nat):List Int:=goG P N (2 ^ N) 0 (FB (2 ^ N-1) N)
def JP(N:Nat):Nat->List Int->Prop
 |_,[]=>True
 |fr,a::r=>∃i:Nat,a=i/\fr<=i/\i<N/\JP N (i+1) r
theorem JP.more{N:Nat}:∀{l:List Int} {fr:Nat},JP N fr l->JP (N+1) fr l
 |[],_,_=>trivial
 |_::_,_,⟨i,e,h1,h2,h3⟩=>⟨i,e,h1,by omega,h3.more⟩
theorem JP.snoc{N:Nat}:∀{l:List Int} {fr:Nat},fr<=N->JP N fr l->JP (N+1) fr (l++[(N:Int)])
 |[],fr,hf,_=>⟨N,rfl,hf,by omega,trivial⟩
 |_::_,_,_,⟨i,e,h1,h2,h3⟩=>⟨i,e,h1,by omega,h3.snoc (by omega)⟩
theorem JP.split{N:Nat}:∀{l:List Int} {fr:Nat},JP (N+1) fr l->JP N fr l\/∃l',l=l'++[(N:Int)]/\JP N fr l'
 |[],_,_=>.inl trivial
 |a::r,fr,⟨i,e,h1,h2,h3⟩=>by
  by_cases hi:i=N
  ·subst hi;cases r with
   |nil=>exact .inr ⟨[],by rw[e];rfl,trivial⟩
   |cons a' r'=>
    obtain⟨i',_,h1',h2',_⟩:=h3
    omega
  ·rcases h3.split with h|⟨l',e',h⟩
   ·exact .inl ⟨i,e,h1,by omega,h⟩
   ·exact .inr ⟨a::l',by rw[e'];rfl,i,e,h1,by omega,h⟩
theorem RB(x:Nat):∀N,JP N 0 (FB x N)
 |0=>trivial
 |N+1=>by
  rw[H6];split
  ·exact(RB x N).snoc (bj _)
  ·exact(RB x N).more
theorem VY{x y:Nat}:∀(N:Nat),(∀i,i<N->x.testBit i=y.testBit i)->FB x N=FB y N
 |0,_=>rfl
 |N+1,h=>by rw[H6,H6,VY N fun i hi=>h i (by omega),h N (by omega)]
theorem XY:∀(N:Nat) (l:List Int),JP N 0 l->∃x,x<2 ^ N/\l=FB x N
 |0,[],_=>⟨0,by decide,rfl⟩
 |0,a::r,h=>by obtain⟨i,_,_,h2,_⟩:=h;omega
 |N+1,l,h=>by
  have hp:2 ^ (N+1)=2 ^ N+2 ^ N:=by rw[Nat.pow_succ];omega
  rcases h.split with h2|⟨l',rfl,h2⟩
  ·obtain⟨x,hx,rfl⟩:=XY N l h2;refine⟨x,by omega,?_⟩;rw[H6,bw hx];rfl
  ·obtain⟨x,hx,rfl⟩:=XY N l' h2;refine⟨2 ^ N+x,by omega,?_⟩;have h1:(2 ^ N+x).testBit N=true:=by rw[Nat.testBit_two_pow_add_eq,bw hx];rfl
   have h2:∀i,i<N->(2 ^ N+x).testBit i=x.testBit i:=fun i hi=>Nat.testBit_two_pow_add_gt hi x;rw[H6,h1,if_pos rfl,VY N h2]
theorem P4:∀l:List Int,E9 l l=false
 |[]=>rfl
 |a::r=>by unfold E9;rw[if_pos rfl];exact P4 r
theorem XZ:∀{l k:List Int},l.length=k.length->E9 l k=false->E9 k l=false->l=k
 |[],[],_,_,_=>rfl
 |[],_::_,h,_,_=>by simp at h
 |_::_,[],h,_,_=>by simp at h
 |a::l,b::k,h,h1,h2=>by
  unfold E9 at h1 h2;by_cases e:a=b
  ·rw[if_pos e]at h1;rw[if_pos e.symm]at h2;rw[e,XZ (by simpa using h) h1 h2]
  ·rw[if_neg e]at h1;rw[if_neg fun hh=>e hh.symm]at h2;have h1:=of_decide_eq_false h1;have h2:=of_decide_eq_false h2;omega
theorem wF{l k:List Int}(h1:FZ l k=false)(h2:FZ k l=false):l=k:=by
 unfold FZ at h1 h2;simp only[bc,bz,decide_eq_false_iff_not]at h1 h2;have e:l.length=k.length:=by omega
 exact XZ e (h1.2.resolve_left fun hh=>hh e) (h2.2.resolve_left fun hh=>hh e.symm)
theorem QJ{f:Nat->Option (List Int)}:∀{e j:Nat} {y:List Int},C0 f e j=some y->∃i,j<=i/\i<j+e/\f i=some y/\∀k,j<=k->k<i->f k=none
 |0,_,_,h=>by cases h
 |e+1,j,y,h=>by
  unfold C0 at h;cases hf:f j with
  |some x=>
   rw[hf]at h
   cases h
   exact⟨j,bh _,by omega,hf,fun k h1 h2=>by omega⟩
  |none=>
   rw[hf]at h
   obtain⟨i,h1,h2,h3,h4⟩:=QJ h
   refine⟨i,by omega,by omega,h3,fun k k1 k2=>?_⟩
   by_cases hk:k=j
   ·rw[hk];exact hf
   ·exact h4 k (by omega) k2
theorem QK{f:Nat->Option (List Int)}:∀{e j:Nat},C0 f e j=none->∀k,j<=k->k<j+e->f k=none
 |0,_,_,k,h1,h2=>by omega
 |e+1,j,h,k,h1,h2=>by
  unfold C0 at h;cases hf:f j with
  |some x=>rw[hf]at h;cases h
  |none=>
   rw[hf]at h
   by_cases hk:k=j
   ·rw[hk];exact hf
   ·exact QK h k (by omega) (by omega)
theorem X0{N:Nat}:∀{l:List Int} {fr:Nat},JP N fr l->fr<=N->fr+l.length<=N
 |[],_,_,h=>h
 |_::r,fr,⟨i,_,h1,h2,h3⟩,_=>by have:=X0 h3 (by omega);simp;omega
theorem JL(P:List Int->Bool)(N:Nat):∀(m fr:Nat) (out:List Int),fr<=N ->
  match DR P N m fr out with
  |some y=>∃t,y=out++t/\t.length=m/\JP N fr t/\P y=true/\∀t',t'.length=m->JP N fr t'->P (out++t')=true->E9 t' t=false
  |none=>∀t',t'.length=m->JP N fr t'->P (out++t')=false
 |0,fr,out,_=>by
  unfold DR;by_cases h:P out=true
  ·rw[if_pos h];exact⟨[],by simp,rfl,trivial,h,fun t' _ _ _=>rK t'⟩
  ·rw[if_neg h];intro t' h1 _;have:t'=[]:=List.eq_nil_of_length_eq_zero h1;subst this;rw[List.append_nil];simpa using h
 |m+1,fr,out,hfr=>by
  have hsr:DR P N (m+1) fr out=C0 (fun j=>DR P N m (j+1) (out++[(j:Int)])) (N-m-fr) fr:=rfl;rw[hsr];have key:∀t',t'.length=m+1->JP N fr t'->∃(i:Nat) (r:List Int),t'=(i:Int)::r/\fr<=i/\i<fr+(N-m-fr)/\r.length=m/\JP N (i+1) r:=by
   intro t' h1 h2;cases t' with
   |nil=>simp at h1
   |cons a r=>
    obtain⟨i,e,h3,h4,h5⟩:=h2
    have:=X0 h5 (by omega)
    have hr:r.length=m:=by simpa using h1
    exact⟨i,r,by rw[e],h3,by omega,hr,h5⟩
  cases hq:C0 (fun j=>DR P N m (j+1) (out++[(j:Int)])) (N-m-fr) fr with
  |some y=>
   obtain⟨i,h1,h2,h3,h4⟩:=QJ hq
   have ih:=JL P N m (i+1) (out++[(i:Int)]) (by omega)
   rw[h3]at ih
   obtain⟨t,e,hl,hi,hp,hmin⟩:=ih
   refine⟨(i:Int)::t,by rw[e];simp,by simp[hl],⟨i,rfl,h1,by omega,hi⟩,hp,fun t' ht' hi' hp'=>?_⟩
   obtain⟨i',r,rfl,g1,g2,g3,g4⟩:=key t' ht' hi'
   unfold E9
   by_cases e':i'=i
   ·subst e';rw[if_pos rfl];exact hmin r g3 g4 (by simpa using hp')
   ·rw[if_neg (by omega)];by_cases hlt:i'<i
    ·have hn:=h4 i' g1 hlt;have ih':=JL P N m (i'+1) (out++[(i':Int)]) (by omega);rw[hn]at ih';have:=ih' r g3 g4;rw[bf,bb]at this;rw[this]at hp';cases hp'
    ·exact decide_eq_false (by omega)
  |none=>
   intro t' ht' hi'
   obtain⟨i',r,rfl,g1,g2,g3,g4⟩:=key t' ht' hi'
   have hn:DR P N m (i'+1) (out++[(i':Int)])=none:=QK hq i' g1 g2
   have ih':=JL P N m (i'+1) (out++[(i':Int)]) (by omega)
   rw[hn]at ih'
   have:=ih' r g3 g4
   rw[bf,bb]at this
   exact this
structure VZ(P:List Int->Bool)(N:Nat)(y:List Int):Prop where
 inc:JP N 0 y
 can:P y=true
 min:∀t,JP N 0 t->P t=true->FZ t y=false
theorem VZ.uniq{P:List Int->Bool}{N:Nat}{y z:List Int}(h:VZ P N y)(h':VZ P N z):y=z:=wF (h'.min y h.inc h.can) (h.min z h'.inc h'.can)
theorem X3(P:List Int->Bool)(N:Nat):match QI P N with
  |some y=>VZ P N y
  |none=>∀t,JP N 0 t->P t=false:=by
 have hP:QI P N=C0 (fun m=>DR P N m 0 []) (N+1) 0:=rfl
 rw[hP]
 cases hq:C0 (fun m=>DR P N m 0 []) (N+1) 0 with
 |some y=>
  obtain⟨m,_,h2,h3,h4⟩:=QJ hq
  have ih:=JL P N m 0 [] (bj _)
  rw[h3]at ih
  obtain⟨t,e,hl,hi,hp,hmin⟩:=ih
  rw[bk]at e
  subst e
  refine⟨hi,hp,fun t' ht' hp'=>?_⟩
  unfold FZ
  simp only[bc,bz,decide_eq_false_iff_not]
  have hge:¬t'.length<y.length:=fun hlt=>by have hn:DR P N t'.length 0 []=none:=h4 t'.length (bj _) (by omega);have ih':=JL P N t'.length 0 [] (bj _);rw[hn]at ih';have:=ih' t' rfl ht';rw[bk]at this;rw[this]at hp';cases hp'
  refine⟨hge,?_⟩
  by_cases e:t'.length=y.length
  ·exact .inr (hmin t' (by omega) ht' (by rw[bk];exact hp'))
  ·exact .inl e
 |none=>
  intro t ht
  have hr:=X0 ht (bj _)
  have hn:DR P N t.length 0 []=none:=QK hq t.length (bj _) (by omega)
  have ih':=JL P N t.length 0 [] (bj _)
  rw[hn]at ih'
  have:=ih' t rfl ht
  rwa [bk]at this
theorem RC:∀{a b c:List Int},E9 a b=true->E9 b c=true->E9 a c=true
 |[],[],_,h,_=>by cases h
 |[],_::_,[],_,h=>by cases h
 |[],_::_,_::_,_,_=>rfl
 |_::_,[],_,h,_=>by cases h
 |_::_,_::_,[],_,h=>by cases h
 |x::a,y::b,z::c,h1,h2=>by
  unfold E9 at h1 h2|-;by_cases e1:x=y
  ·subst e1;rw[if_pos rfl]at h1;by_cases e2:x=z
   ·rw[if_pos e2]at h2|-;exact RC h1 h2
   ·rw[if_neg e2]at h2|-;exact h2
  ·rw[if_neg e1]at h1;have h1:=of_decide_eq_true h1;by_cases e2:y=z
   ·subst e2;rw[if_neg e1];exact decide_eq_true h1
   ·rw[if_neg e2]at h2;have h2:=of_decide_eq_true h2;rw[if_neg (by omega)];exact decide_eq_true (by omega)
theorem jA{a b c:List Int}(h1:FZ a b=true)(h2:FZ b c=true):FZ a c=true:=by
 unfold FZ at *;simp only[Bool.or_eq_true,bx,decide_eq_true_eq]at *;rcases h1 with h1|⟨h1,g1⟩<;>rcases h2 with h2|⟨h2,g2⟩
 ·exact .inl (by omega)
 ·exact .inl (by omega)
 ·exact .inl (by omega)
 ·exact .inr ⟨by omega,RC g1 g2⟩
theorem fE(a:List Int):FZ a a=false:=by unfold FZ;simp[P4]
def AG5(P:List Int->Bool)(N:Nat)(x:Nat)(y:List Int):Prop :=
 JP N 0 y/\P y=true/\∀x',x'<x->P (FB x' N)=true->FZ (FB x' N) y=false
theorem AAQ{P:List Int->Bool}{N x:Nat}{y:List Int}(h:AG5 P N x y):AG5 P N (x+1) (F1 P N x y):=by
 obtain⟨h1,h2,h3⟩:=h;unfold F1;by_cases hs:FZ (FB x N) y=true
 ·simp only[hs,Bool.true_and];cases hp:P (FB x N)with
  |true=>
   rw[if_pos rfl]
   refine⟨RB _ _,hp,fun x' hx' hp'=>?_⟩
   rcases bg x' x with h4|h4
   ·cases hq:FZ (FB x' N) (FB x N)with
    |false=>rfl
    |true=>
     have:=jA hq hs
     rw[h3 x' h4 hp']at this
     cases this
   ·have e:x'=x:=by omega
    rw[e];exact fE _
  |false=>
   rw[if_neg (by decide)]
   refine⟨h1,h2,fun x' hx' hp'=>?_⟩
   rcases bg x' x with h4|h4
   ·exact h3 x' h4 hp'
   ·have e:x'=x:=by omega
    rw[e,hp]at hp';cases hp'
 ·have hs:=Bool.eq_false_iff.2 hs;simp only[hs,Bool.false_and];rw[if_neg (by decide)];refine⟨h1,h2,fun x' hx' hp'=>?_⟩;rcases bg x' x with h4|h4
  ·exact h3 x' h4 hp'
  ·have e:x'=x:=by omega
   rw[e];exact hs
theorem AAR{P:List Int->Bool}{N:Nat}:∀(d x:Nat) (y:List Int),x+d=2 ^ N->AG5 P N x y->AG5 P N (2 ^ N) (goG P N d x y)
 |0,x,y,hd,h=>by
  have e:x=2 ^ N:=by omega
  rw[<-e];exact h
 |d+1,x,y,hd,h=>AAR d (x+1) (F1 P N x y) (by omega) (AAQ h)
theorem AAS{P:List Int->Bool}{N:Nat}(h0:P (FB (2 ^ N-1) N)=true):QI P N=some (sP P N):=by
 have hpos:=Nat.two_pow_pos N;have h:=AAR (2 ^ N) 0 _ (by omega) ⟨RB _ _,h0,fun x' hx'=>absurd hx' (by omega)⟩;have e:goG P N (2 ^ N) 0 (FB (2 ^ N-1) N)=sP P N:=rfl;rw[e]at h;obtain⟨h1,h2,h3⟩:=h;have hs:=X3 P N;cases hl:QI P N with
 |none=>
  rw[hl]at hs
  rw[hs _ h1]at h2
  cases h2
 |some z=>
  rw[hl]at hs
  refine congrArg some (VZ.uniq hs ⟨h1,h2,fun t ht hp=>?_⟩)
  obtain⟨x,hx,e⟩:=XY _ _ ht
  rw[e]at hp|-
  exact h3 x hx hp
end Go.Proofs.Tryz.Op
