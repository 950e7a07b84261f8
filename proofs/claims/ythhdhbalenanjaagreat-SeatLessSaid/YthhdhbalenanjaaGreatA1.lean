/- A case of families on a beach: what is valid, and what a seating is, by the program and by the reference. No program in sight. -/
import Derived.Test.YthhdhbalenanjaaGreatX1
import Derived.Test.YthhdhbalenanjaaGreatR1
open Go renaming FuncId->cj
open Go.Proofs.Tryz renaming prog->bp
open Nat renaming zero_le->bj,testBit_lt_two_pow->bw,lt_or_ge->bh,le_refl->bm
open List renaming nil_append->bk,drop_eq_getElem_cons->bq,singleton_append->bc,append_assoc->bg,range->bn
open Bool renaming and_eq_true->bx,and_eq_false_iff->bz,or_eq_false_iff->bf
set_option maxRecDepth 100000
set_option linter.unusedSimpArgs false
namespace Go.Wind
structure QN where
 size:Int
 good:Int
 dog:Bool
 shy:Bool
deriving DecidableEq
structure AU where
 beach:AN
 plan:List (List Int)
 chairs:List (List Bool)
 fams:List QN
def HF(f:QN):Bool:=IJ f.size 1 4&&IJ f.good 0 5
def FB(c:AU):Bool:=decide ((c.chairs.length:Int)=c.beach.rows)&&c.chairs.all (fun l=>decide ((l.length:Int)=c.beach.places))
def DE(c:AU):Int :=
 if 3<c.fams.length then 3
 else if DZ c.beach≠0 then DZ c.beach
 else if EP c.beach c.plan=false then 2
 else if CE c.beach=[] then 11
 else if FB c=false then 1
 else if c.fams.all HF=false then 1 else 0
structure CW(c:AU):Prop where
 be:Valid c.beach
 pl:EP c.beach c.plan=true
 tr:CE c.beach≠[]
 fl:c.fams.length<=3
 ch:(c.chairs.length:Int)=c.beach.rows
 cr:∀l∈c.chairs,(l.length:Int)=c.beach.places
 fo:∀f∈c.fams,(1<=f.size/\f.size<=4)/\0<=f.good/\f.good<=5
theorem HG{c:AU}(h:DE c=0):CW c:=by
 unfold DE at h;split at h
 ·cases h
 rename_i h1;split at h
 ·rename_i h2;exact absurd h h2
 rename_i h2;split at h
 ·cases h
 rename_i h3;split at h
 ·cases h
 rename_i h4;split at h
 ·cases h
 rename_i h5;split at h
 ·cases h
 rename_i h6;have hb:DZ c.beach=0:=Classical.byContradiction fun hh=>h2 hh;have h5:FB c=true:=by simpa using h5
 have h6:c.fams.all HF=true:=by simpa using h6
 simp only[FB,bx,decide_eq_true_eq,List.all_eq_true]at h5;refine⟨TB hb,by simpa using h3,h4,by omega,h5.1,h5.2,fun f hf=>?_⟩;have:=List.all_eq_true.1 h6 f hf;simp only[HF,bx,D7]at this;exact this
structure Sp where
 fam:Nat
 size:Int
 row:Int
 place:Int
deriving DecidableEq
def DS(c:AU)(k:Nat):QN:=c.fams.getD k ⟨0,0,false,false⟩
def RP(c:AU)(a b:Nat):Bool:=decide (a≠b)&&((DS c a).shy&&(DS c b).dog||(DS c a).dog&&(DS c b).shy)
def KE(c:AU)(x:Sp):Bool:=IJ x.row 0 (c.beach.rows-1)&&IJ x.place 0 (c.beach.places-x.size)
def oQ(x y:Sp):Int:=max (x.place-y.place-y.size) (y.place-x.place-x.size)
def GI(c:AU)(x y:Sp):Bool:=decide (x.row≠y.row)||(decide (0<oQ x y)||(decide (oQ x y=0)&&!RP c x.fam y.fam))
def G5(c:AU):Nat:=(c.chairs.map fun l=>l.count true).sum
def MP(l:List Sp):Int:=(l.map Sp.size).sum
def N8(c:AU):List Sp->List Sp->Bool
 |_,[]=>true
 |before,x::r=>KE c x&&before.all (GI c x)&&N8 c (before++[x]) r
def tC(k:Nat):List QN->List (Int×Int)->List Sp
 |f::fs,s::ss=>⟨k,f.size,s.1,s.2⟩::tC (k+1) fs ss
 |_,_=>[]
def ABF(c:AU)(NV:List (Int×Int)):List Sp:=tC 0 c.fams NV
structure BW where
 sun:Int
 carried:Int
 enough:Bool
deriving DecidableEq
def GJ(sure:List (List Int))(r p:Int):Int:=(sure.getD r.toNat []).getD p.toNat 0
def F6(c:AU)(r p:Int):Bool:=(c.chairs.getD r.toNat []).getD p.toNat false
def BU(c:AU)(sure:List (List Int))(x:Sp):BW :=
  ⟨HS (fun p=>GJ sure x.row (x.place+(p:Int))) x.size.toNat,
   HS (fun p=>if F6 c x.row (x.place+(p:Int))=true then 0 else 1) x.size.toNat,
   (bn x.size.toNat).all fun p=>decide ((DS c x.fam).good<=GJ sure x.row (x.place+(p:Int)))⟩
def FI(c:AU)(sure:List (List Int)):List (Nat×Int)->List Sp->List (List Sp)
 |[],out=>[out]
 |g::gs,out=>(bn c.beach.rows.toNat).flatMap fun (r:Nat)=>(bn (c.beach.places-g.2+1).toNat).flatMap fun (p:Nat)=>
  if ((BU c sure ⟨g.1,g.2,(r:Int),(p:Int)⟩).enough&&out.all (GI c ⟨g.1,g.2,(r:Int),(p:Int)⟩))=true then FI c sure gs (out++[⟨g.1,g.2,(r:Int),(p:Int)⟩]) else[]
def EV(c:AU)(sure:List (List Int))(l:List Sp):BW:=l.foldl (fun t x=>let s:=BU c sure x;⟨t.sun+s.sun,t.carried+s.carried,t.enough&&s.enough⟩) ⟨0,0,true⟩
def EL(c:AU)(sure:List (List Int))(acc:Option (List Sp×BW))(l:List Sp):Option (List Sp×BW) :=
 let s:=EV c sure l
 match acc with
 |some (b,t)=>if s.sun<t.sun\/(s.sun=t.sun/\t.carried<=s.carried) then some (b,t) else some (l,s)
 |none=>some (l,s)
def XY(c:AU)(sure:List (List Int))(ls:List (List Sp)):Option (List Sp×BW):=ls.foldl (EL c sure) none
theorem XZ{c:AU}{sure:List (List Int)}:∀(ls:List (List Sp)) (acc:Option (List Sp×BW)),(match ls.foldl (EL c sure) acc with
  |some (b,t)=>(b∈ls/\t=EV c sure b)\/acc=some (b,t)
  | none=>ls=[]/\acc=none)
 |[],acc=>by
  cases acc with
  |none=>exact⟨rfl,rfl⟩
  |some bt=>exact .inr rfl
 |l::ls,acc=>by
  have ih:=XZ (c:=c) (sure:=sure) ls (EL c sure acc l);simp only[List.foldl_cons];generalize ls.foldl (EL c sure) (EL c sure acc l)=R at ih|-;have hstep:EL c sure acc l=acc/\acc≠none\/EL c sure acc l=some (l,EV c sure l):=by
   cases acc with
   |none=>exact .inr rfl
   |some bt=>
    obtain⟨b,t⟩:=bt
    simp only[EL]
    split
    ·exact .inl ⟨rfl,by simp⟩
    ·exact .inr rfl
  cases R with
  |none=>
   obtain⟨_,h2⟩:=ih
   rcases hstep with⟨e,h⟩|e
   ·rw[e]at h2;exact absurd h2 h
   ·rw[e]at h2;cases h2
  |some bt=>
   obtain⟨b,t⟩:=bt
   simp only at ih|-
   rcases ih with⟨h1,h2⟩|h
   ·exact .inl ⟨by simp[h1],h2⟩
   ·rcases hstep with⟨e,_⟩|e
    ·rw[e]at h;exact .inr h
    ·rw[e]at h;cases h;exact .inl ⟨by simp,rfl⟩
end Go.Wind
open Go Go.Pg Go.Proofs Go.Wind
namespace Go.Proofs.Tryz.Op
def AZ(x:Bool):List V:=[.bool x]
abbrev lb(l:List Bool):V:=.list false (l.map AZ)
def AO(l:List Bool):List V:=[lb l]
def AP(f:QN):List V:=[i f.size,i f.good,.bool f.dog,.bool f.shy]
def A6(x:Sp):List V:=[i (x.fam:Int),i x.size,i x.row,i x.place]
def AE(c:AU):List V:=[i c.beach.last,i c.beach.rows,i c.beach.places,i c.beach.reach,li c.beach.face,li c.beach.sun,KC c.beach.winds,.list false (c.beach.breaks.map AL),.list false (c.beach.notes.map AL),KC c.plan,.list false (c.chairs.map AO),.list false (c.fams.map AP)]
def okF(f:QN):Prop:=NJ f.size/\NJ f.good
structure okC(c:AU):Prop where
 b:okB c.beach
 p:∀l∈c.plan,∀n∈l,NJ n
 f:∀f∈c.fams,okF f
def tD{σ:Type}(U:σ->List AA)(I:σ->Prop)(K:Nat)(f:cj)(cap:List V)(p:σ->List Bool->Bool)(nx:σ->List Bool->σ)(xs:List (List Bool))(c0:Nat):Prop:=∀n c fr s x,c0<=c->I s->x∈xs->(p s x=false->I (nx s x))/\∃c',c<=c'/\HQ (BL bp ann kn (n+K)) (some 16) ⟨c,fr,⟨U s,[]⟩⟩ f (lb x::cap)=some ⟨c',(16,true,.bool (p s x))::fr,⟨U (nx s x),[]⟩⟩
theorem tE{σ:Type}(n K:Nat)(U:σ->List AA)(I:σ->Prop)(f:cj)(cap:List V)(hcw:cap.map weakV=cap)(p:σ->List Bool->Bool)(nx:σ->List Bool->σ)(xs:List (List Bool))(c0:Nat)(hp:tD U I K f cap p nx xs c0)(hl:xs.length<=1000):∀(d k:Nat) (s:σ) (c m:Nat),k+d=xs.length->d<m->c0<=c->I s ->
  ∃(c':Nat) (j:Int),c<=c'/\0<=j/\BT (AF bp ann kn (n+K+50) 19) SN (ann 19 (CA SN)) m ⟨c,[(0,true,.list false (xs.map AO)),(1,true,.fn f [] cap),(7,true,i xs.length),(8,true,i k)],⟨U s,[]⟩⟩ =
   bif (BR p nx s (xs.drop k)).1 then some (.ret,⟨c',[(4,true,i j),(17,true,i j),(5,true,i j)],⟨U (BR p nx s (xs.drop k)).2,[]⟩⟩)
   else some (.exit 0,⟨c',[(9,true,.bool false),(0,true,.list false (xs.map AO)),(1,true,.fn f [] cap),(7,true,i xs.length),(8,true,i xs.length)],⟨U (BR p nx s (xs.drop k)).2,[]⟩⟩)
 |0,k,s,c,m+1,hd,hm,hc0,hi=>by
  have:k=xs.length:=by omega
  subst this;refine⟨c,0,bm _,by omega,?_⟩;simp[AB,BR]
 |d+1,k,s,c,m+1,hd,hm,hc0,hi=>by
  have hk:k<xs.length:=by omega
  have hw:=CB (k:=k) (by omega);have nrm:∀a:Nat,n+K+a=(n+a)+K:=fun a=>by omega
  rw[AB,bq hk];simp only[BR];obtain⟨hi',c1,hc1,q⟩:=hp (n+43) c [(15,true,lb xs[k]),(14,true,.ref (AO xs[k])),(13,true,i k),(12,true,.list false (xs.map AO)),(11,true,.fn f [] cap),(0,true,.list false (xs.map AO)),(1,true,.fn f [] cap),(5,true,i k),(7,true,i xs.length),(8,true,i k)] s xs[k] hc0 hi (List.getElem_mem hk);generalize e:p s xs[k]=b at q hi';cases b with
  |true=>
   refine⟨c1,k,hc1,by omega,?_⟩
   try simp only[AO]at q
   rw[<-nrm]at q
   try simp at q
   simp[hk,hw,AO,q,hcw]
  |false=>
   obtain⟨c',j,h1,h2,ih⟩:=tE n K U I f cap hcw p nx xs c0 hp hl d (k+1) (nx s xs[k]) c1 m (by omega) (by omega) (by omega) (hi' rfl)
   refine⟨c',j,by omega,h2,?_⟩
   try simp only[AO]at q ih
   rw[<-nrm]at q
   try simp at q
   simp at ih
   simp[hk,hw,AO,q,ih,hcw]
theorem AHJ{σ:Type}(n K:Nat)(up:σ->List AA)(loc:σ->AA)(I:σ->Prop)(f:cj)(cap:List V)(hcw:cap.map weakV=cap)(hco:cap.all (AG 8)=false)(p:σ->List Bool->Bool)(nx:σ->List Bool->σ)(xs:List (List Bool))(c0:Nat)(hp:tD (fun s=>up s++[loc s]) I K f cap p nx xs c0)(hl:xs.length<=40)(hsh:∀s (t:St),(up s).length+1<=t.up.length->(up s++[loc s]).map (AJ t)=up s++[loc s])(c dd:Nat)(fr:Fr)(s:σ)(hc0:c0<=c)(hi:I s) :
  ∃(c':Nat) (j:Int),c<=c'/\decide (0<=j)=(BR p nx s xs).1/\HQ (BL bp ann kn (n+K+100)) (some dd) ⟨c,fr,⟨up s,loc s⟩⟩ 187 [.list false (xs.map AO),.fn f [] cap]=some ⟨c',(dd,true,i j)::fr,⟨up (BR p nx s xs).2,loc (BR p nx s xs).2⟩⟩:=by
 obtain⟨c1,j,h1,h2,q⟩:=tE (n+45) K (fun s=>up s++[loc s]) I f cap hcw p nx xs c0 hp (by omega) xs.length 0 s c (n+K+95) (by omega) (by omega) hc0 hi
 have e:n+45+K+50=n+K+95:=by omega
 rw[e]at q
 have hcl:([V.list false (xs.map AO),V.fn f [] cap]).all (AG 9)=false:=by simp[hco]
 have hs:=fun s=>hsh s ⟨up s++[loc s],[]⟩ (by simp)
 simp at hs
 rw[A5 Tryz.func187 b187 rfl hcl]
 simp only[List.drop_zero]at q
 generalize (BR p nx s xs).2=s' at q|-
 generalize e:(BR p nx s xs).1=b at q
 cases b with
 |true=>
  refine⟨c1,j,h1,by simpa using h2,?_⟩
  simp at q
  simp[APS,AD,q,hs]
 |false=>
  refine⟨c1,-1,h1,by simp,?_⟩
  simp at q
  simp[APS,AD,q,hs]
theorem AZ0{σ:Type}(n K:Nat)(up:σ->List AA)(loc:σ->AA)(I:σ->Prop)(f:cj)(cap:List V)(hcw:cap.map weakV=cap)(hco:cap.all (AG 8)=false)(p:σ->List Bool->Bool)(nx:σ->List Bool->σ)(xs:List (List Bool))(c0:Nat)(hp:tD (fun s=>up s++[loc s]++[[]]) I K f cap p nx xs c0)(hl:xs.length<=40)(hsh:∀s (t:St),(up s).length+1<=t.up.length->(up s++[loc s]).map (AJ t)=up s++[loc s])(c dd:Nat)(fr:Fr)(s:σ)(hc0:c0<=c)(hi:I s) :
  ∃c':Nat,c<=c'/\HQ (BL bp ann kn (n+K+200)) (some dd) ⟨c,fr,⟨up s,loc s⟩⟩ 159 [.list false (xs.map AO),.fn f [] cap]=some ⟨c',(dd,true,.bool (BR p nx s xs).1)::fr,⟨up (BR p nx s xs).2,loc (BR p nx s xs).2⟩⟩:=by
 have hcl:([V.list false (xs.map AO),V.fn f [] cap]).all (AG 9)=false:=by simp[hco]
 have hsh2:∀s (t:St),(up s++[loc s]).length+1<=t.up.length->(up s++[loc s]++[[]]).map (AJ t)=up s++[loc s]++[[]]:=fun s t h=>by have:=hsh s t (by simp at h;omega);simp only[List.map_append,List.map_cons,List.map_nil,F5]at this|-;rw[this]
 obtain⟨c1,j,h1,h2,q⟩:=AHJ (n+97) K (fun s=>up s++[loc s]) (fun _=>[]) I f cap hcw hco p nx xs c0 hp hl hsh2 c 7 [(6,true,.fn f [] cap),(5,true,.list false (xs.map AO)),(0,true,.list false (xs.map AO)),(1,true,.fn f [] cap)] s hc0 hi
 refine⟨c1,h1,?_⟩
 have e:n+97+K+100=n+K+197:=by omega
 rw[e]at q
 have hs:=fun s=>hsh s ⟨up s++[loc s],[]⟩ (by simp)
 simp at hs
 rw[A5 Tryz.func159 b159 rfl hcl]
 simp[A1R,AD,hcw,q,h2,hs]
theorem AL6(n K:Nat)(b:AU)(f:cj)(p:List Bool->Bool)(xs:List (List Bool))(hl:xs.length<=40)(hf:∀n x,x∈xs->BA bp kn (AF bp ann kn (n+K)) f [.agg (AE b),lb x]=some (.bool (p x)))(hh:BQ bp f=false:=by simp) :
  BA bp kn (AF bp ann kn (n+K+300)) 119 [.list false (xs.map AO),.fn f [.agg (AE b)] []]=some (.bool (xs.all p)):=by
 rw[AR rfl,AS Tryz.func119 BCP rfl (by simp[AE,AH,AM,AL,AO,AZ,AP])]
 have hp2:tD (fun (_:Unit)=>[]++[[(3,0,AX.box [V.fn f [.agg (AE b)] []])]]++[[]]) (fun _=>True) (K+20) 160 [.ptr 0 3 0 0] (fun _ x=>!p x) (fun _ _=>()) xs 0:=by
  intro n c1 fr s x hc0 hi hx;refine⟨fun _=>trivial,c1,by omega,?_⟩;have q:=fun n=>hf n x hx;have q2:=q (n+17);have e:n+17+K=n+K+17:=by omega
  rw[e]at q2;simp only[AE]at q2|-;rw[show n+(K+20)=n+K+20 from by omega,bk,A5 Tryz.func160 b160 rfl (by simp)];simp[A1T,AD,AE,AH,AM,AL,AO,AZ,AP,q2,hh];try simp[AE,AH,AM,AL,AO,AZ,AP,q2,hh]
 obtain⟨c',h1,q⟩:=AZ0 (n+77) (K+20) (fun _=>[]) (fun _=>[(3,0,.box [.fn f [.agg (AE b)] []])]) (fun _=>True) 160 [.ptr 0 3 0 0] (by simp) (by simp) (fun _ x=>!p x) (fun _ _=>()) xs 0 hp2 hl (by simp[AE,AH,AM,AL,AO,AZ,AP]) 1 7 [(6,true,.fn 160 [] [.ptr 0 3 0 0]),(5,true,.list false (xs.map AO)),(0,true,.list false (xs.map AO)),(1,true,.fn f [.agg (AE b)] []),(3,true,.ptr 0 3 0 0)] () (bj _) trivial
 have e:n+77+(K+20)+200=n+K+297:=by omega
 rw[e,GF]at q
 have:=LL p xs
 simp only[AE]at q|-
 simp[A1S,AD,q]
 rw[<-this,Bool.not_not]
def tF{σ:Type}(U:σ->List AA)(I:σ->Prop)(K:Nat)(f:cj)(cap:List V)(p:σ->QN->Bool)(nx:σ->QN->σ)(xs:List (QN))(c0:Nat):Prop:=∀n c fr s x,c0<=c->I s->x∈xs->(p s x=false->I (nx s x))/\∃c',c<=c'/\HQ (BL bp ann kn (n+K)) (some 16) ⟨c,fr,⟨U s,[]⟩⟩ f (.agg (AP x)::cap)=some ⟨c',(16,true,.bool (p s x))::fr,⟨U (nx s x),[]⟩⟩
theorem tG{σ:Type}(n K:Nat)(U:σ->List AA)(I:σ->Prop)(f:cj)(cap:List V)(hcw:cap.map weakV=cap)(p:σ->QN->Bool)(nx:σ->QN->σ)(xs:List (QN))(c0:Nat)(hp:tF U I K f cap p nx xs c0)(hl:xs.length<=1000):∀(d k:Nat) (s:σ) (c m:Nat),k+d=xs.length->d<m->c0<=c->I s ->
  ∃(c':Nat) (j:Int),c<=c'/\0<=j/\BT (AF bp ann kn (n+K+50) 19) SO (ann 19 (CA SO)) m ⟨c,[(0,true,.list false (xs.map AP)),(1,true,.fn f [] cap),(7,true,i xs.length),(8,true,i k)],⟨U s,[]⟩⟩ =
   bif (BR p nx s (xs.drop k)).1 then some (.ret,⟨c',[(4,true,i j),(17,true,i j),(5,true,i j)],⟨U (BR p nx s (xs.drop k)).2,[]⟩⟩)
   else some (.exit 0,⟨c',[(9,true,.bool false),(0,true,.list false (xs.map AP)),(1,true,.fn f [] cap),(7,true,i xs.length),(8,true,i xs.length)],⟨U (BR p nx s (xs.drop k)).2,[]⟩⟩)
 |0,k,s,c,m+1,hd,hm,hc0,hi=>by
  have:k=xs.length:=by omega
  subst this;refine⟨c,0,bm _,by omega,?_⟩;simp[AB,BR]
 |d+1,k,s,c,m+1,hd,hm,hc0,hi=>by
  have hk:k<xs.length:=by omega
  have hw:=CB (k:=k) (by omega);have nrm:∀a:Nat,n+K+a=(n+a)+K:=fun a=>by omega
  rw[AB,bq hk];simp only[BR];obtain⟨hi',c1,hc1,q⟩:=hp (n+43) c [(15,true,.agg (AP xs[k])),(14,true,.ref (AP xs[k])),(13,true,i k),(12,true,.list false (xs.map AP)),(11,true,.fn f [] cap),(0,true,.list false (xs.map AP)),(1,true,.fn f [] cap),(5,true,i k),(7,true,i xs.length),(8,true,i k)] s xs[k] hc0 hi (List.getElem_mem hk);generalize e:p s xs[k]=b at q hi';cases b with
  |true=>
   refine⟨c1,k,hc1,by omega,?_⟩
   try simp only[AP]at q
   rw[<-nrm]at q
   try simp at q
   simp[hk,hw,AP,q,hcw]
  |false=>
   obtain⟨c',j,h1,h2,ih⟩:=tG n K U I f cap hcw p nx xs c0 hp hl d (k+1) (nx s xs[k]) c1 m (by omega) (by omega) (by omega) (hi' rfl)
   refine⟨c',j,by omega,h2,?_⟩
   try simp only[AP]at q ih
   rw[<-nrm]at q
   try simp at q
   simp at ih
   simp[hk,hw,AP,q,ih,hcw]
theorem AHK{σ:Type}(n K:Nat)(up:σ->List AA)(loc:σ->AA)(I:σ->Prop)(f:cj)(cap:List V)(hcw:cap.map weakV=cap)(hco:cap.all (AG 8)=false)(p:σ->QN->Bool)(nx:σ->QN->σ)(xs:List (QN))(c0:Nat)(hp:tF (fun s=>up s++[loc s]) I K f cap p nx xs c0)(hl:xs.length<=40)(hsh:∀s (t:St),(up s).length+1<=t.up.length->(up s++[loc s]).map (AJ t)=up s++[loc s])(c dd:Nat)(fr:Fr)(s:σ)(hc0:c0<=c)(hi:I s) :
  ∃(c':Nat) (j:Int),c<=c'/\decide (0<=j)=(BR p nx s xs).1/\HQ (BL bp ann kn (n+K+100)) (some dd) ⟨c,fr,⟨up s,loc s⟩⟩ 188 [.list false (xs.map AP),.fn f [] cap]=some ⟨c',(dd,true,i j)::fr,⟨up (BR p nx s xs).2,loc (BR p nx s xs).2⟩⟩:=by
 obtain⟨c1,j,h1,h2,q⟩:=tG (n+45) K (fun s=>up s++[loc s]) I f cap hcw p nx xs c0 hp (by omega) xs.length 0 s c (n+K+95) (by omega) (by omega) hc0 hi
 have e:n+45+K+50=n+K+95:=by omega
 rw[e]at q
 have hcl:([V.list false (xs.map AP),V.fn f [] cap]).all (AG 9)=false:=by simp[hco]
 have hs:=fun s=>hsh s ⟨up s++[loc s],[]⟩ (by simp)
 simp at hs
 rw[A5 Tryz.func188 b188 rfl hcl]
 simp only[List.drop_zero]at q
 generalize (BR p nx s xs).2=s' at q|-
 generalize e:(BR p nx s xs).1=b at q
 cases b with
 |true=>
  refine⟨c1,j,h1,by simpa using h2,?_⟩
  simp at q
  simp[APT,AD,q,hs]
 |false=>
  refine⟨c1,-1,h1,by simp,?_⟩
  simp at q
  simp[APT,AD,q,hs]
theorem AZ1{σ:Type}(n K:Nat)(up:σ->List AA)(loc:σ->AA)(I:σ->Prop)(f:cj)(cap:List V)(hcw:cap.map weakV=cap)(hco:cap.all (AG 8)=false)(p:σ->QN->Bool)(nx:σ->QN->σ)(xs:List (QN))(c0:Nat)(hp:tF (fun s=>up s++[loc s]++[[]]) I K f cap p nx xs c0)(hl:xs.length<=40)(hsh:∀s (t:St),(up s).length+1<=t.up.length->(up s++[loc s]).map (AJ t)=up s++[loc s])(c dd:Nat)(fr:Fr)(s:σ)(hc0:c0<=c)(hi:I s) :
  ∃c':Nat,c<=c'/\HQ (BL bp ann kn (n+K+200)) (some dd) ⟨c,fr,⟨up s,loc s⟩⟩ 161 [.list false (xs.map AP),.fn f [] cap]=some ⟨c',(dd,true,.bool (BR p nx s xs).1)::fr,⟨up (BR p nx s xs).2,loc (BR p nx s xs).2⟩⟩:=by
 have hcl:([V.list false (xs.map AP),V.fn f [] cap]).all (AG 9)=false:=by simp[hco]
 have hsh2:∀s (t:St),(up s++[loc s]).length+1<=t.up.length->(up s++[loc s]++[[]]).map (AJ t)=up s++[loc s]++[[]]:=fun s t h=>by have:=hsh s t (by simp at h;omega);simp only[List.map_append,List.map_cons,List.map_nil,F5]at this|-;rw[this]
 obtain⟨c1,j,h1,h2,q⟩:=AHK (n+97) K (fun s=>up s++[loc s]) (fun _=>[]) I f cap hcw hco p nx xs c0 hp hl hsh2 c 7 [(6,true,.fn f [] cap),(5,true,.list false (xs.map AP)),(0,true,.list false (xs.map AP)),(1,true,.fn f [] cap)] s hc0 hi
 refine⟨c1,h1,?_⟩
 have e:n+97+K+100=n+K+197:=by omega
 rw[e]at q
 have hs:=fun s=>hsh s ⟨up s++[loc s],[]⟩ (by simp)
 simp at hs
 rw[A5 Tryz.func161 b161 rfl hcl]
 simp[A1U,AD,hcw,q,h2,hs]
theorem AL7(n K:Nat)(f:cj)(p:QN->Bool)(xs:List (QN))(hl:xs.length<=40)(hf:∀n x,x∈xs->BA bp kn (AF bp ann kn (n+K)) f [.agg (AP x)]=some (.bool (p x)))(hh:BQ bp f=false:=by simp) :
  BA bp kn (AF bp ann kn (n+K+300)) 120 [.list false (xs.map AP),.fn f [] []]=some (.bool (xs.all p)):=by
 rw[AR rfl,AS Tryz.func120 BCQ rfl (by simp[AC,AH,AM,AL,AO,AZ,AP])]
 have hp2:tF (fun (_:Unit)=>[]++[[(3,0,AX.box [V.fn f [] []])]]++[[]]) (fun _=>True) (K+20) 162 [.ptr 0 3 0 0] (fun _ x=>!p x) (fun _ _=>()) xs 0:=by
  intro n c1 fr s x hc0 hi hx;refine⟨fun _=>trivial,c1+1,by omega,?_⟩;have q:=fun n=>hf n x hx;have q2:=q (n+17);have e:n+17+K=n+K+17:=by omega
  rw[e]at q2;simp only[AP]at q2|-;rw[show n+(K+20)=n+K+20 from by omega,bk,A5 Tryz.func162 b162 rfl (by simp)];simp[A1W,AD,AH,q2,hh];try simp[AH,q2,hh]
 obtain⟨c',h1,q⟩:=AZ1 (n+77) (K+20) (fun _=>[]) (fun _=>[(3,0,.box [.fn f [] []])]) (fun _=>True) 162 [.ptr 0 3 0 0] (by simp) (by simp) (fun _ x=>!p x) (fun _ _=>()) xs 0 hp2 hl (by simp[AC,AH,AM,AL,AO,AZ,AP]) 1 7 [(6,true,.fn 162 [] [.ptr 0 3 0 0]),(5,true,.list false (xs.map AP)),(0,true,.list false (xs.map AP)),(1,true,.fn f [] []),(3,true,.ptr 0 3 0 0)] () (bj _) trivial
 have e:n+77+(K+20)+200=n+K+297:=by omega
 rw[e,GF]at q
 have:=LL p xs
 skip
 simp[A1V,AD,q]
 rw[<-this,Bool.not_not]
end Go.Proofs.Tryz.Op
namespace Go.Wind
end Go.Wind
namespace Go.Proofs.Tryz.Op
def DA(f:Nat->Option (List Int)):Nat->Nat->Option (List Int)
 |0,_=>none
 |e+1,j=>match f j with
  |some x=>some x
  |none=>DA f e (j+1)
def D6(P:List Int->Bool)(N:Nat):Nat->Nat->List Int->Option (List Int)
 |0,_,out=>if P out=true then some out else none
 |m+1,fr,out=>DA (fun j=>D6 P N m (j+1) (out++[(j:Int)])) (N-m-fr) fr
def Q0(P:List Int->Bool)(N:Nat):Option (List Int):=DA (fun m=>D6 P N m 0 []) (N+1) 0
def GN(P:List Int->Bool)(N x:Nat)(y:List Int):List Int:=if (GM (FW x N) y&&P (FW x N))=true then FW x N else y
def goG(P:List Int->Bool)(N:Nat):Nat->Nat->List Int->List Int
 |0,_,y=>y
 |d+1,x,y=>goG P N d (x+1) (GN P N x y)
def tH(P:List Int->Bool)(N:Nat):List Int:=goG P N (2 ^ N) 0 (FW (2 ^ N-1) N)
def KF(N:Nat):Nat->List Int->Prop
 |_,[]=>True
 |fr,a::r=>∃i:Nat,a=i/\fr<=i/\i<N/\KF N (i+1) r
theorem KF.more{N:Nat}:∀{l:List Int} {fr:Nat},KF N fr l->KF (N+1) fr l
 |[],_,_=>trivial
 |_::_,_,⟨i,e,h1,h2,h3⟩=>⟨i,e,h1,by omega,h3.more⟩
theorem KF.snoc{N:Nat}:∀{l:List Int} {fr:Nat},fr<=N->KF N fr l->KF (N+1) fr (l++[(N:Int)])
 |[],fr,hf,_=>⟨N,rfl,hf,by omega,trivial⟩
 |_::_,_,_,⟨i,e,h1,h2,h3⟩=>⟨i,e,h1,by omega,h3.snoc (by omega)⟩
theorem KF.split{N:Nat}:∀{l:List Int} {fr:Nat},KF (N+1) fr l->KF N fr l\/∃l',l=l'++[(N:Int)]/\KF N fr l'
 |[],_,_=>.inl trivial
 |a::r,fr,⟨i,e,h1,h2,h3⟩=>by
  by_cases hi:i=N
  ·subst hi;cases r with
   |nil=>exact .inr ⟨[],by rw[e];rfl,trivial⟩
   |cons a' r'=>
    obtain⟨i',_,h1',h2',_⟩:=h3
    omega
  ·rcases h3.split with h|⟨l',e',h⟩
   ·exact .inl ⟨i,e,h1,by omega,h⟩
   ·exact .inr ⟨a::l',by rw[e'];rfl,i,e,h1,by omega,h⟩
theorem RQ(x:Nat):∀N,KF N 0 (FW x N)
 |0=>trivial
 |N+1=>by
  rw[I1];split
  ·exact(RQ x N).snoc (bj _)
  ·exact(RQ x N).more
theorem V6{x y:Nat}:∀(N:Nat),(∀i,i<N->x.testBit i=y.testBit i)->FW x N=FW y N
 |0,_=>rfl
 |N+1,h=>by rw[I1,I1,V6 N fun i hi=>h i (by omega),h N (by omega)]
theorem X0:∀(N:Nat) (l:List Int),KF N 0 l->∃x,x<2 ^ N/\l=FW x N
 |0,[],_=>⟨0,by decide,rfl⟩
 |0,a::r,h=>by obtain⟨i,_,_,h2,_⟩:=h;omega
 |N+1,l,h=>by
  have hp:2 ^ (N+1)=2 ^ N+2 ^ N:=by rw[Nat.pow_succ];omega
  rcases h.split with h2|⟨l',rfl,h2⟩
  ·obtain⟨x,hx,rfl⟩:=X0 N l h2;refine⟨x,by omega,?_⟩;rw[I1,bw hx];rfl
  ·obtain⟨x,hx,rfl⟩:=X0 N l' h2;refine⟨2 ^ N+x,by omega,?_⟩;have h1:(2 ^ N+x).testBit N=true:=by rw[Nat.testBit_two_pow_add_eq,bw hx];rfl
   have h2:∀i,i<N->(2 ^ N+x).testBit i=x.testBit i:=fun i hi=>Nat.testBit_two_pow_add_gt hi x;rw[I1,h1,if_pos rfl,V6 N h2]
theorem QO:∀l:List Int,FO l l=false
 |[]=>rfl
 |a::r=>by unfold FO;rw[if_pos rfl];exact QO r
theorem X3:∀{l k:List Int},l.length=k.length->FO l k=false->FO k l=false->l=k
 |[],[],_,_,_=>rfl
 |[],_::_,h,_,_=>by simp at h
 |_::_,[],h,_,_=>by simp at h
 |a::l,b::k,h,h1,h2=>by
  unfold FO at h1 h2;by_cases e:a=b
  ·rw[if_pos e]at h1;rw[if_pos e.symm]at h2;rw[e,X3 (by simpa using h) h1 h2]
  ·rw[if_neg e]at h1;rw[if_neg fun hh=>e hh.symm]at h2;have h1:=of_decide_eq_false h1;have h2:=of_decide_eq_false h2;omega
theorem wU{l k:List Int}(h1:GM l k=false)(h2:GM k l=false):l=k:=by
 unfold GM at h1 h2;simp only[bf,bz,decide_eq_false_iff_not]at h1 h2;have e:l.length=k.length:=by omega
 exact X3 e (h1.2.resolve_left fun hh=>hh e) (h2.2.resolve_left fun hh=>hh e.symm)
theorem Q1{f:Nat->Option (List Int)}:∀{e j:Nat} {y:List Int},DA f e j=some y->∃i,j<=i/\i<j+e/\f i=some y/\∀k,j<=k->k<i->f k=none
 |0,_,_,h=>by cases h
 |e+1,j,y,h=>by
  unfold DA at h;cases hf:f j with
  |some x=>
   rw[hf]at h
   cases h
   exact⟨j,bm _,by omega,hf,fun k h1 h2=>by omega⟩
  |none=>
   rw[hf]at h
   obtain⟨i,h1,h2,h3,h4⟩:=Q1 h
   refine⟨i,by omega,by omega,h3,fun k k1 k2=>?_⟩
   by_cases hk:k=j
   ·rw[hk];exact hf
   ·exact h4 k (by omega) k2
theorem Q2{f:Nat->Option (List Int)}:∀{e j:Nat},DA f e j=none->∀k,j<=k->k<j+e->f k=none
 |0,_,_,k,h1,h2=>by omega
 |e+1,j,h,k,h1,h2=>by
  unfold DA at h;cases hf:f j with
  |some x=>rw[hf]at h;cases h
  |none=>
   rw[hf]at h
   by_cases hk:k=j
   ·rw[hk];exact hf
   ·exact Q2 h k (by omega) (by omega)
theorem X4{N:Nat}:∀{l:List Int} {fr:Nat},KF N fr l->fr<=N->fr+l.length<=N
 |[],_,_,h=>h
 |_::r,fr,⟨i,_,h1,h2,h3⟩,_=>by have:=X4 h3 (by omega);simp;omega
theorem J8(P:List Int->Bool)(N:Nat):∀(m fr:Nat) (out:List Int),fr<=N ->
  match D6 P N m fr out with
  |some y=>∃t,y=out++t/\t.length=m/\KF N fr t/\P y=true/\∀t',t'.length=m->KF N fr t'->P (out++t')=true->FO t' t=false
  |none=>∀t',t'.length=m->KF N fr t'->P (out++t')=false
 |0,fr,out,_=>by
  unfold D6;by_cases h:P out=true
  ·rw[if_pos h];exact⟨[],by simp,rfl,trivial,h,fun t' _ _ _=>rQ t'⟩
  ·rw[if_neg h];intro t' h1 _;have:t'=[]:=List.eq_nil_of_length_eq_zero h1;subst this;rw[List.append_nil];simpa using h
 |m+1,fr,out,hfr=>by
  have hsr:D6 P N (m+1) fr out=DA (fun j=>D6 P N m (j+1) (out++[(j:Int)])) (N-m-fr) fr:=rfl;rw[hsr];have key:∀t',t'.length=m+1->KF N fr t'->∃(i:Nat) (r:List Int),t'=(i:Int)::r/\fr<=i/\i<fr+(N-m-fr)/\r.length=m/\KF N (i+1) r:=by
   intro t' h1 h2;cases t' with
   |nil=>simp at h1
   |cons a r=>
    obtain⟨i,e,h3,h4,h5⟩:=h2
    have:=X4 h5 (by omega)
    have hr:r.length=m:=by simpa using h1
    exact⟨i,r,by rw[e],h3,by omega,hr,h5⟩
  cases hq:DA (fun j=>D6 P N m (j+1) (out++[(j:Int)])) (N-m-fr) fr with
  |some y=>
   obtain⟨i,h1,h2,h3,h4⟩:=Q1 hq
   have ih:=J8 P N m (i+1) (out++[(i:Int)]) (by omega)
   rw[h3]at ih
   obtain⟨t,e,hl,hi,hp,hmin⟩:=ih
   refine⟨(i:Int)::t,by rw[e];simp,by simp[hl],⟨i,rfl,h1,by omega,hi⟩,hp,fun t' ht' hi' hp'=>?_⟩
   obtain⟨i',r,rfl,g1,g2,g3,g4⟩:=key t' ht' hi'
   unfold FO
   by_cases e':i'=i
   ·subst e';rw[if_pos rfl];exact hmin r g3 g4 (by simpa using hp')
   ·rw[if_neg (by omega)];by_cases hlt:i'<i
    ·have hn:=h4 i' g1 hlt;have ih':=J8 P N m (i'+1) (out++[(i':Int)]) (by omega);rw[hn]at ih';have:=ih' r g3 g4;rw[bg,bc]at this;rw[this]at hp';cases hp'
    ·exact decide_eq_false (by omega)
  |none=>
   intro t' ht' hi'
   obtain⟨i',r,rfl,g1,g2,g3,g4⟩:=key t' ht' hi'
   have hn:D6 P N m (i'+1) (out++[(i':Int)])=none:=Q2 hq i' g1 g2
   have ih':=J8 P N m (i'+1) (out++[(i':Int)]) (by omega)
   rw[hn]at ih'
   have:=ih' r g3 g4
   rw[bg,bc]at this
   exact this
structure V7(P:List Int->Bool)(N:Nat)(y:List Int):Prop where
 inc:KF N 0 y
 can:P y=true
 min:∀t,KF N 0 t->P t=true->GM t y=false
theorem V7.uniq{P:List Int->Bool}{N:Nat}{y z:List Int}(h:V7 P N y)(h':V7 P N z):y=z:=wU (h'.min y h.inc h.can) (h.min z h'.inc h'.can)
theorem X5(P:List Int->Bool)(N:Nat):match Q0 P N with
  |some y=>V7 P N y
  |none=>∀t,KF N 0 t->P t=false:=by
 have hP:Q0 P N=DA (fun m=>D6 P N m 0 []) (N+1) 0:=rfl
 rw[hP]
 cases hq:DA (fun m=>D6 P N m 0 []) (N+1) 0 with
 |some y=>
  obtain⟨m,_,h2,h3,h4⟩:=Q1 hq
  have ih:=J8 P N m 0 [] (bj _)
  rw[h3]at ih
  obtain⟨t,e,hl,hi,hp,hmin⟩:=ih
  rw[bk]at e
  subst e
  refine⟨hi,hp,fun t' ht' hp'=>?_⟩
  unfold GM
  simp only[bf,bz,decide_eq_false_iff_not]
  have hge:¬t'.length<y.length:=fun hlt=>by have hn:D6 P N t'.length 0 []=none:=h4 t'.length (bj _) (by omega);have ih':=J8 P N t'.length 0 [] (bj _);rw[hn]at ih';have:=ih' t' rfl ht';rw[bk]at this;rw[this]at hp';cases hp'
  refine⟨hge,?_⟩
  by_cases e:t'.length=y.length
  ·exact .inr (hmin t' (by omega) ht' (by rw[bk];exact hp'))
  ·exact .inl e
 |none=>
  intro t ht
  have hr:=X4 ht (bj _)
  have hn:D6 P N t.length 0 []=none:=Q2 hq t.length (bj _) (by omega)
  have ih':=J8 P N t.length 0 [] (bj _)
  rw[hn]at ih'
  have:=ih' t rfl ht
  rwa [bk]at this
theorem RT:∀{a b c:List Int},FO a b=true->FO b c=true->FO a c=true
 |[],[],_,h,_=>by cases h
 |[],_::_,[],_,h=>by cases h
 |[],_::_,_::_,_,_=>rfl
 |_::_,[],_,h,_=>by cases h
 |_::_,_::_,[],_,h=>by cases h
 |x::a,y::b,z::c,h1,h2=>by
  unfold FO at h1 h2|-;by_cases e1:x=y
  ·subst e1;rw[if_pos rfl]at h1;by_cases e2:x=z
   ·rw[if_pos e2]at h2|-;exact RT h1 h2
   ·rw[if_neg e2]at h2|-;exact h2
  ·rw[if_neg e1]at h1;have h1:=of_decide_eq_true h1;by_cases e2:y=z
   ·subst e2;rw[if_neg e1];exact decide_eq_true h1
   ·rw[if_neg e2]at h2;have h2:=of_decide_eq_true h2;rw[if_neg (by omega)];exact decide_eq_true (by omega)
theorem jK{a b c:List Int}(h1:GM a b=true)(h2:GM b c=true):GM a c=true:=by
 unfold GM at *;simp only[Bool.or_eq_true,bx,decide_eq_true_eq]at *;rcases h1 with h1|⟨h1,g1⟩<;>rcases h2 with h2|⟨h2,g2⟩
 ·exact .inl (by omega)
 ·exact .inl (by omega)
 ·exact .inl (by omega)
 ·exact .inr ⟨by omega,RT g1 g2⟩
theorem fQ(a:List Int):GM a a=false:=by unfold GM;simp[QO]
def AHL(P:List Int->Bool)(N:Nat)(x:Nat)(y:List Int):Prop :=
 KF N 0 y/\P y=true/\∀x',x'<x->P (FW x' N)=true->GM (FW x' N) y=false
theorem ABG{P:List Int->Bool}{N x:Nat}{y:List Int}(h:AHL P N x y):AHL P N (x+1) (GN P N x y):=by
 obtain⟨h1,h2,h3⟩:=h;unfold GN;by_cases hs:GM (FW x N) y=true
 ·simp only[hs,Bool.true_and];cases hp:P (FW x N)with
  |true=>
   rw[if_pos rfl]
   refine⟨RQ _ _,hp,fun x' hx' hp'=>?_⟩
   rcases bh x' x with h4|h4
   ·cases hq:GM (FW x' N) (FW x N)with
    |false=>rfl
    |true=>
     have:=jK hq hs
     rw[h3 x' h4 hp']at this
     cases this
   ·have e:x'=x:=by omega
    rw[e];exact fQ _
  |false=>
   rw[if_neg (by decide)]
   refine⟨h1,h2,fun x' hx' hp'=>?_⟩
   rcases bh x' x with h4|h4
   ·exact h3 x' h4 hp'
   ·have e:x'=x:=by omega
    rw[e,hp]at hp';cases hp'
 ·have hs:=Bool.eq_false_iff.2 hs;simp only[hs,Bool.false_and];rw[if_neg (by decide)];refine⟨h1,h2,fun x' hx' hp'=>?_⟩;rcases bh x' x with h4|h4
  ·exact h3 x' h4 hp'
  ·have e:x'=x:=by omega
   rw[e];exact hs
theorem ABH{P:List Int->Bool}{N:Nat}:∀(d x:Nat) (y:List Int),x+d=2 ^ N->AHL P N x y->AHL P N (2 ^ N) (goG P N d x y)
 |0,x,y,hd,h=>by
  have e:x=2 ^ N:=by omega
  rw[<-e];exact h
 |d+1,x,y,hd,h=>ABH d (x+1) (GN P N x y) (by omega) (ABG h)
theorem ABI{P:List Int->Bool}{N:Nat}(h0:P (FW (2 ^ N-1) N)=true):Q0 P N=some (tH P N):=by
 have hpos:=Nat.two_pow_pos N;have h:=ABH (2 ^ N) 0 _ (by omega) ⟨RQ _ _,h0,fun x' hx'=>absurd hx' (by omega)⟩;have e:goG P N (2 ^ N) 0 (FW (2 ^ N-1) N)=tH P N:=rfl;rw[e]at h;obtain⟨h1,h2,h3⟩:=h;have hs:=X5 P N;cases hl:Q0 P N with
 |none=>
  rw[hl]at hs
  rw[hs _ h1]at h2
  cases h2
 |some z=>
  rw[hl]at hs
  refine congrArg some (V7.uniq hs ⟨h1,h2,fun t ht hp=>?_⟩)
  obtain⟨x,hx,e⟩:=X0 _ _ ht
  rw[e]at hp|-
  exact h3 x hx hp
end Go.Proofs.Tryz.Op
