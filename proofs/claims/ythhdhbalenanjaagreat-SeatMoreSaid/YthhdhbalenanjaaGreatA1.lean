/- A case of families on a beach: what is valid, and what a seating is, by the program and by the reference. No program in sight. -/
import Derived.Test.YthhdhbalenanjaaGreatX1
import Derived.Test.YthhdhbalenanjaaGreatRc
open Go renaming FuncId->cq
open Go.Proofs.Tryz renaming prog->ck
open Bool renaming and_eq_true->bj,and_eq_false_iff->bc,or_eq_true->bg,or_eq_false_iff->bh
open Nat renaming zero_le->bk,testBit_lt_two_pow->bb,lt_or_ge->bp,le_refl->cj
open List renaming nil_append->bq,all_eq_true->bw,drop_eq_getElem_cons->bx,append_assoc->bz,singleton_append->bf,range->bm,map_cons->bn
set_option maxRecDepth 100000
set_option linter.unusedSimpArgs false
namespace Go.Wind
structure K7 where
 size:Int
 good:Int
 dog:Bool
 shy:Bool
deriving DecidableEq
structure AO where
 beach:AM
 plan:List (List Int)
 chairs:List (List Bool)
 fams:List K7
def LH(f:K7):Bool:=GR f.size 1 4&&GR f.good 0 5
def HV(c:AO):Bool:=decide ((c.chairs.length:Int)=c.beach.rows)&&c.chairs.all (fun l=>decide ((l.length:Int)=c.beach.places))
def F4(c:AO):Int :=
 if 3<c.fams.length then 3
 else if D7 c.beach≠0 then D7 c.beach
 else if EX c.beach c.plan=false then 2
 else if BR c.beach=[] then 11
 else if HV c=false then 1
 else if c.fams.all LH=false then 1 else 0
structure B7(c:AO):Prop where
 be:Valid c.beach
 pl:EX c.beach c.plan=true
 tr:BR c.beach≠[]
 fl:c.fams.length<=3
 ch:(c.chairs.length:Int)=c.beach.rows
 cr:∀l∈c.chairs,(l.length:Int)=c.beach.places
 fo:∀f∈c.fams,(1<=f.size/\f.size<=4)/\0<=f.good/\f.good<=5
theorem QB{c:AO}(h:F4 c=0):B7 c:=by
 unfold F4 at h;split at h
 ·cases h
 rename_i h1;split at h
 ·rename_i h2;exact absurd h h2
 rename_i h2;split at h
 ·cases h
 rename_i h3;split at h
 ·cases h
 rename_i h4;split at h
 ·cases h
 rename_i h5;split at h
 ·cases h
 rename_i h6;have hb:D7 c.beach=0:=Classical.byContradiction fun hh=>h2 hh;have h5:HV c=true:=by simpa using h5
 have h6:c.fams.all LH=true:=by simpa using h6
 simp only[HV,bj,decide_eq_true_eq,bw]at h5;refine⟨U1 hb,by simpa using h3,h4,by omega,h5.1,h5.2,fun f hf=>?_⟩;have:=bw.1 h6 f hf;simp only[LH,bj,DU]at this;exact this
structure Sp where
 fam:Nat
 size:Int
 row:Int
 place:Int
deriving DecidableEq
def D4(c:AO)(k:Nat):K7:=c.fams.getD k ⟨0,0,false,false⟩
def HW(c:AO)(a b:Nat):Bool:=decide (a≠b)&&((D4 c a).shy&&(D4 c b).dog||(D4 c a).dog&&(D4 c b).shy)
def DN(c:AO)(x:Sp):Bool:=GR x.row 0 (c.beach.rows-1)&&GR x.place 0 (c.beach.places-x.size)
def ZR(x y:Sp):Int:=max (x.place-y.place-y.size) (y.place-x.place-x.size)
def E1(c:AO)(x y:Sp):Bool:=decide (x.row≠y.row)||(decide (0<ZR x y)||(decide (ZR x y=0)&&!HW c x.fam y.fam))
def EC(c:AO):Nat:=(c.chairs.map fun l=>l.count true).sum
def FT(l:List Sp):Int:=(l.map Sp.size).sum
def FK(c:AO):List Sp->List Sp->Bool
 |_,[]=>true
 |before,x::r=>DN c x&&before.all (E1 c x)&&FK c (before++[x]) r
def ZA(c:AO)(l:List Sp):Bool:=FK c [] l&&decide (FT l<=EC c)
def JB(k:Nat):List K7->List (Int×Int)->List Sp
 |f::fs,s::ss=>⟨k,f.size,s.1,s.2⟩::JB (k+1) fs ss
 |_,_=>[]
def E2(c:AO)(K2:List (Int×Int)):List Sp:=JB 0 c.fams K2
def KG(c:AO)(K2:List (Int×Int)):Bool:=decide (K2.length=c.fams.length)&&ZA c (E2 c K2)
def R5(c:AO)(x y:Sp):Bool:=(bm y.size.toNat).any fun a=>(bm x.size.toNat).any fun b=>
 let d:=y.place+(a:Int)-x.place-(b:Int)
 decide (d=0)||((decide (d=1)||decide (d = -1))&&HW c y.fam x.fam)
def AEN(c:AO)(before:List Sp)(x:Sp):Bool:=DN c x&&before.all fun y=>decide (y.row≠x.row)||!R5 c x y
theorem AA5(c:AO)(a b:Nat):HW c a b=HW c b a:=by unfold HW;have:decide (a≠b)=decide (b≠a):=decide_eq_decide.2 ⟨Ne.symm,Ne.symm⟩;rw[this];cases (D4 c a).shy<;>cases (D4 c b).dog<;>cases (D4 c a).dog<;>cases (D4 c b).shy<;>simp
theorem AA6{c:AO}{x y:Sp}(hx:1<=x.size)(hy:1<=y.size):R5 c x y=true↔ZR x y<0\/(ZR x y=0/\HW c x.fam y.fam=true):=by
 unfold R5 ZR;simp only[List.any_eq_true,List.mem_range,bg,bj,decide_eq_true_eq,AA5 c y.fam x.fam];constructor
 ·rintro ⟨a,ha,b,hb,h|⟨h,hm⟩⟩
  ·left;omega
  ·by_cases h0:max (x.place-y.place-y.size) (y.place-x.place-x.size)=0
   ·exact .inr ⟨h0,hm⟩
   ·left;omega
 ·rintro (h|⟨h,hm⟩)
  ·by_cases hp:x.place<=y.place
   ·exact⟨0,by omega,(y.place-x.place).toNat,by omega,.inl (by omega)⟩
   ·exact⟨(x.place-y.place).toNat,by omega,0,by omega,.inl (by omega)⟩
  ·by_cases hp:x.place<=y.place
   ·exact⟨0,by omega,(x.size-1).toNat,by omega,.inr ⟨.inl (by omega),hm⟩⟩
   ·exact⟨(y.size-1).toNat,by omega,0,by omega,.inr ⟨.inr (by omega),hm⟩⟩
theorem tF{c:AO}{before:List Sp}{x:Sp}(hx:1<=x.size)(hb:∀y∈before,1<=y.size):AEN c before x=(DN c x&&before.all (E1 c x)):=by
 unfold AEN;congr 1;rw[Bool.eq_iff_iff,bw,bw];refine forall_congr' fun y=>forall_congr' fun hy=>?_;have h:=AA6 (c:=c) hx (hb y hy);unfold E1;simp only[bg,bj,decide_eq_true_eq,Bool.not_eq_true',<-Bool.not_eq_true];rw[h];have e:(y.row≠x.row)↔(x.row≠y.row):=⟨Ne.symm,Ne.symm⟩;rw[e];constructor
 ·rintro (h1|h1)
  ·exact .inl h1
  ·refine .inr ?_;by_cases h0:0<ZR x y
   ·exact .inl h0
   ·exact .inr ⟨by omega,fun hm=>h1 (.inr ⟨by omega,hm⟩)⟩
 ·rintro (h1|h1|⟨h1,h2⟩)
  ·exact .inl h1
  ·exact .inr fun h3=>by rcases h3 with h3|⟨h3,_⟩<;>omega
  ·exact .inr fun h3=>by
    rcases h3 with h3|⟨_,h3⟩
    ·omega
    ·exact h2 h3
theorem KB:∀{k:Nat} {fs:List K7} {ss:List (Int×Int)},ss.length=fs.length->(JB k fs ss).length=fs.length
 |_,[],_,_=>rfl
 |_,_::_,[],h=>by simp at h
 |k,f::fs,s::ss,h=>by simp only[JB,List.length_cons,KB (k:=k+1) (fs:=fs) (ss:=ss) (by simpa using h)]
theorem TC:∀{k:Nat} {fs:List K7} {ss:List (Int×Int)},ss.length=fs.length->FT (JB k fs ss)=(fs.map K7.size).sum
 |_,[],_,_=>rfl
 |_,_::_,[],h=>by simp at h
 |k,f::fs,s::ss,h=>by have ih:=TC (k:=k+1) (fs:=fs) (ss:=ss) (by simpa using h);unfold FT at ih|-;simp only[JB,bn,List.sum_cons,ih]
theorem TD:∀{k:Nat} {fs:List K7} {ss:List (Int×Int)} (j:Nat) (h1:j<fs.length) (h2:j<ss.length) (h3:j<(JB k fs ss).length),(JB k fs ss)[j]=⟨k+j,fs[j].size,ss[j].1,ss[j].2⟩
 |_,[],_,_,h1,_,_=>by simp at h1
 |_,_::_,[],_,_,h2,_=>by simp at h2
 |k,f::fs,s::ss,0,_,_,_=>rfl
 |k,f::fs,s::ss,j+1,h1,h2,h3=>by simp only[JB,List.getElem_cons_succ];rw[TD j (by simpa using h1) (by simpa using h2) (by simpa [JB]using h3),show k+1+j=k+(j+1) by omega]
structure CE where
 sun:Int
 carried:Int
 enough:Bool
deriving DecidableEq
def DC(sure:List (List Int))(r p:Int):Int:=(sure.getD r.toNat []).getD p.toNat 0
def QC(c:AO)(r p:Int):Bool:=(c.chairs.getD r.toNat []).getD p.toNat false
def BM(c:AO)(sure:List (List Int))(x:Sp):CE :=
  ⟨E3 (fun p=>DC sure x.row (x.place+(p:Int))) x.size.toNat,
   E3 (fun p=>if QC c x.row (x.place+(p:Int))=true then 0 else 1) x.size.toNat,
   (bm x.size.toNat).all fun p=>decide ((D4 c x.fam).good<=DC sure x.row (x.place+(p:Int)))⟩
def FU(c:AO)(sure:List (List Int)):List (Nat×Int)->List Sp->List (List Sp)
 |[],out=>[out]
 |g::gs,out=>(bm c.beach.rows.toNat).flatMap fun (r:Nat)=>(bm (c.beach.places-g.2+1).toNat).flatMap fun (p:Nat)=>
  if ((BM c sure ⟨g.1,g.2,(r:Int),(p:Int)⟩).enough&&out.all (E1 c ⟨g.1,g.2,(r:Int),(p:Int)⟩))=true then FU c sure gs (out++[⟨g.1,g.2,(r:Int),(p:Int)⟩]) else[]
def EN(c:AO)(sure:List (List Int))(l:List Sp):CE:=l.foldl (fun t x=>let s:=BM c sure x;⟨t.sun+s.sun,t.carried+s.carried,t.enough&&s.enough⟩) ⟨0,0,true⟩
def EP(c:AO)(sure:List (List Int))(acc:Option (List Sp×CE))(l:List Sp):Option (List Sp×CE) :=
 let s:=EN c sure l
 match acc with
 |some (b,t)=>if s.sun<t.sun\/(s.sun=t.sun/\t.carried<=s.carried) then some (b,t) else some (l,s)
 |none=>some (l,s)
def AEO(c:AO)(sure:List (List Int))(ls:List (List Sp)):Option (List Sp×CE):=ls.foldl (EP c sure) none
theorem ZS{c:AO}{sure:List (List Int)}:∀(ls:List (List Sp)) (acc:Option (List Sp×CE)),(match ls.foldl (EP c sure) acc with
  |some (b,t)=>(b∈ls/\t=EN c sure b)\/acc=some (b,t)
  | none=>ls=[]/\acc=none)
 |[],acc=>by
  cases acc with
  |none=>exact⟨rfl,rfl⟩
  |some bt=>exact .inr rfl
 |l::ls,acc=>by
  have ih:=ZS (c:=c) (sure:=sure) ls (EP c sure acc l);simp only[List.foldl_cons];generalize ls.foldl (EP c sure) (EP c sure acc l)=R at ih|-;have hstep:EP c sure acc l=acc/\acc≠none\/EP c sure acc l=some (l,EN c sure l):=by
   cases acc with
   |none=>exact .inr rfl
   |some bt=>
    obtain⟨b,t⟩:=bt
    simp only[EP]
    split
    ·exact .inl ⟨rfl,by simp⟩
    ·exact .inr rfl
  cases R with
  |none=>
   obtain⟨_,h2⟩:=ih
   rcases hstep with⟨e,h⟩|e
   ·rw[e]at h2;exact absurd h2 h
   ·rw[e]at h2;cases h2
  |some bt=>
   obtain⟨b,t⟩:=bt
   simp only at ih|-
   rcases ih with⟨h1,h2⟩|h
   ·exact .inl ⟨by simp[h1],h2⟩
   ·rcases hstep with⟨e,_⟩|e
    ·rw[e]at h;exact .inr h
    ·rw[e]at h;cases h;exact .inl ⟨by simp,rfl⟩
end Go.Wind
open Go Go.Pg Go.Proofs Go.Wind
namespace Go.Proofs.Tryz.Op
def BH(x:Bool):List V:=[.bool x]
abbrev lb(l:List Bool):V:=.list false (l.map BH)
def AW(l:List Bool):List V:=[lb l]
def AS(f:K7):List V:=[i f.size,i f.good,.bool f.dog,.bool f.shy]
def A8(x:Sp):List V:=[i (x.fam:Int),i x.size,i x.row,i x.place]
def AD(c:AO):List V:=[i c.beach.last,i c.beach.rows,i c.beach.places,i c.beach.reach,li c.beach.face,li c.beach.sun,HU c.beach.winds,.list false (c.beach.breaks.map AJ),.list false (c.beach.notes.map AJ),HU c.plan,.list false (c.chairs.map AW),.list false (c.fams.map AS)]
def okF(f:K7):Prop:=LG f.size/\LG f.good
structure okC(c:AO):Prop where
 b:okB c.beach
 p:∀l∈c.plan,∀n∈l,LG n
 f:∀f∈c.fams,okF f
end Go.Proofs.Tryz.Op
namespace Go.Wind
theorem ZT(c:AO):∀(a before r:List Sp),FK c before (a++r)=(FK c before a&&FK c (before++a) r)
 |[],before,r=>by simp[FK]
 |x::a,before,r=>by simp only[List.cons_append,FK,ZT c a (before++[x]) r,bz,Bool.and_assoc];rfl
theorem XW(c:AO):∀(a before:List Sp),FK c before a=true->∀x∈a,DN c x=true
 |[],_,_,_,hx=>by cases hx
 |y::a,before,h,x,hx=>by
  simp only[FK,bj]at h;rcases List.mem_cons.1 hx with rfl|hx
  ·exact h.1.1
  ·exact XW c a _ h.2 x hx
end Go.Wind
namespace Go.Proofs.Tryz.Op
def wX{σ:Type}(U:σ->List AA)(I:σ->Prop)(K:Nat)(f:cq)(cap:List V)(p:σ->List Bool->Bool)(nx:σ->List Bool->σ)(xs:List (List Bool))(c0:Nat):Prop:=∀n c fr s x,c0<=c->I s->x∈xs->(p s x=false->I (nx s x))/\∃c',c<=c'/\HT (BQ ck ann kn (n+K)) (some 16) ⟨c,fr,⟨U s,[]⟩⟩ f (lb x::cap)=some ⟨c',(16,true,.bool (p s x))::fr,⟨U (nx s x),[]⟩⟩
theorem wY{σ:Type}(n K:Nat)(U:σ->List AA)(I:σ->Prop)(f:cq)(cap:List V)(hcw:cap.map weakV=cap)(p:σ->List Bool->Bool)(nx:σ->List Bool->σ)(xs:List (List Bool))(c0:Nat)(hp:wX U I K f cap p nx xs c0)(hl:xs.length<=1000):∀(d k:Nat) (s:σ) (c m:Nat),k+d=xs.length->d<m->c0<=c->I s ->
  ∃(c':Nat) (j:Int),c<=c'/\0<=j/\BI (AE ck ann kn (n+K+50) 19) UB (ann 19 (BZ UB)) m ⟨c,[(0,true,.list false (xs.map AW)),(1,true,.fn f [] cap),(7,true,i xs.length),(8,true,i k)],⟨U s,[]⟩⟩ =
   bif (B0 p nx s (xs.drop k)).1 then some (.ret,⟨c',[(4,true,i j),(17,true,i j),(5,true,i j)],⟨U (B0 p nx s (xs.drop k)).2,[]⟩⟩)
   else some (.exit 0,⟨c',[(9,true,.bool false),(0,true,.list false (xs.map AW)),(1,true,.fn f [] cap),(7,true,i xs.length),(8,true,i xs.length)],⟨U (B0 p nx s (xs.drop k)).2,[]⟩⟩)
 |0,k,s,c,m+1,hd,hm,hc0,hi=>by
  have:k=xs.length:=by omega
  subst this;refine⟨c,0,cj _,by omega,?_⟩;simp[AB,B0]
 |d+1,k,s,c,m+1,hd,hm,hc0,hi=>by
  have hk:k<xs.length:=by omega
  have hw:=BS (k:=k) (by omega);have nrm:∀a:Nat,n+K+a=(n+a)+K:=fun a=>by omega
  rw[AB,bx hk];simp only[B0];obtain⟨hi',c1,hc1,q⟩:=hp (n+43) c [(15,true,lb xs[k]),(14,true,.ref (AW xs[k])),(13,true,i k),(12,true,.list false (xs.map AW)),(11,true,.fn f [] cap),(0,true,.list false (xs.map AW)),(1,true,.fn f [] cap),(5,true,i k),(7,true,i xs.length),(8,true,i k)] s xs[k] hc0 hi (List.getElem_mem hk);generalize e:p s xs[k]=b at q hi';cases b with
  |true=>
   refine⟨c1,k,hc1,by omega,?_⟩
   try simp only[AW]at q
   rw[<-nrm]at q
   try simp at q
   simp[hk,hw,AW,q,hcw]
  |false=>
   obtain⟨c',j,h1,h2,ih⟩:=wY n K U I f cap hcw p nx xs c0 hp hl d (k+1) (nx s xs[k]) c1 m (by omega) (by omega) (by omega) (hi' rfl)
   refine⟨c',j,by omega,h2,?_⟩
   try simp only[AW]at q ih
   rw[<-nrm]at q
   try simp at q
   simp at ih
   simp[hk,hw,AW,q,ih,hcw]
theorem ALA{σ:Type}(n K:Nat)(up:σ->List AA)(loc:σ->AA)(I:σ->Prop)(f:cq)(cap:List V)(hcw:cap.map weakV=cap)(hco:cap.all (AG 8)=false)(p:σ->List Bool->Bool)(nx:σ->List Bool->σ)(xs:List (List Bool))(c0:Nat)(hp:wX (fun s=>up s++[loc s]) I K f cap p nx xs c0)(hl:xs.length<=40)(hsh:∀s (t:St),(up s).length+1<=t.up.length->(up s++[loc s]).map (AK t)=up s++[loc s])(c dd:Nat)(fr:Fr)(s:σ)(hc0:c0<=c)(hi:I s) :
  ∃(c':Nat) (j:Int),c<=c'/\decide (0<=j)=(B0 p nx s xs).1/\HT (BQ ck ann kn (n+K+100)) (some dd) ⟨c,fr,⟨up s,loc s⟩⟩ 187 [.list false (xs.map AW),.fn f [] cap]=some ⟨c',(dd,true,i j)::fr,⟨up (B0 p nx s xs).2,loc (B0 p nx s xs).2⟩⟩:=by
 obtain⟨c1,j,h1,h2,q⟩:=wY (n+45) K (fun s=>up s++[loc s]) I f cap hcw p nx xs c0 hp (by omega) xs.length 0 s c (n+K+95) (by omega) (by omega) hc0 hi
 have e:n+45+K+50=n+K+95:=by omega
 rw[e]at q
 have hcl:([V.list false (xs.map AW),V.fn f [] cap]).all (AG 9)=false:=by simp[hco]
 have hs:=fun s=>hsh s ⟨up s++[loc s],[]⟩ (by simp)
 simp at hs
 rw[A7 Tryz.func187 b187 rfl hcl]
 simp only[List.drop_zero]at q
 generalize (B0 p nx s xs).2=s' at q|-
 generalize e:(B0 p nx s xs).1=b at q
 cases b with
 |true=>
  refine⟨c1,j,h1,by simpa using h2,?_⟩
  simp at q
  simp[AUI,AF,q,hs]
 |false=>
  refine⟨c1,-1,h1,by simp,?_⟩
  simp at q
  simp[AUI,AF,q,hs]
theorem A4Z{σ:Type}(n K:Nat)(up:σ->List AA)(loc:σ->AA)(I:σ->Prop)(f:cq)(cap:List V)(hcw:cap.map weakV=cap)(hco:cap.all (AG 8)=false)(p:σ->List Bool->Bool)(nx:σ->List Bool->σ)(xs:List (List Bool))(c0:Nat)(hp:wX (fun s=>up s++[loc s]++[[]]) I K f cap p nx xs c0)(hl:xs.length<=40)(hsh:∀s (t:St),(up s).length+1<=t.up.length->(up s++[loc s]).map (AK t)=up s++[loc s])(c dd:Nat)(fr:Fr)(s:σ)(hc0:c0<=c)(hi:I s) :
  ∃c':Nat,c<=c'/\HT (BQ ck ann kn (n+K+200)) (some dd) ⟨c,fr,⟨up s,loc s⟩⟩ 159 [.list false (xs.map AW),.fn f [] cap]=some ⟨c',(dd,true,.bool (B0 p nx s xs).1)::fr,⟨up (B0 p nx s xs).2,loc (B0 p nx s xs).2⟩⟩:=by
 have hcl:([V.list false (xs.map AW),V.fn f [] cap]).all (AG 9)=false:=by simp[hco]
 have hsh2:∀s (t:St),(up s++[loc s]).length+1<=t.up.length->(up s++[loc s]++[[]]).map (AK t)=up s++[loc s]++[[]]:=fun s t h=>by have:=hsh s t (by simp at h;omega);simp only[List.map_append,bn,List.map_nil,GG]at this|-;rw[this]
 obtain⟨c1,j,h1,h2,q⟩:=ALA (n+97) K (fun s=>up s++[loc s]) (fun _=>[]) I f cap hcw hco p nx xs c0 hp hl hsh2 c 7 [(6,true,.fn f [] cap),(5,true,.list false (xs.map AW)),(0,true,.list false (xs.map AW)),(1,true,.fn f [] cap)] s hc0 hi
 refine⟨c1,h1,?_⟩
 have e:n+97+K+100=n+K+197:=by omega
 rw[e]at q
 have hs:=fun s=>hsh s ⟨up s++[loc s],[]⟩ (by simp)
 simp at hs
 rw[A7 Tryz.func159 b159 rfl hcl]
 simp[A68,AF,hcw,q,h2,hs]
theorem AP3(n K:Nat)(b:AO)(f:cq)(p:List Bool->Bool)(xs:List (List Bool))(hl:xs.length<=40)(hf:∀n x,x∈xs->A3 ck kn (AE ck ann kn (n+K)) f [.agg (AD b),lb x]=some (.bool (p x)))(hh:BT ck f=false:=by simp) :
  A3 ck kn (AE ck ann kn (n+K+300)) 119 [.list false (xs.map AW),.fn f [.agg (AD b)] []]=some (.bool (xs.all p)):=by
 rw[AP rfl,AQ Tryz.func119 BIF rfl (by simp[AD,AH,AN,AJ,AW,BH,AS])]
 have hp2:wX (fun (_:Unit)=>[]++[[(3,0,AZ.box [V.fn f [.agg (AD b)] []])]]++[[]]) (fun _=>True) (K+20) 160 [.ptr 0 3 0 0] (fun _ x=>!p x) (fun _ _=>()) xs 0:=by
  intro n c1 fr s x hc0 hi hx;refine⟨fun _=>trivial,c1,by omega,?_⟩;have q:=fun n=>hf n x hx;have q2:=q (n+17);have e:n+17+K=n+K+17:=by omega
  rw[e]at q2;simp only[AD]at q2|-;rw[show n+(K+20)=n+K+20 from by omega,bq,A7 Tryz.func160 b160 rfl (by simp)];simp[A7A,AF,AD,AH,AN,AJ,AW,BH,AS,q2,hh];try simp[AD,AH,AN,AJ,AW,BH,AS,q2,hh]
 obtain⟨c',h1,q⟩:=A4Z (n+77) (K+20) (fun _=>[]) (fun _=>[(3,0,.box [.fn f [.agg (AD b)] []])]) (fun _=>True) 160 [.ptr 0 3 0 0] (by simp) (by simp) (fun _ x=>!p x) (fun _ _=>()) xs 0 hp2 hl (by simp[AD,AH,AN,AJ,AW,BH,AS]) 1 7 [(6,true,.fn 160 [] [.ptr 0 3 0 0]),(5,true,.list false (xs.map AW)),(0,true,.list false (xs.map AW)),(1,true,.fn f [.agg (AD b)] []),(3,true,.ptr 0 3 0 0)] () (bk _) trivial
 have e:n+77+(K+20)+200=n+K+297:=by omega
 rw[e,GP]at q
 have:=L5 p xs
 simp only[AD]at q|-
 simp[A69,AF,q]
 rw[<-this,Bool.not_not]
def wZ{σ:Type}(U:σ->List AA)(I:σ->Prop)(K:Nat)(f:cq)(cap:List V)(p:σ->K7->Bool)(nx:σ->K7->σ)(xs:List (K7))(c0:Nat):Prop:=∀n c fr s x,c0<=c->I s->x∈xs->(p s x=false->I (nx s x))/\∃c',c<=c'/\HT (BQ ck ann kn (n+K)) (some 16) ⟨c,fr,⟨U s,[]⟩⟩ f (.agg (AS x)::cap)=some ⟨c',(16,true,.bool (p s x))::fr,⟨U (nx s x),[]⟩⟩
theorem xA{σ:Type}(n K:Nat)(U:σ->List AA)(I:σ->Prop)(f:cq)(cap:List V)(hcw:cap.map weakV=cap)(p:σ->K7->Bool)(nx:σ->K7->σ)(xs:List (K7))(c0:Nat)(hp:wZ U I K f cap p nx xs c0)(hl:xs.length<=1000):∀(d k:Nat) (s:σ) (c m:Nat),k+d=xs.length->d<m->c0<=c->I s ->
  ∃(c':Nat) (j:Int),c<=c'/\0<=j/\BI (AE ck ann kn (n+K+50) 19) UC (ann 19 (BZ UC)) m ⟨c,[(0,true,.list false (xs.map AS)),(1,true,.fn f [] cap),(7,true,i xs.length),(8,true,i k)],⟨U s,[]⟩⟩ =
   bif (B0 p nx s (xs.drop k)).1 then some (.ret,⟨c',[(4,true,i j),(17,true,i j),(5,true,i j)],⟨U (B0 p nx s (xs.drop k)).2,[]⟩⟩)
   else some (.exit 0,⟨c',[(9,true,.bool false),(0,true,.list false (xs.map AS)),(1,true,.fn f [] cap),(7,true,i xs.length),(8,true,i xs.length)],⟨U (B0 p nx s (xs.drop k)).2,[]⟩⟩)
 |0,k,s,c,m+1,hd,hm,hc0,hi=>by
  have:k=xs.length:=by omega
  subst this;refine⟨c,0,cj _,by omega,?_⟩;simp[AB,B0]
 |d+1,k,s,c,m+1,hd,hm,hc0,hi=>by
  have hk:k<xs.length:=by omega
  have hw:=BS (k:=k) (by omega);have nrm:∀a:Nat,n+K+a=(n+a)+K:=fun a=>by omega
  rw[AB,bx hk];simp only[B0];obtain⟨hi',c1,hc1,q⟩:=hp (n+43) c [(15,true,.agg (AS xs[k])),(14,true,.ref (AS xs[k])),(13,true,i k),(12,true,.list false (xs.map AS)),(11,true,.fn f [] cap),(0,true,.list false (xs.map AS)),(1,true,.fn f [] cap),(5,true,i k),(7,true,i xs.length),(8,true,i k)] s xs[k] hc0 hi (List.getElem_mem hk);generalize e:p s xs[k]=b at q hi';cases b with
  |true=>
   refine⟨c1,k,hc1,by omega,?_⟩
   try simp only[AS]at q
   rw[<-nrm]at q
   try simp at q
   simp[hk,hw,AS,q,hcw]
  |false=>
   obtain⟨c',j,h1,h2,ih⟩:=xA n K U I f cap hcw p nx xs c0 hp hl d (k+1) (nx s xs[k]) c1 m (by omega) (by omega) (by omega) (hi' rfl)
   refine⟨c',j,by omega,h2,?_⟩
   try simp only[AS]at q ih
   rw[<-nrm]at q
   try simp at q
   simp at ih
   simp[hk,hw,AS,q,ih,hcw]
theorem ALB{σ:Type}(n K:Nat)(up:σ->List AA)(loc:σ->AA)(I:σ->Prop)(f:cq)(cap:List V)(hcw:cap.map weakV=cap)(hco:cap.all (AG 8)=false)(p:σ->K7->Bool)(nx:σ->K7->σ)(xs:List (K7))(c0:Nat)(hp:wZ (fun s=>up s++[loc s]) I K f cap p nx xs c0)(hl:xs.length<=40)(hsh:∀s (t:St),(up s).length+1<=t.up.length->(up s++[loc s]).map (AK t)=up s++[loc s])(c dd:Nat)(fr:Fr)(s:σ)(hc0:c0<=c)(hi:I s) :
  ∃(c':Nat) (j:Int),c<=c'/\decide (0<=j)=(B0 p nx s xs).1/\HT (BQ ck ann kn (n+K+100)) (some dd) ⟨c,fr,⟨up s,loc s⟩⟩ 188 [.list false (xs.map AS),.fn f [] cap]=some ⟨c',(dd,true,i j)::fr,⟨up (B0 p nx s xs).2,loc (B0 p nx s xs).2⟩⟩:=by
 obtain⟨c1,j,h1,h2,q⟩:=xA (n+45) K (fun s=>up s++[loc s]) I f cap hcw p nx xs c0 hp (by omega) xs.length 0 s c (n+K+95) (by omega) (by omega) hc0 hi
 have e:n+45+K+50=n+K+95:=by omega
 rw[e]at q
 have hcl:([V.list false (xs.map AS),V.fn f [] cap]).all (AG 9)=false:=by simp[hco]
 have hs:=fun s=>hsh s ⟨up s++[loc s],[]⟩ (by simp)
 simp at hs
 rw[A7 Tryz.func188 b188 rfl hcl]
 simp only[List.drop_zero]at q
 generalize (B0 p nx s xs).2=s' at q|-
 generalize e:(B0 p nx s xs).1=b at q
 cases b with
 |true=>
  refine⟨c1,j,h1,by simpa using h2,?_⟩
  simp at q
  simp[AUJ,AF,q,hs]
 |false=>
  refine⟨c1,-1,h1,by simp,?_⟩
  simp at q
  simp[AUJ,AF,q,hs]
theorem A40{σ:Type}(n K:Nat)(up:σ->List AA)(loc:σ->AA)(I:σ->Prop)(f:cq)(cap:List V)(hcw:cap.map weakV=cap)(hco:cap.all (AG 8)=false)(p:σ->K7->Bool)(nx:σ->K7->σ)(xs:List (K7))(c0:Nat)(hp:wZ (fun s=>up s++[loc s]++[[]]) I K f cap p nx xs c0)(hl:xs.length<=40)(hsh:∀s (t:St),(up s).length+1<=t.up.length->(up s++[loc s]).map (AK t)=up s++[loc s])(c dd:Nat)(fr:Fr)(s:σ)(hc0:c0<=c)(hi:I s) :
  ∃c':Nat,c<=c'/\HT (BQ ck ann kn (n+K+200)) (some dd) ⟨c,fr,⟨up s,loc s⟩⟩ 161 [.list false (xs.map AS),.fn f [] cap]=some ⟨c',(dd,true,.bool (B0 p nx s xs).1)::fr,⟨up (B0 p nx s xs).2,loc (B0 p nx s xs).2⟩⟩:=by
 have hcl:([V.list false (xs.map AS),V.fn f [] cap]).all (AG 9)=false:=by simp[hco]
 have hsh2:∀s (t:St),(up s++[loc s]).length+1<=t.up.length->(up s++[loc s]++[[]]).map (AK t)=up s++[loc s]++[[]]:=fun s t h=>by have:=hsh s t (by simp at h;omega);simp only[List.map_append,bn,List.map_nil,GG]at this|-;rw[this]
 obtain⟨c1,j,h1,h2,q⟩:=ALB (n+97) K (fun s=>up s++[loc s]) (fun _=>[]) I f cap hcw hco p nx xs c0 hp hl hsh2 c 7 [(6,true,.fn f [] cap),(5,true,.list false (xs.map AS)),(0,true,.list false (xs.map AS)),(1,true,.fn f [] cap)] s hc0 hi
 refine⟨c1,h1,?_⟩
 have e:n+97+K+100=n+K+197:=by omega
 rw[e]at q
 have hs:=fun s=>hsh s ⟨up s++[loc s],[]⟩ (by simp)
 simp at hs
 rw[A7 Tryz.func161 b161 rfl hcl]
 simp[A7B,AF,hcw,q,h2,hs]
theorem AP4(n K:Nat)(f:cq)(p:K7->Bool)(xs:List (K7))(hl:xs.length<=40)(hf:∀n x,x∈xs->A3 ck kn (AE ck ann kn (n+K)) f [.agg (AS x)]=some (.bool (p x)))(hh:BT ck f=false:=by simp) :
  A3 ck kn (AE ck ann kn (n+K+300)) 120 [.list false (xs.map AS),.fn f [] []]=some (.bool (xs.all p)):=by
 rw[AP rfl,AQ Tryz.func120 BIG rfl (by simp[AC,AH,AN,AJ,AW,BH,AS])]
 have hp2:wZ (fun (_:Unit)=>[]++[[(3,0,AZ.box [V.fn f [] []])]]++[[]]) (fun _=>True) (K+20) 162 [.ptr 0 3 0 0] (fun _ x=>!p x) (fun _ _=>()) xs 0:=by
  intro n c1 fr s x hc0 hi hx;refine⟨fun _=>trivial,c1+1,by omega,?_⟩;have q:=fun n=>hf n x hx;have q2:=q (n+17);have e:n+17+K=n+K+17:=by omega
  rw[e]at q2;simp only[AS]at q2|-;rw[show n+(K+20)=n+K+20 from by omega,bq,A7 Tryz.func162 b162 rfl (by simp)];simp[A7D,AF,AH,q2,hh];try simp[AH,q2,hh]
 obtain⟨c',h1,q⟩:=A40 (n+77) (K+20) (fun _=>[]) (fun _=>[(3,0,.box [.fn f [] []])]) (fun _=>True) 162 [.ptr 0 3 0 0] (by simp) (by simp) (fun _ x=>!p x) (fun _ _=>()) xs 0 hp2 hl (by simp[AC,AH,AN,AJ,AW,BH,AS]) 1 7 [(6,true,.fn 162 [] [.ptr 0 3 0 0]),(5,true,.list false (xs.map AS)),(0,true,.list false (xs.map AS)),(1,true,.fn f [] []),(3,true,.ptr 0 3 0 0)] () (bk _) trivial
 have e:n+77+(K+20)+200=n+K+297:=by omega
 rw[e,GP]at q
 have:=L5 p xs
 skip
 simp[A7C,AF,q]
 rw[<-this,Bool.not_not]
def DD(f:Nat->Option (List Int)):Nat->Nat->Option (List Int)
 |0,_=>none
 |e+1,j=>match f j with
  |some x=>some x
  |none=>DD f e (j+1)
def EA(P:List Int->Bool)(N:Nat):Nat->Nat->List Int->Option (List Int)
 |0,_,out=>if P out=true then some out else none
 |m+1,fr,out=>DD (fun j=>EA P N m (j+1) (out++[(j:Int)])) (N-m-fr) fr
def R6(P:List Int->Bool)(N:Nat):Option (List Int):=DD (fun m=>EA P N m 0 []) (N+1) 0
def GW(P:List Int->Bool)(N x:Nat)(y:List Int):List Int:=if (GF (C9 x N) y&&P (C9 x N))=true then C9 x N else y
def goG(P:List Int->Bool)(N:Nat):Nat->Nat->List Int->List Int
 |0,_,y=>y
 |d+1,x,y=>goG P N d (x+1) (GW P N x y)
def xB(P:List Int->Bool)(N:Nat):List Int:=goG P N (2 ^ N) 0 (C9 (2 ^ N-1) N)
def KH(N:Nat):Nat->List Int->Prop
 |_,[]=>True
 |fr,a::r=>∃i:Nat,a=i/\fr<=i/\i<N/\KH N (i+1) r
theorem KH.more{N:Nat}:∀{l:List Int} {fr:Nat},KH N fr l->KH (N+1) fr l
 |[],_,_=>trivial
 |_::_,_,⟨i,e,h1,h2,h3⟩=>⟨i,e,h1,by omega,h3.more⟩
theorem KH.snoc{N:Nat}:∀{l:List Int} {fr:Nat},fr<=N->KH N fr l->KH (N+1) fr (l++[(N:Int)])
 |[],fr,hf,_=>⟨N,rfl,hf,by omega,trivial⟩
 |_::_,_,_,⟨i,e,h1,h2,h3⟩=>⟨i,e,h1,by omega,h3.snoc (by omega)⟩
theorem KH.split{N:Nat}:∀{l:List Int} {fr:Nat},KH (N+1) fr l->KH N fr l\/∃l',l=l'++[(N:Int)]/\KH N fr l'
 |[],_,_=>.inl trivial
 |a::r,fr,⟨i,e,h1,h2,h3⟩=>by
  by_cases hi:i=N
  ·subst hi;cases r with
   |nil=>exact .inr ⟨[],by rw[e];rfl,trivial⟩
   |cons a' r'=>
    obtain⟨i',_,h1',h2',_⟩:=h3
    omega
  ·rcases h3.split with h|⟨l',e',h⟩
   ·exact .inl ⟨i,e,h1,by omega,h⟩
   ·exact .inr ⟨a::l',by rw[e'];rfl,i,e,h1,by omega,h⟩
theorem TE(x:Nat):∀N,KH N 0 (C9 x N)
 |0=>trivial
 |N+1=>by
  rw[I3];split
  ·exact(TE x N).snoc (bk _)
  ·exact(TE x N).more
theorem XX{x y:Nat}:∀(N:Nat),(∀i,i<N->x.testBit i=y.testBit i)->C9 x N=C9 y N
 |0,_=>rfl
 |N+1,h=>by rw[I3,I3,XX N fun i hi=>h i (by omega),h N (by omega)]
theorem ZU:∀(N:Nat) (l:List Int),KH N 0 l->∃x,x<2 ^ N/\l=C9 x N
 |0,[],_=>⟨0,by decide,rfl⟩
 |0,a::r,h=>by obtain⟨i,_,_,h2,_⟩:=h;omega
 |N+1,l,h=>by
  have hp:2 ^ (N+1)=2 ^ N+2 ^ N:=by rw[Nat.pow_succ];omega
  rcases h.split with h2|⟨l',rfl,h2⟩
  ·obtain⟨x,hx,rfl⟩:=ZU N l h2;refine⟨x,by omega,?_⟩;rw[I3,bb hx];rfl
  ·obtain⟨x,hx,rfl⟩:=ZU N l' h2;refine⟨2 ^ N+x,by omega,?_⟩;have h1:(2 ^ N+x).testBit N=true:=by rw[Nat.testBit_two_pow_add_eq,bb hx];rfl
   have h2:∀i,i<N->(2 ^ N+x).testBit i=x.testBit i:=fun i hi=>Nat.testBit_two_pow_add_gt hi x;rw[I3,h1,if_pos rfl,XX N h2]
theorem RL:∀l:List Int,F0 l l=false
 |[]=>rfl
 |a::r=>by unfold F0;rw[if_pos rfl];exact RL r
theorem ZV:∀{l k:List Int},l.length=k.length->F0 l k=false->F0 k l=false->l=k
 |[],[],_,_,_=>rfl
 |[],_::_,h,_,_=>by simp at h
 |_::_,[],h,_,_=>by simp at h
 |a::l,b::k,h,h1,h2=>by
  unfold F0 at h1 h2;by_cases e:a=b
  ·rw[if_pos e]at h1;rw[if_pos e.symm]at h2;rw[e,ZV (by simpa using h) h1 h2]
  ·rw[if_neg e]at h1;rw[if_neg fun hh=>e hh.symm]at h2;have h1:=of_decide_eq_false h1;have h2:=of_decide_eq_false h2;omega
theorem AA7{l k:List Int}(h1:GF l k=false)(h2:GF k l=false):l=k:=by
 unfold GF at h1 h2;simp only[bh,bc,decide_eq_false_iff_not]at h1 h2;have e:l.length=k.length:=by omega
 exact ZV e (h1.2.resolve_left fun hh=>hh e) (h2.2.resolve_left fun hh=>hh e.symm)
theorem R7{f:Nat->Option (List Int)}:∀{e j:Nat} {y:List Int},DD f e j=some y->∃i,j<=i/\i<j+e/\f i=some y/\∀k,j<=k->k<i->f k=none
 |0,_,_,h=>by cases h
 |e+1,j,y,h=>by
  unfold DD at h;cases hf:f j with
  |some x=>
   rw[hf]at h
   cases h
   exact⟨j,cj _,by omega,hf,fun k h1 h2=>by omega⟩
  |none=>
   rw[hf]at h
   obtain⟨i,h1,h2,h3,h4⟩:=R7 h
   refine⟨i,by omega,by omega,h3,fun k k1 k2=>?_⟩
   by_cases hk:k=j
   ·rw[hk];exact hf
   ·exact h4 k (by omega) k2
theorem R8{f:Nat->Option (List Int)}:∀{e j:Nat},DD f e j=none->∀k,j<=k->k<j+e->f k=none
 |0,_,_,k,h1,h2=>by omega
 |e+1,j,h,k,h1,h2=>by
  unfold DD at h;cases hf:f j with
  |some x=>rw[hf]at h;cases h
  |none=>
   rw[hf]at h
   by_cases hk:k=j
   ·rw[hk];exact hf
   ·exact R8 h k (by omega) (by omega)
theorem TF{N:Nat}:∀{l:List Int} {fr:Nat},KH N fr l->fr<=N->fr+l.length<=N
 |[],_,_,h=>h
 |_::r,fr,⟨i,_,h1,h2,h3⟩,_=>by have:=TF h3 (by omega);simp;omega
theorem KC(P:List Int->Bool)(N:Nat):∀(m fr:Nat) (out:List Int),fr<=N ->
  match EA P N m fr out with
  |some y=>∃t,y=out++t/\t.length=m/\KH N fr t/\P y=true/\∀t',t'.length=m->KH N fr t'->P (out++t')=true->F0 t' t=false
  |none=>∀t',t'.length=m->KH N fr t'->P (out++t')=false
 |0,fr,out,_=>by
  unfold EA;by_cases h:P out=true
  ·rw[if_pos h];exact⟨[],by simp,rfl,trivial,h,fun t' _ _ _=>vX t'⟩
  ·rw[if_neg h];intro t' h1 _;have:t'=[]:=List.eq_nil_of_length_eq_zero h1;subst this;rw[List.append_nil];simpa using h
 |m+1,fr,out,hfr=>by
  have hsr:EA P N (m+1) fr out=DD (fun j=>EA P N m (j+1) (out++[(j:Int)])) (N-m-fr) fr:=rfl;rw[hsr];have key:∀t',t'.length=m+1->KH N fr t'->∃(i:Nat) (r:List Int),t'=(i:Int)::r/\fr<=i/\i<fr+(N-m-fr)/\r.length=m/\KH N (i+1) r:=by
   intro t' h1 h2;cases t' with
   |nil=>simp at h1
   |cons a r=>
    obtain⟨i,e,h3,h4,h5⟩:=h2
    have:=TF h5 (by omega)
    have hr:r.length=m:=by simpa using h1
    exact⟨i,r,by rw[e],h3,by omega,hr,h5⟩
  cases hq:DD (fun j=>EA P N m (j+1) (out++[(j:Int)])) (N-m-fr) fr with
  |some y=>
   obtain⟨i,h1,h2,h3,h4⟩:=R7 hq
   have ih:=KC P N m (i+1) (out++[(i:Int)]) (by omega)
   rw[h3]at ih
   obtain⟨t,e,hl,hi,hp,hmin⟩:=ih
   refine⟨(i:Int)::t,by rw[e];simp,by simp[hl],⟨i,rfl,h1,by omega,hi⟩,hp,fun t' ht' hi' hp'=>?_⟩
   obtain⟨i',r,rfl,g1,g2,g3,g4⟩:=key t' ht' hi'
   unfold F0
   by_cases e':i'=i
   ·subst e';rw[if_pos rfl];exact hmin r g3 g4 (by simpa using hp')
   ·rw[if_neg (by omega)];by_cases hlt:i'<i
    ·have hn:=h4 i' g1 hlt;have ih':=KC P N m (i'+1) (out++[(i':Int)]) (by omega);rw[hn]at ih';have:=ih' r g3 g4;rw[bz,bf]at this;rw[this]at hp';cases hp'
    ·exact decide_eq_false (by omega)
  |none=>
   intro t' ht' hi'
   obtain⟨i',r,rfl,g1,g2,g3,g4⟩:=key t' ht' hi'
   have hn:EA P N m (i'+1) (out++[(i':Int)])=none:=R8 hq i' g1 g2
   have ih':=KC P N m (i'+1) (out++[(i':Int)]) (by omega)
   rw[hn]at ih'
   have:=ih' r g3 g4
   rw[bz,bf]at this
   exact this
structure XY(P:List Int->Bool)(N:Nat)(y:List Int):Prop where
 inc:KH N 0 y
 can:P y=true
 min:∀t,KH N 0 t->P t=true->GF t y=false
theorem XY.uniq{P:List Int->Bool}{N:Nat}{y z:List Int}(h:XY P N y)(h':XY P N z):y=z:=AA7 (h'.min y h.inc h.can) (h.min z h'.inc h'.can)
theorem ZW(P:List Int->Bool)(N:Nat):match R6 P N with
  |some y=>XY P N y
  |none=>∀t,KH N 0 t->P t=false:=by
 have hP:R6 P N=DD (fun m=>EA P N m 0 []) (N+1) 0:=rfl
 rw[hP]
 cases hq:DD (fun m=>EA P N m 0 []) (N+1) 0 with
 |some y=>
  obtain⟨m,_,h2,h3,h4⟩:=R7 hq
  have ih:=KC P N m 0 [] (bk _)
  rw[h3]at ih
  obtain⟨t,e,hl,hi,hp,hmin⟩:=ih
  rw[bq]at e
  subst e
  refine⟨hi,hp,fun t' ht' hp'=>?_⟩
  unfold GF
  simp only[bh,bc,decide_eq_false_iff_not]
  have hge:¬t'.length<y.length:=fun hlt=>by have hn:EA P N t'.length 0 []=none:=h4 t'.length (bk _) (by omega);have ih':=KC P N t'.length 0 [] (bk _);rw[hn]at ih';have:=ih' t' rfl ht';rw[bq]at this;rw[this]at hp';cases hp'
  refine⟨hge,?_⟩
  by_cases e:t'.length=y.length
  ·exact .inr (hmin t' (by omega) ht' (by rw[bq];exact hp'))
  ·exact .inl e
 |none=>
  intro t ht
  have hr:=TF ht (bk _)
  have hn:EA P N t.length 0 []=none:=R8 hq t.length (bk _) (by omega)
  have ih':=KC P N t.length 0 [] (bk _)
  rw[hn]at ih'
  have:=ih' t rfl ht
  rwa [bq]at this
theorem TG:∀{a b c:List Int},F0 a b=true->F0 b c=true->F0 a c=true
 |[],[],_,h,_=>by cases h
 |[],_::_,[],_,h=>by cases h
 |[],_::_,_::_,_,_=>rfl
 |_::_,[],_,h,_=>by cases h
 |_::_,_::_,[],_,h=>by cases h
 |x::a,y::b,z::c,h1,h2=>by
  unfold F0 at h1 h2|-;by_cases e1:x=y
  ·subst e1;rw[if_pos rfl]at h1;by_cases e2:x=z
   ·rw[if_pos e2]at h2|-;exact TG h1 h2
   ·rw[if_neg e2]at h2|-;exact h2
  ·rw[if_neg e1]at h1;have h1:=of_decide_eq_true h1;by_cases e2:y=z
   ·subst e2;rw[if_neg e1];exact decide_eq_true h1
   ·rw[if_neg e2]at h2;have h2:=of_decide_eq_true h2;rw[if_neg (by omega)];exact decide_eq_true (by omega)
theorem mX{a b c:List Int}(h1:GF a b=true)(h2:GF b c=true):GF a c=true:=by
 unfold GF at *;simp only[bg,bj,decide_eq_true_eq]at *;rcases h1 with h1|⟨h1,g1⟩<;>rcases h2 with h2|⟨h2,g2⟩
 ·exact .inl (by omega)
 ·exact .inl (by omega)
 ·exact .inl (by omega)
 ·exact .inr ⟨by omega,TG g1 g2⟩
theorem jT(a:List Int):GF a a=false:=by unfold GF;simp[RL]
def ALC(P:List Int->Bool)(N:Nat)(x:Nat)(y:List Int):Prop :=
 KH N 0 y/\P y=true/\∀x',x'<x->P (C9 x' N)=true->GF (C9 x' N) y=false
theorem AEP{P:List Int->Bool}{N x:Nat}{y:List Int}(h:ALC P N x y):ALC P N (x+1) (GW P N x y):=by
 obtain⟨h1,h2,h3⟩:=h;unfold GW;by_cases hs:GF (C9 x N) y=true
 ·simp only[hs,Bool.true_and];cases hp:P (C9 x N)with
  |true=>
   rw[if_pos rfl]
   refine⟨TE _ _,hp,fun x' hx' hp'=>?_⟩
   rcases bp x' x with h4|h4
   ·cases hq:GF (C9 x' N) (C9 x N)with
    |false=>rfl
    |true=>
     have:=mX hq hs
     rw[h3 x' h4 hp']at this
     cases this
   ·have e:x'=x:=by omega
    rw[e];exact jT _
  |false=>
   rw[if_neg (by decide)]
   refine⟨h1,h2,fun x' hx' hp'=>?_⟩
   rcases bp x' x with h4|h4
   ·exact h3 x' h4 hp'
   ·have e:x'=x:=by omega
    rw[e,hp]at hp';cases hp'
 ·have hs:=Bool.eq_false_iff.2 hs;simp only[hs,Bool.false_and];rw[if_neg (by decide)];refine⟨h1,h2,fun x' hx' hp'=>?_⟩;rcases bp x' x with h4|h4
  ·exact h3 x' h4 hp'
  ·have e:x'=x:=by omega
   rw[e];exact hs
theorem AEQ{P:List Int->Bool}{N:Nat}:∀(d x:Nat) (y:List Int),x+d=2 ^ N->ALC P N x y->ALC P N (2 ^ N) (goG P N d x y)
 |0,x,y,hd,h=>by
  have e:x=2 ^ N:=by omega
  rw[<-e];exact h
 |d+1,x,y,hd,h=>AEQ d (x+1) (GW P N x y) (by omega) (AEP h)
theorem AER{P:List Int->Bool}{N:Nat}(h0:P (C9 (2 ^ N-1) N)=true):R6 P N=some (xB P N):=by
 have hpos:=Nat.two_pow_pos N;have h:=AEQ (2 ^ N) 0 _ (by omega) ⟨TE _ _,h0,fun x' hx'=>absurd hx' (by omega)⟩;have e:goG P N (2 ^ N) 0 (C9 (2 ^ N-1) N)=xB P N:=rfl;rw[e]at h;obtain⟨h1,h2,h3⟩:=h;have hs:=ZW P N;cases hl:R6 P N with
 |none=>
  rw[hl]at hs
  rw[hs _ h1]at h2
  cases h2
 |some z=>
  rw[hl]at hs
  refine congrArg some (XY.uniq hs ⟨h1,h2,fun t ht hp=>?_⟩)
  obtain⟨x,hx,e⟩:=ZU _ _ ht
  rw[e]at hp|-
  exact h3 x hx hp
end Go.Proofs.Tryz.Op
