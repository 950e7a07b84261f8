/- A case of families on a beach: what is valid, and what a seating is, by the program and by the reference. No program in sight. -/
import Derived.Test.YthhdhbalenanjaaGreatX1
import Derived.Test.YthhdhbalenanjaaGreatRc
open Go renaming FuncId->bb
open Go.Proofs.Tryz renaming prog->bz
open Bool renaming and_eq_true->bj
open List renaming all_eq_true->bk,drop_eq_getElem_cons->bq,range->bw,map_cons->bx
set_option maxRecDepth 100000
set_option linter.unusedSimpArgs false
namespace Go.Wind
structure Q8 where
 size:Int
 good:Int
 dog:Bool
 shy:Bool
deriving DecidableEq
structure AM where
 beach:AK
 plan:List (List Int)
 chairs:List (List Bool)
 fams:List Q8
def IB(f:Q8):Bool:=GF f.size 1 4&&GF f.good 0 5
def E2(c:AM):Bool:=decide ((c.chairs.length:Int)=c.beach.rows)&&c.chairs.all (fun l=>decide ((l.length:Int)=c.beach.places))
def DT(c:AM):Int :=
 if 3<c.fams.length then 3
 else if DU c.beach≠0 then DU c.beach
 else if D6 c.beach c.plan=false then 2
 else if BK c.beach=[] then 11
 else if E2 c=false then 1
 else if c.fams.all IB=false then 1 else 0
structure BQ(c:AM):Prop where
 be:Valid c.beach
 pl:D6 c.beach c.plan=true
 tr:BK c.beach≠[]
 fl:c.fams.length<=3
 ch:(c.chairs.length:Int)=c.beach.rows
 cr:∀l∈c.chairs,(l.length:Int)=c.beach.places
 fo:∀f∈c.fams,(1<=f.size/\f.size<=4)/\0<=f.good/\f.good<=5
theorem F1{c:AM}(h:DT c=0):BQ c:=by
 unfold DT at h;split at h
 ·cases h
 rename_i h1;split at h
 ·rename_i h2;exact absurd h h2
 rename_i h2;split at h
 ·cases h
 rename_i h3;split at h
 ·cases h
 rename_i h4;split at h
 ·cases h
 rename_i h5;split at h
 ·cases h
 rename_i h6;have hb:DU c.beach=0:=Classical.byContradiction fun hh=>h2 hh;have h5:E2 c=true:=by simpa using h5
 have h6:c.fams.all IB=true:=by simpa using h6
 simp only[E2,bj,decide_eq_true_eq,bk]at h5;refine⟨UL hb,by simpa using h3,h4,by omega,h5.1,h5.2,fun f hf=>?_⟩;have:=bk.1 h6 f hf;simp only[IB,bj,C6]at this;exact this
structure Sp where
 fam:Nat
 size:Int
 row:Int
 place:Int
deriving DecidableEq
def EC(c:AM)(k:Nat):Q8:=c.fams.getD k ⟨0,0,false,false⟩
def JT(c:AM)(a b:Nat):Bool:=decide (a≠b)&&((EC c a).shy&&(EC c b).dog||(EC c a).dog&&(EC c b).shy)
def D9(c:AM)(x:Sp):Bool:=GF x.row 0 (c.beach.rows-1)&&GF x.place 0 (c.beach.places-x.size)
def jP(x y:Sp):Int:=max (x.place-y.place-y.size) (y.place-x.place-x.size)
def HE(c:AM)(x y:Sp):Bool:=decide (x.row≠y.row)||(decide (0<jP x y)||(decide (jP x y=0)&&!JT c x.fam y.fam))
def CZ(c:AM):Nat:=(c.chairs.map fun l=>l.count true).sum
def OQ(l:List Sp):Int:=(l.map Sp.size).sum
def GD(c:AM):List Sp->List Sp->Bool
 |_,[]=>true
 |before,x::r=>D9 c x&&before.all (HE c x)&&GD c (before++[x]) r
def P3(c:AM)(l:List Sp):Bool:=GD c [] l&&decide (OQ l<=CZ c)
def HF(k:Nat):List Q8->List (Int×Int)->List Sp
 |f::fs,s::ss=>⟨k,f.size,s.1,s.2⟩::HF (k+1) fs ss
 |_,_=>[]
def CJ(c:AM)(KR:List (Int×Int)):List Sp:=HF 0 c.fams KR
def FP(c:AM)(KR:List (Int×Int)):Bool:=decide (KR.length=c.fams.length)&&P3 c (CJ c KR)
def RN(c:AM)(x y:Sp):Bool:=(bw y.size.toNat).any fun a=>(bw x.size.toNat).any fun b=>
 let d:=y.place+(a:Int)-x.place-(b:Int)
 decide (d=0)||((decide (d=1)||decide (d = -1))&&JT c y.fam x.fam)
def AD3(c:AM)(before:List Sp)(x:Sp):Bool:=D9 c x&&before.all fun y=>decide (y.row≠x.row)||!RN c x y
theorem AAW(c:AM)(a b:Nat):JT c a b=JT c b a:=by unfold JT;have:decide (a≠b)=decide (b≠a):=decide_eq_decide.2 ⟨Ne.symm,Ne.symm⟩;rw[this];cases (EC c a).shy<;>cases (EC c b).dog<;>cases (EC c a).dog<;>cases (EC c b).shy<;>simp
theorem AAX{c:AM}{x y:Sp}(hx:1<=x.size)(hy:1<=y.size):RN c x y=true↔jP x y<0\/(jP x y=0/\JT c x.fam y.fam=true):=by
 unfold RN jP;simp only[List.any_eq_true,List.mem_range,Bool.or_eq_true,bj,decide_eq_true_eq,AAW c y.fam x.fam];constructor
 ·rintro ⟨a,ha,b,hb,h|⟨h,hm⟩⟩
  ·left;omega
  ·by_cases h0:max (x.place-y.place-y.size) (y.place-x.place-x.size)=0
   ·exact .inr ⟨h0,hm⟩
   ·left;omega
 ·rintro (h|⟨h,hm⟩)
  ·by_cases hp:x.place<=y.place
   ·exact⟨0,by omega,(y.place-x.place).toNat,by omega,.inl (by omega)⟩
   ·exact⟨(x.place-y.place).toNat,by omega,0,by omega,.inl (by omega)⟩
  ·by_cases hp:x.place<=y.place
   ·exact⟨0,by omega,(x.size-1).toNat,by omega,.inr ⟨.inl (by omega),hm⟩⟩
   ·exact⟨(y.size-1).toNat,by omega,0,by omega,.inr ⟨.inr (by omega),hm⟩⟩
theorem tC{c:AM}{before:List Sp}{x:Sp}(hx:1<=x.size)(hb:∀y∈before,1<=y.size):AD3 c before x=(D9 c x&&before.all (HE c x)):=by
 unfold AD3;congr 1;rw[Bool.eq_iff_iff,bk,bk];refine forall_congr' fun y=>forall_congr' fun hy=>?_;have h:=AAX (c:=c) hx (hb y hy);unfold HE;simp only[Bool.or_eq_true,bj,decide_eq_true_eq,Bool.not_eq_true',<-Bool.not_eq_true];rw[h];have e:(y.row≠x.row)↔(x.row≠y.row):=⟨Ne.symm,Ne.symm⟩;rw[e];constructor
 ·rintro (h1|h1)
  ·exact .inl h1
  ·refine .inr ?_;by_cases h0:0<jP x y
   ·exact .inl h0
   ·exact .inr ⟨by omega,fun hm=>h1 (.inr ⟨by omega,hm⟩)⟩
 ·rintro (h1|h1|⟨h1,h2⟩)
  ·exact .inl h1
  ·exact .inr fun h3=>by rcases h3 with h3|⟨h3,_⟩<;>omega
  ·exact .inr fun h3=>by
    rcases h3 with h3|⟨_,h3⟩
    ·omega
    ·exact h2 h3
theorem FJ:∀{k:Nat} {fs:List Q8} {ss:List (Int×Int)},ss.length=fs.length->(HF k fs ss).length=fs.length
 |_,[],_,_=>rfl
 |_,_::_,[],h=>by simp at h
 |k,f::fs,s::ss,h=>by simp only[HF,List.length_cons,FJ (k:=k+1) (fs:=fs) (ss:=ss) (by simpa using h)]
theorem SP:∀{k:Nat} {fs:List Q8} {ss:List (Int×Int)},ss.length=fs.length->OQ (HF k fs ss)=(fs.map Q8.size).sum
 |_,[],_,_=>rfl
 |_,_::_,[],h=>by simp at h
 |k,f::fs,s::ss,h=>by have ih:=SP (k:=k+1) (fs:=fs) (ss:=ss) (by simpa using h);unfold OQ at ih|-;simp only[HF,bx,List.sum_cons,ih]
theorem KA:∀{k:Nat} {fs:List Q8} {ss:List (Int×Int)} (j:Nat) (h1:j<fs.length) (h2:j<ss.length) (h3:j<(HF k fs ss).length),(HF k fs ss)[j]=⟨k+j,fs[j].size,ss[j].1,ss[j].2⟩
 |_,[],_,_,h1,_,_=>by simp at h1
 |_,_::_,[],_,_,h2,_=>by simp at h2
 |k,f::fs,s::ss,0,_,_,_=>rfl
 |k,f::fs,s::ss,j+1,h1,h2,h3=>by simp only[HF,List.getElem_cons_succ];rw[KA j (by simpa using h1) (by simpa using h2) (by simpa [HF]using h3),show k+1+j=k+(j+1) by omega]
structure B5 where
 sun:Int
 carried:Int
 enough:Bool
deriving DecidableEq
def C9(sure:List (List Int))(r p:Int):Int:=(sure.getD r.toNat []).getD p.toNat 0
def JY(c:AM)(r p:Int):Bool:=(c.chairs.getD r.toNat []).getD p.toNat false
def BF(c:AM)(sure:List (List Int))(x:Sp):B5 :=
  ⟨EX (fun p=>C9 sure x.row (x.place+(p:Int))) x.size.toNat,
   EX (fun p=>if JY c x.row (x.place+(p:Int))=true then 0 else 1) x.size.toNat,
   (bw x.size.toNat).all fun p=>decide ((EC c x.fam).good<=C9 sure x.row (x.place+(p:Int)))⟩
def EW(c:AM)(sure:List (List Int)):List (Nat×Int)->List Sp->List (List Sp)
 |[],out=>[out]
 |g::gs,out=>(bw c.beach.rows.toNat).flatMap fun (r:Nat)=>(bw (c.beach.places-g.2+1).toNat).flatMap fun (p:Nat)=>
  if ((BF c sure ⟨g.1,g.2,(r:Int),(p:Int)⟩).enough&&out.all (HE c ⟨g.1,g.2,(r:Int),(p:Int)⟩))=true then EW c sure gs (out++[⟨g.1,g.2,(r:Int),(p:Int)⟩]) else[]
theorem ZK{α β:Type}{l:List α}{f g:α->List β}(h:∀x∈l,f x=g x):l.flatMap f=l.flatMap g:=by rw[List.flatMap_def,List.flatMap_def,List.map_congr_left h]
def EJ(c:AM)(sure:List (List Int))(l:List Sp):B5:=l.foldl (fun t x=>let s:=BF c sure x;⟨t.sun+s.sun,t.carried+s.carried,t.enough&&s.enough⟩) ⟨0,0,true⟩
def EL(c:AM)(sure:List (List Int))(acc:Option (List Sp×B5))(l:List Sp):Option (List Sp×B5) :=
 let s:=EJ c sure l
 match acc with
 |some (b,t)=>if s.sun<t.sun\/(s.sun=t.sun/\t.carried<=s.carried) then some (b,t) else some (l,s)
 |none=>some (l,s)
def wM(c:AM)(sure:List (List Int))(ls:List (List Sp)):Option (List Sp×B5):=ls.foldl (EL c sure) none
theorem ZL{c:AM}{sure:List (List Int)}:∀(ls:List (List Sp)) (acc:Option (List Sp×B5)),(match ls.foldl (EL c sure) acc with
  |some (b,t)=>(b∈ls/\t=EJ c sure b)\/acc=some (b,t)
  | none=>ls=[]/\acc=none)
 |[],acc=>by
  cases acc with
  |none=>exact⟨rfl,rfl⟩
  |some bt=>exact .inr rfl
 |l::ls,acc=>by
  have ih:=ZL (c:=c) (sure:=sure) ls (EL c sure acc l);simp only[List.foldl_cons];generalize ls.foldl (EL c sure) (EL c sure acc l)=R at ih|-;have hstep:EL c sure acc l=acc/\acc≠none\/EL c sure acc l=some (l,EJ c sure l):=by
   cases acc with
   |none=>exact .inr rfl
   |some bt=>
    obtain⟨b,t⟩:=bt
    simp only[EL]
    split
    ·exact .inl ⟨rfl,by simp⟩
    ·exact .inr rfl
  cases R with
  |none=>
   obtain⟨_,h2⟩:=ih
   rcases hstep with⟨e,h⟩|e
   ·rw[e]at h2;exact absurd h2 h
   ·rw[e]at h2;cases h2
  |some bt=>
   obtain⟨b,t⟩:=bt
   simp only at ih|-
   rcases ih with⟨h1,h2⟩|h
   ·exact .inl ⟨by simp[h1],h2⟩
   ·rcases hstep with⟨e,_⟩|e
    ·rw[e]at h;exact .inr h
    ·rw[e]at h;cases h;exact .inl ⟨by simp,rfl⟩
end Go.Wind
open Go Go.Pg Go.Proofs Go.Wind
namespace Go.Proofs.Tryz.Op
def A7(x:Bool):List V:=[.bool x]
abbrev lb(l:List Bool):V:=.list false (l.map A7)
def AR(l:List Bool):List V:=[lb l]
def AS(f:Q8):List V:=[i f.size,i f.good,.bool f.dog,.bool f.shy]
def BB(x:Sp):List V:=[i (x.fam:Int),i x.size,i x.row,i x.place]
def AD(c:AM):List V:=[i c.beach.last,i c.beach.rows,i c.beach.places,i c.beach.reach,li c.beach.face,li c.beach.sun,FI c.beach.winds,.list false (c.beach.breaks.map AH),.list false (c.beach.notes.map AH),FI c.plan,.list false (c.chairs.map AR),.list false (c.fams.map AS)]
def okF(f:Q8):Prop:=FE f.size/\FE f.good
structure okC(c:AM):Prop where
 b:okB c.beach
 p:∀l∈c.plan,∀n∈l,FE n
 f:∀f∈c.fams,okF f
end Go.Proofs.Tryz.Op
namespace Go.Wind
theorem ZM(c:AM):∀(a before r:List Sp),GD c before (a++r)=(GD c before a&&GD c (before++a) r)
 |[],before,r=>by simp[GD]
 |x::a,before,r=>by simp only[List.cons_append,GD,ZM c a (before++[x]) r,List.append_assoc,Bool.and_assoc];rfl
theorem OR(c:AM):∀(a before:List Sp),GD c before a=true->∀x∈a,D9 c x=true
 |[],_,_,_,hx=>by cases hx
 |y::a,before,h,x,hx=>by
  simp only[GD,bj]at h;rcases List.mem_cons.1 hx with rfl|hx
  ·exact h.1.1
  ·exact OR c a _ h.2 x hx
end Go.Wind
namespace Go.Proofs.Tryz.Op
def wN{σ:Type}(U:σ->List AA)(I:σ->Prop)(K:Nat)(f:bb)(cap:List V)(p:σ->List Bool->Bool)(nx:σ->List Bool->σ)(xs:List (List Bool))(c0:Nat):Prop:=∀n c fr s x,c0<=c->I s->x∈xs->(p s x=false->I (nx s x))/\∃c',c<=c'/\H9 (BS bz ann kn (n+K)) (some 16) ⟨c,fr,⟨U s,[]⟩⟩ f (lb x::cap)=some ⟨c',(16,true,.bool (p s x))::fr,⟨U (nx s x),[]⟩⟩
theorem wO{σ:Type}(n K:Nat)(U:σ->List AA)(I:σ->Prop)(f:bb)(cap:List V)(hcw:cap.map weakV=cap)(p:σ->List Bool->Bool)(nx:σ->List Bool->σ)(xs:List (List Bool))(c0:Nat)(hp:wN U I K f cap p nx xs c0)(hl:xs.length<=1000):∀(d k:Nat) (s:σ) (c m:Nat),k+d=xs.length->d<m->c0<=c->I s ->
  ∃(c':Nat) (j:Int),c<=c'/\0<=j/\A9 (AE bz ann kn (n+K+50) 19) TS (ann 19 (BV TS)) m ⟨c,[(0,true,.list false (xs.map AR)),(1,true,.fn f [] cap),(7,true,i xs.length),(8,true,i k)],⟨U s,[]⟩⟩ =
   bif (B0 p nx s (xs.drop k)).1 then some (.ret,⟨c',[(4,true,i j),(17,true,i j),(5,true,i j)],⟨U (B0 p nx s (xs.drop k)).2,[]⟩⟩)
   else some (.exit 0,⟨c',[(9,true,.bool false),(0,true,.list false (xs.map AR)),(1,true,.fn f [] cap),(7,true,i xs.length),(8,true,i xs.length)],⟨U (B0 p nx s (xs.drop k)).2,[]⟩⟩)
 |0,k,s,c,m+1,hd,hm,hc0,hi=>by
  have:k=xs.length:=by omega
  subst this;refine⟨c,0,Nat.le_refl _,by omega,?_⟩;simp[AB,B0]
 |d+1,k,s,c,m+1,hd,hm,hc0,hi=>by
  have hk:k<xs.length:=by omega
  have hw:=BH (k:=k) (by omega);have nrm:∀a:Nat,n+K+a=(n+a)+K:=fun a=>by omega
  rw[AB,bq hk];simp only[B0];obtain⟨hi',c1,hc1,q⟩:=hp (n+43) c [(15,true,lb xs[k]),(14,true,.ref (AR xs[k])),(13,true,i k),(12,true,.list false (xs.map AR)),(11,true,.fn f [] cap),(0,true,.list false (xs.map AR)),(1,true,.fn f [] cap),(5,true,i k),(7,true,i xs.length),(8,true,i k)] s xs[k] hc0 hi (List.getElem_mem hk);generalize e:p s xs[k]=b at q hi';cases b with
  |true=>
   refine⟨c1,k,hc1,by omega,?_⟩
   try simp only[AR]at q
   rw[<-nrm]at q
   try simp at q
   simp[hk,AR,q,hcw]
  |false=>
   obtain⟨c',j,h1,h2,ih⟩:=wO n K U I f cap hcw p nx xs c0 hp hl d (k+1) (nx s xs[k]) c1 m (by omega) (by omega) (by omega) (hi' rfl)
   refine⟨c',j,by omega,h2,?_⟩
   try simp only[AR]at q ih
   rw[<-nrm]at q
   try simp at q
   simp at ih
   simp[hk,hw,AR,q,ih,hcw]
theorem AKV{σ:Type}(n K:Nat)(up:σ->List AA)(loc:σ->AA)(I:σ->Prop)(f:bb)(cap:List V)(hcw:cap.map weakV=cap)(hco:cap.all (AG 8)=false)(p:σ->List Bool->Bool)(nx:σ->List Bool->σ)(xs:List (List Bool))(c0:Nat)(hp:wN (fun s=>up s++[loc s]) I K f cap p nx xs c0)(hl:xs.length<=40)(hsh:∀s (t:St),(up s).length+1<=t.up.length->(up s++[loc s]).map (AJ t)=up s++[loc s])(c dd:Nat)(fr:Fr)(s:σ)(hc0:c0<=c)(hi:I s) :
  ∃(c':Nat) (j:Int),c<=c'/\decide (0<=j)=(B0 p nx s xs).1/\H9 (BS bz ann kn (n+K+100)) (some dd) ⟨c,fr,⟨up s,loc s⟩⟩ 187 [.list false (xs.map AR),.fn f [] cap]=some ⟨c',(dd,true,i j)::fr,⟨up (B0 p nx s xs).2,loc (B0 p nx s xs).2⟩⟩:=by
 obtain⟨c1,j,h1,h2,q⟩:=wO (n+45) K (fun s=>up s++[loc s]) I f cap hcw p nx xs c0 hp (by omega) xs.length 0 s c (n+K+95) (by omega) (by omega) hc0 hi
 have e:n+45+K+50=n+K+95:=by omega
 rw[e]at q
 have hcl:([V.list false (xs.map AR),V.fn f [] cap]).all (AG 9)=false:=by simp[hco]
 have hs:=fun s=>hsh s ⟨up s++[loc s],[]⟩ (by simp)
 simp at hs
 rw[BC Tryz.func187 b187 rfl hcl]
 simp only[List.drop_zero]at q
 generalize (B0 p nx s xs).2=s' at q|-
 generalize e:(B0 p nx s xs).1=b at q
 cases b with
 |true=>
  refine⟨c1,j,h1,by simpa using h2,?_⟩
  simp at q
  simp[ATV,AF,q,hs]
 |false=>
  refine⟨c1,-1,h1,by simp,?_⟩
  simp at q
  simp[ATV,AF,q,hs]
theorem A22{σ:Type}(n K:Nat)(up:σ->List AA)(loc:σ->AA)(I:σ->Prop)(f:bb)(cap:List V)(hcw:cap.map weakV=cap)(hco:cap.all (AG 8)=false)(p:σ->List Bool->Bool)(nx:σ->List Bool->σ)(xs:List (List Bool))(c0:Nat)(hp:wN (fun s=>up s++[loc s]++[[]]) I K f cap p nx xs c0)(hl:xs.length<=40)(hsh:∀s (t:St),(up s).length+1<=t.up.length->(up s++[loc s]).map (AJ t)=up s++[loc s])(c dd:Nat)(fr:Fr)(s:σ)(hc0:c0<=c)(hi:I s) :
  ∃c':Nat,c<=c'/\H9 (BS bz ann kn (n+K+200)) (some dd) ⟨c,fr,⟨up s,loc s⟩⟩ 159 [.list false (xs.map AR),.fn f [] cap]=some ⟨c',(dd,true,.bool (B0 p nx s xs).1)::fr,⟨up (B0 p nx s xs).2,loc (B0 p nx s xs).2⟩⟩:=by
 have hcl:([V.list false (xs.map AR),V.fn f [] cap]).all (AG 9)=false:=by simp[hco]
 have hsh2:∀s (t:St),(up s++[loc s]).length+1<=t.up.length->(up s++[loc s]++[[]]).map (AJ t)=up s++[loc s]++[[]]:=fun s t h=>by have:=hsh s t (by simp at h;omega);simp only[List.map_append,bx,List.map_nil,FZ]at this|-;rw[this]
 obtain⟨c1,j,h1,h2,q⟩:=AKV (n+97) K (fun s=>up s++[loc s]) (fun _=>[]) I f cap hcw hco p nx xs c0 hp hl hsh2 c 7 [(6,true,.fn f [] cap),(5,true,.list false (xs.map AR)),(0,true,.list false (xs.map AR)),(1,true,.fn f [] cap)] s hc0 hi
 refine⟨c1,h1,?_⟩
 have e:n+97+K+100=n+K+197:=by omega
 rw[e]at q
 have hs:=fun s=>hsh s ⟨up s++[loc s],[]⟩ (by simp)
 simp at hs
 rw[BC Tryz.func159 b159 rfl hcl]
 simp[A5A,AF,q,h2,hs]
theorem APP(n K:Nat)(b:AM)(f:bb)(p:List Bool->Bool)(xs:List (List Bool))(hl:xs.length<=40)(hf:∀n x,x∈xs->AZ bz kn (AE bz ann kn (n+K)) f [.agg (AD b),lb x]=some (.bool (p x)))(hh:BJ bz f=false:=by simp) :
  AZ bz kn (AE bz ann kn (n+K+300)) 119 [.list false (xs.map AR),.fn f [.agg (AD b)] []]=some (.bool (xs.all p)):=by
 rw[AN rfl,AO Tryz.func119 BFS rfl (by simp[AD,AR,A7,AS])]
 have hp2:wN (fun (_:Unit)=>[]++[[(3,0,A0.box [V.fn f [.agg (AD b)] []])]]++[[]]) (fun _=>True) (K+20) 160 [.ptr 0 3 0 0] (fun _ x=>!p x) (fun _ _=>()) xs 0:=by
  intro n c1 fr s x hc0 hi hx;refine⟨fun _=>trivial,c1,by omega,?_⟩;have q:=fun n=>hf n x hx;have q2:=q (n+17);have e:n+17+K=n+K+17:=by omega
  rw[e]at q2;simp only[AD]at q2|-;rw[show n+(K+20)=n+K+20 from by omega,List.nil_append,BC Tryz.func160 b160 rfl (by simp)];simp[A5C,AF,AR,A7,AS,q2,hh];try simp[AD,AW,AY,AH,AR,A7,AS,q2,hh]
 obtain⟨c',h1,q⟩:=A22 (n+77) (K+20) (fun _=>[]) (fun _=>[(3,0,.box [.fn f [.agg (AD b)] []])]) (fun _=>True) 160 [.ptr 0 3 0 0] (by simp) (by simp) (fun _ x=>!p x) (fun _ _=>()) xs 0 hp2 hl (by simp[AD]) 1 7 [(6,true,.fn 160 [] [.ptr 0 3 0 0]),(5,true,.list false (xs.map AR)),(0,true,.list false (xs.map AR)),(1,true,.fn f [.agg (AD b)] []),(3,true,.ptr 0 3 0 0)] () (Nat.zero_le _) trivial
 have e:n+77+(K+20)+200=n+K+297:=by omega
 rw[e,F8]at q
 have:=LH p xs
 simp only[AD]at q|-
 simp[A5B,AF,q]
 rw[<-this,Bool.not_not]
def wP{σ:Type}(U:σ->List AA)(I:σ->Prop)(K:Nat)(f:bb)(cap:List V)(p:σ->Q8->Bool)(nx:σ->Q8->σ)(xs:List (Q8))(c0:Nat):Prop:=∀n c fr s x,c0<=c->I s->x∈xs->(p s x=false->I (nx s x))/\∃c',c<=c'/\H9 (BS bz ann kn (n+K)) (some 16) ⟨c,fr,⟨U s,[]⟩⟩ f (.agg (AS x)::cap)=some ⟨c',(16,true,.bool (p s x))::fr,⟨U (nx s x),[]⟩⟩
theorem wQ{σ:Type}(n K:Nat)(U:σ->List AA)(I:σ->Prop)(f:bb)(cap:List V)(hcw:cap.map weakV=cap)(p:σ->Q8->Bool)(nx:σ->Q8->σ)(xs:List (Q8))(c0:Nat)(hp:wP U I K f cap p nx xs c0)(hl:xs.length<=1000):∀(d k:Nat) (s:σ) (c m:Nat),k+d=xs.length->d<m->c0<=c->I s ->
  ∃(c':Nat) (j:Int),c<=c'/\0<=j/\A9 (AE bz ann kn (n+K+50) 19) TU (ann 19 (BV TU)) m ⟨c,[(0,true,.list false (xs.map AS)),(1,true,.fn f [] cap),(7,true,i xs.length),(8,true,i k)],⟨U s,[]⟩⟩ =
   bif (B0 p nx s (xs.drop k)).1 then some (.ret,⟨c',[(4,true,i j),(17,true,i j),(5,true,i j)],⟨U (B0 p nx s (xs.drop k)).2,[]⟩⟩)
   else some (.exit 0,⟨c',[(9,true,.bool false),(0,true,.list false (xs.map AS)),(1,true,.fn f [] cap),(7,true,i xs.length),(8,true,i xs.length)],⟨U (B0 p nx s (xs.drop k)).2,[]⟩⟩)
 |0,k,s,c,m+1,hd,hm,hc0,hi=>by
  have:k=xs.length:=by omega
  subst this;refine⟨c,0,Nat.le_refl _,by omega,?_⟩;simp[AB,B0]
 |d+1,k,s,c,m+1,hd,hm,hc0,hi=>by
  have hk:k<xs.length:=by omega
  have hw:=BH (k:=k) (by omega);have nrm:∀a:Nat,n+K+a=(n+a)+K:=fun a=>by omega
  rw[AB,bq hk];simp only[B0];obtain⟨hi',c1,hc1,q⟩:=hp (n+43) c [(15,true,.agg (AS xs[k])),(14,true,.ref (AS xs[k])),(13,true,i k),(12,true,.list false (xs.map AS)),(11,true,.fn f [] cap),(0,true,.list false (xs.map AS)),(1,true,.fn f [] cap),(5,true,i k),(7,true,i xs.length),(8,true,i k)] s xs[k] hc0 hi (List.getElem_mem hk);generalize e:p s xs[k]=b at q hi';cases b with
  |true=>
   refine⟨c1,k,hc1,by omega,?_⟩
   try simp only[AS]at q
   rw[<-nrm]at q
   try simp at q
   simp[hk,AS,q,hcw]
  |false=>
   obtain⟨c',j,h1,h2,ih⟩:=wQ n K U I f cap hcw p nx xs c0 hp hl d (k+1) (nx s xs[k]) c1 m (by omega) (by omega) (by omega) (hi' rfl)
   refine⟨c',j,by omega,h2,?_⟩
   try simp only[AS]at q ih
   rw[<-nrm]at q
   try simp at q
   simp at ih
   simp[hk,hw,AS,q,ih,hcw]
theorem AKW{σ:Type}(n K:Nat)(up:σ->List AA)(loc:σ->AA)(I:σ->Prop)(f:bb)(cap:List V)(hcw:cap.map weakV=cap)(hco:cap.all (AG 8)=false)(p:σ->Q8->Bool)(nx:σ->Q8->σ)(xs:List (Q8))(c0:Nat)(hp:wP (fun s=>up s++[loc s]) I K f cap p nx xs c0)(hl:xs.length<=40)(hsh:∀s (t:St),(up s).length+1<=t.up.length->(up s++[loc s]).map (AJ t)=up s++[loc s])(c dd:Nat)(fr:Fr)(s:σ)(hc0:c0<=c)(hi:I s) :
  ∃(c':Nat) (j:Int),c<=c'/\decide (0<=j)=(B0 p nx s xs).1/\H9 (BS bz ann kn (n+K+100)) (some dd) ⟨c,fr,⟨up s,loc s⟩⟩ 188 [.list false (xs.map AS),.fn f [] cap]=some ⟨c',(dd,true,i j)::fr,⟨up (B0 p nx s xs).2,loc (B0 p nx s xs).2⟩⟩:=by
 obtain⟨c1,j,h1,h2,q⟩:=wQ (n+45) K (fun s=>up s++[loc s]) I f cap hcw p nx xs c0 hp (by omega) xs.length 0 s c (n+K+95) (by omega) (by omega) hc0 hi
 have e:n+45+K+50=n+K+95:=by omega
 rw[e]at q
 have hcl:([V.list false (xs.map AS),V.fn f [] cap]).all (AG 9)=false:=by simp[hco]
 have hs:=fun s=>hsh s ⟨up s++[loc s],[]⟩ (by simp)
 simp at hs
 rw[BC Tryz.func188 b188 rfl hcl]
 simp only[List.drop_zero]at q
 generalize (B0 p nx s xs).2=s' at q|-
 generalize e:(B0 p nx s xs).1=b at q
 cases b with
 |true=>
  refine⟨c1,j,h1,by simpa using h2,?_⟩
  simp at q
  simp[ATW,AF,q,hs]
 |false=>
  refine⟨c1,-1,h1,by simp,?_⟩
  simp at q
  simp[ATW,AF,q,hs]
theorem A23{σ:Type}(n K:Nat)(up:σ->List AA)(loc:σ->AA)(I:σ->Prop)(f:bb)(cap:List V)(hcw:cap.map weakV=cap)(hco:cap.all (AG 8)=false)(p:σ->Q8->Bool)(nx:σ->Q8->σ)(xs:List (Q8))(c0:Nat)(hp:wP (fun s=>up s++[loc s]++[[]]) I K f cap p nx xs c0)(hl:xs.length<=40)(hsh:∀s (t:St),(up s).length+1<=t.up.length->(up s++[loc s]).map (AJ t)=up s++[loc s])(c dd:Nat)(fr:Fr)(s:σ)(hc0:c0<=c)(hi:I s) :
  ∃c':Nat,c<=c'/\H9 (BS bz ann kn (n+K+200)) (some dd) ⟨c,fr,⟨up s,loc s⟩⟩ 161 [.list false (xs.map AS),.fn f [] cap]=some ⟨c',(dd,true,.bool (B0 p nx s xs).1)::fr,⟨up (B0 p nx s xs).2,loc (B0 p nx s xs).2⟩⟩:=by
 have hcl:([V.list false (xs.map AS),V.fn f [] cap]).all (AG 9)=false:=by simp[hco]
 have hsh2:∀s (t:St),(up s++[loc s]).length+1<=t.up.length->(up s++[loc s]++[[]]).map (AJ t)=up s++[loc s]++[[]]:=fun s t h=>by have:=hsh s t (by simp at h;omega);simp only[List.map_append,bx,List.map_nil,FZ]at this|-;rw[this]
 obtain⟨c1,j,h1,h2,q⟩:=AKW (n+97) K (fun s=>up s++[loc s]) (fun _=>[]) I f cap hcw hco p nx xs c0 hp hl hsh2 c 7 [(6,true,.fn f [] cap),(5,true,.list false (xs.map AS)),(0,true,.list false (xs.map AS)),(1,true,.fn f [] cap)] s hc0 hi
 refine⟨c1,h1,?_⟩
 have e:n+97+K+100=n+K+197:=by omega
 rw[e]at q
 have hs:=fun s=>hsh s ⟨up s++[loc s],[]⟩ (by simp)
 simp at hs
 rw[BC Tryz.func161 b161 rfl hcl]
 simp[A5D,AF,q,h2,hs]
theorem APQ(n K:Nat)(f:bb)(p:Q8->Bool)(xs:List (Q8))(hl:xs.length<=40)(hf:∀n x,x∈xs->AZ bz kn (AE bz ann kn (n+K)) f [.agg (AS x)]=some (.bool (p x)))(hh:BJ bz f=false:=by simp) :
  AZ bz kn (AE bz ann kn (n+K+300)) 120 [.list false (xs.map AS),.fn f [] []]=some (.bool (xs.all p)):=by
 rw[AN rfl,AO Tryz.func120 BFT rfl (by simp[AS])]
 have hp2:wP (fun (_:Unit)=>[]++[[(3,0,A0.box [V.fn f [] []])]]++[[]]) (fun _=>True) (K+20) 162 [.ptr 0 3 0 0] (fun _ x=>!p x) (fun _ _=>()) xs 0:=by
  intro n c1 fr s x hc0 hi hx;refine⟨fun _=>trivial,c1+1,by omega,?_⟩;have q:=fun n=>hf n x hx;have q2:=q (n+17);have e:n+17+K=n+K+17:=by omega
  rw[e]at q2;simp only[AS]at q2|-;rw[show n+(K+20)=n+K+20 from by omega,List.nil_append,BC Tryz.func162 b162 rfl (by simp)];simp[A5F,AF,q2,hh];try simp[AW,q2,hh]
 obtain⟨c',h1,q⟩:=A23 (n+77) (K+20) (fun _=>[]) (fun _=>[(3,0,.box [.fn f [] []])]) (fun _=>True) 162 [.ptr 0 3 0 0] (by simp) (by simp) (fun _ x=>!p x) (fun _ _=>()) xs 0 hp2 hl (by simp) 1 7 [(6,true,.fn 162 [] [.ptr 0 3 0 0]),(5,true,.list false (xs.map AS)),(0,true,.list false (xs.map AS)),(1,true,.fn f [] []),(3,true,.ptr 0 3 0 0)] () (Nat.zero_le _) trivial
 have e:n+77+(K+20)+200=n+K+297:=by omega
 rw[e,F8]at q
 have:=LH p xs
 skip
 simp[A5E,AF,q]
 rw[<-this,Bool.not_not]
def I5(P:List Int->Bool)(N x:Nat)(y:List Int):List Int:=if (AIR (G4 x N) y&&P (G4 x N))=true then G4 x N else y
def AS0(N:Nat):Nat->List Int->Prop
 |_,[]=>True
 |fr,a::r=>∃i:Nat,a=i/\fr<=i/\i<N/\AS0 N (i+1) r
structure BJP(P:List Int->Bool)(N:Nat)(y:List Int):Prop where
 inc:AS0 N 0 y
 can:P y=true
 min:∀t,AS0 N 0 t->P t=true->AIR t y=false
end Go.Proofs.Tryz.Op
