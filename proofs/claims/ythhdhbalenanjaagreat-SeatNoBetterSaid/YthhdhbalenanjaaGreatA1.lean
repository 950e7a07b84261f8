/- A case of families on a beach: what is valid, and what a seating is, by the program and by the reference. No program in sight. -/
import Derived.Test.YthhdhbalenanjaaGreatX1
import Derived.Test.YthhdhbalenanjaaGreatRc
open Go renaming FuncId->cq
open Go.Proofs.Tryz renaming prog->ck
open List renaming drop_eq_getElem_cons->bj,map_cons->bk,take_succ_eq_append_getElem->bw,map_append->bx,append_assoc->bz,all_eq_true->bb,map_nil->bc,length_cons->bf,getElem_mem->bg,nil_append->bh,drop_zero->bn,range->bp,sum_cons->cj
open Bool renaming and_eq_true->bq
set_option maxRecDepth 100000
set_option linter.unusedSimpArgs false
namespace Go.Wind
structure Q8 where
 size:Int
 good:Int
 dog:Bool
 shy:Bool
deriving DecidableEq
structure AV where
 beach:AN
 plan:List (List Int)
 chairs:List (List Bool)
 fams:List Q8
def LD(f:Q8):Bool:=F7 f.size 1 4&&F7 f.good 0 5
def HK(c:AV):Bool:=decide ((c.chairs.length:Int)=c.beach.rows)&&c.chairs.all (fun l=>decide ((l.length:Int)=c.beach.places))
def FG(c:AV):Int :=
 if 3<c.fams.length then 3
 else if D4 c.beach≠0 then D4 c.beach
 else if EV c.beach c.plan=false then 2
 else if BU c.beach=[] then 11
 else if HK c=false then 1
 else if c.fams.all LD=false then 1 else 0
structure B5(c:AV):Prop where
 be:Valid c.beach
 pl:EV c.beach c.plan=true
 tr:BU c.beach≠[]
 fl:c.fams.length<=3
 ch:(c.chairs.length:Int)=c.beach.rows
 cr:∀l∈c.chairs,(l.length:Int)=c.beach.places
 fo:∀f∈c.fams,(1<=f.size/\f.size<=4)/\0<=f.good/\f.good<=5
theorem KC{c:AV}(h:FG c=0):B5 c:=by
 unfold FG at h;split at h
 ·cases h
 rename_i h1;split at h
 ·rename_i h2;exact absurd h h2
 rename_i h2;split at h
 ·cases h
 rename_i h3;split at h
 ·cases h
 rename_i h4;split at h
 ·cases h
 rename_i h5;split at h
 ·cases h
 rename_i h6;have hb:D4 c.beach=0:=Classical.byContradiction fun hh=>h2 hh;have h5:HK c=true:=by simpa using h5
 have h6:c.fams.all LD=true:=by simpa using h6
 simp only[HK,bq,decide_eq_true_eq,bb]at h5;refine⟨UL hb,by simpa using h3,h4,by omega,h5.1,h5.2,fun f hf=>?_⟩;have:=bb.1 h6 f hf;simp only[LD,bq,C5]at this;exact this
structure Sp where
 fam:Nat
 size:Int
 row:Int
 place:Int
deriving DecidableEq
def E4(c:AV)(k:Nat):Q8:=c.fams.getD k ⟨0,0,false,false⟩
def JY(c:AV)(a b:Nat):Bool:=decide (a≠b)&&((E4 c a).shy&&(E4 c b).dog||(E4 c a).dog&&(E4 c b).shy)
def C6(c:AV)(x:Sp):Bool:=F7 x.row 0 (c.beach.rows-1)&&F7 x.place 0 (c.beach.places-x.size)
def jG(x y:Sp):Int:=max (x.place-y.place-y.size) (y.place-x.place-x.size)
def EH(c:AV)(x y:Sp):Bool:=decide (x.row≠y.row)||(decide (0<jG x y)||(decide (jG x y=0)&&!JY c x.fam y.fam))
def EB(c:AV):Nat:=(c.chairs.map fun l=>l.count true).sum
def EC(l:List Sp):Int:=(l.map Sp.size).sum
def DJ(c:AV):List Sp->List Sp->Bool
 |_,[]=>true
 |before,x::r=>C6 c x&&before.all (EH c x)&&DJ c (before++[x]) r
def I5(c:AV)(l:List Sp):Bool:=DJ c [] l&&decide (EC l<=EB c)
def HL(k:Nat):List Q8->List (Int×Int)->List Sp
 |f::fs,s::ss=>⟨k,f.size,s.1,s.2⟩::HL (k+1) fs ss
 |_,_=>[]
def A8(c:AV)(K0:List (Int×Int)):List Sp:=HL 0 c.fams K0
def D3(c:AV)(K0:List (Int×Int)):Bool:=decide (K0.length=c.fams.length)&&I5 c (A8 c K0)
def RN(c:AV)(x y:Sp):Bool:=(bp y.size.toNat).any fun a=>(bp x.size.toNat).any fun b=>
 let d:=y.place+(a:Int)-x.place-(b:Int)
 decide (d=0)||((decide (d=1)||decide (d = -1))&&JY c y.fam x.fam)
def ADX(c:AV)(before:List Sp)(x:Sp):Bool:=C6 c x&&before.all fun y=>decide (y.row≠x.row)||!RN c x y
theorem AAO(c:AV)(a b:Nat):JY c a b=JY c b a:=by unfold JY;have:decide (a≠b)=decide (b≠a):=decide_eq_decide.2 ⟨Ne.symm,Ne.symm⟩;rw[this];cases (E4 c a).shy<;>cases (E4 c b).dog<;>cases (E4 c a).dog<;>cases (E4 c b).shy<;>simp
theorem AAP{c:AV}{x y:Sp}(hx:1<=x.size)(hy:1<=y.size):RN c x y=true↔jG x y<0\/(jG x y=0/\JY c x.fam y.fam=true):=by
 unfold RN jG;simp only[List.any_eq_true,List.mem_range,Bool.or_eq_true,bq,decide_eq_true_eq,AAO c y.fam x.fam];constructor
 ·rintro ⟨a,ha,b,hb,h|⟨h,hm⟩⟩
  ·left;omega
  ·by_cases h0:max (x.place-y.place-y.size) (y.place-x.place-x.size)=0
   ·exact .inr ⟨h0,hm⟩
   ·left;omega
 ·rintro (h|⟨h,hm⟩)
  ·by_cases hp:x.place<=y.place
   ·exact⟨0,by omega,(y.place-x.place).toNat,by omega,.inl (by omega)⟩
   ·exact⟨(x.place-y.place).toNat,by omega,0,by omega,.inl (by omega)⟩
  ·by_cases hp:x.place<=y.place
   ·exact⟨0,by omega,(x.size-1).toNat,by omega,.inr ⟨.inl (by omega),hm⟩⟩
   ·exact⟨(y.size-1).toNat,by omega,0,by omega,.inr ⟨.inr (by omega),hm⟩⟩
theorem sM{c:AV}{before:List Sp}{x:Sp}(hx:1<=x.size)(hb:∀y∈before,1<=y.size):ADX c before x=(C6 c x&&before.all (EH c x)):=by
 unfold ADX;congr 1;rw[Bool.eq_iff_iff,bb,bb];refine forall_congr' fun y=>forall_congr' fun hy=>?_;have h:=AAP (c:=c) hx (hb y hy);unfold EH;simp only[Bool.or_eq_true,bq,decide_eq_true_eq,Bool.not_eq_true',<-Bool.not_eq_true];rw[h];have e:(y.row≠x.row)↔(x.row≠y.row):=⟨Ne.symm,Ne.symm⟩;rw[e];constructor
 ·rintro (h1|h1)
  ·exact .inl h1
  ·refine .inr ?_;by_cases h0:0<jG x y
   ·exact .inl h0
   ·exact .inr ⟨by omega,fun hm=>h1 (.inr ⟨by omega,hm⟩)⟩
 ·rintro (h1|h1|⟨h1,h2⟩)
  ·exact .inl h1
  ·exact .inr fun h3=>by rcases h3 with h3|⟨h3,_⟩<;>omega
  ·exact .inr fun h3=>by
    rcases h3 with h3|⟨_,h3⟩
    ·omega
    ·exact h2 h3
theorem D0:∀{k:Nat} {fs:List Q8} {ss:List (Int×Int)},ss.length=fs.length->(HL k fs ss).length=fs.length
 |_,[],_,_=>rfl
 |_,_::_,[],h=>by simp at h
 |k,f::fs,s::ss,h=>by simp only[HL,bf,D0 (k:=k+1) (fs:=fs) (ss:=ss) (by simpa using h)]
theorem SZ:∀{k:Nat} {fs:List Q8} {ss:List (Int×Int)},ss.length=fs.length->EC (HL k fs ss)=(fs.map Q8.size).sum
 |_,[],_,_=>rfl
 |_,_::_,[],h=>by simp at h
 |k,f::fs,s::ss,h=>by have ih:=SZ (k:=k+1) (fs:=fs) (ss:=ss) (by simpa using h);unfold EC at ih|-;simp only[HL,bk,cj,ih]
theorem KG:∀{k:Nat} {fs:List Q8} {ss:List (Int×Int)} (j:Nat) (h1:j<fs.length) (h2:j<ss.length) (h3:j<(HL k fs ss).length),(HL k fs ss)[j]=⟨k+j,fs[j].size,ss[j].1,ss[j].2⟩
 |_,[],_,_,h1,_,_=>by simp at h1
 |_,_::_,[],_,_,h2,_=>by simp at h2
 |k,f::fs,s::ss,0,_,_,_=>rfl
 |k,f::fs,s::ss,j+1,h1,h2,h3=>by simp only[HL,List.getElem_cons_succ];rw[KG j (by simpa using h1) (by simpa using h2) (by simpa [HL]using h3),show k+1+j=k+(j+1) by omega]
structure CE where
 sun:Int
 carried:Int
 enough:Bool
deriving DecidableEq
def DE(sure:List (List Int))(r p:Int):Int:=(sure.getD r.toNat []).getD p.toNat 0
def J3(c:AV)(r p:Int):Bool:=(c.chairs.getD r.toNat []).getD p.toNat false
def BJ(c:AV)(sure:List (List Int))(x:Sp):CE :=
  ⟨E0 (fun p=>DE sure x.row (x.place+(p:Int))) x.size.toNat,
   E0 (fun p=>if J3 c x.row (x.place+(p:Int))=true then 0 else 1) x.size.toNat,
   (bp x.size.toNat).all fun p=>decide ((E4 c x.fam).good<=DE sure x.row (x.place+(p:Int)))⟩
def FO(c:AV)(sure:List (List Int)):List (Nat×Int)->List Sp->List (List Sp)
 |[],out=>[out]
 |g::gs,out=>(bp c.beach.rows.toNat).flatMap fun (r:Nat)=>(bp (c.beach.places-g.2+1).toNat).flatMap fun (p:Nat)=>
  if ((BJ c sure ⟨g.1,g.2,(r:Int),(p:Int)⟩).enough&&out.all (EH c ⟨g.1,g.2,(r:Int),(p:Int)⟩))=true then FO c sure gs (out++[⟨g.1,g.2,(r:Int),(p:Int)⟩]) else[]
def D8(c:AV)(sure:List (List Int))(l:List Sp):CE:=l.foldl (fun t x=>let s:=BJ c sure x;⟨t.sun+s.sun,t.carried+s.carried,t.enough&&s.enough⟩) ⟨0,0,true⟩
def EP(c:AV)(sure:List (List Int))(acc:Option (List Sp×CE))(l:List Sp):Option (List Sp×CE) :=
 let s:=D8 c sure l
 match acc with
 |some (b,t)=>if s.sun<t.sun\/(s.sun=t.sun/\t.carried<=s.carried) then some (b,t) else some (l,s)
 |none=>some (l,s)
def ADY(c:AV)(sure:List (List Int))(ls:List (List Sp)):Option (List Sp×CE):=ls.foldl (EP c sure) none
theorem Y6{c:AV}{sure:List (List Int)}:∀(ls:List (List Sp)) (acc:Option (List Sp×CE)),(match ls.foldl (EP c sure) acc with
  |some (b,t)=>(b∈ls/\t=D8 c sure b)\/acc=some (b,t)
  | none=>ls=[]/\acc=none)
 |[],acc=>by
  cases acc with
  |none=>exact⟨rfl,rfl⟩
  |some bt=>exact .inr rfl
 |l::ls,acc=>by
  have ih:=Y6 (c:=c) (sure:=sure) ls (EP c sure acc l);simp only[List.foldl_cons];generalize ls.foldl (EP c sure) (EP c sure acc l)=R at ih|-;have hstep:EP c sure acc l=acc/\acc≠none\/EP c sure acc l=some (l,D8 c sure l):=by
   cases acc with
   |none=>exact .inr rfl
   |some bt=>
    obtain⟨b,t⟩:=bt
    simp only[EP]
    split
    ·exact .inl ⟨rfl,by simp⟩
    ·exact .inr rfl
  cases R with
  |none=>
   obtain⟨_,h2⟩:=ih
   rcases hstep with⟨e,h⟩|e
   ·rw[e]at h2;exact absurd h2 h
   ·rw[e]at h2;cases h2
  |some bt=>
   obtain⟨b,t⟩:=bt
   simp only at ih|-
   rcases ih with⟨h1,h2⟩|h
   ·exact .inl ⟨by simp[h1],h2⟩
   ·rcases hstep with⟨e,_⟩|e
    ·rw[e]at h;exact .inr h
    ·rw[e]at h;cases h;exact .inl ⟨by simp,rfl⟩
end Go.Wind
open Go Go.Pg Go.Proofs Go.Wind
namespace Go.Proofs.Tryz.Op
def A4(x:Bool):List V:=[.bool x]
abbrev lb(l:List Bool):V:=.list false (l.map A4)
def AR(l:List Bool):List V:=[lb l]
def AS(f:Q8):List V:=[i f.size,i f.good,.bool f.dog,.bool f.shy]
def AQ(x:Sp):List V:=[i (x.fam:Int),i x.size,i x.row,i x.place]
def AD(c:AV):List V:=[i c.beach.last,i c.beach.rows,i c.beach.places,i c.beach.reach,li c.beach.face,li c.beach.sun,GW c.beach.winds,.list false (c.beach.breaks.map AF),.list false (c.beach.notes.map AF),GW c.plan,.list false (c.chairs.map AR),.list false (c.fams.map AS)]
def okF(f:Q8):Prop:=LC f.size/\LC f.good
structure okC(c:AV):Prop where
 b:okB c.beach
 p:∀l∈c.plan,∀n∈l,LC n
 f:∀f∈c.fams,okF f
end Go.Proofs.Tryz.Op
namespace Go.Wind
theorem M2(c:AV):∀(a before r:List Sp),DJ c before (a++r)=(DJ c before a&&DJ c (before++a) r)
 |[],before,r=>by simp[DJ]
 |x::a,before,r=>by simp only[List.cons_append,DJ,M2 c a (before++[x]) r,bz,Bool.and_assoc];rfl
theorem mH(c:AV)(l:List Sp){j:Nat}(hj:j<l.length):DJ c [] (l.take (j+1))=(DJ c [] (l.take j)&&(C6 c l[j]&&(l.take j).all (EH c l[j]))):=by rw[bw hj,M2];simp[DJ]
theorem Y7(c:AV)(l:List Sp)(j:Nat)(h:DJ c [] (l.take j)=false):DJ c [] l=false:=by have:=M2 c (l.take j) [] (l.drop j);rw[List.take_append_drop,h,Bool.false_and]at this;exact this
theorem LF(c:AV):∀(a before:List Sp),DJ c before a=true->∀x∈a,C6 c x=true
 |[],_,_,_,hx=>by cases hx
 |y::a,before,h,x,hx=>by
  simp only[DJ,bq]at h;rcases List.mem_cons.1 hx with rfl|hx
  ·exact h.1.1
  ·exact LF c a _ h.2 x hx
theorem mI(l:List Sp){j:Nat}(hj:j<l.length):EC (l.take (j+1))=EC (l.take j)+l[j].size:=by rw[bw hj];simp only[EC,bx,bk,bc,List.sum_append,cj,List.sum_nil,Int.add_zero]
theorem VX:∀(l:List Sp),(∀x∈l,0<=x.size/\x.size<=4)->0<=EC l/\EC l<=4*l.length
 |[],_=>by simp[EC]
 |x::l,h=>by have ih:=VX l fun y hy=>h y (by simp[hy]);have:=h x (by simp);simp only[EC,bk,cj,bf]at ih|-;omega
end Go.Wind
namespace Go.Proofs.Tryz.Op
def wG{σ:Type}(U:σ->List AA)(I:σ->Prop)(K:Nat)(f:cq)(cap:List V)(p:σ->List Bool->Bool)(nx:σ->List Bool->σ)(xs:List (List Bool))(c0:Nat):Prop:=∀n c fr s x,c0<=c->I s->x∈xs->(p s x=false->I (nx s x))/\∃c',c<=c'/\G6 (BO ck ann kn (n+K)) (some 16) ⟨c,fr,⟨U s,[]⟩⟩ f (lb x::cap)=some ⟨c',(16,true,.bool (p s x))::fr,⟨U (nx s x),[]⟩⟩
theorem wH{σ:Type}(n K:Nat)(U:σ->List AA)(I:σ->Prop)(f:cq)(cap:List V)(hcw:cap.map weakV=cap)(p:σ->List Bool->Bool)(nx:σ->List Bool->σ)(xs:List (List Bool))(c0:Nat)(hp:wG U I K f cap p nx xs c0)(hl:xs.length<=1000):∀(d k:Nat) (s:σ) (c m:Nat),k+d=xs.length->d<m->c0<=c->I s ->
  ∃(c':Nat) (j:Int),c<=c'/\0<=j/\BF (AE ck ann kn (n+K+50) 19) TV (ann 19 (BW TV)) m ⟨c,[(0,true,.list false (xs.map AR)),(1,true,.fn f [] cap),(7,true,i xs.length),(8,true,i k)],⟨U s,[]⟩⟩ =
   bif (BQ p nx s (xs.drop k)).1 then some (.ret,⟨c',[(4,true,i j),(17,true,i j),(5,true,i j)],⟨U (BQ p nx s (xs.drop k)).2,[]⟩⟩)
   else some (.exit 0,⟨c',[(9,true,.bool false),(0,true,.list false (xs.map AR)),(1,true,.fn f [] cap),(7,true,i xs.length),(8,true,i xs.length)],⟨U (BQ p nx s (xs.drop k)).2,[]⟩⟩)
 |0,k,s,c,m+1,hd,hm,hc0,hi=>by
  have:k=xs.length:=by omega
  subst this;refine⟨c,0,Nat.le_refl _,by omega,?_⟩;simp[AB,BQ]
 |d+1,k,s,c,m+1,hd,hm,hc0,hi=>by
  have hk:k<xs.length:=by omega
  have hw:=BM (k:=k) (by omega);have nrm:∀a:Nat,n+K+a=(n+a)+K:=fun a=>by omega
  rw[AB,bj hk];simp only[BQ];obtain⟨hi',c1,hc1,q⟩:=hp (n+43) c [(15,true,lb xs[k]),(14,true,.ref (AR xs[k])),(13,true,i k),(12,true,.list false (xs.map AR)),(11,true,.fn f [] cap),(0,true,.list false (xs.map AR)),(1,true,.fn f [] cap),(5,true,i k),(7,true,i xs.length),(8,true,i k)] s xs[k] hc0 hi (bg hk);generalize e:p s xs[k]=b at q hi';cases b with
  |true=>
   refine⟨c1,k,hc1,by omega,?_⟩
   try simp only[AR]at q
   rw[<-nrm]at q
   try simp at q
   simp[hk,hw,AR,q,hcw]
  |false=>
   obtain⟨c',j,h1,h2,ih⟩:=wH n K U I f cap hcw p nx xs c0 hp hl d (k+1) (nx s xs[k]) c1 m (by omega) (by omega) (by omega) (hi' rfl)
   refine⟨c',j,by omega,h2,?_⟩
   try simp only[AR]at q ih
   rw[<-nrm]at q
   try simp at q
   simp at ih
   simp[hk,hw,AR,q,ih,hcw]
theorem AKA{σ:Type}(n K:Nat)(up:σ->List AA)(loc:σ->AA)(I:σ->Prop)(f:cq)(cap:List V)(hcw:cap.map weakV=cap)(hco:cap.all (AH 8)=false)(p:σ->List Bool->Bool)(nx:σ->List Bool->σ)(xs:List (List Bool))(c0:Nat)(hp:wG (fun s=>up s++[loc s]) I K f cap p nx xs c0)(hl:xs.length<=40)(hsh:∀s (t:St),(up s).length+1<=t.up.length->(up s++[loc s]).map (AK t)=up s++[loc s])(c dd:Nat)(fr:Fr)(s:σ)(hc0:c0<=c)(hi:I s) :
  ∃(c':Nat) (j:Int),c<=c'/\decide (0<=j)=(BQ p nx s xs).1/\G6 (BO ck ann kn (n+K+100)) (some dd) ⟨c,fr,⟨up s,loc s⟩⟩ 187 [.list false (xs.map AR),.fn f [] cap]=some ⟨c',(dd,true,i j)::fr,⟨up (BQ p nx s xs).2,loc (BQ p nx s xs).2⟩⟩:=by
 obtain⟨c1,j,h1,h2,q⟩:=wH (n+45) K (fun s=>up s++[loc s]) I f cap hcw p nx xs c0 hp (by omega) xs.length 0 s c (n+K+95) (by omega) (by omega) hc0 hi
 have e:n+45+K+50=n+K+95:=by omega
 rw[e]at q
 have hcl:([V.list false (xs.map AR),V.fn f [] cap]).all (AH 9)=false:=by simp[hco]
 have hs:=fun s=>hsh s ⟨up s++[loc s],[]⟩ (by simp)
 simp at hs
 rw[BA Tryz.func187 b187 rfl hcl]
 simp only[bn]at q
 generalize (BQ p nx s xs).2=s' at q|-
 generalize e:(BQ p nx s xs).1=b at q
 cases b with
 |true=>
  refine⟨c1,j,h1,by simpa using h2,?_⟩
  simp at q
  simp[ATW,AG,q,hs]
 |false=>
  refine⟨c1,-1,h1,by simp,?_⟩
  simp at q
  simp[ATW,AG,q,hs]
theorem A4H{σ:Type}(n K:Nat)(up:σ->List AA)(loc:σ->AA)(I:σ->Prop)(f:cq)(cap:List V)(hcw:cap.map weakV=cap)(hco:cap.all (AH 8)=false)(p:σ->List Bool->Bool)(nx:σ->List Bool->σ)(xs:List (List Bool))(c0:Nat)(hp:wG (fun s=>up s++[loc s]++[[]]) I K f cap p nx xs c0)(hl:xs.length<=40)(hsh:∀s (t:St),(up s).length+1<=t.up.length->(up s++[loc s]).map (AK t)=up s++[loc s])(c dd:Nat)(fr:Fr)(s:σ)(hc0:c0<=c)(hi:I s) :
  ∃c':Nat,c<=c'/\G6 (BO ck ann kn (n+K+200)) (some dd) ⟨c,fr,⟨up s,loc s⟩⟩ 159 [.list false (xs.map AR),.fn f [] cap]=some ⟨c',(dd,true,.bool (BQ p nx s xs).1)::fr,⟨up (BQ p nx s xs).2,loc (BQ p nx s xs).2⟩⟩:=by
 have hcl:([V.list false (xs.map AR),V.fn f [] cap]).all (AH 9)=false:=by simp[hco]
 have hsh2:∀s (t:St),(up s++[loc s]).length+1<=t.up.length->(up s++[loc s]++[[]]).map (AK t)=up s++[loc s]++[[]]:=fun s t h=>by have:=hsh s t (by simp at h;omega);simp only[bx,bk,bc,FL]at this|-;rw[this]
 obtain⟨c1,j,h1,h2,q⟩:=AKA (n+97) K (fun s=>up s++[loc s]) (fun _=>[]) I f cap hcw hco p nx xs c0 hp hl hsh2 c 7 [(6,true,.fn f [] cap),(5,true,.list false (xs.map AR)),(0,true,.list false (xs.map AR)),(1,true,.fn f [] cap)] s hc0 hi
 refine⟨c1,h1,?_⟩
 have e:n+97+K+100=n+K+197:=by omega
 rw[e]at q
 have hs:=fun s=>hsh s ⟨up s++[loc s],[]⟩ (by simp)
 simp at hs
 rw[BA Tryz.func159 b159 rfl hcl]
 simp[A6Q,AG,hcw,q,h2,hs]
theorem APF(n K:Nat)(b:AV)(f:cq)(p:List Bool->Bool)(xs:List (List Bool))(hl:xs.length<=40)(hf:∀n x,x∈xs->A2 ck kn (AE ck ann kn (n+K)) f [.agg (AD b),lb x]=some (.bool (p x)))(hh:BL ck f=false:=by simp) :
  A2 ck kn (AE ck ann kn (n+K+300)) 119 [.list false (xs.map AR),.fn f [.agg (AD b)] []]=some (.bool (xs.all p)):=by
 rw[AO rfl,AP Tryz.func119 BHV rfl (by simp[AD,AJ,AL,AF,AR,A4,AS])]
 have hp2:wG (fun (_:Unit)=>[]++[[(3,0,A0.box [V.fn f [.agg (AD b)] []])]]++[[]]) (fun _=>True) (K+20) 160 [.ptr 0 3 0 0] (fun _ x=>!p x) (fun _ _=>()) xs 0:=by
  intro n c1 fr s x hc0 hi hx;refine⟨fun _=>trivial,c1,by omega,?_⟩;have q:=fun n=>hf n x hx;have q2:=q (n+17);have e:n+17+K=n+K+17:=by omega
  rw[e]at q2;simp only[AD]at q2|-;rw[show n+(K+20)=n+K+20 from by omega,bh,BA Tryz.func160 b160 rfl (by simp)];simp[A6S,AG,AD,AJ,AL,AF,AR,A4,AS,q2,hh];try simp[AD,AJ,AL,AF,AR,A4,AS,q2,hh]
 obtain⟨c',h1,q⟩:=A4H (n+77) (K+20) (fun _=>[]) (fun _=>[(3,0,.box [.fn f [.agg (AD b)] []])]) (fun _=>True) 160 [.ptr 0 3 0 0] (by simp) (by simp) (fun _ x=>!p x) (fun _ _=>()) xs 0 hp2 hl (by simp[AD,AJ,AL,AF,AR,A4,AS]) 1 7 [(6,true,.fn 160 [] [.ptr 0 3 0 0]),(5,true,.list false (xs.map AR)),(0,true,.list false (xs.map AR)),(1,true,.fn f [.agg (AD b)] []),(3,true,.ptr 0 3 0 0)] () (Nat.zero_le _) trivial
 have e:n+77+(K+20)+200=n+K+297:=by omega
 rw[e,FN]at q
 have:=KB p xs
 simp only[AD]at q|-
 simp[A6R,AG,q]
 rw[<-this,Bool.not_not]
def wI{σ:Type}(U:σ->List AA)(I:σ->Prop)(K:Nat)(f:cq)(cap:List V)(p:σ->Q8->Bool)(nx:σ->Q8->σ)(xs:List (Q8))(c0:Nat):Prop:=∀n c fr s x,c0<=c->I s->x∈xs->(p s x=false->I (nx s x))/\∃c',c<=c'/\G6 (BO ck ann kn (n+K)) (some 16) ⟨c,fr,⟨U s,[]⟩⟩ f (.agg (AS x)::cap)=some ⟨c',(16,true,.bool (p s x))::fr,⟨U (nx s x),[]⟩⟩
theorem wJ{σ:Type}(n K:Nat)(U:σ->List AA)(I:σ->Prop)(f:cq)(cap:List V)(hcw:cap.map weakV=cap)(p:σ->Q8->Bool)(nx:σ->Q8->σ)(xs:List (Q8))(c0:Nat)(hp:wI U I K f cap p nx xs c0)(hl:xs.length<=1000):∀(d k:Nat) (s:σ) (c m:Nat),k+d=xs.length->d<m->c0<=c->I s ->
  ∃(c':Nat) (j:Int),c<=c'/\0<=j/\BF (AE ck ann kn (n+K+50) 19) TW (ann 19 (BW TW)) m ⟨c,[(0,true,.list false (xs.map AS)),(1,true,.fn f [] cap),(7,true,i xs.length),(8,true,i k)],⟨U s,[]⟩⟩ =
   bif (BQ p nx s (xs.drop k)).1 then some (.ret,⟨c',[(4,true,i j),(17,true,i j),(5,true,i j)],⟨U (BQ p nx s (xs.drop k)).2,[]⟩⟩)
   else some (.exit 0,⟨c',[(9,true,.bool false),(0,true,.list false (xs.map AS)),(1,true,.fn f [] cap),(7,true,i xs.length),(8,true,i xs.length)],⟨U (BQ p nx s (xs.drop k)).2,[]⟩⟩)
 |0,k,s,c,m+1,hd,hm,hc0,hi=>by
  have:k=xs.length:=by omega
  subst this;refine⟨c,0,Nat.le_refl _,by omega,?_⟩;simp[AB,BQ]
 |d+1,k,s,c,m+1,hd,hm,hc0,hi=>by
  have hk:k<xs.length:=by omega
  have hw:=BM (k:=k) (by omega);have nrm:∀a:Nat,n+K+a=(n+a)+K:=fun a=>by omega
  rw[AB,bj hk];simp only[BQ];obtain⟨hi',c1,hc1,q⟩:=hp (n+43) c [(15,true,.agg (AS xs[k])),(14,true,.ref (AS xs[k])),(13,true,i k),(12,true,.list false (xs.map AS)),(11,true,.fn f [] cap),(0,true,.list false (xs.map AS)),(1,true,.fn f [] cap),(5,true,i k),(7,true,i xs.length),(8,true,i k)] s xs[k] hc0 hi (bg hk);generalize e:p s xs[k]=b at q hi';cases b with
  |true=>
   refine⟨c1,k,hc1,by omega,?_⟩
   try simp only[AS]at q
   rw[<-nrm]at q
   try simp at q
   simp[hk,hw,AS,q,hcw]
  |false=>
   obtain⟨c',j,h1,h2,ih⟩:=wJ n K U I f cap hcw p nx xs c0 hp hl d (k+1) (nx s xs[k]) c1 m (by omega) (by omega) (by omega) (hi' rfl)
   refine⟨c',j,by omega,h2,?_⟩
   try simp only[AS]at q ih
   rw[<-nrm]at q
   try simp at q
   simp at ih
   simp[hk,hw,AS,q,ih,hcw]
theorem AKB{σ:Type}(n K:Nat)(up:σ->List AA)(loc:σ->AA)(I:σ->Prop)(f:cq)(cap:List V)(hcw:cap.map weakV=cap)(hco:cap.all (AH 8)=false)(p:σ->Q8->Bool)(nx:σ->Q8->σ)(xs:List (Q8))(c0:Nat)(hp:wI (fun s=>up s++[loc s]) I K f cap p nx xs c0)(hl:xs.length<=40)(hsh:∀s (t:St),(up s).length+1<=t.up.length->(up s++[loc s]).map (AK t)=up s++[loc s])(c dd:Nat)(fr:Fr)(s:σ)(hc0:c0<=c)(hi:I s) :
  ∃(c':Nat) (j:Int),c<=c'/\decide (0<=j)=(BQ p nx s xs).1/\G6 (BO ck ann kn (n+K+100)) (some dd) ⟨c,fr,⟨up s,loc s⟩⟩ 188 [.list false (xs.map AS),.fn f [] cap]=some ⟨c',(dd,true,i j)::fr,⟨up (BQ p nx s xs).2,loc (BQ p nx s xs).2⟩⟩:=by
 obtain⟨c1,j,h1,h2,q⟩:=wJ (n+45) K (fun s=>up s++[loc s]) I f cap hcw p nx xs c0 hp (by omega) xs.length 0 s c (n+K+95) (by omega) (by omega) hc0 hi
 have e:n+45+K+50=n+K+95:=by omega
 rw[e]at q
 have hcl:([V.list false (xs.map AS),V.fn f [] cap]).all (AH 9)=false:=by simp[hco]
 have hs:=fun s=>hsh s ⟨up s++[loc s],[]⟩ (by simp)
 simp at hs
 rw[BA Tryz.func188 b188 rfl hcl]
 simp only[bn]at q
 generalize (BQ p nx s xs).2=s' at q|-
 generalize e:(BQ p nx s xs).1=b at q
 cases b with
 |true=>
  refine⟨c1,j,h1,by simpa using h2,?_⟩
  simp at q
  simp[ATX,AG,q,hs]
 |false=>
  refine⟨c1,-1,h1,by simp,?_⟩
  simp at q
  simp[ATX,AG,q,hs]
theorem A4I{σ:Type}(n K:Nat)(up:σ->List AA)(loc:σ->AA)(I:σ->Prop)(f:cq)(cap:List V)(hcw:cap.map weakV=cap)(hco:cap.all (AH 8)=false)(p:σ->Q8->Bool)(nx:σ->Q8->σ)(xs:List (Q8))(c0:Nat)(hp:wI (fun s=>up s++[loc s]++[[]]) I K f cap p nx xs c0)(hl:xs.length<=40)(hsh:∀s (t:St),(up s).length+1<=t.up.length->(up s++[loc s]).map (AK t)=up s++[loc s])(c dd:Nat)(fr:Fr)(s:σ)(hc0:c0<=c)(hi:I s) :
  ∃c':Nat,c<=c'/\G6 (BO ck ann kn (n+K+200)) (some dd) ⟨c,fr,⟨up s,loc s⟩⟩ 161 [.list false (xs.map AS),.fn f [] cap]=some ⟨c',(dd,true,.bool (BQ p nx s xs).1)::fr,⟨up (BQ p nx s xs).2,loc (BQ p nx s xs).2⟩⟩:=by
 have hcl:([V.list false (xs.map AS),V.fn f [] cap]).all (AH 9)=false:=by simp[hco]
 have hsh2:∀s (t:St),(up s++[loc s]).length+1<=t.up.length->(up s++[loc s]++[[]]).map (AK t)=up s++[loc s]++[[]]:=fun s t h=>by have:=hsh s t (by simp at h;omega);simp only[bx,bk,bc,FL]at this|-;rw[this]
 obtain⟨c1,j,h1,h2,q⟩:=AKB (n+97) K (fun s=>up s++[loc s]) (fun _=>[]) I f cap hcw hco p nx xs c0 hp hl hsh2 c 7 [(6,true,.fn f [] cap),(5,true,.list false (xs.map AS)),(0,true,.list false (xs.map AS)),(1,true,.fn f [] cap)] s hc0 hi
 refine⟨c1,h1,?_⟩
 have e:n+97+K+100=n+K+197:=by omega
 rw[e]at q
 have hs:=fun s=>hsh s ⟨up s++[loc s],[]⟩ (by simp)
 simp at hs
 rw[BA Tryz.func161 b161 rfl hcl]
 simp[A6T,AG,hcw,q,h2,hs]
theorem APG(n K:Nat)(f:cq)(p:Q8->Bool)(xs:List (Q8))(hl:xs.length<=40)(hf:∀n x,x∈xs->A2 ck kn (AE ck ann kn (n+K)) f [.agg (AS x)]=some (.bool (p x)))(hh:BL ck f=false:=by simp) :
  A2 ck kn (AE ck ann kn (n+K+300)) 120 [.list false (xs.map AS),.fn f [] []]=some (.bool (xs.all p)):=by
 rw[AO rfl,AP Tryz.func120 BHW rfl (by simp[AC,AJ,AL,AF,AR,A4,AS])]
 have hp2:wI (fun (_:Unit)=>[]++[[(3,0,A0.box [V.fn f [] []])]]++[[]]) (fun _=>True) (K+20) 162 [.ptr 0 3 0 0] (fun _ x=>!p x) (fun _ _=>()) xs 0:=by
  intro n c1 fr s x hc0 hi hx;refine⟨fun _=>trivial,c1+1,by omega,?_⟩;have q:=fun n=>hf n x hx;have q2:=q (n+17);have e:n+17+K=n+K+17:=by omega
  rw[e]at q2;simp only[AS]at q2|-;rw[show n+(K+20)=n+K+20 from by omega,bh,BA Tryz.func162 b162 rfl (by simp)];simp[A6V,AG,AJ,q2,hh];try simp[AJ,q2,hh]
 obtain⟨c',h1,q⟩:=A4I (n+77) (K+20) (fun _=>[]) (fun _=>[(3,0,.box [.fn f [] []])]) (fun _=>True) 162 [.ptr 0 3 0 0] (by simp) (by simp) (fun _ x=>!p x) (fun _ _=>()) xs 0 hp2 hl (by simp[AC,AJ,AL,AF,AR,A4,AS]) 1 7 [(6,true,.fn 162 [] [.ptr 0 3 0 0]),(5,true,.list false (xs.map AS)),(0,true,.list false (xs.map AS)),(1,true,.fn f [] []),(3,true,.ptr 0 3 0 0)] () (Nat.zero_le _) trivial
 have e:n+77+(K+20)+200=n+K+297:=by omega
 rw[e,FN]at q
 have:=KB p xs
 skip
 simp[A6U,AG,q]
 rw[<-this,Bool.not_not]
def wK{σ:Type}(U:σ->List AA)(I:σ->Prop)(K:Nat)(f:cq)(cap:List V)(p:σ->Sp->Bool)(nx:σ->Sp->σ)(xs:List (Sp))(c0:Nat):Prop:=∀n c fr s x,c0<=c->I s->x∈xs->(p s x=false->I (nx s x))/\∃c',c<=c'/\G6 (BO ck ann kn (n+K)) (some 16) ⟨c,fr,⟨U s,[]⟩⟩ f (.agg (AQ x)::cap)=some ⟨c',(16,true,.bool (p s x))::fr,⟨U (nx s x),[]⟩⟩
theorem wL{σ:Type}(n K:Nat)(U:σ->List AA)(I:σ->Prop)(f:cq)(cap:List V)(hcw:cap.map weakV=cap)(p:σ->Sp->Bool)(nx:σ->Sp->σ)(xs:List (Sp))(c0:Nat)(hp:wK U I K f cap p nx xs c0)(hl:xs.length<=1000):∀(d k:Nat) (s:σ) (c m:Nat),k+d=xs.length->d<m->c0<=c->I s ->
  ∃(c':Nat) (j:Int),c<=c'/\0<=j/\BF (AE ck ann kn (n+K+50) 19) M6 (ann 19 (BW M6)) m ⟨c,[(0,true,.list false (xs.map AQ)),(1,true,.fn f [] cap),(7,true,i xs.length),(8,true,i k)],⟨U s,[]⟩⟩ =
   bif (BQ p nx s (xs.drop k)).1 then some (.ret,⟨c',[(4,true,i j),(17,true,i j),(5,true,i j)],⟨U (BQ p nx s (xs.drop k)).2,[]⟩⟩)
   else some (.exit 0,⟨c',[(9,true,.bool false),(0,true,.list false (xs.map AQ)),(1,true,.fn f [] cap),(7,true,i xs.length),(8,true,i xs.length)],⟨U (BQ p nx s (xs.drop k)).2,[]⟩⟩)
 |0,k,s,c,m+1,hd,hm,hc0,hi=>by
  have:k=xs.length:=by omega
  subst this;refine⟨c,0,Nat.le_refl _,by omega,?_⟩;simp[AB,BQ]
 |d+1,k,s,c,m+1,hd,hm,hc0,hi=>by
  have hk:k<xs.length:=by omega
  have hw:=BM (k:=k) (by omega);have nrm:∀a:Nat,n+K+a=(n+a)+K:=fun a=>by omega
  rw[AB,bj hk];simp only[BQ];obtain⟨hi',c1,hc1,q⟩:=hp (n+43) c [(15,true,.agg (AQ xs[k])),(14,true,.ref (AQ xs[k])),(13,true,i k),(12,true,.list false (xs.map AQ)),(11,true,.fn f [] cap),(0,true,.list false (xs.map AQ)),(1,true,.fn f [] cap),(5,true,i k),(7,true,i xs.length),(8,true,i k)] s xs[k] hc0 hi (bg hk);generalize e:p s xs[k]=b at q hi';cases b with
  |true=>
   refine⟨c1,k,hc1,by omega,?_⟩
   try simp only[AQ]at q
   rw[<-nrm]at q
   try simp at q
   simp[hk,hw,AQ,q,hcw]
  |false=>
   obtain⟨c',j,h1,h2,ih⟩:=wL n K U I f cap hcw p nx xs c0 hp hl d (k+1) (nx s xs[k]) c1 m (by omega) (by omega) (by omega) (hi' rfl)
   refine⟨c',j,by omega,h2,?_⟩
   try simp only[AQ]at q ih
   rw[<-nrm]at q
   try simp at q
   simp at ih
   simp[hk,hw,AQ,q,ih,hcw]
theorem AKC{σ:Type}(n K:Nat)(up:σ->List AA)(loc:σ->AA)(I:σ->Prop)(f:cq)(cap:List V)(hcw:cap.map weakV=cap)(hco:cap.all (AH 8)=false)(p:σ->Sp->Bool)(nx:σ->Sp->σ)(xs:List (Sp))(c0:Nat)(hp:wK (fun s=>up s++[loc s]) I K f cap p nx xs c0)(hl:xs.length<=40)(hsh:∀s (t:St),(up s).length+1<=t.up.length->(up s++[loc s]).map (AK t)=up s++[loc s])(c dd:Nat)(fr:Fr)(s:σ)(hc0:c0<=c)(hi:I s) :
  ∃(c':Nat) (j:Int),c<=c'/\decide (0<=j)=(BQ p nx s xs).1/\G6 (BO ck ann kn (n+K+100)) (some dd) ⟨c,fr,⟨up s,loc s⟩⟩ 189 [.list false (xs.map AQ),.fn f [] cap]=some ⟨c',(dd,true,i j)::fr,⟨up (BQ p nx s xs).2,loc (BQ p nx s xs).2⟩⟩:=by
 obtain⟨c1,j,h1,h2,q⟩:=wL (n+45) K (fun s=>up s++[loc s]) I f cap hcw p nx xs c0 hp (by omega) xs.length 0 s c (n+K+95) (by omega) (by omega) hc0 hi
 have e:n+45+K+50=n+K+95:=by omega
 rw[e]at q
 have hcl:([V.list false (xs.map AQ),V.fn f [] cap]).all (AH 9)=false:=by simp[hco]
 have hs:=fun s=>hsh s ⟨up s++[loc s],[]⟩ (by simp)
 simp at hs
 rw[BA Tryz.func189 b189 rfl hcl]
 simp only[bn]at q
 generalize (BQ p nx s xs).2=s' at q|-
 generalize e:(BQ p nx s xs).1=b at q
 cases b with
 |true=>
  refine⟨c1,j,h1,by simpa using h2,?_⟩
  simp at q
  simp[AA8,AG,q,hs]
 |false=>
  refine⟨c1,-1,h1,by simp,?_⟩
  simp at q
  simp[AA8,AG,q,hs]
theorem A4J{σ:Type}(n K:Nat)(up:σ->List AA)(loc:σ->AA)(I:σ->Prop)(f:cq)(cap:List V)(hcw:cap.map weakV=cap)(hco:cap.all (AH 8)=false)(p:σ->Sp->Bool)(nx:σ->Sp->σ)(xs:List (Sp))(c0:Nat)(hp:wK (fun s=>up s++[loc s]++[[]]) I K f cap p nx xs c0)(hl:xs.length<=40)(hsh:∀s (t:St),(up s).length+1<=t.up.length->(up s++[loc s]).map (AK t)=up s++[loc s])(c dd:Nat)(fr:Fr)(s:σ)(hc0:c0<=c)(hi:I s) :
  ∃c':Nat,c<=c'/\G6 (BO ck ann kn (n+K+200)) (some dd) ⟨c,fr,⟨up s,loc s⟩⟩ 171 [.list false (xs.map AQ),.fn f [] cap]=some ⟨c',(dd,true,.bool (BQ p nx s xs).1)::fr,⟨up (BQ p nx s xs).2,loc (BQ p nx s xs).2⟩⟩:=by
 have hcl:([V.list false (xs.map AQ),V.fn f [] cap]).all (AH 9)=false:=by simp[hco]
 have hsh2:∀s (t:St),(up s++[loc s]).length+1<=t.up.length->(up s++[loc s]++[[]]).map (AK t)=up s++[loc s]++[[]]:=fun s t h=>by have:=hsh s t (by simp at h;omega);simp only[bx,bk,bc,FL]at this|-;rw[this]
 obtain⟨c1,j,h1,h2,q⟩:=AKC (n+97) K (fun s=>up s++[loc s]) (fun _=>[]) I f cap hcw hco p nx xs c0 hp hl hsh2 c 7 [(6,true,.fn f [] cap),(5,true,.list false (xs.map AQ)),(0,true,.list false (xs.map AQ)),(1,true,.fn f [] cap)] s hc0 hi
 refine⟨c1,h1,?_⟩
 have e:n+97+K+100=n+K+197:=by omega
 rw[e]at q
 have hs:=fun s=>hsh s ⟨up s++[loc s],[]⟩ (by simp)
 simp at hs
 rw[BA Tryz.func171 b171 rfl hcl]
 simp[AL2,AG,hcw,q,h2,hs]
theorem AS2{σ:Type}(n K L:Nat)(up:σ->List AA)(loc:σ->AA)(hL:∀s,(up s).length=L)(I:σ->Prop)(f:cq)(cap:List V)(hcw:cap.map weakV=cap)(hco:cap.all (AH 8)=false)(p:σ->Sp->Bool)(nx:σ->Sp->σ)(xs:List (Sp))(hl:xs.length<=40)
  (hsh:∀s (t:St),L+1<=t.up.length->(up s++[loc s]).map (AK t)=up s++[loc s]) (hcap:∀(t:St) γ,L+1<=t.up.length->AK t [(3,γ,A0.box [V.fn f [] cap])]=[(3,γ,A0.box [V.fn f [] cap])]) (c:Nat)
  (hp:∀n c1 γ fr s x,c<c1->I s->x∈xs->(p s x=true->I (nx s x))/\∃c',c1<=c'/\G6 (BO ck ann kn (n+K)) (some 6) ⟨c1,fr,⟨up s++[loc s]++[[(3,c,A0.box [V.fn f [] cap])]]++[[]]++[[]],[(2,γ,.box (AQ x))]⟩⟩ f (.agg (AQ x)::cap)=some ⟨c',(6,true,.bool (p s x))::fr,⟨up (nx s x)++[loc (nx s x)]++[[(3,c,A0.box [V.fn f [] cap])]]++[[]]++[[]],[(2,γ,.box (AQ x))]⟩⟩) (dd:Nat) (fr:Fr) (s:σ) (hi:I s) :
  ∃c':Nat,c<=c'/\G6 (BO ck ann kn (n+K+300)) (some dd) ⟨c,fr,⟨up s,loc s⟩⟩ 137 [.list false (xs.map AQ),.fn f [] cap]=some ⟨c',(dd,true,.bool (!(BQ (fun s x=>!p s x) nx s xs).1))::fr,⟨up (BQ (fun s x=>!p s x) nx s xs).2,loc (BQ (fun s x=>!p s x) nx s xs).2⟩⟩:=by
 have hcl:([V.list false (xs.map AQ),V.fn f [] cap]).all (AH 9)=false:=by simp[SQ,hco]
 have hp2:wK (fun s=>up s++[loc s]++[[(3,c,A0.box [V.fn f [] cap])]]++[[]]) I (K+20) 172 [.ptr (L+1) 3 c 0] (fun s x=>!p s x) nx xs (c+1):=by
  have hcap':∀t:St,L+1<=t.up.length->AK t [(3,c,A0.box [V.fn f [] cap])]=[(3,c,A0.box [V.fn f [] cap])]:=fun t h=>hcap t c h;intro n c1 fr s x hc0 hi hx;obtain⟨h1,c',h2,q⟩:=hp (n+17) (c1+1) c1 [(5,true,.agg (AQ x)),(4,true,.fn f [] cap),(0,true,.agg (AQ x)),(1,true,.ptr (L+1) 3 c 0),(2,true,.ptr (L+4) 2 c1 0)] s x (by omega) hi hx;refine⟨fun h=>h1 (by simpa using h),c',by omega,?_⟩;have e:n+17+K=n+K+17:=by omega
  rw[e]at q;rw[show n+(K+20)=n+K+20 from by omega,BA Tryz.func172 b172 rfl (by simp)];generalize hB:[(3,c,A0.box [V.fn f [] cap])]=B at q hcap';have hB1:AA.get B 3=some (c,.box [.fn f [] cap]):=by rw[<-hB];rfl
  have hg:(up s++[loc s]++[B]++[[]])[L+1]? = some B:=by simp only[bz];rw[List.getElem?_append_right (by rw[hL];omega)];simp[hL]
  have hs1:∀s (t:St),L+1<=t.up.length->List.map (AK t) (up s)=up s/\AK t (loc s)=loc s:=fun s t h=>by simpa using hsh s t h
  have hu:∀(l:List AA) a b,CL (l++[a,b,[],[]])=some (l++[a,b,[]],[]):=fun l a b=>by have:=DA ([]:AA) (l++[a,b,[]]);rwa [bz]at this
  simp only[bz,List.cons_append,bh,AQ]at q hg|-;simp[hu,ATY,AG,hcw,q,hg,hL,hB1,(hs1 _ _ _).1,(hs1 _ _ _).2,hcap']
 have hsh2:∀s (t:St),(up s++[loc s]).length+1<=t.up.length->(up s++[loc s]++[[(3,c,A0.box [V.fn f [] cap])]]).map (AK t)=up s++[loc s]++[[(3,c,A0.box [V.fn f [] cap])]]:=fun s t h=>by
  have h':L+1<=t.up.length:=by simp[hL]at h;omega
  have:=hsh s t h';have h3:=hcap t c h';rw[bx,this];simp only[bk,bc,h3]
 obtain⟨c',h1,q⟩:=A4J (n+77) (K+20) (fun s=>up s++[loc s]) (fun _=>[(3,c,A0.box [V.fn f [] cap])]) I 172 [.ptr (L+1) 3 c 0] (by simp) (by simp) (fun s x=>!p s x) nx xs (c+1) hp2 hl hsh2 (c+1) 7 [(6,true,.fn 172 [] [.ptr (L+1) 3 c 0]),(5,true,.list false (xs.map AQ)),(0,true,.list false (xs.map AQ)),(1,true,.fn f [] cap),(3,true,.ptr (L+1) 3 c 0)] s (Nat.le_refl _) hi
 refine⟨c',by omega,?_⟩
 have e:n+77+(K+20)+200=n+K+297:=by omega
 rw[e]at q
 have hs1:∀s (t:St),L+1<=t.up.length->List.map (AK t) (up s)=up s/\AK t (loc s)=loc s:=fun s t h=>by simpa using hsh s t h
 rw[BA Tryz.func137 b137 rfl hcl]
 try simp only[List.length_append,bf,List.length_nil]at q|-
 simp[AL4,AG,hcw,hL,q,(hs1 _ _ _).1,(hs1 _ _ _).2]
def JA(P:List Int->Bool)(N x:Nat)(y:List Int):List Int:=if (AH9 (G9 x N) y&&P (G9 x N))=true then G9 x N else y
def AS3(N:Nat):Nat->List Int->Prop
 |_,[]=>True
 |fr,a::r=>∃i:Nat,a=i/\fr<=i/\i<N/\AS3 N (i+1) r
structure BL0(P:List Int->Bool)(N:Nat)(y:List Int):Prop where
 inc:AS3 N 0 y
 can:P y=true
 min:∀t,AS3 N 0 t->P t=true->AH9 t y=false
end Go.Proofs.Tryz.Op
