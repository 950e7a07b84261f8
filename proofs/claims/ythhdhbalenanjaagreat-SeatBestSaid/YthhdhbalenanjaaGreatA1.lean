/- A case of families on a beach: what is valid, and what a seating is, by the program and by the reference. No program in sight. -/
import Derived.Test.YthhdhbalenanjaaGreatX1
import Derived.Test.YthhdhbalenanjaaGreatRc
open Go renaming FuncId->cq
open Go.Proofs.Tryz renaming prog->ck
open List renaming drop_eq_getElem_cons->bj,map_cons->bk,take_succ_eq_append_getElem->bw,map_append->bx,append_assoc->bz,all_eq_true->bb,map_nil->bc,length_cons->bf,getElem_mem->bg,nil_append->bh,drop_zero->bn,range->bp,sum_cons->cj
open Bool renaming and_eq_true->bq
set_option maxRecDepth 100000
set_option linter.unusedSimpArgs false
namespace Go.Wind
structure Q9 where
 size:Int
 good:Int
 dog:Bool
 shy:Bool
deriving DecidableEq
structure AQ where
 beach:AL
 plan:List (List Int)
 chairs:List (List Bool)
 fams:List Q9
def K2(f:Q9):Bool:=F1 f.size 1 4&&F1 f.good 0 5
def HE(c:AQ):Bool:=decide ((c.chairs.length:Int)=c.beach.rows)&&c.chairs.all (fun l=>decide ((l.length:Int)=c.beach.places))
def EC(c:AQ):Int :=
 if 3<c.fams.length then 3
 else if D2 c.beach≠0 then D2 c.beach
 else if ES c.beach c.plan=false then 2
 else if BS c.beach=[] then 11
 else if HE c=false then 1
 else if c.fams.all K2=false then 1 else 0
structure BN(c:AQ):Prop where
 be:Valid c.beach
 pl:ES c.beach c.plan=true
 tr:BS c.beach≠[]
 fl:c.fams.length<=3
 ch:(c.chairs.length:Int)=c.beach.rows
 cr:∀l∈c.chairs,(l.length:Int)=c.beach.places
 fo:∀f∈c.fams,(1<=f.size/\f.size<=4)/\0<=f.good/\f.good<=5
theorem GY{c:AQ}(h:EC c=0):BN c:=by
 unfold EC at h;split at h
 ·cases h
 rename_i h1;split at h
 ·rename_i h2;exact absurd h h2
 rename_i h2;split at h
 ·cases h
 rename_i h3;split at h
 ·cases h
 rename_i h4;split at h
 ·cases h
 rename_i h5;split at h
 ·cases h
 rename_i h6;have hb:D2 c.beach=0:=Classical.byContradiction fun hh=>h2 hh;have h5:HE c=true:=by simpa using h5
 have h6:c.fams.all K2=true:=by simpa using h6
 simp only[HE,bq,decide_eq_true_eq,bb]at h5;refine⟨UJ hb,by simpa using h3,h4,by omega,h5.1,h5.2,fun f hf=>?_⟩;have:=bb.1 h6 f hf;simp only[K2,bq,C6]at this;exact this
structure Sp where
 fam:Nat
 size:Int
 row:Int
 place:Int
deriving DecidableEq
def ED(c:AQ)(k:Nat):Q9:=c.fams.getD k ⟨0,0,false,false⟩
def JT(c:AQ)(a b:Nat):Bool:=decide (a≠b)&&((ED c a).shy&&(ED c b).dog||(ED c a).dog&&(ED c b).shy)
def C4(c:AQ)(x:Sp):Bool:=F1 x.row 0 (c.beach.rows-1)&&F1 x.place 0 (c.beach.places-x.size)
def jH(x y:Sp):Int:=max (x.place-y.place-y.size) (y.place-x.place-x.size)
def E3(c:AQ)(x y:Sp):Bool:=decide (x.row≠y.row)||(decide (0<jH x y)||(decide (jH x y=0)&&!JT c x.fam y.fam))
def CP(c:AQ):Nat:=(c.chairs.map fun l=>l.count true).sum
def EE(l:List Sp):Int:=(l.map Sp.size).sum
def D0(c:AQ):List Sp->List Sp->Bool
 |_,[]=>true
 |before,x::r=>C4 c x&&before.all (E3 c x)&&D0 c (before++[x]) r
def HF(c:AQ)(l:List Sp):Bool:=D0 c [] l&&decide (EE l<=CP c)
def HG(k:Nat):List Q9->List (Int×Int)->List Sp
 |f::fs,s::ss=>⟨k,f.size,s.1,s.2⟩::HG (k+1) fs ss
 |_,_=>[]
def A5(c:AQ)(KT:List (Int×Int)):List Sp:=HG 0 c.fams KT
def D1(c:AQ)(KT:List (Int×Int)):Bool:=decide (KT.length=c.fams.length)&&HF c (A5 c KT)
def RN(c:AQ)(x y:Sp):Bool:=(bp y.size.toNat).any fun a=>(bp x.size.toNat).any fun b=>
 let d:=y.place+(a:Int)-x.place-(b:Int)
 decide (d=0)||((decide (d=1)||decide (d = -1))&&JT c y.fam x.fam)
def AD0(c:AQ)(before:List Sp)(x:Sp):Bool:=C4 c x&&before.all fun y=>decide (y.row≠x.row)||!RN c x y
theorem AAR(c:AQ)(a b:Nat):JT c a b=JT c b a:=by unfold JT;have:decide (a≠b)=decide (b≠a):=decide_eq_decide.2 ⟨Ne.symm,Ne.symm⟩;rw[this];cases (ED c a).shy<;>cases (ED c b).dog<;>cases (ED c a).dog<;>cases (ED c b).shy<;>simp
theorem AAS{c:AQ}{x y:Sp}(hx:1<=x.size)(hy:1<=y.size):RN c x y=true↔jH x y<0\/(jH x y=0/\JT c x.fam y.fam=true):=by
 unfold RN jH;simp only[List.any_eq_true,List.mem_range,Bool.or_eq_true,bq,decide_eq_true_eq,AAR c y.fam x.fam];constructor
 ·rintro ⟨a,ha,b,hb,h|⟨h,hm⟩⟩
  ·left;omega
  ·by_cases h0:max (x.place-y.place-y.size) (y.place-x.place-x.size)=0
   ·exact .inr ⟨h0,hm⟩
   ·left;omega
 ·rintro (h|⟨h,hm⟩)
  ·by_cases hp:x.place<=y.place
   ·exact⟨0,by omega,(y.place-x.place).toNat,by omega,.inl (by omega)⟩
   ·exact⟨(x.place-y.place).toNat,by omega,0,by omega,.inl (by omega)⟩
  ·by_cases hp:x.place<=y.place
   ·exact⟨0,by omega,(x.size-1).toNat,by omega,.inr ⟨.inl (by omega),hm⟩⟩
   ·exact⟨(y.size-1).toNat,by omega,0,by omega,.inr ⟨.inr (by omega),hm⟩⟩
theorem sS{c:AQ}{before:List Sp}{x:Sp}(hx:1<=x.size)(hb:∀y∈before,1<=y.size):AD0 c before x=(C4 c x&&before.all (E3 c x)):=by
 unfold AD0;congr 1;rw[Bool.eq_iff_iff,bb,bb];refine forall_congr' fun y=>forall_congr' fun hy=>?_;have h:=AAS (c:=c) hx (hb y hy);unfold E3;simp only[Bool.or_eq_true,bq,decide_eq_true_eq,Bool.not_eq_true',<-Bool.not_eq_true];rw[h];have e:(y.row≠x.row)↔(x.row≠y.row):=⟨Ne.symm,Ne.symm⟩;rw[e];constructor
 ·rintro (h1|h1)
  ·exact .inl h1
  ·refine .inr ?_;by_cases h0:0<jH x y
   ·exact .inl h0
   ·exact .inr ⟨by omega,fun hm=>h1 (.inr ⟨by omega,hm⟩)⟩
 ·rintro (h1|h1|⟨h1,h2⟩)
  ·exact .inl h1
  ·exact .inr fun h3=>by rcases h3 with h3|⟨h3,_⟩<;>omega
  ·exact .inr fun h3=>by
    rcases h3 with h3|⟨_,h3⟩
    ·omega
    ·exact h2 h3
theorem DL:∀{k:Nat} {fs:List Q9} {ss:List (Int×Int)},ss.length=fs.length->(HG k fs ss).length=fs.length
 |_,[],_,_=>rfl
 |_,_::_,[],h=>by simp at h
 |k,f::fs,s::ss,h=>by simp only[HG,bf,DL (k:=k+1) (fs:=fs) (ss:=ss) (by simpa using h)]
theorem SU:∀{k:Nat} {fs:List Q9} {ss:List (Int×Int)},ss.length=fs.length->EE (HG k fs ss)=(fs.map Q9.size).sum
 |_,[],_,_=>rfl
 |_,_::_,[],h=>by simp at h
 |k,f::fs,s::ss,h=>by have ih:=SU (k:=k+1) (fs:=fs) (ss:=ss) (by simpa using h);unfold EE at ih|-;simp only[HG,bk,cj,ih]
theorem I0:∀{k:Nat} {fs:List Q9} {ss:List (Int×Int)} (j:Nat) (h1:j<fs.length) (h2:j<ss.length) (h3:j<(HG k fs ss).length),(HG k fs ss)[j]=⟨k+j,fs[j].size,ss[j].1,ss[j].2⟩
 |_,[],_,_,h1,_,_=>by simp at h1
 |_,_::_,[],_,_,h2,_=>by simp at h2
 |k,f::fs,s::ss,0,_,_,_=>rfl
 |k,f::fs,s::ss,j+1,h1,h2,h3=>by simp only[HG,List.getElem_cons_succ];rw[I0 j (by simpa using h1) (by simpa using h2) (by simpa [HG]using h3),show k+1+j=k+(j+1) by omega]
structure CB where
 sun:Int
 carried:Int
 enough:Bool
deriving DecidableEq
def DC(sure:List (List Int))(r p:Int):Int:=(sure.getD r.toNat []).getD p.toNat 0
def JX(c:AQ)(r p:Int):Bool:=(c.chairs.getD r.toNat []).getD p.toNat false
def BF(c:AQ)(sure:List (List Int))(x:Sp):CB :=
  ⟨EY (fun p=>DC sure x.row (x.place+(p:Int))) x.size.toNat,
   EY (fun p=>if JX c x.row (x.place+(p:Int))=true then 0 else 1) x.size.toNat,
   (bp x.size.toNat).all fun p=>decide ((ED c x.fam).good<=DC sure x.row (x.place+(p:Int)))⟩
def FK(c:AQ)(sure:List (List Int)):List (Nat×Int)->List Sp->List (List Sp)
 |[],out=>[out]
 |g::gs,out=>(bp c.beach.rows.toNat).flatMap fun (r:Nat)=>(bp (c.beach.places-g.2+1).toNat).flatMap fun (p:Nat)=>
  if ((BF c sure ⟨g.1,g.2,(r:Int),(p:Int)⟩).enough&&out.all (E3 c ⟨g.1,g.2,(r:Int),(p:Int)⟩))=true then FK c sure gs (out++[⟨g.1,g.2,(r:Int),(p:Int)⟩]) else[]
def D6(c:AQ)(sure:List (List Int))(l:List Sp):CB:=l.foldl (fun t x=>let s:=BF c sure x;⟨t.sun+s.sun,t.carried+s.carried,t.enough&&s.enough⟩) ⟨0,0,true⟩
def EL(c:AQ)(sure:List (List Int))(acc:Option (List Sp×CB))(l:List Sp):Option (List Sp×CB) :=
 let s:=D6 c sure l
 match acc with
 |some (b,t)=>if s.sun<t.sun\/(s.sun=t.sun/\t.carried<=s.carried) then some (b,t) else some (l,s)
 |none=>some (l,s)
def AD1(c:AQ)(sure:List (List Int))(ls:List (List Sp)):Option (List Sp×CB):=ls.foldl (EL c sure) none
theorem Y9{c:AQ}{sure:List (List Int)}:∀(ls:List (List Sp)) (acc:Option (List Sp×CB)),(match ls.foldl (EL c sure) acc with
  |some (b,t)=>(b∈ls/\t=D6 c sure b)\/acc=some (b,t)
  | none=>ls=[]/\acc=none)
 |[],acc=>by
  cases acc with
  |none=>exact⟨rfl,rfl⟩
  |some bt=>exact .inr rfl
 |l::ls,acc=>by
  have ih:=Y9 (c:=c) (sure:=sure) ls (EL c sure acc l);simp only[List.foldl_cons];generalize ls.foldl (EL c sure) (EL c sure acc l)=R at ih|-;have hstep:EL c sure acc l=acc/\acc≠none\/EL c sure acc l=some (l,D6 c sure l):=by
   cases acc with
   |none=>exact .inr rfl
   |some bt=>
    obtain⟨b,t⟩:=bt
    simp only[EL]
    split
    ·exact .inl ⟨rfl,by simp⟩
    ·exact .inr rfl
  cases R with
  |none=>
   obtain⟨_,h2⟩:=ih
   rcases hstep with⟨e,h⟩|e
   ·rw[e]at h2;exact absurd h2 h
   ·rw[e]at h2;cases h2
  |some bt=>
   obtain⟨b,t⟩:=bt
   simp only at ih|-
   rcases ih with⟨h1,h2⟩|h
   ·exact .inl ⟨by simp[h1],h2⟩
   ·rcases hstep with⟨e,_⟩|e
    ·rw[e]at h;exact .inr h
    ·rw[e]at h;cases h;exact .inl ⟨by simp,rfl⟩
end Go.Wind
open Go Go.Pg Go.Proofs Go.Wind
namespace Go.Proofs.Tryz.Op
def A6(x:Bool):List V:=[.bool x]
abbrev lb(l:List Bool):V:=.list false (l.map A6)
def AS(l:List Bool):List V:=[lb l]
def AU(f:Q9):List V:=[i f.size,i f.good,.bool f.dog,.bool f.shy]
def AP(x:Sp):List V:=[i (x.fam:Int),i x.size,i x.row,i x.place]
def AD(c:AQ):List V:=[i c.beach.last,i c.beach.rows,i c.beach.places,i c.beach.reach,li c.beach.face,li c.beach.sun,FO c.beach.winds,.list false (c.beach.breaks.map AJ),.list false (c.beach.notes.map AJ),FO c.plan,.list false (c.chairs.map AS),.list false (c.fams.map AU)]
def okF(f:Q9):Prop:=JI f.size/\JI f.good
structure okC(c:AQ):Prop where
 b:okB c.beach
 p:∀l∈c.plan,∀n∈l,JI n
 f:∀f∈c.fams,okF f
end Go.Proofs.Tryz.Op
namespace Go.Wind
theorem M1(c:AQ):∀(a before r:List Sp),D0 c before (a++r)=(D0 c before a&&D0 c (before++a) r)
 |[],before,r=>by simp[D0]
 |x::a,before,r=>by simp only[List.cons_append,D0,M1 c a (before++[x]) r,bz,Bool.and_assoc];rfl
theorem mH(c:AQ)(l:List Sp){j:Nat}(hj:j<l.length):D0 c [] (l.take (j+1))=(D0 c [] (l.take j)&&(C4 c l[j]&&(l.take j).all (E3 c l[j]))):=by rw[bw hj,M1];simp[D0]
theorem ZA(c:AQ)(l:List Sp)(j:Nat)(h:D0 c [] (l.take j)=false):D0 c [] l=false:=by have:=M1 c (l.take j) [] (l.drop j);rw[List.take_append_drop,h,Bool.false_and]at this;exact this
theorem K3(c:AQ):∀(a before:List Sp),D0 c before a=true->∀x∈a,C4 c x=true
 |[],_,_,_,hx=>by cases hx
 |y::a,before,h,x,hx=>by
  simp only[D0,bq]at h;rcases List.mem_cons.1 hx with rfl|hx
  ·exact h.1.1
  ·exact K3 c a _ h.2 x hx
theorem mI(l:List Sp){j:Nat}(hj:j<l.length):EE (l.take (j+1))=EE (l.take j)+l[j].size:=by rw[bw hj];simp only[EE,bx,bk,bc,List.sum_append,cj,List.sum_nil,Int.add_zero]
theorem V0:∀(l:List Sp),(∀x∈l,0<=x.size/\x.size<=4)->0<=EE l/\EE l<=4*l.length
 |[],_=>by simp[EE]
 |x::l,h=>by have ih:=V0 l fun y hy=>h y (by simp[hy]);have:=h x (by simp);simp only[EE,bk,cj,bf]at ih|-;omega
end Go.Wind
namespace Go.Proofs.Tryz.Op
def wH{σ:Type}(U:σ->List AA)(I:σ->Prop)(K:Nat)(f:cq)(cap:List V)(p:σ->List Bool->Bool)(nx:σ->List Bool->σ)(xs:List (List Bool))(c0:Nat):Prop:=∀n c fr s x,c0<=c->I s->x∈xs->(p s x=false->I (nx s x))/\∃c',c<=c'/\GW (BT ck ann kn (n+K)) (some 16) ⟨c,fr,⟨U s,[]⟩⟩ f (lb x::cap)=some ⟨c',(16,true,.bool (p s x))::fr,⟨U (nx s x),[]⟩⟩
theorem wI{σ:Type}(n K:Nat)(U:σ->List AA)(I:σ->Prop)(f:cq)(cap:List V)(hcw:cap.map weakV=cap)(p:σ->List Bool->Bool)(nx:σ->List Bool->σ)(xs:List (List Bool))(c0:Nat)(hp:wH U I K f cap p nx xs c0)(hl:xs.length<=1000):∀(d k:Nat) (s:σ) (c m:Nat),k+d=xs.length->d<m->c0<=c->I s ->
  ∃(c':Nat) (j:Int),c<=c'/\0<=j/\BA (AE ck ann kn (n+K+50) 19) TU (ann 19 (BU TU)) m ⟨c,[(0,true,.list false (xs.map AS)),(1,true,.fn f [] cap),(7,true,i xs.length),(8,true,i k)],⟨U s,[]⟩⟩ =
   bif (BM p nx s (xs.drop k)).1 then some (.ret,⟨c',[(4,true,i j),(17,true,i j),(5,true,i j)],⟨U (BM p nx s (xs.drop k)).2,[]⟩⟩)
   else some (.exit 0,⟨c',[(9,true,.bool false),(0,true,.list false (xs.map AS)),(1,true,.fn f [] cap),(7,true,i xs.length),(8,true,i xs.length)],⟨U (BM p nx s (xs.drop k)).2,[]⟩⟩)
 |0,k,s,c,m+1,hd,hm,hc0,hi=>by
  have:k=xs.length:=by omega
  subst this;refine⟨c,0,Nat.le_refl _,by omega,?_⟩;simp[AB,BM]
 |d+1,k,s,c,m+1,hd,hm,hc0,hi=>by
  have hk:k<xs.length:=by omega
  have hw:=BJ (k:=k) (by omega);have nrm:∀a:Nat,n+K+a=(n+a)+K:=fun a=>by omega
  rw[AB,bj hk];simp only[BM];obtain⟨hi',c1,hc1,q⟩:=hp (n+43) c [(15,true,lb xs[k]),(14,true,.ref (AS xs[k])),(13,true,i k),(12,true,.list false (xs.map AS)),(11,true,.fn f [] cap),(0,true,.list false (xs.map AS)),(1,true,.fn f [] cap),(5,true,i k),(7,true,i xs.length),(8,true,i k)] s xs[k] hc0 hi (bg hk);generalize e:p s xs[k]=b at q hi';cases b with
  |true=>
   refine⟨c1,k,hc1,by omega,?_⟩
   try simp only[AS]at q
   rw[<-nrm]at q
   try simp at q
   simp[hk,AS,q,hcw]
  |false=>
   obtain⟨c',j,h1,h2,ih⟩:=wI n K U I f cap hcw p nx xs c0 hp hl d (k+1) (nx s xs[k]) c1 m (by omega) (by omega) (by omega) (hi' rfl)
   refine⟨c',j,by omega,h2,?_⟩
   try simp only[AS]at q ih
   rw[<-nrm]at q
   try simp at q
   simp at ih
   simp[hk,hw,AS,q,ih,hcw]
theorem AKH{σ:Type}(n K:Nat)(up:σ->List AA)(loc:σ->AA)(I:σ->Prop)(f:cq)(cap:List V)(hcw:cap.map weakV=cap)(hco:cap.all (AG 8)=false)(p:σ->List Bool->Bool)(nx:σ->List Bool->σ)(xs:List (List Bool))(c0:Nat)(hp:wH (fun s=>up s++[loc s]) I K f cap p nx xs c0)(hl:xs.length<=40)(hsh:∀s (t:St),(up s).length+1<=t.up.length->(up s++[loc s]).map (AH t)=up s++[loc s])(c dd:Nat)(fr:Fr)(s:σ)(hc0:c0<=c)(hi:I s) :
  ∃(c':Nat) (j:Int),c<=c'/\decide (0<=j)=(BM p nx s xs).1/\GW (BT ck ann kn (n+K+100)) (some dd) ⟨c,fr,⟨up s,loc s⟩⟩ 187 [.list false (xs.map AS),.fn f [] cap]=some ⟨c',(dd,true,i j)::fr,⟨up (BM p nx s xs).2,loc (BM p nx s xs).2⟩⟩:=by
 obtain⟨c1,j,h1,h2,q⟩:=wI (n+45) K (fun s=>up s++[loc s]) I f cap hcw p nx xs c0 hp (by omega) xs.length 0 s c (n+K+95) (by omega) (by omega) hc0 hi
 have e:n+45+K+50=n+K+95:=by omega
 rw[e]at q
 have hcl:([V.list false (xs.map AS),V.fn f [] cap]).all (AG 9)=false:=by simp[hco]
 have hs:=fun s=>hsh s ⟨up s++[loc s],[]⟩ (by simp)
 simp at hs
 rw[A9 Tryz.func187 b187 rfl hcl]
 simp only[bn]at q
 generalize (BM p nx s xs).2=s' at q|-
 generalize e:(BM p nx s xs).1=b at q
 cases b with
 |true=>
  refine⟨c1,j,h1,by simpa using h2,?_⟩
  simp at q
  simp[ATJ,AF,q,hs]
 |false=>
  refine⟨c1,-1,h1,by simp,?_⟩
  simp at q
  simp[ATJ,AF,q,hs]
theorem A2Q{σ:Type}(n K:Nat)(up:σ->List AA)(loc:σ->AA)(I:σ->Prop)(f:cq)(cap:List V)(hcw:cap.map weakV=cap)(hco:cap.all (AG 8)=false)(p:σ->List Bool->Bool)(nx:σ->List Bool->σ)(xs:List (List Bool))(c0:Nat)(hp:wH (fun s=>up s++[loc s]++[[]]) I K f cap p nx xs c0)(hl:xs.length<=40)(hsh:∀s (t:St),(up s).length+1<=t.up.length->(up s++[loc s]).map (AH t)=up s++[loc s])(c dd:Nat)(fr:Fr)(s:σ)(hc0:c0<=c)(hi:I s) :
  ∃c':Nat,c<=c'/\GW (BT ck ann kn (n+K+200)) (some dd) ⟨c,fr,⟨up s,loc s⟩⟩ 159 [.list false (xs.map AS),.fn f [] cap]=some ⟨c',(dd,true,.bool (BM p nx s xs).1)::fr,⟨up (BM p nx s xs).2,loc (BM p nx s xs).2⟩⟩:=by
 have hcl:([V.list false (xs.map AS),V.fn f [] cap]).all (AG 9)=false:=by simp[hco]
 have hsh2:∀s (t:St),(up s++[loc s]).length+1<=t.up.length->(up s++[loc s]++[[]]).map (AH t)=up s++[loc s]++[[]]:=fun s t h=>by have:=hsh s t (by simp at h;omega);simp only[bx,bk,bc,FH]at this|-;rw[this]
 obtain⟨c1,j,h1,h2,q⟩:=AKH (n+97) K (fun s=>up s++[loc s]) (fun _=>[]) I f cap hcw hco p nx xs c0 hp hl hsh2 c 7 [(6,true,.fn f [] cap),(5,true,.list false (xs.map AS)),(0,true,.list false (xs.map AS)),(1,true,.fn f [] cap)] s hc0 hi
 refine⟨c1,h1,?_⟩
 have e:n+97+K+100=n+K+197:=by omega
 rw[e]at q
 have hs:=fun s=>hsh s ⟨up s++[loc s],[]⟩ (by simp)
 simp at hs
 rw[A9 Tryz.func159 b159 rfl hcl]
 simp[A43,AF,q,h2,hs]
theorem APA(n K:Nat)(b:AQ)(f:cq)(p:List Bool->Bool)(xs:List (List Bool))(hl:xs.length<=40)(hf:∀n x,x∈xs->AY ck kn (AE ck ann kn (n+K)) f [.agg (AD b),lb x]=some (.bool (p x)))(hh:BI ck f=false:=by simp) :
  AY ck kn (AE ck ann kn (n+K+300)) 119 [.list false (xs.map AS),.fn f [.agg (AD b)] []]=some (.bool (xs.all p)):=by
 rw[AN rfl,AO Tryz.func119 BFH rfl (by simp[AD,AS,A6,AU])]
 have hp2:wH (fun (_:Unit)=>[]++[[(3,0,A1.box [V.fn f [.agg (AD b)] []])]]++[[]]) (fun _=>True) (K+20) 160 [.ptr 0 3 0 0] (fun _ x=>!p x) (fun _ _=>()) xs 0:=by
  intro n c1 fr s x hc0 hi hx;refine⟨fun _=>trivial,c1,by omega,?_⟩;have q:=fun n=>hf n x hx;have q2:=q (n+17);have e:n+17+K=n+K+17:=by omega
  rw[e]at q2;simp only[AD]at q2|-;rw[show n+(K+20)=n+K+20 from by omega,bh,A9 Tryz.func160 b160 rfl (by simp)];simp[A45,AF,AS,A6,AU,q2,hh];try simp[AD,AX,AZ,AJ,AS,A6,AU,q2,hh]
 obtain⟨c',h1,q⟩:=A2Q (n+77) (K+20) (fun _=>[]) (fun _=>[(3,0,.box [.fn f [.agg (AD b)] []])]) (fun _=>True) 160 [.ptr 0 3 0 0] (by simp) (by simp) (fun _ x=>!p x) (fun _ _=>()) xs 0 hp2 hl (by simp[AD]) 1 7 [(6,true,.fn 160 [] [.ptr 0 3 0 0]),(5,true,.list false (xs.map AS)),(0,true,.list false (xs.map AS)),(1,true,.fn f [.agg (AD b)] []),(3,true,.ptr 0 3 0 0)] () (Nat.zero_le _) trivial
 have e:n+77+(K+20)+200=n+K+297:=by omega
 rw[e,FJ]at q
 have:=J6 p xs
 simp only[AD]at q|-
 simp[A44,AF,q]
 rw[<-this,Bool.not_not]
def wJ{σ:Type}(U:σ->List AA)(I:σ->Prop)(K:Nat)(f:cq)(cap:List V)(p:σ->Q9->Bool)(nx:σ->Q9->σ)(xs:List (Q9))(c0:Nat):Prop:=∀n c fr s x,c0<=c->I s->x∈xs->(p s x=false->I (nx s x))/\∃c',c<=c'/\GW (BT ck ann kn (n+K)) (some 16) ⟨c,fr,⟨U s,[]⟩⟩ f (.agg (AU x)::cap)=some ⟨c',(16,true,.bool (p s x))::fr,⟨U (nx s x),[]⟩⟩
theorem wK{σ:Type}(n K:Nat)(U:σ->List AA)(I:σ->Prop)(f:cq)(cap:List V)(hcw:cap.map weakV=cap)(p:σ->Q9->Bool)(nx:σ->Q9->σ)(xs:List (Q9))(c0:Nat)(hp:wJ U I K f cap p nx xs c0)(hl:xs.length<=1000):∀(d k:Nat) (s:σ) (c m:Nat),k+d=xs.length->d<m->c0<=c->I s ->
  ∃(c':Nat) (j:Int),c<=c'/\0<=j/\BA (AE ck ann kn (n+K+50) 19) TV (ann 19 (BU TV)) m ⟨c,[(0,true,.list false (xs.map AU)),(1,true,.fn f [] cap),(7,true,i xs.length),(8,true,i k)],⟨U s,[]⟩⟩ =
   bif (BM p nx s (xs.drop k)).1 then some (.ret,⟨c',[(4,true,i j),(17,true,i j),(5,true,i j)],⟨U (BM p nx s (xs.drop k)).2,[]⟩⟩)
   else some (.exit 0,⟨c',[(9,true,.bool false),(0,true,.list false (xs.map AU)),(1,true,.fn f [] cap),(7,true,i xs.length),(8,true,i xs.length)],⟨U (BM p nx s (xs.drop k)).2,[]⟩⟩)
 |0,k,s,c,m+1,hd,hm,hc0,hi=>by
  have:k=xs.length:=by omega
  subst this;refine⟨c,0,Nat.le_refl _,by omega,?_⟩;simp[AB,BM]
 |d+1,k,s,c,m+1,hd,hm,hc0,hi=>by
  have hk:k<xs.length:=by omega
  have hw:=BJ (k:=k) (by omega);have nrm:∀a:Nat,n+K+a=(n+a)+K:=fun a=>by omega
  rw[AB,bj hk];simp only[BM];obtain⟨hi',c1,hc1,q⟩:=hp (n+43) c [(15,true,.agg (AU xs[k])),(14,true,.ref (AU xs[k])),(13,true,i k),(12,true,.list false (xs.map AU)),(11,true,.fn f [] cap),(0,true,.list false (xs.map AU)),(1,true,.fn f [] cap),(5,true,i k),(7,true,i xs.length),(8,true,i k)] s xs[k] hc0 hi (bg hk);generalize e:p s xs[k]=b at q hi';cases b with
  |true=>
   refine⟨c1,k,hc1,by omega,?_⟩
   try simp only[AU]at q
   rw[<-nrm]at q
   try simp at q
   simp[hk,AU,q,hcw]
  |false=>
   obtain⟨c',j,h1,h2,ih⟩:=wK n K U I f cap hcw p nx xs c0 hp hl d (k+1) (nx s xs[k]) c1 m (by omega) (by omega) (by omega) (hi' rfl)
   refine⟨c',j,by omega,h2,?_⟩
   try simp only[AU]at q ih
   rw[<-nrm]at q
   try simp at q
   simp at ih
   simp[hk,hw,AU,q,ih,hcw]
theorem AKI{σ:Type}(n K:Nat)(up:σ->List AA)(loc:σ->AA)(I:σ->Prop)(f:cq)(cap:List V)(hcw:cap.map weakV=cap)(hco:cap.all (AG 8)=false)(p:σ->Q9->Bool)(nx:σ->Q9->σ)(xs:List (Q9))(c0:Nat)(hp:wJ (fun s=>up s++[loc s]) I K f cap p nx xs c0)(hl:xs.length<=40)(hsh:∀s (t:St),(up s).length+1<=t.up.length->(up s++[loc s]).map (AH t)=up s++[loc s])(c dd:Nat)(fr:Fr)(s:σ)(hc0:c0<=c)(hi:I s) :
  ∃(c':Nat) (j:Int),c<=c'/\decide (0<=j)=(BM p nx s xs).1/\GW (BT ck ann kn (n+K+100)) (some dd) ⟨c,fr,⟨up s,loc s⟩⟩ 188 [.list false (xs.map AU),.fn f [] cap]=some ⟨c',(dd,true,i j)::fr,⟨up (BM p nx s xs).2,loc (BM p nx s xs).2⟩⟩:=by
 obtain⟨c1,j,h1,h2,q⟩:=wK (n+45) K (fun s=>up s++[loc s]) I f cap hcw p nx xs c0 hp (by omega) xs.length 0 s c (n+K+95) (by omega) (by omega) hc0 hi
 have e:n+45+K+50=n+K+95:=by omega
 rw[e]at q
 have hcl:([V.list false (xs.map AU),V.fn f [] cap]).all (AG 9)=false:=by simp[hco]
 have hs:=fun s=>hsh s ⟨up s++[loc s],[]⟩ (by simp)
 simp at hs
 rw[A9 Tryz.func188 b188 rfl hcl]
 simp only[bn]at q
 generalize (BM p nx s xs).2=s' at q|-
 generalize e:(BM p nx s xs).1=b at q
 cases b with
 |true=>
  refine⟨c1,j,h1,by simpa using h2,?_⟩
  simp at q
  simp[ATK,AF,q,hs]
 |false=>
  refine⟨c1,-1,h1,by simp,?_⟩
  simp at q
  simp[ATK,AF,q,hs]
theorem A2R{σ:Type}(n K:Nat)(up:σ->List AA)(loc:σ->AA)(I:σ->Prop)(f:cq)(cap:List V)(hcw:cap.map weakV=cap)(hco:cap.all (AG 8)=false)(p:σ->Q9->Bool)(nx:σ->Q9->σ)(xs:List (Q9))(c0:Nat)(hp:wJ (fun s=>up s++[loc s]++[[]]) I K f cap p nx xs c0)(hl:xs.length<=40)(hsh:∀s (t:St),(up s).length+1<=t.up.length->(up s++[loc s]).map (AH t)=up s++[loc s])(c dd:Nat)(fr:Fr)(s:σ)(hc0:c0<=c)(hi:I s) :
  ∃c':Nat,c<=c'/\GW (BT ck ann kn (n+K+200)) (some dd) ⟨c,fr,⟨up s,loc s⟩⟩ 161 [.list false (xs.map AU),.fn f [] cap]=some ⟨c',(dd,true,.bool (BM p nx s xs).1)::fr,⟨up (BM p nx s xs).2,loc (BM p nx s xs).2⟩⟩:=by
 have hcl:([V.list false (xs.map AU),V.fn f [] cap]).all (AG 9)=false:=by simp[hco]
 have hsh2:∀s (t:St),(up s++[loc s]).length+1<=t.up.length->(up s++[loc s]++[[]]).map (AH t)=up s++[loc s]++[[]]:=fun s t h=>by have:=hsh s t (by simp at h;omega);simp only[bx,bk,bc,FH]at this|-;rw[this]
 obtain⟨c1,j,h1,h2,q⟩:=AKI (n+97) K (fun s=>up s++[loc s]) (fun _=>[]) I f cap hcw hco p nx xs c0 hp hl hsh2 c 7 [(6,true,.fn f [] cap),(5,true,.list false (xs.map AU)),(0,true,.list false (xs.map AU)),(1,true,.fn f [] cap)] s hc0 hi
 refine⟨c1,h1,?_⟩
 have e:n+97+K+100=n+K+197:=by omega
 rw[e]at q
 have hs:=fun s=>hsh s ⟨up s++[loc s],[]⟩ (by simp)
 simp at hs
 rw[A9 Tryz.func161 b161 rfl hcl]
 simp[A46,AF,q,h2,hs]
theorem APB(n K:Nat)(f:cq)(p:Q9->Bool)(xs:List (Q9))(hl:xs.length<=40)(hf:∀n x,x∈xs->AY ck kn (AE ck ann kn (n+K)) f [.agg (AU x)]=some (.bool (p x)))(hh:BI ck f=false:=by simp) :
  AY ck kn (AE ck ann kn (n+K+300)) 120 [.list false (xs.map AU),.fn f [] []]=some (.bool (xs.all p)):=by
 rw[AN rfl,AO Tryz.func120 BFI rfl (by simp[AU])]
 have hp2:wJ (fun (_:Unit)=>[]++[[(3,0,A1.box [V.fn f [] []])]]++[[]]) (fun _=>True) (K+20) 162 [.ptr 0 3 0 0] (fun _ x=>!p x) (fun _ _=>()) xs 0:=by
  intro n c1 fr s x hc0 hi hx;refine⟨fun _=>trivial,c1+1,by omega,?_⟩;have q:=fun n=>hf n x hx;have q2:=q (n+17);have e:n+17+K=n+K+17:=by omega
  rw[e]at q2;simp only[AU]at q2|-;rw[show n+(K+20)=n+K+20 from by omega,bh,A9 Tryz.func162 b162 rfl (by simp)];simp[A48,AF,q2,hh];try simp[AX,q2,hh]
 obtain⟨c',h1,q⟩:=A2R (n+77) (K+20) (fun _=>[]) (fun _=>[(3,0,.box [.fn f [] []])]) (fun _=>True) 162 [.ptr 0 3 0 0] (by simp) (by simp) (fun _ x=>!p x) (fun _ _=>()) xs 0 hp2 hl (by simp) 1 7 [(6,true,.fn 162 [] [.ptr 0 3 0 0]),(5,true,.list false (xs.map AU)),(0,true,.list false (xs.map AU)),(1,true,.fn f [] []),(3,true,.ptr 0 3 0 0)] () (Nat.zero_le _) trivial
 have e:n+77+(K+20)+200=n+K+297:=by omega
 rw[e,FJ]at q
 have:=J6 p xs
 skip
 simp[A47,AF,q]
 rw[<-this,Bool.not_not]
def wL{σ:Type}(U:σ->List AA)(I:σ->Prop)(K:Nat)(f:cq)(cap:List V)(p:σ->Sp->Bool)(nx:σ->Sp->σ)(xs:List (Sp))(c0:Nat):Prop:=∀n c fr s x,c0<=c->I s->x∈xs->(p s x=false->I (nx s x))/\∃c',c<=c'/\GW (BT ck ann kn (n+K)) (some 16) ⟨c,fr,⟨U s,[]⟩⟩ f (.agg (AP x)::cap)=some ⟨c',(16,true,.bool (p s x))::fr,⟨U (nx s x),[]⟩⟩
theorem wM{σ:Type}(n K:Nat)(U:σ->List AA)(I:σ->Prop)(f:cq)(cap:List V)(hcw:cap.map weakV=cap)(p:σ->Sp->Bool)(nx:σ->Sp->σ)(xs:List (Sp))(c0:Nat)(hp:wL U I K f cap p nx xs c0)(hl:xs.length<=1000):∀(d k:Nat) (s:σ) (c m:Nat),k+d=xs.length->d<m->c0<=c->I s ->
  ∃(c':Nat) (j:Int),c<=c'/\0<=j/\BA (AE ck ann kn (n+K+50) 19) M7 (ann 19 (BU M7)) m ⟨c,[(0,true,.list false (xs.map AP)),(1,true,.fn f [] cap),(7,true,i xs.length),(8,true,i k)],⟨U s,[]⟩⟩ =
   bif (BM p nx s (xs.drop k)).1 then some (.ret,⟨c',[(4,true,i j),(17,true,i j),(5,true,i j)],⟨U (BM p nx s (xs.drop k)).2,[]⟩⟩)
   else some (.exit 0,⟨c',[(9,true,.bool false),(0,true,.list false (xs.map AP)),(1,true,.fn f [] cap),(7,true,i xs.length),(8,true,i xs.length)],⟨U (BM p nx s (xs.drop k)).2,[]⟩⟩)
 |0,k,s,c,m+1,hd,hm,hc0,hi=>by
  have:k=xs.length:=by omega
  subst this;refine⟨c,0,Nat.le_refl _,by omega,?_⟩;simp[AB,BM]
 |d+1,k,s,c,m+1,hd,hm,hc0,hi=>by
  have hk:k<xs.length:=by omega
  have hw:=BJ (k:=k) (by omega);have nrm:∀a:Nat,n+K+a=(n+a)+K:=fun a=>by omega
  rw[AB,bj hk];simp only[BM];obtain⟨hi',c1,hc1,q⟩:=hp (n+43) c [(15,true,.agg (AP xs[k])),(14,true,.ref (AP xs[k])),(13,true,i k),(12,true,.list false (xs.map AP)),(11,true,.fn f [] cap),(0,true,.list false (xs.map AP)),(1,true,.fn f [] cap),(5,true,i k),(7,true,i xs.length),(8,true,i k)] s xs[k] hc0 hi (bg hk);generalize e:p s xs[k]=b at q hi';cases b with
  |true=>
   refine⟨c1,k,hc1,by omega,?_⟩
   try simp only[AP]at q
   rw[<-nrm]at q
   try simp at q
   simp[hk,AP,q,hcw]
  |false=>
   obtain⟨c',j,h1,h2,ih⟩:=wM n K U I f cap hcw p nx xs c0 hp hl d (k+1) (nx s xs[k]) c1 m (by omega) (by omega) (by omega) (hi' rfl)
   refine⟨c',j,by omega,h2,?_⟩
   try simp only[AP]at q ih
   rw[<-nrm]at q
   try simp at q
   simp at ih
   simp[hk,hw,AP,q,ih,hcw]
theorem AKJ{σ:Type}(n K:Nat)(up:σ->List AA)(loc:σ->AA)(I:σ->Prop)(f:cq)(cap:List V)(hcw:cap.map weakV=cap)(hco:cap.all (AG 8)=false)(p:σ->Sp->Bool)(nx:σ->Sp->σ)(xs:List (Sp))(c0:Nat)(hp:wL (fun s=>up s++[loc s]) I K f cap p nx xs c0)(hl:xs.length<=40)(hsh:∀s (t:St),(up s).length+1<=t.up.length->(up s++[loc s]).map (AH t)=up s++[loc s])(c dd:Nat)(fr:Fr)(s:σ)(hc0:c0<=c)(hi:I s) :
  ∃(c':Nat) (j:Int),c<=c'/\decide (0<=j)=(BM p nx s xs).1/\GW (BT ck ann kn (n+K+100)) (some dd) ⟨c,fr,⟨up s,loc s⟩⟩ 189 [.list false (xs.map AP),.fn f [] cap]=some ⟨c',(dd,true,i j)::fr,⟨up (BM p nx s xs).2,loc (BM p nx s xs).2⟩⟩:=by
 obtain⟨c1,j,h1,h2,q⟩:=wM (n+45) K (fun s=>up s++[loc s]) I f cap hcw p nx xs c0 hp (by omega) xs.length 0 s c (n+K+95) (by omega) (by omega) hc0 hi
 have e:n+45+K+50=n+K+95:=by omega
 rw[e]at q
 have hcl:([V.list false (xs.map AP),V.fn f [] cap]).all (AG 9)=false:=by simp[hco]
 have hs:=fun s=>hsh s ⟨up s++[loc s],[]⟩ (by simp)
 simp at hs
 rw[A9 Tryz.func189 b189 rfl hcl]
 simp only[bn]at q
 generalize (BM p nx s xs).2=s' at q|-
 generalize e:(BM p nx s xs).1=b at q
 cases b with
 |true=>
  refine⟨c1,j,h1,by simpa using h2,?_⟩
  simp at q
  simp[ABB,AF,q,hs]
 |false=>
  refine⟨c1,-1,h1,by simp,?_⟩
  simp at q
  simp[ABB,AF,q,hs]
theorem A2S{σ:Type}(n K:Nat)(up:σ->List AA)(loc:σ->AA)(I:σ->Prop)(f:cq)(cap:List V)(hcw:cap.map weakV=cap)(hco:cap.all (AG 8)=false)(p:σ->Sp->Bool)(nx:σ->Sp->σ)(xs:List (Sp))(c0:Nat)(hp:wL (fun s=>up s++[loc s]++[[]]) I K f cap p nx xs c0)(hl:xs.length<=40)(hsh:∀s (t:St),(up s).length+1<=t.up.length->(up s++[loc s]).map (AH t)=up s++[loc s])(c dd:Nat)(fr:Fr)(s:σ)(hc0:c0<=c)(hi:I s) :
  ∃c':Nat,c<=c'/\GW (BT ck ann kn (n+K+200)) (some dd) ⟨c,fr,⟨up s,loc s⟩⟩ 171 [.list false (xs.map AP),.fn f [] cap]=some ⟨c',(dd,true,.bool (BM p nx s xs).1)::fr,⟨up (BM p nx s xs).2,loc (BM p nx s xs).2⟩⟩:=by
 have hcl:([V.list false (xs.map AP),V.fn f [] cap]).all (AG 9)=false:=by simp[hco]
 have hsh2:∀s (t:St),(up s++[loc s]).length+1<=t.up.length->(up s++[loc s]++[[]]).map (AH t)=up s++[loc s]++[[]]:=fun s t h=>by have:=hsh s t (by simp at h;omega);simp only[bx,bk,bc,FH]at this|-;rw[this]
 obtain⟨c1,j,h1,h2,q⟩:=AKJ (n+97) K (fun s=>up s++[loc s]) (fun _=>[]) I f cap hcw hco p nx xs c0 hp hl hsh2 c 7 [(6,true,.fn f [] cap),(5,true,.list false (xs.map AP)),(0,true,.list false (xs.map AP)),(1,true,.fn f [] cap)] s hc0 hi
 refine⟨c1,h1,?_⟩
 have e:n+97+K+100=n+K+197:=by omega
 rw[e]at q
 have hs:=fun s=>hsh s ⟨up s++[loc s],[]⟩ (by simp)
 simp at hs
 rw[A9 Tryz.func171 b171 rfl hcl]
 simp[AL7,AF,q,h2,hs]
theorem ASN{σ:Type}(n K L:Nat)(up:σ->List AA)(loc:σ->AA)(hL:∀s,(up s).length=L)(I:σ->Prop)(f:cq)(cap:List V)(hcw:cap.map weakV=cap)(hco:cap.all (AG 8)=false)(p:σ->Sp->Bool)(nx:σ->Sp->σ)(xs:List (Sp))(hl:xs.length<=40)
  (hsh:∀s (t:St),L+1<=t.up.length->(up s++[loc s]).map (AH t)=up s++[loc s]) (hcap:∀(t:St) γ,L+1<=t.up.length->AH t [(3,γ,A1.box [V.fn f [] cap])]=[(3,γ,A1.box [V.fn f [] cap])]) (c:Nat)
  (hp:∀n c1 γ fr s x,c<c1->I s->x∈xs->(p s x=true->I (nx s x))/\∃c',c1<=c'/\GW (BT ck ann kn (n+K)) (some 6) ⟨c1,fr,⟨up s++[loc s]++[[(3,c,A1.box [V.fn f [] cap])]]++[[]]++[[]],[(2,γ,.box (AP x))]⟩⟩ f (.agg (AP x)::cap)=some ⟨c',(6,true,.bool (p s x))::fr,⟨up (nx s x)++[loc (nx s x)]++[[(3,c,A1.box [V.fn f [] cap])]]++[[]]++[[]],[(2,γ,.box (AP x))]⟩⟩) (dd:Nat) (fr:Fr) (s:σ) (hi:I s) :
  ∃c':Nat,c<=c'/\GW (BT ck ann kn (n+K+300)) (some dd) ⟨c,fr,⟨up s,loc s⟩⟩ 137 [.list false (xs.map AP),.fn f [] cap]=some ⟨c',(dd,true,.bool (!(BM (fun s x=>!p s x) nx s xs).1))::fr,⟨up (BM (fun s x=>!p s x) nx s xs).2,loc (BM (fun s x=>!p s x) nx s xs).2⟩⟩:=by
 have hcl:([V.list false (xs.map AP),V.fn f [] cap]).all (AG 9)=false:=by simp[hco]
 have hp2:wL (fun s=>up s++[loc s]++[[(3,c,A1.box [V.fn f [] cap])]]++[[]]) I (K+20) 172 [.ptr (L+1) 3 c 0] (fun s x=>!p s x) nx xs (c+1):=by
  have hcap':∀t:St,L+1<=t.up.length->AH t [(3,c,A1.box [V.fn f [] cap])]=[(3,c,A1.box [V.fn f [] cap])]:=fun t h=>hcap t c h;intro n c1 fr s x hc0 hi hx;obtain⟨h1,c',h2,q⟩:=hp (n+17) (c1+1) c1 [(5,true,.agg (AP x)),(4,true,.fn f [] cap),(0,true,.agg (AP x)),(1,true,.ptr (L+1) 3 c 0),(2,true,.ptr (L+4) 2 c1 0)] s x (by omega) hi hx;refine⟨fun h=>h1 (by simpa using h),c',by omega,?_⟩;have e:n+17+K=n+K+17:=by omega
  rw[e]at q;rw[show n+(K+20)=n+K+20 from by omega,A9 Tryz.func172 b172 rfl (by simp)];generalize hB:[(3,c,A1.box [V.fn f [] cap])]=B at q hcap';have hB1:AA.get B 3=some (c,.box [.fn f [] cap]):=by rw[<-hB];rfl
  have hg:(up s++[loc s]++[B]++[[]])[L+1]? = some B:=by simp only[bz];rw[List.getElem?_append_right (by rw[hL];omega)];simp[hL]
  have hs1:∀s (t:St),L+1<=t.up.length->List.map (AH t) (up s)=up s/\AH t (loc s)=loc s:=fun s t h=>by simpa using hsh s t h
  have hu:∀(l:List AA) a b,CJ (l++[a,b,[],[]])=some (l++[a,b,[]],[]):=fun l a b=>by have:=C9 ([]:AA) (l++[a,b,[]]);rwa [bz]at this
  simp only[bz,List.cons_append,bh,AP]at q hg|-;simp[hu,ATL,AF,hcw,q,hL,hB1,(hs1 _ _ _).1,(hs1 _ _ _).2,hcap']
 have hsh2:∀s (t:St),(up s++[loc s]).length+1<=t.up.length->(up s++[loc s]++[[(3,c,A1.box [V.fn f [] cap])]]).map (AH t)=up s++[loc s]++[[(3,c,A1.box [V.fn f [] cap])]]:=fun s t h=>by
  have h':L+1<=t.up.length:=by simp[hL]at h;omega
  have:=hsh s t h';have h3:=hcap t c h';rw[bx,this];simp only[bk,bc,h3]
 obtain⟨c',h1,q⟩:=A2S (n+77) (K+20) (fun s=>up s++[loc s]) (fun _=>[(3,c,A1.box [V.fn f [] cap])]) I 172 [.ptr (L+1) 3 c 0] (by simp) (by simp) (fun s x=>!p s x) nx xs (c+1) hp2 hl hsh2 (c+1) 7 [(6,true,.fn 172 [] [.ptr (L+1) 3 c 0]),(5,true,.list false (xs.map AP)),(0,true,.list false (xs.map AP)),(1,true,.fn f [] cap),(3,true,.ptr (L+1) 3 c 0)] s (Nat.le_refl _) hi
 refine⟨c',by omega,?_⟩
 have e:n+77+(K+20)+200=n+K+297:=by omega
 rw[e]at q
 have hs1:∀s (t:St),L+1<=t.up.length->List.map (AH t) (up s)=up s/\AH t (loc s)=loc s:=fun s t h=>by simpa using hsh s t h
 rw[A9 Tryz.func137 b137 rfl hcl]
 try simp only[List.length_append,bf,List.length_nil]at q|-
 simp[AL9,AF,hL,q,(hs1 _ _ _).1,(hs1 _ _ _).2]
def I1(P:List Int->Bool)(N x:Nat)(y:List Int):List Int:=if (AIH (G4 x N) y&&P (G4 x N))=true then G4 x N else y
def ASO(N:Nat):Nat->List Int->Prop
 |_,[]=>True
 |fr,a::r=>∃i:Nat,a=i/\fr<=i/\i<N/\ASO N (i+1) r
structure BI9(P:List Int->Bool)(N:Nat)(y:List Int):Prop where
 inc:ASO N 0 y
 can:P y=true
 min:∀t,ASO N 0 t->P t=true->AIH t y=false
end Go.Proofs.Tryz.Op
