/- A case of families on a beach: what is valid, and what a seating is, by the program and by the reference. No program in sight. -/
import Derived.Test.YthhdhbalenanjaaGreatX1
import Derived.Test.YthhdhbalenanjaaGreatR1
open Go renaming FuncId->cj
open Go.Proofs.Tryz renaming prog->bt
open Nat renaming zero_le->bj,testBit_lt_two_pow->bb,lt_or_ge->bn,le_refl->bp
open List renaming nil_append->bk,all_eq_true->bw,drop_eq_getElem_cons->bx,append_assoc->bz,singleton_append->bf,range->bm
open Bool renaming and_eq_true->bq,and_eq_false_iff->bc,or_eq_true->bg,or_eq_false_iff->bh
set_option maxRecDepth 100000
set_option linter.unusedSimpArgs false
namespace Go.Wind
structure WX where
 size:Int
 good:Int
 dog:Bool
 shy:Bool
deriving DecidableEq
structure AP where
 beach:AK
 plan:List (List Int)
 chairs:List (List Bool)
 fams:List WX
def KO(f:WX):Bool:=GA f.size 1 4&&GA f.good 0 5
def G6(c:AP):Bool:=decide ((c.chairs.length:Int)=c.beach.rows)&&c.chairs.all (fun l=>decide ((l.length:Int)=c.beach.places))
def E3(c:AP):Int :=
 if 3<c.fams.length then 3
 else if DU c.beach≠0 then DU c.beach
 else if EG c.beach c.plan=false then 2
 else if BL c.beach=[] then 11
 else if G6 c=false then 1
 else if c.fams.all KO=false then 1 else 0
structure B0(c:AP):Prop where
 be:Valid c.beach
 pl:EG c.beach c.plan=true
 tr:BL c.beach≠[]
 fl:c.fams.length<=3
 ch:(c.chairs.length:Int)=c.beach.rows
 cr:∀l∈c.chairs,(l.length:Int)=c.beach.places
 fo:∀f∈c.fams,(1<=f.size/\f.size<=4)/\0<=f.good/\f.good<=5
theorem U9{c:AP}(h:E3 c=0):B0 c:=by
 unfold E3 at h;split at h
 ·cases h
 rename_i h1;split at h
 ·rename_i h2;exact absurd h h2
 rename_i h2;split at h
 ·cases h
 rename_i h3;split at h
 ·cases h
 rename_i h4;split at h
 ·cases h
 rename_i h5;split at h
 ·cases h
 rename_i h6;have hb:DU c.beach=0:=Classical.byContradiction fun hh=>h2 hh;have h5:G6 c=true:=by simpa using h5
 have h6:c.fams.all KO=true:=by simpa using h6
 simp only[G6,bq,decide_eq_true_eq,bw]at h5;refine⟨TO hb,by simpa using h3,h4,by omega,h5.1,h5.2,fun f hf=>?_⟩;have:=bw.1 h6 f hf;simp only[KO,bq,DI]at this;exact this
structure Sp where
 fam:Nat
 size:Int
 row:Int
 place:Int
deriving DecidableEq
def BO(c:AP)(k:Nat):WX:=c.fams.getD k ⟨0,0,false,false⟩
def JG(c:AP)(a b:Nat):Bool:=decide (a≠b)&&((BO c a).shy&&(BO c b).dog||(BO c a).dog&&(BO c b).shy)
def ED(c:AP)(x:Sp):Bool:=GA x.row 0 (c.beach.rows-1)&&GA x.place 0 (c.beach.places-x.size)
def XZ(x y:Sp):Int:=max (x.place-y.place-y.size) (y.place-x.place-x.size)
def ER(c:AP)(x y:Sp):Bool:=decide (x.row≠y.row)||(decide (0<XZ x y)||(decide (XZ x y=0)&&!JG c x.fam y.fam))
def DZ(c:AP):Nat:=(c.chairs.map fun l=>l.count true).sum
def VA(l:List Sp):Int:=(l.map Sp.size).sum
def F9(c:AP):List Sp->List Sp->Bool
 |_,[]=>true
 |before,x::r=>ED c x&&before.all (ER c x)&&F9 c (before++[x]) r
def vI(k:Nat):List WX->List (Int×Int)->List Sp
 |f::fs,s::ss=>⟨k,f.size,s.1,s.2⟩::vI (k+1) fs ss
 |_,_=>[]
def ACU(c:AP)(NP:List (Int×Int)):List Sp:=vI 0 c.fams NP
def QT(c:AP)(x y:Sp):Bool:=(bm y.size.toNat).any fun a=>(bm x.size.toNat).any fun b=>
 let d:=y.place+(a:Int)-x.place-(b:Int)
 decide (d=0)||((decide (d=1)||decide (d = -1))&&JG c y.fam x.fam)
def ACV(c:AP)(before:List Sp)(x:Sp):Bool:=ED c x&&before.all fun y=>decide (y.row≠x.row)||!QT c x y
theorem fJ(c:AP)(a b:Nat):JG c a b=JG c b a:=by unfold JG;have:decide (a≠b)=decide (b≠a):=decide_eq_decide.2 ⟨Ne.symm,Ne.symm⟩;rw[this];cases (BO c a).shy<;>cases (BO c b).dog<;>cases (BO c a).dog<;>cases (BO c b).shy<;>simp
theorem zG{c:AP}{x y:Sp}(hx:1<=x.size)(hy:1<=y.size):QT c x y=true↔XZ x y<0\/(XZ x y=0/\JG c x.fam y.fam=true):=by
 unfold QT XZ;simp only[List.any_eq_true,List.mem_range,bg,bq,decide_eq_true_eq,fJ c y.fam x.fam];constructor
 ·rintro ⟨a,ha,b,hb,h|⟨h,hm⟩⟩
  ·left;omega
  ·by_cases h0:max (x.place-y.place-y.size) (y.place-x.place-x.size)=0
   ·exact .inr ⟨h0,hm⟩
   ·left;omega
 ·rintro (h|⟨h,hm⟩)
  ·by_cases hp:x.place<=y.place
   ·exact⟨0,by omega,(y.place-x.place).toNat,by omega,.inl (by omega)⟩
   ·exact⟨(x.place-y.place).toNat,by omega,0,by omega,.inl (by omega)⟩
  ·by_cases hp:x.place<=y.place
   ·exact⟨0,by omega,(x.size-1).toNat,by omega,.inr ⟨.inl (by omega),hm⟩⟩
   ·exact⟨(y.size-1).toNat,by omega,0,by omega,.inr ⟨.inr (by omega),hm⟩⟩
theorem rT{c:AP}{before:List Sp}{x:Sp}(hx:1<=x.size)(hb:∀y∈before,1<=y.size):ACV c before x=(ED c x&&before.all (ER c x)):=by
 unfold ACV;congr 1;rw[Bool.eq_iff_iff,bw,bw];refine forall_congr' fun y=>forall_congr' fun hy=>?_;have h:=zG (c:=c) hx (hb y hy);unfold ER;simp only[bg,bq,decide_eq_true_eq,Bool.not_eq_true',<-Bool.not_eq_true];rw[h];have e:(y.row≠x.row)↔(x.row≠y.row):=⟨Ne.symm,Ne.symm⟩;rw[e];constructor
 ·rintro (h1|h1)
  ·exact .inl h1
  ·refine .inr ?_;by_cases h0:0<XZ x y
   ·exact .inl h0
   ·exact .inr ⟨by omega,fun hm=>h1 (.inr ⟨by omega,hm⟩)⟩
 ·rintro (h1|h1|⟨h1,h2⟩)
  ·exact .inl h1
  ·exact .inr fun h3=>by rcases h3 with h3|⟨h3,_⟩<;>omega
  ·exact .inr fun h3=>by
    rcases h3 with h3|⟨_,h3⟩
    ·omega
    ·exact h2 h3
structure C5 where
 sun:Int
 carried:Int
 enough:Bool
deriving DecidableEq
def DM(sure:List (List Int))(r p:Int):Int:=(sure.getD r.toNat []).getD p.toNat 0
def RN(c:AP)(r p:Int):Bool:=(c.chairs.getD r.toNat []).getD p.toNat false
def CR(c:AP)(sure:List (List Int))(x:Sp):C5 :=
  ⟨FB (fun p=>DM sure x.row (x.place+(p:Int))) x.size.toNat,
   FB (fun p=>if RN c x.row (x.place+(p:Int))=true then 0 else 1) x.size.toNat,
   (bm x.size.toNat).all fun p=>decide ((BO c x.fam).good<=DM sure x.row (x.place+(p:Int)))⟩
def EK(c:AP)(sure:List (List Int)):List (Nat×Int)->List Sp->List (List Sp)
 |[],out=>[out]
 |g::gs,out=>(bm c.beach.rows.toNat).flatMap fun (r:Nat)=>(bm (c.beach.places-g.2+1).toNat).flatMap fun (p:Nat)=>
  if ((CR c sure ⟨g.1,g.2,(r:Int),(p:Int)⟩).enough&&out.all (ER c ⟨g.1,g.2,(r:Int),(p:Int)⟩))=true then EK c sure gs (out++[⟨g.1,g.2,(r:Int),(p:Int)⟩]) else[]
theorem Y1{α β:Type}{l:List α}{f g:α->List β}(h:∀x∈l,f x=g x):l.flatMap f=l.flatMap g:=by rw[List.flatMap_def,List.flatMap_def,List.map_congr_left h]
end Go.Wind
open Go Go.Pg Go.Proofs Go.Wind
namespace Go.Proofs.Tryz.Op
def BC(x:Bool):List V:=[.bool x]
abbrev lb(l:List Bool):V:=.list false (l.map BC)
def AU(l:List Bool):List V:=[lb l]
def AS(f:WX):List V:=[i f.size,i f.good,.bool f.dog,.bool f.shy]
def BF(x:Sp):List V:=[i (x.fam:Int),i x.size,i x.row,i x.place]
def AD(c:AP):List V:=[i c.beach.last,i c.beach.rows,i c.beach.places,i c.beach.reach,li c.beach.face,li c.beach.sun,FV c.beach.winds,.list false (c.beach.breaks.map AQ),.list false (c.beach.notes.map AQ),FV c.plan,.list false (c.chairs.map AU),.list false (c.fams.map AS)]
def okF(f:WX):Prop:=KN f.size/\KN f.good
structure okC(c:AP):Prop where
 b:okB c.beach
 p:∀l∈c.plan,∀n∈l,KN n
 f:∀f∈c.fams,okF f
end Go.Proofs.Tryz.Op
namespace Go.Wind
theorem Y2(c:AP):∀(a before r:List Sp),F9 c before (a++r)=(F9 c before a&&F9 c (before++a) r)
 |[],before,r=>by simp[F9]
 |x::a,before,r=>by simp only[List.cons_append,F9,Y2 c a (before++[x]) r,bz,Bool.and_assoc];rfl
end Go.Wind
namespace Go.Proofs.Tryz.Op
def vJ{σ:Type}(U:σ->List AA)(I:σ->Prop)(K:Nat)(f:cj)(cap:List V)(p:σ->List Bool->Bool)(nx:σ->List Bool->σ)(xs:List (List Bool))(c0:Nat):Prop:=∀n c fr s x,c0<=c->I s->x∈xs->(p s x=false->I (nx s x))/\∃c',c<=c'/\G4 (BN bt ann kn (n+K)) (some 16) ⟨c,fr,⟨U s,[]⟩⟩ f (lb x::cap)=some ⟨c',(16,true,.bool (p s x))::fr,⟨U (nx s x),[]⟩⟩
theorem vK{σ:Type}(n K:Nat)(U:σ->List AA)(I:σ->Prop)(f:cj)(cap:List V)(hcw:cap.map weakV=cap)(p:σ->List Bool->Bool)(nx:σ->List Bool->σ)(xs:List (List Bool))(c0:Nat)(hp:vJ U I K f cap p nx xs c0)(hl:xs.length<=1000):∀(d k:Nat) (s:σ) (c m:Nat),k+d=xs.length->d<m->c0<=c->I s ->
  ∃(c':Nat) (j:Int),c<=c'/\0<=j/\A8 (AE bt ann kn (n+K+50) 19) SU (ann 19 (BU SU)) m ⟨c,[(0,true,.list false (xs.map AU)),(1,true,.fn f [] cap),(7,true,i xs.length),(8,true,i k)],⟨U s,[]⟩⟩ =
   bif (BZ p nx s (xs.drop k)).1 then some (.ret,⟨c',[(4,true,i j),(17,true,i j),(5,true,i j)],⟨U (BZ p nx s (xs.drop k)).2,[]⟩⟩)
   else some (.exit 0,⟨c',[(9,true,.bool false),(0,true,.list false (xs.map AU)),(1,true,.fn f [] cap),(7,true,i xs.length),(8,true,i xs.length)],⟨U (BZ p nx s (xs.drop k)).2,[]⟩⟩)
 |0,k,s,c,m+1,hd,hm,hc0,hi=>by
  have:k=xs.length:=by omega
  subst this;refine⟨c,0,bp _,by omega,?_⟩;simp[AB,BZ]
 |d+1,k,s,c,m+1,hd,hm,hc0,hi=>by
  have hk:k<xs.length:=by omega
  have hw:=BM (k:=k) (by omega);have nrm:∀a:Nat,n+K+a=(n+a)+K:=fun a=>by omega
  rw[AB,bx hk];simp only[BZ];obtain⟨hi',c1,hc1,q⟩:=hp (n+43) c [(15,true,lb xs[k]),(14,true,.ref (AU xs[k])),(13,true,i k),(12,true,.list false (xs.map AU)),(11,true,.fn f [] cap),(0,true,.list false (xs.map AU)),(1,true,.fn f [] cap),(5,true,i k),(7,true,i xs.length),(8,true,i k)] s xs[k] hc0 hi (List.getElem_mem hk);generalize e:p s xs[k]=b at q hi';cases b with
  |true=>
   refine⟨c1,k,hc1,by omega,?_⟩
   try simp only[AU]at q
   rw[<-nrm]at q
   try simp at q
   simp[hk,AU,q,hcw]
  |false=>
   obtain⟨c',j,h1,h2,ih⟩:=vK n K U I f cap hcw p nx xs c0 hp hl d (k+1) (nx s xs[k]) c1 m (by omega) (by omega) (by omega) (hi' rfl)
   refine⟨c',j,by omega,h2,?_⟩
   try simp only[AU]at q ih
   rw[<-nrm]at q
   try simp at q
   simp at ih
   simp[hk,hw,AU,q,ih,hcw]
theorem AJR{σ:Type}(n K:Nat)(up:σ->List AA)(loc:σ->AA)(I:σ->Prop)(f:cj)(cap:List V)(hcw:cap.map weakV=cap)(hco:cap.all (AG 8)=false)(p:σ->List Bool->Bool)(nx:σ->List Bool->σ)(xs:List (List Bool))(c0:Nat)(hp:vJ (fun s=>up s++[loc s]) I K f cap p nx xs c0)(hl:xs.length<=40)(hsh:∀s (t:St),(up s).length+1<=t.up.length->(up s++[loc s]).map (AH t)=up s++[loc s])(c dd:Nat)(fr:Fr)(s:σ)(hc0:c0<=c)(hi:I s) :
  ∃(c':Nat) (j:Int),c<=c'/\decide (0<=j)=(BZ p nx s xs).1/\G4 (BN bt ann kn (n+K+100)) (some dd) ⟨c,fr,⟨up s,loc s⟩⟩ 187 [.list false (xs.map AU),.fn f [] cap]=some ⟨c',(dd,true,i j)::fr,⟨up (BZ p nx s xs).2,loc (BZ p nx s xs).2⟩⟩:=by
 obtain⟨c1,j,h1,h2,q⟩:=vK (n+45) K (fun s=>up s++[loc s]) I f cap hcw p nx xs c0 hp (by omega) xs.length 0 s c (n+K+95) (by omega) (by omega) hc0 hi
 have e:n+45+K+50=n+K+95:=by omega
 rw[e]at q
 have hcl:([V.list false (xs.map AU),V.fn f [] cap]).all (AG 9)=false:=by simp[hco]
 have hs:=fun s=>hsh s ⟨up s++[loc s],[]⟩ (by simp)
 simp at hs
 rw[A5 Tryz.func187 b187 rfl hcl]
 simp only[List.drop_zero]at q
 generalize (BZ p nx s xs).2=s' at q|-
 generalize e:(BZ p nx s xs).1=b at q
 cases b with
 |true=>
  refine⟨c1,j,h1,by simpa using h2,?_⟩
  simp at q
  simp[ASK,AF,q,hs]
 |false=>
  refine⟨c1,-1,h1,by simp,?_⟩
  simp at q
  simp[ASK,AF,q,hs]
theorem A1P{σ:Type}(n K:Nat)(up:σ->List AA)(loc:σ->AA)(I:σ->Prop)(f:cj)(cap:List V)(hcw:cap.map weakV=cap)(hco:cap.all (AG 8)=false)(p:σ->List Bool->Bool)(nx:σ->List Bool->σ)(xs:List (List Bool))(c0:Nat)(hp:vJ (fun s=>up s++[loc s]++[[]]) I K f cap p nx xs c0)(hl:xs.length<=40)(hsh:∀s (t:St),(up s).length+1<=t.up.length->(up s++[loc s]).map (AH t)=up s++[loc s])(c dd:Nat)(fr:Fr)(s:σ)(hc0:c0<=c)(hi:I s) :
  ∃c':Nat,c<=c'/\G4 (BN bt ann kn (n+K+200)) (some dd) ⟨c,fr,⟨up s,loc s⟩⟩ 159 [.list false (xs.map AU),.fn f [] cap]=some ⟨c',(dd,true,.bool (BZ p nx s xs).1)::fr,⟨up (BZ p nx s xs).2,loc (BZ p nx s xs).2⟩⟩:=by
 have hcl:([V.list false (xs.map AU),V.fn f [] cap]).all (AG 9)=false:=by simp[hco]
 have hsh2:∀s (t:St),(up s++[loc s]).length+1<=t.up.length->(up s++[loc s]++[[]]).map (AH t)=up s++[loc s]++[[]]:=fun s t h=>by have:=hsh s t (by simp at h;omega);simp only[List.map_append,List.map_cons,List.map_nil,FT]at this|-;rw[this]
 obtain⟨c1,j,h1,h2,q⟩:=AJR (n+97) K (fun s=>up s++[loc s]) (fun _=>[]) I f cap hcw hco p nx xs c0 hp hl hsh2 c 7 [(6,true,.fn f [] cap),(5,true,.list false (xs.map AU)),(0,true,.list false (xs.map AU)),(1,true,.fn f [] cap)] s hc0 hi
 refine⟨c1,h1,?_⟩
 have e:n+97+K+100=n+K+197:=by omega
 rw[e]at q
 have hs:=fun s=>hsh s ⟨up s++[loc s],[]⟩ (by simp)
 simp at hs
 rw[A5 Tryz.func159 b159 rfl hcl]
 simp[A3P,AF,q,h2,hs]
theorem AOK(n K:Nat)(b:AP)(f:cj)(p:List Bool->Bool)(xs:List (List Bool))(hl:xs.length<=40)(hf:∀n x,x∈xs->AY bt kn (AE bt ann kn (n+K)) f [.agg (AD b),lb x]=some (.bool (p x)))(hh:BD bt f=false:=by simp) :
  AY bt kn (AE bt ann kn (n+K+300)) 119 [.list false (xs.map AU),.fn f [.agg (AD b)] []]=some (.bool (xs.all p)):=by
 rw[AN rfl,AM Tryz.func119 BD8 rfl (by simp[AD,AU,BC,AS])]
 have hp2:vJ (fun (_:Unit)=>[]++[[(3,0,AX.box [V.fn f [.agg (AD b)] []])]]++[[]]) (fun _=>True) (K+20) 160 [.ptr 0 3 0 0] (fun _ x=>!p x) (fun _ _=>()) xs 0:=by
  intro n c1 fr s x hc0 hi hx;refine⟨fun _=>trivial,c1,by omega,?_⟩;have q:=fun n=>hf n x hx;have q2:=q (n+17);have e:n+17+K=n+K+17:=by omega
  rw[e]at q2;simp only[AD]at q2|-;rw[show n+(K+20)=n+K+20 from by omega,bk,A5 Tryz.func160 b160 rfl (by simp)];simp[A3R,AF,AU,BC,AS,q2,hh];try simp[AD,AJ,AV,AQ,AU,BC,AS,q2,hh]
 obtain⟨c',h1,q⟩:=A1P (n+77) (K+20) (fun _=>[]) (fun _=>[(3,0,.box [.fn f [.agg (AD b)] []])]) (fun _=>True) 160 [.ptr 0 3 0 0] (by simp) (by simp) (fun _ x=>!p x) (fun _ _=>()) xs 0 hp2 hl (by simp[AD]) 1 7 [(6,true,.fn 160 [] [.ptr 0 3 0 0]),(5,true,.list false (xs.map AU)),(0,true,.list false (xs.map AU)),(1,true,.fn f [.agg (AD b)] []),(3,true,.ptr 0 3 0 0)] () (bj _) trivial
 have e:n+77+(K+20)+200=n+K+297:=by omega
 rw[e,F5]at q
 have:=K6 p xs
 simp only[AD]at q|-
 simp[A3Q,AF,q]
 rw[<-this,Bool.not_not]
def vL{σ:Type}(U:σ->List AA)(I:σ->Prop)(K:Nat)(f:cj)(cap:List V)(p:σ->WX->Bool)(nx:σ->WX->σ)(xs:List (WX))(c0:Nat):Prop:=∀n c fr s x,c0<=c->I s->x∈xs->(p s x=false->I (nx s x))/\∃c',c<=c'/\G4 (BN bt ann kn (n+K)) (some 16) ⟨c,fr,⟨U s,[]⟩⟩ f (.agg (AS x)::cap)=some ⟨c',(16,true,.bool (p s x))::fr,⟨U (nx s x),[]⟩⟩
theorem vM{σ:Type}(n K:Nat)(U:σ->List AA)(I:σ->Prop)(f:cj)(cap:List V)(hcw:cap.map weakV=cap)(p:σ->WX->Bool)(nx:σ->WX->σ)(xs:List (WX))(c0:Nat)(hp:vL U I K f cap p nx xs c0)(hl:xs.length<=1000):∀(d k:Nat) (s:σ) (c m:Nat),k+d=xs.length->d<m->c0<=c->I s ->
  ∃(c':Nat) (j:Int),c<=c'/\0<=j/\A8 (AE bt ann kn (n+K+50) 19) SV (ann 19 (BU SV)) m ⟨c,[(0,true,.list false (xs.map AS)),(1,true,.fn f [] cap),(7,true,i xs.length),(8,true,i k)],⟨U s,[]⟩⟩ =
   bif (BZ p nx s (xs.drop k)).1 then some (.ret,⟨c',[(4,true,i j),(17,true,i j),(5,true,i j)],⟨U (BZ p nx s (xs.drop k)).2,[]⟩⟩)
   else some (.exit 0,⟨c',[(9,true,.bool false),(0,true,.list false (xs.map AS)),(1,true,.fn f [] cap),(7,true,i xs.length),(8,true,i xs.length)],⟨U (BZ p nx s (xs.drop k)).2,[]⟩⟩)
 |0,k,s,c,m+1,hd,hm,hc0,hi=>by
  have:k=xs.length:=by omega
  subst this;refine⟨c,0,bp _,by omega,?_⟩;simp[AB,BZ]
 |d+1,k,s,c,m+1,hd,hm,hc0,hi=>by
  have hk:k<xs.length:=by omega
  have hw:=BM (k:=k) (by omega);have nrm:∀a:Nat,n+K+a=(n+a)+K:=fun a=>by omega
  rw[AB,bx hk];simp only[BZ];obtain⟨hi',c1,hc1,q⟩:=hp (n+43) c [(15,true,.agg (AS xs[k])),(14,true,.ref (AS xs[k])),(13,true,i k),(12,true,.list false (xs.map AS)),(11,true,.fn f [] cap),(0,true,.list false (xs.map AS)),(1,true,.fn f [] cap),(5,true,i k),(7,true,i xs.length),(8,true,i k)] s xs[k] hc0 hi (List.getElem_mem hk);generalize e:p s xs[k]=b at q hi';cases b with
  |true=>
   refine⟨c1,k,hc1,by omega,?_⟩
   try simp only[AS]at q
   rw[<-nrm]at q
   try simp at q
   simp[hk,AS,q,hcw]
  |false=>
   obtain⟨c',j,h1,h2,ih⟩:=vM n K U I f cap hcw p nx xs c0 hp hl d (k+1) (nx s xs[k]) c1 m (by omega) (by omega) (by omega) (hi' rfl)
   refine⟨c',j,by omega,h2,?_⟩
   try simp only[AS]at q ih
   rw[<-nrm]at q
   try simp at q
   simp at ih
   simp[hk,hw,AS,q,ih,hcw]
theorem AJS{σ:Type}(n K:Nat)(up:σ->List AA)(loc:σ->AA)(I:σ->Prop)(f:cj)(cap:List V)(hcw:cap.map weakV=cap)(hco:cap.all (AG 8)=false)(p:σ->WX->Bool)(nx:σ->WX->σ)(xs:List (WX))(c0:Nat)(hp:vL (fun s=>up s++[loc s]) I K f cap p nx xs c0)(hl:xs.length<=40)(hsh:∀s (t:St),(up s).length+1<=t.up.length->(up s++[loc s]).map (AH t)=up s++[loc s])(c dd:Nat)(fr:Fr)(s:σ)(hc0:c0<=c)(hi:I s) :
  ∃(c':Nat) (j:Int),c<=c'/\decide (0<=j)=(BZ p nx s xs).1/\G4 (BN bt ann kn (n+K+100)) (some dd) ⟨c,fr,⟨up s,loc s⟩⟩ 188 [.list false (xs.map AS),.fn f [] cap]=some ⟨c',(dd,true,i j)::fr,⟨up (BZ p nx s xs).2,loc (BZ p nx s xs).2⟩⟩:=by
 obtain⟨c1,j,h1,h2,q⟩:=vM (n+45) K (fun s=>up s++[loc s]) I f cap hcw p nx xs c0 hp (by omega) xs.length 0 s c (n+K+95) (by omega) (by omega) hc0 hi
 have e:n+45+K+50=n+K+95:=by omega
 rw[e]at q
 have hcl:([V.list false (xs.map AS),V.fn f [] cap]).all (AG 9)=false:=by simp[hco]
 have hs:=fun s=>hsh s ⟨up s++[loc s],[]⟩ (by simp)
 simp at hs
 rw[A5 Tryz.func188 b188 rfl hcl]
 simp only[List.drop_zero]at q
 generalize (BZ p nx s xs).2=s' at q|-
 generalize e:(BZ p nx s xs).1=b at q
 cases b with
 |true=>
  refine⟨c1,j,h1,by simpa using h2,?_⟩
  simp at q
  simp[ASL,AF,q,hs]
 |false=>
  refine⟨c1,-1,h1,by simp,?_⟩
  simp at q
  simp[ASL,AF,q,hs]
theorem A1Q{σ:Type}(n K:Nat)(up:σ->List AA)(loc:σ->AA)(I:σ->Prop)(f:cj)(cap:List V)(hcw:cap.map weakV=cap)(hco:cap.all (AG 8)=false)(p:σ->WX->Bool)(nx:σ->WX->σ)(xs:List (WX))(c0:Nat)(hp:vL (fun s=>up s++[loc s]++[[]]) I K f cap p nx xs c0)(hl:xs.length<=40)(hsh:∀s (t:St),(up s).length+1<=t.up.length->(up s++[loc s]).map (AH t)=up s++[loc s])(c dd:Nat)(fr:Fr)(s:σ)(hc0:c0<=c)(hi:I s) :
  ∃c':Nat,c<=c'/\G4 (BN bt ann kn (n+K+200)) (some dd) ⟨c,fr,⟨up s,loc s⟩⟩ 161 [.list false (xs.map AS),.fn f [] cap]=some ⟨c',(dd,true,.bool (BZ p nx s xs).1)::fr,⟨up (BZ p nx s xs).2,loc (BZ p nx s xs).2⟩⟩:=by
 have hcl:([V.list false (xs.map AS),V.fn f [] cap]).all (AG 9)=false:=by simp[hco]
 have hsh2:∀s (t:St),(up s++[loc s]).length+1<=t.up.length->(up s++[loc s]++[[]]).map (AH t)=up s++[loc s]++[[]]:=fun s t h=>by have:=hsh s t (by simp at h;omega);simp only[List.map_append,List.map_cons,List.map_nil,FT]at this|-;rw[this]
 obtain⟨c1,j,h1,h2,q⟩:=AJS (n+97) K (fun s=>up s++[loc s]) (fun _=>[]) I f cap hcw hco p nx xs c0 hp hl hsh2 c 7 [(6,true,.fn f [] cap),(5,true,.list false (xs.map AS)),(0,true,.list false (xs.map AS)),(1,true,.fn f [] cap)] s hc0 hi
 refine⟨c1,h1,?_⟩
 have e:n+97+K+100=n+K+197:=by omega
 rw[e]at q
 have hs:=fun s=>hsh s ⟨up s++[loc s],[]⟩ (by simp)
 simp at hs
 rw[A5 Tryz.func161 b161 rfl hcl]
 simp[A3S,AF,q,h2,hs]
theorem AOL(n K:Nat)(f:cj)(p:WX->Bool)(xs:List (WX))(hl:xs.length<=40)(hf:∀n x,x∈xs->AY bt kn (AE bt ann kn (n+K)) f [.agg (AS x)]=some (.bool (p x)))(hh:BD bt f=false:=by simp) :
  AY bt kn (AE bt ann kn (n+K+300)) 120 [.list false (xs.map AS),.fn f [] []]=some (.bool (xs.all p)):=by
 rw[AN rfl,AM Tryz.func120 BD9 rfl (by simp[AS])]
 have hp2:vL (fun (_:Unit)=>[]++[[(3,0,AX.box [V.fn f [] []])]]++[[]]) (fun _=>True) (K+20) 162 [.ptr 0 3 0 0] (fun _ x=>!p x) (fun _ _=>()) xs 0:=by
  intro n c1 fr s x hc0 hi hx;refine⟨fun _=>trivial,c1+1,by omega,?_⟩;have q:=fun n=>hf n x hx;have q2:=q (n+17);have e:n+17+K=n+K+17:=by omega
  rw[e]at q2;simp only[AS]at q2|-;rw[show n+(K+20)=n+K+20 from by omega,bk,A5 Tryz.func162 b162 rfl (by simp)];simp[A3U,AF,q2,hh];try simp[AJ,q2,hh]
 obtain⟨c',h1,q⟩:=A1Q (n+77) (K+20) (fun _=>[]) (fun _=>[(3,0,.box [.fn f [] []])]) (fun _=>True) 162 [.ptr 0 3 0 0] (by simp) (by simp) (fun _ x=>!p x) (fun _ _=>()) xs 0 hp2 hl (by simp) 1 7 [(6,true,.fn 162 [] [.ptr 0 3 0 0]),(5,true,.list false (xs.map AS)),(0,true,.list false (xs.map AS)),(1,true,.fn f [] []),(3,true,.ptr 0 3 0 0)] () (bj _) trivial
 have e:n+77+(K+20)+200=n+K+297:=by omega
 rw[e,F5]at q
 have:=K6 p xs
 skip
 simp[A3T,AF,q]
 rw[<-this,Bool.not_not]
def CZ(f:Nat->Option (List Int)):Nat->Nat->Option (List Int)
 |0,_=>none
 |e+1,j=>match f j with
  |some x=>some x
  |none=>CZ f e (j+1)
def DX(P:List Int->Bool)(N:Nat):Nat->Nat->List Int->Option (List Int)
 |0,_,out=>if P out=true then some out else none
 |m+1,fr,out=>CZ (fun j=>DX P N m (j+1) (out++[(j:Int)])) (N-m-fr) fr
def NY(P:List Int->Bool)(N:Nat):Option (List Int):=CZ (fun m=>DX P N m 0 []) (N+1) 0
def E0(P:List Int->Bool)(N x:Nat)(y:List Int):List Int:=if (E8 (BR x N) y&&P (BR x N))=true then BR x N else y
def goG(P:List Int->Bool)(N:Nat):Nat->Nat->List Int->List Int
 |0,_,y=>y
 |d+1,x,y=>goG P N d (x+1) (E0 P N x y)
def PF(P:List Int->Bool)(N:Nat):List Int:=goG P N (2 ^ N) 0 (BR (2 ^ N-1) N)
def JV(N:Nat):Nat->List Int->Prop
 |_,[]=>True
 |fr,a::r=>∃i:Nat,a=i/\fr<=i/\i<N/\JV N (i+1) r
theorem JV.more{N:Nat}:∀{l:List Int} {fr:Nat},JV N fr l->JV (N+1) fr l
 |[],_,_=>trivial
 |_::_,_,⟨i,e,h1,h2,h3⟩=>⟨i,e,h1,by omega,h3.more⟩
theorem JV.snoc{N:Nat}:∀{l:List Int} {fr:Nat},fr<=N->JV N fr l->JV (N+1) fr (l++[(N:Int)])
 |[],fr,hf,_=>⟨N,rfl,hf,by omega,trivial⟩
 |_::_,_,_,⟨i,e,h1,h2,h3⟩=>⟨i,e,h1,by omega,h3.snoc (by omega)⟩
theorem JV.split{N:Nat}:∀{l:List Int} {fr:Nat},JV (N+1) fr l->JV N fr l\/∃l',l=l'++[(N:Int)]/\JV N fr l'
 |[],_,_=>.inl trivial
 |a::r,fr,⟨i,e,h1,h2,h3⟩=>by
  by_cases hi:i=N
  ·subst hi;cases r with
   |nil=>exact .inr ⟨[],by rw[e];rfl,trivial⟩
   |cons a' r'=>
    obtain⟨i',_,h1',h2',_⟩:=h3
    omega
  ·rcases h3.split with h|⟨l',e',h⟩
   ·exact .inl ⟨i,e,h1,by omega,h⟩
   ·exact .inr ⟨a::l',by rw[e'];rfl,i,e,h1,by omega,h⟩
theorem RO(x:Nat):∀N,JV N 0 (BR x N)
 |0=>trivial
 |N+1=>by
  rw[FJ];split
  ·exact(RO x N).snoc (bj _)
  ·exact(RO x N).more
theorem WY{x y:Nat}:∀(N:Nat),(∀i,i<N->x.testBit i=y.testBit i)->BR x N=BR y N
 |0,_=>rfl
 |N+1,h=>by rw[FJ,FJ,WY N fun i hi=>h i (by omega),h N (by omega)]
theorem Y3:∀(N:Nat) (l:List Int),JV N 0 l->∃x,x<2 ^ N/\l=BR x N
 |0,[],_=>⟨0,by decide,rfl⟩
 |0,a::r,h=>by obtain⟨i,_,_,h2,_⟩:=h;omega
 |N+1,l,h=>by
  have hp:2 ^ (N+1)=2 ^ N+2 ^ N:=by rw[Nat.pow_succ];omega
  rcases h.split with h2|⟨l',rfl,h2⟩
  ·obtain⟨x,hx,rfl⟩:=Y3 N l h2;refine⟨x,by omega,?_⟩;rw[FJ,bb hx];rfl
  ·obtain⟨x,hx,rfl⟩:=Y3 N l' h2;refine⟨2 ^ N+x,by omega,?_⟩;have h1:(2 ^ N+x).testBit N=true:=by rw[Nat.testBit_two_pow_add_eq,bb hx];rfl
   have h2:∀i,i<N->(2 ^ N+x).testBit i=x.testBit i:=fun i hi=>Nat.testBit_two_pow_add_gt hi x;rw[FJ,h1,if_pos rfl,WY N h2]
theorem QI:∀l:List Int,DL l l=false
 |[]=>rfl
 |a::r=>by unfold DL;rw[if_pos rfl];exact QI r
theorem Y4:∀{l k:List Int},l.length=k.length->DL l k=false->DL k l=false->l=k
 |[],[],_,_,_=>rfl
 |[],_::_,h,_,_=>by simp at h
 |_::_,[],h,_,_=>by simp at h
 |a::l,b::k,h,h1,h2=>by
  unfold DL at h1 h2;by_cases e:a=b
  ·rw[if_pos e]at h1;rw[if_pos e.symm]at h2;rw[e,Y4 (by simpa using h) h1 h2]
  ·rw[if_neg e]at h1;rw[if_neg fun hh=>e hh.symm]at h2;have h1:=of_decide_eq_false h1;have h2:=of_decide_eq_false h2;omega
theorem zH{l k:List Int}(h1:E8 l k=false)(h2:E8 k l=false):l=k:=by
 unfold E8 at h1 h2;simp only[bh,bc,decide_eq_false_iff_not]at h1 h2;have e:l.length=k.length:=by omega
 exact Y4 e (h1.2.resolve_left fun hh=>hh e) (h2.2.resolve_left fun hh=>hh e.symm)
theorem QU{f:Nat->Option (List Int)}:∀{e j:Nat} {y:List Int},CZ f e j=some y->∃i,j<=i/\i<j+e/\f i=some y/\∀k,j<=k->k<i->f k=none
 |0,_,_,h=>by cases h
 |e+1,j,y,h=>by
  unfold CZ at h;cases hf:f j with
  |some x=>
   rw[hf]at h
   cases h
   exact⟨j,bp _,by omega,hf,fun k h1 h2=>by omega⟩
  |none=>
   rw[hf]at h
   obtain⟨i,h1,h2,h3,h4⟩:=QU h
   refine⟨i,by omega,by omega,h3,fun k k1 k2=>?_⟩
   by_cases hk:k=j
   ·rw[hk];exact hf
   ·exact h4 k (by omega) k2
theorem QV{f:Nat->Option (List Int)}:∀{e j:Nat},CZ f e j=none->∀k,j<=k->k<j+e->f k=none
 |0,_,_,k,h1,h2=>by omega
 |e+1,j,h,k,h1,h2=>by
  unfold CZ at h;cases hf:f j with
  |some x=>rw[hf]at h;cases h
  |none=>
   rw[hf]at h
   by_cases hk:k=j
   ·rw[hk];exact hf
   ·exact QV h k (by omega) (by omega)
theorem RP{N:Nat}:∀{l:List Int} {fr:Nat},JV N fr l->fr<=N->fr+l.length<=N
 |[],_,_,h=>h
 |_::r,fr,⟨i,_,h1,h2,h3⟩,_=>by have:=RP h3 (by omega);simp;omega
theorem JS(P:List Int->Bool)(N:Nat):∀(m fr:Nat) (out:List Int),fr<=N ->
  match DX P N m fr out with
  |some y=>∃t,y=out++t/\t.length=m/\JV N fr t/\P y=true/\∀t',t'.length=m->JV N fr t'->P (out++t')=true->DL t' t=false
  |none=>∀t',t'.length=m->JV N fr t'->P (out++t')=false
 |0,fr,out,_=>by
  unfold DX;by_cases h:P out=true
  ·rw[if_pos h];exact⟨[],by simp,rfl,trivial,h,fun t' _ _ _=>dI t'⟩
  ·rw[if_neg h];intro t' h1 _;have:t'=[]:=List.eq_nil_of_length_eq_zero h1;subst this;rw[List.append_nil];simpa using h
 |m+1,fr,out,hfr=>by
  have hsr:DX P N (m+1) fr out=CZ (fun j=>DX P N m (j+1) (out++[(j:Int)])) (N-m-fr) fr:=rfl;rw[hsr];have key:∀t',t'.length=m+1->JV N fr t'->∃(i:Nat) (r:List Int),t'=(i:Int)::r/\fr<=i/\i<fr+(N-m-fr)/\r.length=m/\JV N (i+1) r:=by
   intro t' h1 h2;cases t' with
   |nil=>simp at h1
   |cons a r=>
    obtain⟨i,e,h3,h4,h5⟩:=h2
    have:=RP h5 (by omega)
    have hr:r.length=m:=by simpa using h1
    exact⟨i,r,by rw[e],h3,by omega,hr,h5⟩
  cases hq:CZ (fun j=>DX P N m (j+1) (out++[(j:Int)])) (N-m-fr) fr with
  |some y=>
   obtain⟨i,h1,h2,h3,h4⟩:=QU hq
   have ih:=JS P N m (i+1) (out++[(i:Int)]) (by omega)
   rw[h3]at ih
   obtain⟨t,e,hl,hi,hp,hmin⟩:=ih
   refine⟨(i:Int)::t,by rw[e];simp,by simp[hl],⟨i,rfl,h1,by omega,hi⟩,hp,fun t' ht' hi' hp'=>?_⟩
   obtain⟨i',r,rfl,g1,g2,g3,g4⟩:=key t' ht' hi'
   unfold DL
   by_cases e':i'=i
   ·subst e';rw[if_pos rfl];exact hmin r g3 g4 (by simpa using hp')
   ·rw[if_neg (by omega)];by_cases hlt:i'<i
    ·have hn:=h4 i' g1 hlt;have ih':=JS P N m (i'+1) (out++[(i':Int)]) (by omega);rw[hn]at ih';have:=ih' r g3 g4;rw[bz,bf]at this;rw[this]at hp';cases hp'
    ·exact decide_eq_false (by omega)
  |none=>
   intro t' ht' hi'
   obtain⟨i',r,rfl,g1,g2,g3,g4⟩:=key t' ht' hi'
   have hn:DX P N m (i'+1) (out++[(i':Int)])=none:=QV hq i' g1 g2
   have ih':=JS P N m (i'+1) (out++[(i':Int)]) (by omega)
   rw[hn]at ih'
   have:=ih' r g3 g4
   rw[bz,bf]at this
   exact this
structure Y5(P:List Int->Bool)(N:Nat)(y:List Int):Prop where
 inc:JV N 0 y
 can:P y=true
 min:∀t,JV N 0 t->P t=true->E8 t y=false
theorem Y5.uniq{P:List Int->Bool}{N:Nat}{y z:List Int}(h:Y5 P N y)(h':Y5 P N z):y=z:=zH (h'.min y h.inc h.can) (h.min z h'.inc h'.can)
theorem Y6(P:List Int->Bool)(N:Nat):match NY P N with
  |some y=>Y5 P N y
  |none=>∀t,JV N 0 t->P t=false:=by
 have hP:NY P N=CZ (fun m=>DX P N m 0 []) (N+1) 0:=rfl
 rw[hP]
 cases hq:CZ (fun m=>DX P N m 0 []) (N+1) 0 with
 |some y=>
  obtain⟨m,_,h2,h3,h4⟩:=QU hq
  have ih:=JS P N m 0 [] (bj _)
  rw[h3]at ih
  obtain⟨t,e,hl,hi,hp,hmin⟩:=ih
  rw[bk]at e
  subst e
  refine⟨hi,hp,fun t' ht' hp'=>?_⟩
  unfold E8
  simp only[bh,bc,decide_eq_false_iff_not]
  have hge:¬t'.length<y.length:=fun hlt=>by have hn:DX P N t'.length 0 []=none:=h4 t'.length (bj _) (by omega);have ih':=JS P N t'.length 0 [] (bj _);rw[hn]at ih';have:=ih' t' rfl ht';rw[bk]at this;rw[this]at hp';cases hp'
  refine⟨hge,?_⟩
  by_cases e:t'.length=y.length
  ·exact .inr (hmin t' (by omega) ht' (by rw[bk];exact hp'))
  ·exact .inl e
 |none=>
  intro t ht
  have hr:=RP ht (bj _)
  have hn:DX P N t.length 0 []=none:=QV hq t.length (bj _) (by omega)
  have ih':=JS P N t.length 0 [] (bj _)
  rw[hn]at ih'
  have:=ih' t rfl ht
  rwa [bk]at this
theorem RQ:∀{a b c:List Int},DL a b=true->DL b c=true->DL a c=true
 |[],[],_,h,_=>by cases h
 |[],_::_,[],_,h=>by cases h
 |[],_::_,_::_,_,_=>rfl
 |_::_,[],_,h,_=>by cases h
 |_::_,_::_,[],_,h=>by cases h
 |x::a,y::b,z::c,h1,h2=>by
  unfold DL at h1 h2|-;by_cases e1:x=y
  ·subst e1;rw[if_pos rfl]at h1;by_cases e2:x=z
   ·rw[if_pos e2]at h2|-;exact RQ h1 h2
   ·rw[if_neg e2]at h2|-;exact h2
  ·rw[if_neg e1]at h1;have h1:=of_decide_eq_true h1;by_cases e2:y=z
   ·subst e2;rw[if_neg e1];exact decide_eq_true h1
   ·rw[if_neg e2]at h2;have h2:=of_decide_eq_true h2;rw[if_neg (by omega)];exact decide_eq_true (by omega)
theorem lQ{a b c:List Int}(h1:E8 a b=true)(h2:E8 b c=true):E8 a c=true:=by
 unfold E8 at *;simp only[bg,bq,decide_eq_true_eq]at *;rcases h1 with h1|⟨h1,g1⟩<;>rcases h2 with h2|⟨h2,g2⟩
 ·exact .inl (by omega)
 ·exact .inl (by omega)
 ·exact .inl (by omega)
 ·exact .inr ⟨by omega,RQ g1 g2⟩
theorem iS(a:List Int):E8 a a=false:=by unfold E8;simp[QI]
def AJU(P:List Int->Bool)(N:Nat)(x:Nat)(y:List Int):Prop :=
 JV N 0 y/\P y=true/\∀x',x'<x->P (BR x' N)=true->E8 (BR x' N) y=false
theorem ACW{P:List Int->Bool}{N x:Nat}{y:List Int}(h:AJU P N x y):AJU P N (x+1) (E0 P N x y):=by
 obtain⟨h1,h2,h3⟩:=h;unfold E0;by_cases hs:E8 (BR x N) y=true
 ·simp only[hs,Bool.true_and];cases hp:P (BR x N)with
  |true=>
   rw[if_pos rfl]
   refine⟨RO _ _,hp,fun x' hx' hp'=>?_⟩
   rcases bn x' x with h4|h4
   ·cases hq:E8 (BR x' N) (BR x N)with
    |false=>rfl
    |true=>
     have:=lQ hq hs
     rw[h3 x' h4 hp']at this
     cases this
   ·have e:x'=x:=by omega
    rw[e];exact iS _
  |false=>
   rw[if_neg (by decide)]
   refine⟨h1,h2,fun x' hx' hp'=>?_⟩
   rcases bn x' x with h4|h4
   ·exact h3 x' h4 hp'
   ·have e:x'=x:=by omega
    rw[e,hp]at hp';cases hp'
 ·have hs:=Bool.eq_false_iff.2 hs;simp only[hs,Bool.false_and];rw[if_neg (by decide)];refine⟨h1,h2,fun x' hx' hp'=>?_⟩;rcases bn x' x with h4|h4
  ·exact h3 x' h4 hp'
  ·have e:x'=x:=by omega
   rw[e];exact hs
theorem ACX{P:List Int->Bool}{N:Nat}:∀(d x:Nat) (y:List Int),x+d=2 ^ N->AJU P N x y->AJU P N (2 ^ N) (goG P N d x y)
 |0,x,y,hd,h=>by
  have e:x=2 ^ N:=by omega
  rw[<-e];exact h
 |d+1,x,y,hd,h=>ACX d (x+1) (E0 P N x y) (by omega) (ACW h)
theorem lR{P:List Int->Bool}{N:Nat}(h0:P (BR (2 ^ N-1) N)=true):NY P N=some (PF P N):=by
 have hpos:=Nat.two_pow_pos N;have h:=ACX (2 ^ N) 0 _ (by omega) ⟨RO _ _,h0,fun x' hx'=>absurd hx' (by omega)⟩;have e:goG P N (2 ^ N) 0 (BR (2 ^ N-1) N)=PF P N:=rfl;rw[e]at h;obtain⟨h1,h2,h3⟩:=h;have hs:=Y6 P N;cases hl:NY P N with
 |none=>
  rw[hl]at hs
  rw[hs _ h1]at h2
  cases h2
 |some z=>
  rw[hl]at hs
  refine congrArg some (Y5.uniq hs ⟨h1,h2,fun t ht hp=>?_⟩)
  obtain⟨x,hx,e⟩:=Y3 _ _ ht
  rw[e]at hp|-
  exact h3 x hx hp
end Go.Proofs.Tryz.Op
