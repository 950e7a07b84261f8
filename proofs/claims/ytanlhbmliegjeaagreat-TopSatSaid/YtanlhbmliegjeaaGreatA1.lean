/- A case of families on a beach: what is valid, and what a seating is, by the program and by the reference. No program in sight. -/
import Derived.Test.YtanlhbmliegjeaaGreatX1
import Derived.Test.YtanlhbmliegjeaaGreatRc
open Go renaming FuncId->cj
open Go.Proofs.Tryz renaming prog->bp
open List renaming drop_eq_getElem_cons->bj,take_succ_eq_append_getElem->bk,map_append->bq,append_assoc->bw,map_cons->bx,map_nil->bz,length_cons->bc,getElem_mem->bf,nil_append->bg,drop_zero->bm,range->bn
open Bool renaming and_eq_true->bb
set_option maxRecDepth 100000
set_option linter.unusedSimpArgs false
namespace Go.Wind
structure TD where
 size:Int
 good:Int
 dog:Bool
 shy:Bool
deriving DecidableEq
structure A0 where
 beach:AL
 plan:List (List Int)
 chairs:List (List Bool)
 fams:List TD
def KO(f:TD):Bool:=HB f.size 1 4&&HB f.good 0 5
def G7(c:A0):Bool:=decide ((c.chairs.length:Int)=c.beach.rows)&&c.chairs.all (fun l=>decide ((l.length:Int)=c.beach.places))
def EQ(c:A0):Int :=
 if 3<c.fams.length then 3
 else if C6 c.beach≠0 then C6 c.beach
 else if C5 c.beach c.plan=false then 2
 else if BC c.beach=[] then 11
 else if G7 c=false then 1
 else if c.fams.all KO=false then 1 else 0
structure CJ(c:A0):Prop where
 be:Valid c.beach
 pl:C5 c.beach c.plan=true
 tr:BC c.beach≠[]
 fl:c.fams.length<=3
 ch:(c.chairs.length:Int)=c.beach.rows
 cr:∀l∈c.chairs,(l.length:Int)=c.beach.places
 fo:∀f∈c.fams,(1<=f.size/\f.size<=4)/\0<=f.good/\f.good<=5
theorem K9{c:A0}(h:EQ c=0):CJ c:=by
 unfold EQ at h;split at h
 ·cases h
 rename_i h1;split at h
 ·rename_i h2;exact absurd h h2
 rename_i h2;split at h
 ·cases h
 rename_i h3;split at h
 ·cases h
 rename_i h4;split at h
 ·cases h
 rename_i h5;split at h
 ·cases h
 rename_i h6;have hb:C6 c.beach=0:=Classical.byContradiction fun hh=>h2 hh;have h5:G7 c=true:=by simpa using h5
 have h6:c.fams.all KO=true:=by simpa using h6
 simp only[G7,bb,decide_eq_true_eq,List.all_eq_true]at h5;refine⟨LP hb,by simpa using h3,h4,by omega,h5.1,h5.2,fun f hf=>?_⟩;have:=List.all_eq_true.1 h6 f hf;simp only[KO,bb,DV]at this;exact this
structure Sp where
 fam:Nat
 size:Int
 row:Int
 place:Int
deriving DecidableEq
def GO(c:A0)(k:Nat):TD:=c.fams.getD k ⟨0,0,false,false⟩
def cS(c:A0)(a b:Nat):Bool:=decide (a≠b)&&((GO c a).shy&&(GO c b).dog||(GO c a).dog&&(GO c b).shy)
def JJ(c:A0)(x:Sp):Bool:=HB x.row 0 (c.beach.rows-1)&&HB x.place 0 (c.beach.places-x.size)
def wX(x y:Sp):Int:=max (x.place-y.place-y.size) (y.place-x.place-x.size)
def FA(c:A0)(x y:Sp):Bool:=decide (x.row≠y.row)||(decide (0<wX x y)||(decide (wX x y=0)&&!cS c x.fam y.fam))
def GD(c:A0):Nat:=(c.chairs.map fun l=>l.count true).sum
def E1(l:List Sp):Int:=(l.map Sp.size).sum
def DY(c:A0):List Sp->List Sp->Bool
 |_,[]=>true
 |before,x::r=>JJ c x&&before.all (FA c x)&&DY c (before++[x]) r
def JM(c:A0)(l:List Sp):Bool:=DY c [] l&&decide (E1 l<=GD c)
def KP(k:Nat):List TD->List (Int×Int)->List Sp
 |f::fs,s::ss=>⟨k,f.size,s.1,s.2⟩::KP (k+1) fs ss
 |_,_=>[]
def BF(c:A0)(nJ:List (Int×Int)):List Sp:=KP 0 c.fams nJ
def FB(c:A0)(nJ:List (Int×Int)):Bool:=decide (nJ.length=c.fams.length)&&JM c (BF c nJ)
theorem FQ:∀{k:Nat} {fs:List TD} {ss:List (Int×Int)},ss.length=fs.length->(KP k fs ss).length=fs.length
 |_,[],_,_=>rfl
 |_,_::_,[],h=>by simp at h
 |k,f::fs,s::ss,h=>by simp only[KP,bc,FQ (k:=k+1) (fs:=fs) (ss:=ss) (by simpa using h)]
theorem Q8:∀{k:Nat} {fs:List TD} {ss:List (Int×Int)} (j:Nat) (h1:j<fs.length) (h2:j<ss.length) (h3:j<(KP k fs ss).length),(KP k fs ss)[j]=⟨k+j,fs[j].size,ss[j].1,ss[j].2⟩
 |_,[],_,_,h1,_,_=>by simp at h1
 |_,_::_,[],_,_,h2,_=>by simp at h2
 |k,f::fs,s::ss,0,_,_,_=>rfl
 |k,f::fs,s::ss,j+1,h1,h2,h3=>by simp only[KP,List.getElem_cons_succ];rw[Q8 j (by simpa using h1) (by simpa using h2) (by simpa [KP]using h3),show k+1+j=k+(j+1) by omega]
def G4(hours:List (List IY))(x:Sp):Int:=BZ (fun p=>((hours.getD x.row.toNat []).getD (x.place.toNat+p) ⟨0,0,0⟩).good) x.size.toNat
structure CD where
 sun:Int
 carried:Int
 enough:Bool
deriving DecidableEq
def GI(sure:List (List Int))(r p:Int):Int:=(sure.getD r.toNat []).getD p.toNat 0
def Q9(c:A0)(r p:Int):Bool:=(c.chairs.getD r.toNat []).getD p.toNat false
def B5(c:A0)(sure:List (List Int))(x:Sp):CD :=
  ⟨BZ (fun p=>GI sure x.row (x.place+(p:Int))) x.size.toNat,
   BZ (fun p=>if Q9 c x.row (x.place+(p:Int))=true then 0 else 1) x.size.toNat,
   (bn x.size.toNat).all fun p=>decide ((GO c x.fam).good<=GI sure x.row (x.place+(p:Int)))⟩
def FC(c:A0)(sure:List (List Int)):List (Nat×Int)->List Sp->List (List Sp)
 |[],out=>[out]
 |g::gs,out=>(bn c.beach.rows.toNat).flatMap fun (r:Nat)=>(bn (c.beach.places-g.2+1).toNat).flatMap fun (p:Nat)=>
  if ((B5 c sure ⟨g.1,g.2,(r:Int),(p:Int)⟩).enough&&out.all (FA c ⟨g.1,g.2,(r:Int),(p:Int)⟩))=true then FC c sure gs (out++[⟨g.1,g.2,(r:Int),(p:Int)⟩]) else[]
def EY(c:A0)(sure:List (List Int))(l:List Sp):CD:=l.foldl (fun t x=>let s:=B5 c sure x;⟨t.sun+s.sun,t.carried+s.carried,t.enough&&s.enough⟩) ⟨0,0,true⟩
def EL(c:A0)(sure:List (List Int))(acc:Option (List Sp×CD))(l:List Sp):Option (List Sp×CD) :=
 let s:=EY c sure l
 match acc with
 |some (b,t)=>if s.sun<t.sun\/(s.sun=t.sun/\t.carried<=s.carried) then some (b,t) else some (l,s)
 |none=>some (l,s)
def ABC(c:A0)(sure:List (List Int))(ls:List (List Sp)):Option (List Sp×CD):=ls.foldl (EL c sure) none
theorem jD{c:A0}{sure:List (List Int)}:∀(ls:List (List Sp)) (acc:Option (List Sp×CD)),(match ls.foldl (EL c sure) acc with
  |some (b,t)=>(b∈ls/\t=EY c sure b)\/acc=some (b,t)
  | none=>ls=[]/\acc=none)
 |[],acc=>by
  cases acc with
  |none=>exact⟨rfl,rfl⟩
  |some bt=>exact .inr rfl
 |l::ls,acc=>by
  have ih:=jD (c:=c) (sure:=sure) ls (EL c sure acc l);simp only[List.foldl_cons];generalize ls.foldl (EL c sure) (EL c sure acc l)=R at ih|-;have hstep:EL c sure acc l=acc/\acc≠none\/EL c sure acc l=some (l,EY c sure l):=by
   cases acc with
   |none=>exact .inr rfl
   |some bt=>
    obtain⟨b,t⟩:=bt
    simp only[EL]
    split
    ·exact .inl ⟨rfl,by simp⟩
    ·exact .inr rfl
  cases R with
  |none=>
   obtain⟨_,h2⟩:=ih
   rcases hstep with⟨e,h⟩|e
   ·rw[e]at h2;exact absurd h2 h
   ·rw[e]at h2;cases h2
  |some bt=>
   obtain⟨b,t⟩:=bt
   simp only at ih|-
   rcases ih with⟨h1,h2⟩|h
   ·exact .inl ⟨by simp[h1],h2⟩
   ·rcases hstep with⟨e,_⟩|e
    ·rw[e]at h;exact .inr h
    ·rw[e]at h;cases h;exact .inl ⟨by simp,rfl⟩
end Go.Wind
open Go Go.Pg Go.Proofs Go.Wind
namespace Go.Proofs.Tryz.Op
def BD(x:Bool):List V:=[.bool x]
abbrev lb(l:List Bool):V:=.list false (l.map BD)
def AS(l:List Bool):List V:=[lb l]
def AU(f:TD):List V:=[i f.size,i f.good,.bool f.dog,.bool f.shy]
def AO(x:Sp):List V:=[i (x.fam:Int),i x.size,i x.row,i x.place]
def AF(c:A0):List V:=[i c.beach.last,i c.beach.rows,i c.beach.places,i c.beach.reach,li c.beach.face,li c.beach.sun,H6 c.beach.winds,.list false (c.beach.breaks.map AM),.list false (c.beach.notes.map AM),H6 c.plan,.list false (c.chairs.map AS),.list false (c.fams.map AU)]
def okF(f:TD):Prop:=NB f.size/\NB f.good
structure okC(c:A0):Prop where
 b:okB c.beach
 p:∀l∈c.plan,∀n∈l,NB n
 f:∀f∈c.fams,okF f
end Go.Proofs.Tryz.Op
namespace Go.Wind
theorem QE(c:A0):∀(a before r:List Sp),DY c before (a++r)=(DY c before a&&DY c (before++a) r)
 |[],before,r=>by simp[DY]
 |x::a,before,r=>by simp only[List.cons_append,DY,QE c a (before++[x]) r,bw,Bool.and_assoc];rfl
theorem jE(c:A0)(l:List Sp){j:Nat}(hj:j<l.length):DY c [] (l.take (j+1))=(DY c [] (l.take j)&&(JJ c l[j]&&(l.take j).all (FA c l[j]))):=by rw[bk hj,QE];simp[DY]
theorem WT(c:A0)(l:List Sp)(j:Nat)(h:DY c [] (l.take j)=false):DY c [] l=false:=by have:=QE c (l.take j) [] (l.drop j);rw[List.take_append_drop,h,Bool.false_and]at this;exact this
theorem NS(c:A0):∀(a before:List Sp),DY c before a=true->∀x∈a,JJ c x=true
 |[],_,_,_,hx=>by cases hx
 |y::a,before,h,x,hx=>by
  simp only[DY,bb]at h;rcases List.mem_cons.1 hx with rfl|hx
  ·exact h.1.1
  ·exact NS c a _ h.2 x hx
theorem jF(l:List Sp){j:Nat}(hj:j<l.length):E1 (l.take (j+1))=E1 (l.take j)+l[j].size:=by rw[bk hj];simp only[E1,bq,bx,bz,List.sum_append,List.sum_cons,List.sum_nil,Int.add_zero]
theorem TG:∀(l:List Sp),(∀x∈l,0<=x.size/\x.size<=4)->0<=E1 l/\E1 l<=4*l.length
 |[],_=>by simp[E1]
 |x::l,h=>by have ih:=TG l fun y hy=>h y (by simp[hy]);have:=h x (by simp);simp only[E1,bx,List.sum_cons,bc]at ih|-;omega
end Go.Wind
namespace Go.Proofs.Tryz.Op
def tE{σ:Type}(U:σ->List AA)(I:σ->Prop)(K:Nat)(f:cj)(cap:List V)(p:σ->List Bool->Bool)(nx:σ->List Bool->σ)(xs:List (List Bool))(c0:Nat):Prop:=∀n c fr s x,c0<=c->I s->x∈xs->(p s x=false->I (nx s x))/\∃c',c<=c'/\GH (BH bp ann kn (n+K)) (some 16) ⟨c,fr,⟨U s,[]⟩⟩ f (lb x::cap)=some ⟨c',(16,true,.bool (p s x))::fr,⟨U (nx s x),[]⟩⟩
theorem tF{σ:Type}(n K:Nat)(U:σ->List AA)(I:σ->Prop)(f:cj)(cap:List V)(hcw:cap.map weakV=cap)(p:σ->List Bool->Bool)(nx:σ->List Bool->σ)(xs:List (List Bool))(c0:Nat)(hp:tE U I K f cap p nx xs c0)(hl:xs.length<=1000):∀(d k:Nat) (s:σ) (c m:Nat),k+d=xs.length->d<m->c0<=c->I s ->
  ∃(c':Nat) (j:Int),c<=c'/\0<=j/\BG (AE bp ann kn (n+K+50) 19) RM (ann 19 (BX RM)) m ⟨c,[(0,true,.list false (xs.map AS)),(1,true,.fn f [] cap),(7,true,i xs.length),(8,true,i k)],⟨U s,[]⟩⟩ =
   bif (BI p nx s (xs.drop k)).1 then some (.ret,⟨c',[(4,true,i j),(17,true,i j),(5,true,i j)],⟨U (BI p nx s (xs.drop k)).2,[]⟩⟩)
   else some (.exit 0,⟨c',[(9,true,.bool false),(0,true,.list false (xs.map AS)),(1,true,.fn f [] cap),(7,true,i xs.length),(8,true,i xs.length)],⟨U (BI p nx s (xs.drop k)).2,[]⟩⟩)
 |0,k,s,c,m+1,hd,hm,hc0,hi=>by
  have:k=xs.length:=by omega
  subst this;refine⟨c,0,Nat.le_refl _,by omega,?_⟩;simp[AC,BI]
 |d+1,k,s,c,m+1,hd,hm,hc0,hi=>by
  have hk:k<xs.length:=by omega
  have hw:=BS (k:=k) (by omega);have nrm:∀a:Nat,n+K+a=(n+a)+K:=fun a=>by omega
  rw[AC,bj hk];simp only[BI];obtain⟨hi',c1,hc1,q⟩:=hp (n+43) c [(15,true,lb xs[k]),(14,true,.ref (AS xs[k])),(13,true,i k),(12,true,.list false (xs.map AS)),(11,true,.fn f [] cap),(0,true,.list false (xs.map AS)),(1,true,.fn f [] cap),(5,true,i k),(7,true,i xs.length),(8,true,i k)] s xs[k] hc0 hi (bf hk);generalize e:p s xs[k]=b at q hi';cases b with
  |true=>
   refine⟨c1,k,hc1,by omega,?_⟩
   try simp only[AS]at q
   rw[<-nrm]at q
   try simp at q
   simp[hk,hw,AS,q,hcw]
  |false=>
   obtain⟨c',j,h1,h2,ih⟩:=tF n K U I f cap hcw p nx xs c0 hp hl d (k+1) (nx s xs[k]) c1 m (by omega) (by omega) (by omega) (hi' rfl)
   refine⟨c',j,by omega,h2,?_⟩
   try simp only[AS]at q ih
   rw[<-nrm]at q
   try simp at q
   simp at ih
   simp[hk,hw,AS,q,ih,hcw]
theorem AG6{σ:Type}(n K:Nat)(up:σ->List AA)(loc:σ->AA)(I:σ->Prop)(f:cj)(cap:List V)(hcw:cap.map weakV=cap)(hco:cap.all (AG 8)=false)(p:σ->List Bool->Bool)(nx:σ->List Bool->σ)(xs:List (List Bool))(c0:Nat)(hp:tE (fun s=>up s++[loc s]) I K f cap p nx xs c0)(hl:xs.length<=40)(hsh:∀s (t:St),(up s).length+1<=t.up.length->(up s++[loc s]).map (AJ t)=up s++[loc s])(c dd:Nat)(fr:Fr)(s:σ)(hc0:c0<=c)(hi:I s) :
  ∃(c':Nat) (j:Int),c<=c'/\decide (0<=j)=(BI p nx s xs).1/\GH (BH bp ann kn (n+K+100)) (some dd) ⟨c,fr,⟨up s,loc s⟩⟩ 102 [.list false (xs.map AS),.fn f [] cap]=some ⟨c',(dd,true,i j)::fr,⟨up (BI p nx s xs).2,loc (BI p nx s xs).2⟩⟩:=by
 obtain⟨c1,j,h1,h2,q⟩:=tF (n+45) K (fun s=>up s++[loc s]) I f cap hcw p nx xs c0 hp (by omega) xs.length 0 s c (n+K+95) (by omega) (by omega) hc0 hi
 have e:n+45+K+50=n+K+95:=by omega
 rw[e]at q
 have hcl:([V.list false (xs.map AS),V.fn f [] cap]).all (AG 9)=false:=by simp[hco]
 have hs:=fun s=>hsh s ⟨up s++[loc s],[]⟩ (by simp)
 simp at hs
 rw[A3 Tryz.func102 b102 rfl hcl]
 simp only[bm]at q
 generalize (BI p nx s xs).2=s' at q|-
 generalize e:(BI p nx s xs).1=b at q
 cases b with
 |true=>
  refine⟨c1,j,h1,by simpa using h2,?_⟩
  simp at q
  simp[APD,AD,q,hs]
 |false=>
  refine⟨c1,-1,h1,by simp,?_⟩
  simp at q
  simp[APD,AD,q,hs]
theorem AZE{σ:Type}(n K:Nat)(up:σ->List AA)(loc:σ->AA)(I:σ->Prop)(f:cj)(cap:List V)(hcw:cap.map weakV=cap)(hco:cap.all (AG 8)=false)(p:σ->List Bool->Bool)(nx:σ->List Bool->σ)(xs:List (List Bool))(c0:Nat)(hp:tE (fun s=>up s++[loc s]++[[]]) I K f cap p nx xs c0)(hl:xs.length<=40)(hsh:∀s (t:St),(up s).length+1<=t.up.length->(up s++[loc s]).map (AJ t)=up s++[loc s])(c dd:Nat)(fr:Fr)(s:σ)(hc0:c0<=c)(hi:I s) :
  ∃c':Nat,c<=c'/\GH (BH bp ann kn (n+K+200)) (some dd) ⟨c,fr,⟨up s,loc s⟩⟩ 71 [.list false (xs.map AS),.fn f [] cap]=some ⟨c',(dd,true,.bool (BI p nx s xs).1)::fr,⟨up (BI p nx s xs).2,loc (BI p nx s xs).2⟩⟩:=by
 have hcl:([V.list false (xs.map AS),V.fn f [] cap]).all (AG 9)=false:=by simp[hco]
 have hsh2:∀s (t:St),(up s++[loc s]).length+1<=t.up.length->(up s++[loc s]++[[]]).map (AJ t)=up s++[loc s]++[[]]:=fun s t h=>by have:=hsh s t (by simp at h;omega);simp only[bq,bx,bz,E5]at this|-;rw[this]
 obtain⟨c1,j,h1,h2,q⟩:=AG6 (n+97) K (fun s=>up s++[loc s]) (fun _=>[]) I f cap hcw hco p nx xs c0 hp hl hsh2 c 7 [(6,true,.fn f [] cap),(5,true,.list false (xs.map AS)),(0,true,.list false (xs.map AS)),(1,true,.fn f [] cap)] s hc0 hi
 refine⟨c1,h1,?_⟩
 have e:n+97+K+100=n+K+197:=by omega
 rw[e]at q
 have hs:=fun s=>hsh s ⟨up s++[loc s],[]⟩ (by simp)
 simp at hs
 rw[A3 Tryz.func71 b71 rfl hcl]
 simp[c71,AD,hcw,q,h2,hs]
theorem AKZ(n K:Nat)(b:A0)(f:cj)(p:List Bool->Bool)(xs:List (List Bool))(hl:xs.length<=40)(hf:∀n x,x∈xs->AZ bp kn (AE bp ann kn (n+K)) f [.agg (AF b),lb x]=some (.bool (p x)))(hh:BK bp f=false:=by simp) :
  AZ bp kn (AE bp ann kn (n+K+300)) 42 [.list false (xs.map AS),.fn f [.agg (AF b)] []]=some (.bool (xs.all p)):=by
 rw[AP rfl,AQ Tryz.func42 b42 rfl (by simp[AF,AH,AN,AM,AS,BD,AU])]
 have hp2:tE (fun (_:Unit)=>[]++[[(3,0,AX.box [V.fn f [.agg (AF b)] []])]]++[[]]) (fun _=>True) (K+20) 72 [.ptr 0 3 0 0] (fun _ x=>!p x) (fun _ _=>()) xs 0:=by
  intro n c1 fr s x hc0 hi hx;refine⟨fun _=>trivial,c1,by omega,?_⟩;have q:=fun n=>hf n x hx;have q2:=q (n+17);have e:n+17+K=n+K+17:=by omega
  rw[e]at q2;simp only[AF]at q2|-;rw[show n+(K+20)=n+K+20 from by omega,bg,A3 Tryz.func72 b72 rfl (by simp)];simp[c72,AD,AF,AH,AN,AM,AS,BD,AU,q2,hh];try simp[AF,AH,AN,AM,AS,BD,AU,q2,hh]
 obtain⟨c',h1,q⟩:=AZE (n+77) (K+20) (fun _=>[]) (fun _=>[(3,0,.box [.fn f [.agg (AF b)] []])]) (fun _=>True) 72 [.ptr 0 3 0 0] (by simp) (by simp) (fun _ x=>!p x) (fun _ _=>()) xs 0 hp2 hl (by simp[AF,AH,AN,AM,AS,BD,AU]) 1 7 [(6,true,.fn 72 [] [.ptr 0 3 0 0]),(5,true,.list false (xs.map AS)),(0,true,.list false (xs.map AS)),(1,true,.fn f [.agg (AF b)] []),(3,true,.ptr 0 3 0 0)] () (Nat.zero_le _) trivial
 have e:n+77+(K+20)+200=n+K+297:=by omega
 rw[e,E9]at q
 have:=JS p xs
 simp only[AF]at q|-
 simp[c42,AD,q]
 rw[<-this,Bool.not_not]
def tG{σ:Type}(U:σ->List AA)(I:σ->Prop)(K:Nat)(f:cj)(cap:List V)(p:σ->TD->Bool)(nx:σ->TD->σ)(xs:List (TD))(c0:Nat):Prop:=∀n c fr s x,c0<=c->I s->x∈xs->(p s x=false->I (nx s x))/\∃c',c<=c'/\GH (BH bp ann kn (n+K)) (some 16) ⟨c,fr,⟨U s,[]⟩⟩ f (.agg (AU x)::cap)=some ⟨c',(16,true,.bool (p s x))::fr,⟨U (nx s x),[]⟩⟩
theorem tH{σ:Type}(n K:Nat)(U:σ->List AA)(I:σ->Prop)(f:cj)(cap:List V)(hcw:cap.map weakV=cap)(p:σ->TD->Bool)(nx:σ->TD->σ)(xs:List (TD))(c0:Nat)(hp:tG U I K f cap p nx xs c0)(hl:xs.length<=1000):∀(d k:Nat) (s:σ) (c m:Nat),k+d=xs.length->d<m->c0<=c->I s ->
  ∃(c':Nat) (j:Int),c<=c'/\0<=j/\BG (AE bp ann kn (n+K+50) 19) RN (ann 19 (BX RN)) m ⟨c,[(0,true,.list false (xs.map AU)),(1,true,.fn f [] cap),(7,true,i xs.length),(8,true,i k)],⟨U s,[]⟩⟩ =
   bif (BI p nx s (xs.drop k)).1 then some (.ret,⟨c',[(4,true,i j),(17,true,i j),(5,true,i j)],⟨U (BI p nx s (xs.drop k)).2,[]⟩⟩)
   else some (.exit 0,⟨c',[(9,true,.bool false),(0,true,.list false (xs.map AU)),(1,true,.fn f [] cap),(7,true,i xs.length),(8,true,i xs.length)],⟨U (BI p nx s (xs.drop k)).2,[]⟩⟩)
 |0,k,s,c,m+1,hd,hm,hc0,hi=>by
  have:k=xs.length:=by omega
  subst this;refine⟨c,0,Nat.le_refl _,by omega,?_⟩;simp[AC,BI]
 |d+1,k,s,c,m+1,hd,hm,hc0,hi=>by
  have hk:k<xs.length:=by omega
  have hw:=BS (k:=k) (by omega);have nrm:∀a:Nat,n+K+a=(n+a)+K:=fun a=>by omega
  rw[AC,bj hk];simp only[BI];obtain⟨hi',c1,hc1,q⟩:=hp (n+43) c [(15,true,.agg (AU xs[k])),(14,true,.ref (AU xs[k])),(13,true,i k),(12,true,.list false (xs.map AU)),(11,true,.fn f [] cap),(0,true,.list false (xs.map AU)),(1,true,.fn f [] cap),(5,true,i k),(7,true,i xs.length),(8,true,i k)] s xs[k] hc0 hi (bf hk);generalize e:p s xs[k]=b at q hi';cases b with
  |true=>
   refine⟨c1,k,hc1,by omega,?_⟩
   try simp only[AU]at q
   rw[<-nrm]at q
   try simp at q
   simp[hk,hw,AU,q,hcw]
  |false=>
   obtain⟨c',j,h1,h2,ih⟩:=tH n K U I f cap hcw p nx xs c0 hp hl d (k+1) (nx s xs[k]) c1 m (by omega) (by omega) (by omega) (hi' rfl)
   refine⟨c',j,by omega,h2,?_⟩
   try simp only[AU]at q ih
   rw[<-nrm]at q
   try simp at q
   simp at ih
   simp[hk,hw,AU,q,ih,hcw]
theorem AG7{σ:Type}(n K:Nat)(up:σ->List AA)(loc:σ->AA)(I:σ->Prop)(f:cj)(cap:List V)(hcw:cap.map weakV=cap)(hco:cap.all (AG 8)=false)(p:σ->TD->Bool)(nx:σ->TD->σ)(xs:List (TD))(c0:Nat)(hp:tG (fun s=>up s++[loc s]) I K f cap p nx xs c0)(hl:xs.length<=40)(hsh:∀s (t:St),(up s).length+1<=t.up.length->(up s++[loc s]).map (AJ t)=up s++[loc s])(c dd:Nat)(fr:Fr)(s:σ)(hc0:c0<=c)(hi:I s) :
  ∃(c':Nat) (j:Int),c<=c'/\decide (0<=j)=(BI p nx s xs).1/\GH (BH bp ann kn (n+K+100)) (some dd) ⟨c,fr,⟨up s,loc s⟩⟩ 103 [.list false (xs.map AU),.fn f [] cap]=some ⟨c',(dd,true,i j)::fr,⟨up (BI p nx s xs).2,loc (BI p nx s xs).2⟩⟩:=by
 obtain⟨c1,j,h1,h2,q⟩:=tH (n+45) K (fun s=>up s++[loc s]) I f cap hcw p nx xs c0 hp (by omega) xs.length 0 s c (n+K+95) (by omega) (by omega) hc0 hi
 have e:n+45+K+50=n+K+95:=by omega
 rw[e]at q
 have hcl:([V.list false (xs.map AU),V.fn f [] cap]).all (AG 9)=false:=by simp[hco]
 have hs:=fun s=>hsh s ⟨up s++[loc s],[]⟩ (by simp)
 simp at hs
 rw[A3 Tryz.func103 b103 rfl hcl]
 simp only[bm]at q
 generalize (BI p nx s xs).2=s' at q|-
 generalize e:(BI p nx s xs).1=b at q
 cases b with
 |true=>
  refine⟨c1,j,h1,by simpa using h2,?_⟩
  simp at q
  simp[APE,AD,q,hs]
 |false=>
  refine⟨c1,-1,h1,by simp,?_⟩
  simp at q
  simp[APE,AD,q,hs]
theorem AZF{σ:Type}(n K:Nat)(up:σ->List AA)(loc:σ->AA)(I:σ->Prop)(f:cj)(cap:List V)(hcw:cap.map weakV=cap)(hco:cap.all (AG 8)=false)(p:σ->TD->Bool)(nx:σ->TD->σ)(xs:List (TD))(c0:Nat)(hp:tG (fun s=>up s++[loc s]++[[]]) I K f cap p nx xs c0)(hl:xs.length<=40)(hsh:∀s (t:St),(up s).length+1<=t.up.length->(up s++[loc s]).map (AJ t)=up s++[loc s])(c dd:Nat)(fr:Fr)(s:σ)(hc0:c0<=c)(hi:I s) :
  ∃c':Nat,c<=c'/\GH (BH bp ann kn (n+K+200)) (some dd) ⟨c,fr,⟨up s,loc s⟩⟩ 73 [.list false (xs.map AU),.fn f [] cap]=some ⟨c',(dd,true,.bool (BI p nx s xs).1)::fr,⟨up (BI p nx s xs).2,loc (BI p nx s xs).2⟩⟩:=by
 have hcl:([V.list false (xs.map AU),V.fn f [] cap]).all (AG 9)=false:=by simp[hco]
 have hsh2:∀s (t:St),(up s++[loc s]).length+1<=t.up.length->(up s++[loc s]++[[]]).map (AJ t)=up s++[loc s]++[[]]:=fun s t h=>by have:=hsh s t (by simp at h;omega);simp only[bq,bx,bz,E5]at this|-;rw[this]
 obtain⟨c1,j,h1,h2,q⟩:=AG7 (n+97) K (fun s=>up s++[loc s]) (fun _=>[]) I f cap hcw hco p nx xs c0 hp hl hsh2 c 7 [(6,true,.fn f [] cap),(5,true,.list false (xs.map AU)),(0,true,.list false (xs.map AU)),(1,true,.fn f [] cap)] s hc0 hi
 refine⟨c1,h1,?_⟩
 have e:n+97+K+100=n+K+197:=by omega
 rw[e]at q
 have hs:=fun s=>hsh s ⟨up s++[loc s],[]⟩ (by simp)
 simp at hs
 rw[A3 Tryz.func73 b73 rfl hcl]
 simp[c73,AD,hcw,q,h2,hs]
theorem AK0(n K:Nat)(f:cj)(p:TD->Bool)(xs:List (TD))(hl:xs.length<=40)(hf:∀n x,x∈xs->AZ bp kn (AE bp ann kn (n+K)) f [.agg (AU x)]=some (.bool (p x)))(hh:BK bp f=false:=by simp) :
  AZ bp kn (AE bp ann kn (n+K+300)) 43 [.list false (xs.map AU),.fn f [] []]=some (.bool (xs.all p)):=by
 rw[AP rfl,AQ Tryz.func43 b43 rfl (by simp[AB,AH,AN,AM,AS,BD,AU])]
 have hp2:tG (fun (_:Unit)=>[]++[[(3,0,AX.box [V.fn f [] []])]]++[[]]) (fun _=>True) (K+20) 74 [.ptr 0 3 0 0] (fun _ x=>!p x) (fun _ _=>()) xs 0:=by
  intro n c1 fr s x hc0 hi hx;refine⟨fun _=>trivial,c1+1,by omega,?_⟩;have q:=fun n=>hf n x hx;have q2:=q (n+17);have e:n+17+K=n+K+17:=by omega
  rw[e]at q2;simp only[AU]at q2|-;rw[show n+(K+20)=n+K+20 from by omega,bg,A3 Tryz.func74 b74 rfl (by simp)];simp[c74,AD,AH,q2,hh];try simp[AH,q2,hh]
 obtain⟨c',h1,q⟩:=AZF (n+77) (K+20) (fun _=>[]) (fun _=>[(3,0,.box [.fn f [] []])]) (fun _=>True) 74 [.ptr 0 3 0 0] (by simp) (by simp) (fun _ x=>!p x) (fun _ _=>()) xs 0 hp2 hl (by simp[AB,AH,AN,AM,AS,BD,AU]) 1 7 [(6,true,.fn 74 [] [.ptr 0 3 0 0]),(5,true,.list false (xs.map AU)),(0,true,.list false (xs.map AU)),(1,true,.fn f [] []),(3,true,.ptr 0 3 0 0)] () (Nat.zero_le _) trivial
 have e:n+77+(K+20)+200=n+K+297:=by omega
 rw[e,E9]at q
 have:=JS p xs
 skip
 simp[c43,AD,q]
 rw[<-this,Bool.not_not]
def tI{σ:Type}(U:σ->List AA)(I:σ->Prop)(K:Nat)(f:cj)(cap:List V)(p:σ->Sp->Bool)(nx:σ->Sp->σ)(xs:List (Sp))(c0:Nat):Prop:=∀n c fr s x,c0<=c->I s->x∈xs->(p s x=false->I (nx s x))/\∃c',c<=c'/\GH (BH bp ann kn (n+K)) (some 16) ⟨c,fr,⟨U s,[]⟩⟩ f (.agg (AO x)::cap)=some ⟨c',(16,true,.bool (p s x))::fr,⟨U (nx s x),[]⟩⟩
theorem tJ{σ:Type}(n K:Nat)(U:σ->List AA)(I:σ->Prop)(f:cj)(cap:List V)(hcw:cap.map weakV=cap)(p:σ->Sp->Bool)(nx:σ->Sp->σ)(xs:List (Sp))(c0:Nat)(hp:tI U I K f cap p nx xs c0)(hl:xs.length<=1000):∀(d k:Nat) (s:σ) (c m:Nat),k+d=xs.length->d<m->c0<=c->I s ->
  ∃(c':Nat) (j:Int),c<=c'/\0<=j/\BG (AE bp ann kn (n+K+50) 19) MH (ann 19 (BX MH)) m ⟨c,[(0,true,.list false (xs.map AO)),(1,true,.fn f [] cap),(7,true,i xs.length),(8,true,i k)],⟨U s,[]⟩⟩ =
   bif (BI p nx s (xs.drop k)).1 then some (.ret,⟨c',[(4,true,i j),(17,true,i j),(5,true,i j)],⟨U (BI p nx s (xs.drop k)).2,[]⟩⟩)
   else some (.exit 0,⟨c',[(9,true,.bool false),(0,true,.list false (xs.map AO)),(1,true,.fn f [] cap),(7,true,i xs.length),(8,true,i xs.length)],⟨U (BI p nx s (xs.drop k)).2,[]⟩⟩)
 |0,k,s,c,m+1,hd,hm,hc0,hi=>by
  have:k=xs.length:=by omega
  subst this;refine⟨c,0,Nat.le_refl _,by omega,?_⟩;simp[AC,BI]
 |d+1,k,s,c,m+1,hd,hm,hc0,hi=>by
  have hk:k<xs.length:=by omega
  have hw:=BS (k:=k) (by omega);have nrm:∀a:Nat,n+K+a=(n+a)+K:=fun a=>by omega
  rw[AC,bj hk];simp only[BI];obtain⟨hi',c1,hc1,q⟩:=hp (n+43) c [(15,true,.agg (AO xs[k])),(14,true,.ref (AO xs[k])),(13,true,i k),(12,true,.list false (xs.map AO)),(11,true,.fn f [] cap),(0,true,.list false (xs.map AO)),(1,true,.fn f [] cap),(5,true,i k),(7,true,i xs.length),(8,true,i k)] s xs[k] hc0 hi (bf hk);generalize e:p s xs[k]=b at q hi';cases b with
  |true=>
   refine⟨c1,k,hc1,by omega,?_⟩
   try simp only[AO]at q
   rw[<-nrm]at q
   try simp at q
   simp[hk,hw,AO,q,hcw]
  |false=>
   obtain⟨c',j,h1,h2,ih⟩:=tJ n K U I f cap hcw p nx xs c0 hp hl d (k+1) (nx s xs[k]) c1 m (by omega) (by omega) (by omega) (hi' rfl)
   refine⟨c',j,by omega,h2,?_⟩
   try simp only[AO]at q ih
   rw[<-nrm]at q
   try simp at q
   simp at ih
   simp[hk,hw,AO,q,ih,hcw]
theorem AG8{σ:Type}(n K:Nat)(up:σ->List AA)(loc:σ->AA)(I:σ->Prop)(f:cj)(cap:List V)(hcw:cap.map weakV=cap)(hco:cap.all (AG 8)=false)(p:σ->Sp->Bool)(nx:σ->Sp->σ)(xs:List (Sp))(c0:Nat)(hp:tI (fun s=>up s++[loc s]) I K f cap p nx xs c0)(hl:xs.length<=40)(hsh:∀s (t:St),(up s).length+1<=t.up.length->(up s++[loc s]).map (AJ t)=up s++[loc s])(c dd:Nat)(fr:Fr)(s:σ)(hc0:c0<=c)(hi:I s) :
  ∃(c':Nat) (j:Int),c<=c'/\decide (0<=j)=(BI p nx s xs).1/\GH (BH bp ann kn (n+K+100)) (some dd) ⟨c,fr,⟨up s,loc s⟩⟩ 114 [.list false (xs.map AO),.fn f [] cap]=some ⟨c',(dd,true,i j)::fr,⟨up (BI p nx s xs).2,loc (BI p nx s xs).2⟩⟩:=by
 obtain⟨c1,j,h1,h2,q⟩:=tJ (n+45) K (fun s=>up s++[loc s]) I f cap hcw p nx xs c0 hp (by omega) xs.length 0 s c (n+K+95) (by omega) (by omega) hc0 hi
 have e:n+45+K+50=n+K+95:=by omega
 rw[e]at q
 have hcl:([V.list false (xs.map AO),V.fn f [] cap]).all (AG 9)=false:=by simp[hco]
 have hs:=fun s=>hsh s ⟨up s++[loc s],[]⟩ (by simp)
 simp at hs
 rw[A3 Tryz.func114 b114 rfl hcl]
 simp only[bm]at q
 generalize (BI p nx s xs).2=s' at q|-
 generalize e:(BI p nx s xs).1=b at q
 cases b with
 |true=>
  refine⟨c1,j,h1,by simpa using h2,?_⟩
  simp at q
  simp[xJ,AD,q,hs]
 |false=>
  refine⟨c1,-1,h1,by simp,?_⟩
  simp at q
  simp[xJ,AD,q,hs]
theorem AZG{σ:Type}(n K:Nat)(up:σ->List AA)(loc:σ->AA)(I:σ->Prop)(f:cj)(cap:List V)(hcw:cap.map weakV=cap)(hco:cap.all (AG 8)=false)(p:σ->Sp->Bool)(nx:σ->Sp->σ)(xs:List (Sp))(c0:Nat)(hp:tI (fun s=>up s++[loc s]++[[]]) I K f cap p nx xs c0)(hl:xs.length<=40)(hsh:∀s (t:St),(up s).length+1<=t.up.length->(up s++[loc s]).map (AJ t)=up s++[loc s])(c dd:Nat)(fr:Fr)(s:σ)(hc0:c0<=c)(hi:I s) :
  ∃c':Nat,c<=c'/\GH (BH bp ann kn (n+K+200)) (some dd) ⟨c,fr,⟨up s,loc s⟩⟩ 104 [.list false (xs.map AO),.fn f [] cap]=some ⟨c',(dd,true,.bool (BI p nx s xs).1)::fr,⟨up (BI p nx s xs).2,loc (BI p nx s xs).2⟩⟩:=by
 have hcl:([V.list false (xs.map AO),V.fn f [] cap]).all (AG 9)=false:=by simp[hco]
 have hsh2:∀s (t:St),(up s++[loc s]).length+1<=t.up.length->(up s++[loc s]++[[]]).map (AJ t)=up s++[loc s]++[[]]:=fun s t h=>by have:=hsh s t (by simp at h;omega);simp only[bq,bx,bz,E5]at this|-;rw[this]
 obtain⟨c1,j,h1,h2,q⟩:=AG8 (n+97) K (fun s=>up s++[loc s]) (fun _=>[]) I f cap hcw hco p nx xs c0 hp hl hsh2 c 7 [(6,true,.fn f [] cap),(5,true,.list false (xs.map AO)),(0,true,.list false (xs.map AO)),(1,true,.fn f [] cap)] s hc0 hi
 refine⟨c1,h1,?_⟩
 have e:n+97+K+100=n+K+197:=by omega
 rw[e]at q
 have hs:=fun s=>hsh s ⟨up s++[loc s],[]⟩ (by simp)
 simp at hs
 rw[A3 Tryz.func104 b104 rfl hcl]
 simp[AHR,AD,hcw,q,h2,hs]
theorem AOT{σ:Type}(n K L:Nat)(up:σ->List AA)(loc:σ->AA)(hL:∀s,(up s).length=L)(I:σ->Prop)(f:cj)(cap:List V)(hcw:cap.map weakV=cap)(hco:cap.all (AG 8)=false)(p:σ->Sp->Bool)(nx:σ->Sp->σ)(xs:List (Sp))(hl:xs.length<=40)
  (hsh:∀s (t:St),L+1<=t.up.length->(up s++[loc s]).map (AJ t)=up s++[loc s]) (hcap:∀(t:St) γ,L+1<=t.up.length->AJ t [(3,γ,AX.box [V.fn f [] cap])]=[(3,γ,AX.box [V.fn f [] cap])]) (c:Nat)
  (hp:∀n c1 γ fr s x,c<c1->I s->x∈xs->(p s x=true->I (nx s x))/\∃c',c1<=c'/\GH (BH bp ann kn (n+K)) (some 6) ⟨c1,fr,⟨up s++[loc s]++[[(3,c,AX.box [V.fn f [] cap])]]++[[]]++[[]],[(2,γ,.box (AO x))]⟩⟩ f (.agg (AO x)::cap)=some ⟨c',(6,true,.bool (p s x))::fr,⟨up (nx s x)++[loc (nx s x)]++[[(3,c,AX.box [V.fn f [] cap])]]++[[]]++[[]],[(2,γ,.box (AO x))]⟩⟩) (dd:Nat) (fr:Fr) (s:σ) (hi:I s) :
  ∃c':Nat,c<=c'/\GH (BH bp ann kn (n+K+300)) (some dd) ⟨c,fr,⟨up s,loc s⟩⟩ 80 [.list false (xs.map AO),.fn f [] cap]=some ⟨c',(dd,true,.bool (!(BI (fun s x=>!p s x) nx s xs).1))::fr,⟨up (BI (fun s x=>!p s x) nx s xs).2,loc (BI (fun s x=>!p s x) nx s xs).2⟩⟩:=by
 have hcl:([V.list false (xs.map AO),V.fn f [] cap]).all (AG 9)=false:=by simp[Q2,hco]
 have hp2:tI (fun s=>up s++[loc s]++[[(3,c,AX.box [V.fn f [] cap])]]++[[]]) I (K+20) 105 [.ptr (L+1) 3 c 0] (fun s x=>!p s x) nx xs (c+1):=by
  have hcap':∀t:St,L+1<=t.up.length->AJ t [(3,c,AX.box [V.fn f [] cap])]=[(3,c,AX.box [V.fn f [] cap])]:=fun t h=>hcap t c h;intro n c1 fr s x hc0 hi hx;obtain⟨h1,c',h2,q⟩:=hp (n+17) (c1+1) c1 [(5,true,.agg (AO x)),(4,true,.fn f [] cap),(0,true,.agg (AO x)),(1,true,.ptr (L+1) 3 c 0),(2,true,.ptr (L+4) 2 c1 0)] s x (by omega) hi hx;refine⟨fun h=>h1 (by simpa using h),c',by omega,?_⟩;have e:n+17+K=n+K+17:=by omega
  rw[e]at q;rw[show n+(K+20)=n+K+20 from by omega,A3 Tryz.func105 b105 rfl (by simp)];generalize hB:[(3,c,AX.box [V.fn f [] cap])]=B at q hcap';have hB1:AA.get B 3=some (c,.box [.fn f [] cap]):=by rw[<-hB];rfl
  have hg:(up s++[loc s]++[B]++[[]])[L+1]? = some B:=by simp only[bw];rw[List.getElem?_append_right (by rw[hL];omega)];simp[hL]
  have hs1:∀s (t:St),L+1<=t.up.length->List.map (AJ t) (up s)=up s/\AJ t (loc s)=loc s:=fun s t h=>by simpa using hsh s t h
  have hu:∀(l:List AA) a b,CM (l++[a,b,[],[]])=some (l++[a,b,[]],[]):=fun l a b=>by have:=C9 ([]:AA) (l++[a,b,[]]);rwa [bw]at this
  simp only[bw,List.cons_append,bg,AO]at q hg|-;simp[hu,APF,AD,hcw,q,hg,hL,hB1,(hs1 _ _ _).1,(hs1 _ _ _).2,hcap']
 have hsh2:∀s (t:St),(up s++[loc s]).length+1<=t.up.length->(up s++[loc s]++[[(3,c,AX.box [V.fn f [] cap])]]).map (AJ t)=up s++[loc s]++[[(3,c,AX.box [V.fn f [] cap])]]:=fun s t h=>by
  have h':L+1<=t.up.length:=by simp[hL]at h;omega
  have:=hsh s t h';have h3:=hcap t c h';rw[bq,this];simp only[bx,bz,h3]
 obtain⟨c',h1,q⟩:=AZG (n+77) (K+20) (fun s=>up s++[loc s]) (fun _=>[(3,c,AX.box [V.fn f [] cap])]) I 105 [.ptr (L+1) 3 c 0] (by simp) (by simp) (fun s x=>!p s x) nx xs (c+1) hp2 hl hsh2 (c+1) 7 [(6,true,.fn 105 [] [.ptr (L+1) 3 c 0]),(5,true,.list false (xs.map AO)),(0,true,.list false (xs.map AO)),(1,true,.fn f [] cap),(3,true,.ptr (L+1) 3 c 0)] s (Nat.le_refl _) hi
 refine⟨c',by omega,?_⟩
 have e:n+77+(K+20)+200=n+K+297:=by omega
 rw[e]at q
 have hs1:∀s (t:St),L+1<=t.up.length->List.map (AJ t) (up s)=up s/\AJ t (loc s)=loc s:=fun s t h=>by simpa using hsh s t h
 rw[A3 Tryz.func80 b80 rfl hcl]
 try simp only[List.length_append,bc,List.length_nil]at q|-
 simp[c80,AD,hcw,hL,q,(hs1 _ _ _).1,(hs1 _ _ _).2]
def IQ(P:List Int->Bool)(N x:Nat)(y:List Int):List Int:=if (AEM (ACO x N) y&&P (ACO x N))=true then ACO x N else y
def AOU(N:Nat):Nat->List Int->Prop
 |_,[]=>True
 |fr,a::r=>∃i:Nat,a=i/\fr<=i/\i<N/\AOU N (i+1) r
structure BFB(P:List Int->Bool)(N:Nat)(y:List Int):Prop where
 inc:AOU N 0 y
 can:P y=true
 min:∀t,AOU N 0 t->P t=true->AEM t y=false
end Go.Proofs.Tryz.Op
