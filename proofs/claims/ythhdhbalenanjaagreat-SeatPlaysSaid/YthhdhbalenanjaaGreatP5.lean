/- Names and levels turned into others: what the operations give turns with them. No program in sight. -/
import Derived.Test.YthhdhbalenanjaaGreatP4
namespace Go.Pg
variable {P:Program}
variable {σ σ':Nat→Nat}{δ:Nat}
theorem OY:∀(l:List V),aG σ δ l=l.map (V.ren σ δ)
 | []=>by simp[aG]
 | v :: r=>by simp[aG,OY r]
theorem iX:∀(l:List (List V)),iL σ δ l=l.map (List.map (V.ren σ δ))
 | []=>by simp[iL]
 | v :: r=>by simp[iL,OY,iX r]
@[simp] theorem D5(k:IntKind)(n:Int):(V.int k n).ren σ δ=.int k n:=by simp[V.ren]
@[simp] theorem K1(b:Bool):(V.bool b).ren σ δ=.bool b:=by simp[V.ren]
@[simp] theorem A6H(v:Value):(V.raw v).ren σ δ=.raw v:=by simp[V.ren]
@[simp] theorem GS(cs:List V):(V.agg cs).ren σ δ=.agg (cs.map (V.ren σ δ)):=by simp[V.ren,OY]
@[simp] theorem J4(cs:List V):(V.tup cs).ren σ δ=.tup (cs.map (V.ren σ δ)):=by simp[V.ren,OY]
@[simp] theorem EG(f:Bool)(es:List (List V)):(V.list f es).ren σ δ=.list f (es.map (List.map (V.ren σ δ))):=by simp[V.ren,iX]
@[simp] theorem LY(cs:List V):(V.ref cs).ren σ δ=.ref (cs.map (V.ren σ δ)):=by simp[V.ren,OY]
@[simp] theorem GU(l k g off:Nat):(V.ptr l k g off).ren σ δ=.ptr (l+δ) k (σ g) off:=by simp[V.ren]
@[simp] theorem NT(l k g i off:Nat):(V.eptr l k g i off).ren σ δ=.eptr (l+δ) k (σ g) i off:=by simp[V.ren]
@[simp] theorem GV(l k g n:Nat):(V.vec l k g n).ren σ δ=.vec (l+δ) k (σ g) n:=by simp[V.ren]
@[simp] theorem QD(l k g:Nat):(V.mp l k g).ren σ δ=.mp (l+δ) k (σ g):=by simp[V.ren]
@[simp] theorem NU(f:FuncId)(xs ys:List V):(V.fn f xs ys).ren σ δ=.fn f (xs.map (V.ren σ δ)) (ys.map (V.ren σ δ)):=by simp[V.ren,OY]
@[simp] theorem eC(l k g:Nat):(V.yld l k g).ren σ δ=.yld (l+δ) k (σ g):=by simp[V.ren]
@[simp] theorem AGN:V.nil.ren σ δ=.nil:=by simp[V.ren]
@[simp] theorem A6I:V.any.ren σ δ=.any:=by simp[V.ren]
@[simp] theorem V7(l k g i n:Nat):(V.vtl l k g i n).ren σ δ=.vtl (l+δ) k (σ g) i n:=by simp[V.ren]
theorem LZ{σ':Nat→Nat}{δ':Nat}:∀(v:V),(v.ren σ δ).ren σ' δ'=v.ren (fun γ=>σ' (σ γ)) (δ+δ')
 | .agg cs=>by simp only[GS,List.map_map]; congr 1; exact List.map_congr_left fun v _=>LZ v
 | .tup cs=>by simp only[J4,List.map_map]; congr 1; exact List.map_congr_left fun v _=>LZ v
 | .ref cs=>by simp only[LY,List.map_map]; congr 1; exact List.map_congr_left fun v _=>LZ v
 | .list b es=>by
  simp only[EG,List.map_map]
  congr 1
  refine List.map_congr_left fun e he=>?_
  have hlt:=List.sizeOf_lt_of_mem he
  simp only[Function.comp,List.map_map]
  exact List.map_congr_left fun v hv=>by
   have hlt2:=List.sizeOf_lt_of_mem hv
   exact LZ v
 | .fn f xs ys=>by
  simp only[NU,List.map_map]
  congr 1
  ·exact List.map_congr_left fun v _=>LZ v
  ·exact List.map_congr_left fun v _=>LZ v
 | .int k n=>by simp
 | .bool b=>by simp
 | .raw v=>by simp
 | .ptr l k g off=>by simp[Nat.add_assoc]
 | .eptr l k g i off=>by simp[Nat.add_assoc]
 | .vec l k g n=>by simp[Nat.add_assoc]
 | .mp l k g=>by simp[Nat.add_assoc]
 | .yld l k g=>by simp[Nat.add_assoc]
 | .nil=>by simp
 | .vtl l k g i n=>by simp[Nat.add_assoc]
 | .any=>by simp
decreasing_by all_goals first | (simp_wf; omega) | decreasing_tactic
def AX.ren(σ:Nat→Nat)(δ:Nat):AX→AX
 | .box cs=>.box (cs.map (V.ren σ δ))
 | .vec T es=>.vec T (es.map (List.map (V.ren σ δ)))
 | .map es=>.map (es.map fun p=>(p.1.ren σ δ,p.2.ren σ δ))
 | .loop fr ps asg body N st=>.loop (fr.map fun p=>(p.1,p.2.1,p.2.2.ren σ δ)) ps asg body N st
 | .dead=>.dead
def AB.ren(σ:Nat→Nat)(δ:Nat)(L:AB):AB:=L.map fun p=>(p.1,σ p.2.1,p.2.2.ren σ δ)
def Fr.ren(σ:Nat→Nat)(δ:Nat)(fr:Fr):Fr:=fr.map fun p=>(p.1,p.2.1,p.2.2.ren σ δ)
def St.emb(σ:Nat→Nat)(pre:List AB)(s:St):St:=⟨pre++s.up.map (AB.ren σ pre.length),s.loc.ren σ pre.length⟩
theorem Fr.get_ren:∀(fr:Fr) (k:Nat),(fr.ren σ δ).get k=(fr.get k).map fun p=>(p.1,p.2.ren σ δ)
 | [],k=>rfl
 | (j,x) :: fr,k=>by
  have:=Fr.get_ren fr k
  simp only[Fr.ren,List.map_cons,Fr.get]at this ⊢
  split
  ·rfl
  ·exact this
theorem AB.get_ren:∀(L:AB) (k:Nat),(L.ren σ δ).get k=(L.get k).map fun p=>(σ p.1,p.2.ren σ δ)
 | [],k=>rfl
 | (j,x) :: L,k=>by
  have:=AB.get_ren L k
  simp only[AB.ren,List.map_cons,AB.get]at this ⊢
  split
  ·rfl
  ·exact this
variable {pre:List AB}{s:St}
theorem C6:(s.emb σ pre).up.length=s.up.length+pre.length:=by simp[St.emb,Nat.add_comm]
theorem BV(l k:Nat):(s.emb σ pre).get (l+pre.length) k=(s.get l k).map fun p=>(σ p.1,p.2.ren σ pre.length):=by
 unfold St.get
 rw[C6]
 by_cases h:l=s.up.length
 ·rw[if_pos h,if_pos (by rw[h])]
  exact AB.get_ren _ _
 ·rw[if_neg h,if_neg (by omega)]
  simp only[St.emb]
  rw[List.getElem?_append_right (by omega),Nat.add_sub_cancel,List.getElem?_map]
  cases s.up[l]? with
  | none=>rfl
  | some L=>simp[AB.get_ren]
theorem YS{α:Type}(f:α→α)(M:List α)(l:Nat):∀(pre:List α),(pre++M).modify (l+pre.length) f=pre++M.modify l f
 | []=>rfl
 | p :: pre=>by
  have:=YS f M l pre
  simp only[List.cons_append,List.length_cons,← Nat.add_assoc,List.modify_succ_cons,this]
theorem CM{l k g:Nat}{r:AX}:(s.put l k g r).emb σ pre=(s.emb σ pre).put (l+pre.length) k (σ g) (r.ren σ pre.length):=by
 unfold St.put
 rw[C6]
 by_cases h:l=s.up.length
 ·rw[if_pos h,if_pos (by rw[h])]
  simp[St.emb,AB.ren,AB.put]
 ·rw[if_neg h,if_neg (by omega)]
  simp only[St.emb,St.mk.injEq,and_true]
  rw[YS]
  congr 1
  refine List.ext_getElem? fun i=>?_
  simp only[List.getElem?_map,List.getElem?_modify]
  by_cases hi:l=i
  ·subst hi
   cases s.up[l]? with
   | none=>rfl
   | some L=>simp[AB.ren,AB.put]
  ·simp[hi]
theorem QE{u:Value}{v:V}(h:CK u=some v):v.ren σ δ=v:=by
 cases u with
 | int k n=>simp only[CK,Option.some.injEq]at h; subst h; simp
 | bool b=>simp only[CK,Option.some.injEq]at h; subst h; simp
 | agg cs=>simp[CK]at h
 | tuple cs=>simp[CK]at h
 | slice a n c =>
  unfold CK at h
  split at h <;> simp_all <;> subst h <;> simp
 | _=>simp only[CK,Option.some.injEq]at h; subst h; simp
theorem QF:∀{l:List Value} {cs:List V},FY l=some cs→cs.map (V.ren σ δ)=cs
 | [],cs,h=>by simp[FY]at h; subst h; rfl
 | v :: r,cs,h=>by
  unfold FY at h
  split at h
  ·rename_i x l h1 h2
   cases h
   simp[QE h1,QF h2]
  ·cases h
end Go.Pg
namespace Go.Pg
variable {P:Program}{σ:Nat→Nat}{δ:Nat}{pre:List AB}{s:St}{fr:Fr}{g:Bool}
theorem AAU(x:Operand):rd (fr.ren σ δ) x=(rd fr x).map fun p=>(p.1,p.2.ren σ δ):=by
 cases x with
 | tmp t=>exact Fr.get_ren fr t
 | const u =>
  simp only[rd]
  cases h:CK u with
  | none=>rfl
  | some v=>simp[QE h]
 | func f=>simp[rd]
 | global g=>rfl
theorem DG(x:Operand):DO g (fr.ren σ δ) x=(DO g fr x).map (V.ren σ δ):=by
 unfold DO
 rw[AAU]
 cases rd fr x with
 | none=>rfl
 | some p =>
  obtain⟨c,v⟩:=p
  simp only[Option.map_some]
  split <;> rfl
theorem HS(v:V):A7 (v.ren σ δ)=A7 v:=by cases v <;> simp[A7]
theorem D9(v:V):A6 (v.ren σ δ)=(A6 v).map (V.ren σ δ):=by cases v <;> simp[A6]
theorem uN(v:V):weakC (v.ren σ δ)=(weakC v).ren σ δ:=by cases v <;> simp[weakC]
theorem T8(v:V):weakV (v.ren σ δ)=(weakV v).ren σ δ:=by cases v <;> simp[weakV,uN]
theorem VE{p:V}{cs:List V}(h:A5 s p=some cs):A5 (s.emb σ pre) (p.ren σ pre.length)=some (cs.map (V.ren σ pre.length)):=by
 cases p with
 | ref ds=>simp only[A5,Option.some.injEq]at h; subst h; simp[A5]
 | ptr l k γ off =>
  simp only[A5]at h
  split at h
  ·rename_i γ' ds e
   split at h
   ·rename_i eg
    cases h
    simp[A5,BV,e,AX.ren,eg,List.map_drop]
   ·cases h
  ·cases h
 | eptr l k γ i off =>
  simp only[A5]at h
  split at h
  ·rename_i γ' T es e
   split at h
   ·rename_i eg
    obtain⟨x,hx,rfl⟩:=Option.map_eq_some_iff.1 h
    simp[A5,BV,e,AX.ren,eg,hx,List.map_drop]
   ·cases h
  ·cases h
 | _=>cases h
theorem bR{T:TypeId}{cs:List V}{v:V}(h:BL P T cs=some v):BL P T (cs.map (V.ren σ δ))=some (v.ren σ δ):=by
 unfold BL at h ⊢
 split at h
 ·split at h
  ·rename_i hc; cases h; simp[hc,List.map_take]
  ·cases h
 ·split at h
  ·rename_i hc; cases h; simp[hc,List.map_take]
  ·cases h
 ·simp only[List.getElem?_map,h,Option.map_some]
 ·cases h
theorem bS{U:TypeId}{cs:List V}{off:Nat}{v:V}(h:MI P U cs off=some v):MI P U (cs.map (V.ren σ δ)) off=some (v.ren σ δ):=by
 unfold MI at h ⊢
 split at h
 ·split at h
  ·rename_i hc; cases h; simp[hc,List.map_take,List.map_drop]
  ·cases h
 ·split at h
  ·rename_i hc; cases h; simp[hc,List.map_take,List.map_drop]
  ·cases h
 ·simp only[List.getElem?_map,h,Option.map_some]
 ·cases h
theorem iY{T:TypeId}{x v:V}{f:Nat}(h:HY P T x f=some v):HY P T (x.ren σ δ) f=some (v.ren σ δ):=by
 unfold HY at h
 split at h
 ·rename_i cs U off e
  simp[HY,e,bS h]
 ·cases h
theorem VU{T:TypeId}{x v:V}{f:Nat}(h:CX P T x f=some v):CX P T (x.ren σ δ) f=some (v.ren σ δ):=by
 unfold CX at h
 split at h
 ·rename_i U off e
  split at h
  ·cases h
  ·rename_i hz
   split at h <;> first
    | (cases h; done)
    | (cases h; simp[CX,e,hz,List.map_drop])
 ·cases h
theorem EO(es:List (List V))(j:Nat):(es.map (List.map (V.ren σ δ))).getD j []=(es.getD j []).map (V.ren σ δ):=by
 simp only[List.getD_eq_getElem?_getD,List.getElem?_map]
 cases es[j]? <;> rfl
theorem VV{T:TypeId}{x i v:V}(h:BM P s T x i=some v):BM P (s.emb σ pre) T (x.ren σ pre.length) (i.ren σ pre.length)=some (v.ren σ pre.length):=by
 unfold BM at h
 split at h
 ·rename_i e f es k j e1
  split at h
  ·rename_i hc
   cases h
   obtain⟨c1,c2,c3,c4⟩:=hc
   simp only[EG,D5,BM,e1,List.length_map,EO,LY]
   rw[if_pos ⟨c1,c2,c3,c4⟩]
  ·cases h
 ·rename_i e l k γ n k' j e1
  split at h
  ·rename_i γ' U es e2
   split at h
   ·rename_i hc
    cases h
    obtain⟨c1,c2,c3,c4,c5,c6⟩:=hc
    subst c1
    simp only[GV,D5,BM,e1,BV,e2,Option.map_some,AX.ren,List.length_map,EO,NT]
    rw[if_pos ⟨trivial,c2,c3,c4,c5,c6⟩]
   ·cases h
  ·cases h
 ·rename_i n e cs k j e1
  split at h
  ·rename_i hc
   cases h
   simp only[LY,D5,BM,e1,if_pos hc,List.map_drop]
  ·cases h
 ·rename_i n e l k γ o k' j e1
  split at h
  ·rename_i hc
   cases h
   simp only[GU,D5,BM,e1,if_pos hc]
  ·cases h
 ·rename_i n e l k γ i' o k' j e1
  split at h
  ·rename_i hc
   cases h
   simp only[NT,D5,BM,e1,if_pos hc]
  ·cases h
 ·cases h
theorem iZ{T:TypeId}{x i v:V}(h:HZ P T x i=some v):HZ P T (x.ren σ δ) (i.ren σ δ)=some (v.ren σ δ):=by
 unfold HZ at h
 split at h
 ·rename_i n e cs k j e1
  split at h
  ·rename_i hc
   simp only[GS,D5,HZ,e1,if_pos hc,bS h]
  ·cases h
 ·cases h
theorem nA{S D:TypeId}{x v:V}(h:KH P S D x=some v):KH P S D (x.ren σ δ)=some (v.ren σ δ):=by
 unfold KH at h
 split at h
 ·rename_i e1 e2
  cases h
  simp[KH,e1,e2]
 ·cases h
theorem AAV{op:UnOp}{x v:V}(h:Z9 op x=some v):Z9 op (x.ren σ δ)=some (v.ren σ δ):=by
 unfold Z9 at h
 split at h <;> first | (cases h; done) | (cases h; simp[Z9])
theorem uO{x v:V}(h:MJ x=some v):MJ (x.ren σ δ)=some (v.ren σ δ):=by
 cases x <;> simp[MJ]at h <;> subst h <;> simp[MJ]
theorem aI{x v:V}{i:Nat}(h:FD x i=some v):FD (x.ren σ δ) i=some (v.ren σ δ):=by
 cases x <;> simp[FD]at h
 simp[FD,h]
theorem uP{T:TypeId}{x v:V}(h:F4 P T x=some v):F4 P T (x.ren σ δ)=some (v.ren σ δ):=by
 unfold F4 at h
 split at h
 ·rename_i e f es hu; cases h; simp[F4,hu]
 ·rename_i e l k g n hu; cases h; simp[F4,hu]
 ·rename_i e hu; cases h; simp[F4,hu]
 ·rename_i n e hu; cases h; unfold F4; rw[hu]; simp
 ·cases h
theorem AGO{n m:Nat}{h:Option V}(e:hiN n h=some m):hiN n (h.map (V.ren σ δ))=some m:=by
 cases h with
 | none=>exact e
 | some a=>cases a <;> first | (simp only[Option.map_some,D5]; exact e) | (simp[hiN]at e)
theorem jA{T:TypeId}{x v:V}{lo hi mx:Option V}(h:BU P s T x lo hi mx=some v):BU P (s.emb σ pre) T (x.ren σ pre.length) (lo.map (V.ren σ pre.length)) (hi.map (V.ren σ pre.length)) (mx.map (V.ren σ pre.length))=some (v.ren σ pre.length):=by
 unfold BU at h
 split at h
 ·rename_i e f es k h' e1
  split at h
  ·rename_i hc; cases h; simp only[EG,Option.map_some,D5,Option.map_none,BU,e1,List.length_map,if_pos hc,List.map_take]
  ·cases h
 ·rename_i e f es k l e1
  split at h
  ·rename_i hc
   cases h
   have:(es.map (List.map (V.ren σ pre.length))).all (fun x=>x.length == P.cellsOf e)=true:=by
    rw[List.all_map]; exact hc.2.2.2▸(by congr 1; funext x; simp)
   simp only[EG,Option.map_some,D5,Option.map_none,BU,e1,List.length_map,if_pos (⟨hc.1,hc.2.1,hc.2.2.1,this⟩:_∧_∧_∧_),List.map_drop]
  ·cases h
 ·rename_i e f es k l k' h' e1
  split at h
  ·rename_i hc
   cases h
   have:(es.map (List.map (V.ren σ pre.length))).all (fun x=>x.length == P.cellsOf e)=true:=by
    rw[List.all_map]; exact hc.2.2.2.2▸(by congr 1; funext x; simp)
   simp only[EG,Option.map_some,D5,Option.map_none,BU,e1,List.length_map,if_pos (⟨hc.1,hc.2.1,hc.2.2.1,hc.2.2.2.1,this⟩:_∧_∧_∧_∧_),List.map_drop,List.map_take]
  ·cases h
 ·rename_i e f es k h' k' m e1
  split at h
  ·rename_i hc; cases h; simp only[EG,Option.map_some,D5,Option.map_none,BU,e1,if_pos hc,List.map_nil]
  ·cases h
 ·rename_i e l k g n k' h' e1
  split at h
  ·rename_i hc; cases h; simp only[GV,Option.map_some,D5,Option.map_none,BU,e1,if_pos hc]
  ·cases h
 ·rename_i e l k g n k' i e1
  split at h
  ·rename_i g' T' es hget
   split at h
   ·rename_i hc
    obtain⟨rfl,h1,h2,h3,h4,h5⟩:=hc
    cases h
    have:(es.map (List.map (V.ren σ pre.length))).all (fun x=>x.length == P.cellsOf e)=true:=by
     rw[List.all_map]; exact h1▸(by congr 1; funext x; simp)
    simp only[GV,V7,Option.map_some,D5,Option.map_none,BU,e1,BV,hget,AX.ren]
    rw[if_pos ⟨trivial,this,by simpa using h2,h3,h4,h5⟩]
   ·cases h
  ·cases h
 ·rename_i n e l k g o e1
  split at h
  ·rename_i g' cs m hget hm
   split at h
   ·rename_i hc
    obtain⟨rfl,h1,h2⟩:=hc
    cases h
    simp only[GU,V7,Option.map_none,BU,e1,BV,hget,AX.ren,Option.map_some,AGO hm]
    rw[if_pos ⟨trivial,h1,by simpa using h2⟩]
   ·cases h
  ·cases h
 ·cases h
theorem uQ{x y v:V}(h:SB x y=some v):SB (x.ren σ δ) (y.ren σ δ)=some (v.ren σ δ):=by
 unfold SB at h
 split at h
 ·split at h
  ·rename_i hk; cases h; simp[SB,hk]
  ·cases h
 ·cases h
theorem uR{x y v:V}(h:SD x y=some v):SD (x.ren σ δ) (y.ren σ δ)=some (v.ren σ δ):=by
 unfold SD at h
 split at h
 ·split at h
  ·rename_i hk; cases h; simp[SD,hk]
  ·cases h
 ·cases h
theorem uS{op:BinOp}{k:IntKind}{a b:Int}{v:V}(h:EE op k a b=some v):v.ren σ δ=v:=by
 unfold EE at h
 split at h <;> first
  | (cases h; simp; done)
  | (split at h <;> first | (cases h; done) | (cases h; simp; done))
  | (obtain⟨r,_,rfl⟩:=Option.map_eq_some_iff.1 h; simp)
theorem L5:∀(cs:List V),DT (cs.map (V.ren σ δ))=DT cs
 | []=>rfl
 | c :: cs=>by
  have ih:=L5 cs
  cases c <;> simp[DT,ih]
theorem AAW{op:BinOp}{k:IntKind}{a b:Int}{v:V}(h:XM op k a b=some v):v.ren σ δ=v:=by
 cases op <;> simp only[XM]at h
 case shl=>split at h <;> cases h; simp
 case shr=>split at h <;> cases h; simp
 all_goals cases h
theorem uT{op:BinOp}{T:TypeId}{x y v:V}(h:GL P op T x y=some v):GL P op T (x.ren σ δ) (y.ren σ δ)=some (v.ren σ δ):=by
 unfold GL at h
 split at h
 ·split at h
  ·rename_i hk; simp only[D5,GL,if_pos hk,h,uS h]
  ·rename_i hk; simp only[D5,GL,if_neg hk,h,AAW h]
 ·split at h
  ·rename_i hk
   have hv:v.ren σ δ=v:=by split at h <;> first | (cases h; done) | (cases h; simp)
   rw[hv]
   simp only[K1,GL,if_pos hk]
   exact h
  ·cases h
 ·rename_i cs ds
  have he:P7 P T (cs.map (V.ren σ δ)) (ds.map (V.ren σ δ))=P7 P T cs ds:=by unfold P7; rw[L5,L5]
  have hv:v.ren σ δ=v:=by
   split at h
   ·obtain⟨r,_,rfl⟩:=Option.map_eq_some_iff.1 h; simp
   ·obtain⟨r,_,rfl⟩:=Option.map_eq_some_iff.1 h; simp
   ·cases h
  rw[hv]
  simp only[GS,GL,he]
  exact h
 ·rename_i x' _
  have hi:IE (x.ren σ δ)=IE x:=by
   cases x with
   | list f es=>cases es <;> simp[IE]
   | vec l k g n=>cases n <;> simp[IE]
   | vtl l k g i n=>cases n <;> simp[IE]
   | _=>simp[IE]
  have hb:∀y:V,GL P op T y .nil=if C8 P T then(match op with
   | .eql=>(IE y).map V.bool
   | .neq=>(IE y).map fun b=>V.bool !b
   | _=>none) else none:=fun y=>by cases y <;> rfl
  have hv:v.ren σ δ=v:=by
   split at h
   ·split at h
    ·obtain⟨r,_,rfl⟩:=Option.map_eq_some_iff.1 h; simp
    ·obtain⟨r,_,rfl⟩:=Option.map_eq_some_iff.1 h; simp
    ·cases h
   ·cases h
  rw[hv,AGN,hb,hi]
  exact h
 ·cases h
theorem T9:∀{cs:List V} {l:List Value},DT cs=some l→cs.map (V.ren σ δ)=cs
 | [],_,_=>rfl
 | c :: cs,l,h=>by
  cases c with
  | int k n =>
   simp only[DT]at h
   split at h
   ·rename_i r hr; simp[T9 hr]
   ·cases h
  | bool b =>
   simp only[DT]at h
   split at h
   ·rename_i r hr; simp[T9 hr]
   ·cases h
  | _=>simp[DT]at h
theorem YT{K:TypeId}(v:V):aA P K (v.ren σ δ)=aA P K v:=by
 cases v with
 | agg cs =>
  simp only[GS,aA,L5]
  split
  ·rename_i l hl; rw[T9 hl]
  ·rfl
 | _=>simp[aA]
theorem UA{K:TypeId}{ks:List V}:∀(es:List (V×V)) (i:Nat),SA P K ks (es.map fun p=>(p.1.ren σ δ,p.2.ren σ δ)) i=SA P K ks es i
 | [],_=>rfl
 | (k,v) :: es,i=>by
  simp only[List.map_cons,SA,YT,UA es]
theorem nB{T:TypeId}{z:V}(h:XP P T=some z):z.ren σ δ=z:=by
 unfold XP at h
 split at h
 ·split at h
  ·rename_i cs hz; cases h; simp[QF hz]
  ·cases h
 ·exact QE h
 ·cases h
theorem eD{T:TypeId}{x k v:V}{ok:Bool}(h:D3 P s T x k ok=some v):D3 P (s.emb σ pre) T (x.ren σ pre.length) (k.ren σ pre.length) ok=some (v.ren σ pre.length):=by
 unfold D3 at h
 split at h
 ·rename_i K E l q g hm
  split at h
  ·rename_i g' es hget
   split at h
   ·rename_i hc
    obtain⟨rfl,hT⟩:=hc
    split at h
    ·rename_i ks hks
     simp only[QD,D3,hm,BV,hget,Option.map_some,AX.ren,YT,hks,UA,if_pos (⟨trivial,hT⟩:True∧_)]
     split at h
     ·rename_i hf
      obtain⟨z,hz,rfl⟩:=Option.map_eq_some_iff.1 h
      simp only[hz,Option.map_some]
      cases ok <;> simp[nB hz]
     ·rename_i i hf
      obtain⟨e,he,rfl⟩:=Option.map_eq_some_iff.1 h
      simp only[List.getElem?_map,he,Option.map_some]
      cases ok <;> simp
     ·cases h
    ·cases h
   ·cases h
  ·cases h
 ·cases h
theorem UB{T:TypeId}{x k v:V}{l q γ:Nat}{es:List (V×V)}(h:PT P s T x k v=some (l,q,γ,es)):PT P (s.emb σ pre) T (x.ren σ pre.length) (k.ren σ pre.length) (v.ren σ pre.length)=some (l+pre.length,q,σ γ,es.map fun p=>(p.1.ren σ pre.length,p.2.ren σ pre.length)):=by
 unfold PT at h
 split at h
 ·rename_i K E l q g hm
  split at h
  ·rename_i g' es hget
   split at h
   ·rename_i hc
    obtain⟨rfl,hT⟩:=hc
    split at h
    ·rename_i ks hks
     simp only[QD,PT,hm,BV,hget,Option.map_some,AX.ren,YT,hks,UA,if_pos (⟨trivial,hT⟩:True∧_)]
     split at h
     ·rename_i hf
      cases h
      simp
     ·rename_i i hf
      cases h
      simp[List.map_set]
     ·cases h
    ·cases h
   ·cases h
  ·cases h
 ·cases h
theorem IA{r:Operand→Option V}:∀{l:List Operand} {vs:List V},l.mapM r=some vs→l.mapM (fun x=>(r x).map (V.ren σ δ))=some (vs.map (V.ren σ δ))
 | [],vs,h=>by simp at h; subst h; rfl
 | x :: l,vs,h=>by
  simp only[List.mapM_cons,Option.bind_eq_bind,Option.bind_eq_some_iff,Option.pure_def,Option.some.injEq]at h
  obtain⟨v,h1,us,h2,rfl⟩:=h
  simp[h1,IA h2]
theorem AGP{o:Oper}{r:Operand→Option V}{v:V}(h:H0 P o s r=some v):H0 P o (s.emb σ pre) (fun x=>(r x).map (V.ren σ pre.length))=some (v.ren σ pre.length):=by
 unfold H0 at h ⊢
 split at h <;> (try simp only[Option.bind_eq_some_iff]at h)
 case h_1=>simp[h]
 case h_2=>simp[h]
 case h_3=>obtain⟨a,h1,h2⟩:=h; simp[h1,uO h2]
 case h_4=>obtain⟨a,h1,b,h2,h3⟩:=h; simp[h1,VE h2,bR h3]
 case h_5=>obtain⟨a,h1,b,h2,h3⟩:=h; simp[h1,h2,uT h3]
 case h_6=>obtain⟨a,h1,h2⟩:=h; simp[h1,AAV h2]
 case h_7=>obtain⟨a,h1,h2⟩:=h; simp[h1,nA h2]
 case h_8=>obtain⟨a,h1,h2⟩:=h; simp[h1,VU h2]
 case h_9=>obtain⟨a,h1,h2⟩:=h; simp[h1,iY h2]
 case h_10=>obtain⟨a,h1,b,h2,h3⟩:=h; simp[h1,h2,VV h3]
 case h_11=>obtain⟨a,h1,b,h2,h3⟩:=h; simp[h1,h2,iZ h3]
 case h_12=>obtain⟨a,h1,h2⟩:=h; simp[h1,aI h2]
 case h_13 =>
  split at h
  ·rename_i e1 e2
   simp only[Option.bind_eq_some_iff]at h
   obtain⟨a,h1,h2⟩:=h
   simp[h1,uP h2]
  ·cases h
 case h_14 =>
  split at h
  ·simp only[Option.bind_eq_some_iff]at h
   obtain⟨a,h1,b,h2,h3⟩:=h
   simp[h1,h2,uQ h3]
  ·cases h
 case h_15 =>
  split at h
  ·simp only[Option.bind_eq_some_iff]at h
   obtain⟨a,h1,b,h2,h3⟩:=h
   simp[h1,h2,uR h3]
  ·cases h
 case h_16 T x lo hi mx ho =>
  obtain⟨a,h1,l,h2,u,h3,m,h4,h5⟩:=h
  have key:∀(z:Option Operand) (q:Option V),(match z with | none=>some none | some y=>(r y).map some)=some q→(z=none∧q=none)∨∃y b,z=some y∧r y=some b∧q=some b:=by
   intro z q hz
   cases z with
   | none=>cases hz; exact .inl ⟨rfl,rfl⟩
   | some y =>
    obtain⟨b,hb,rfl⟩:=Option.map_eq_some_iff.1 hz
    exact .inr ⟨y,b,rfl,hb,rfl⟩
  have h6:=jA (σ:=σ) (pre:=pre) h5
  rcases key lo l h2 with⟨rfl,rfl⟩ | ⟨y1,b1,rfl,q1,rfl⟩ <;> rcases key hi u h3 with⟨rfl,rfl⟩ | ⟨y2,b2,rfl,q2,rfl⟩ <;> rcases key mx m h4 with⟨rfl,rfl⟩ | ⟨y3,b3,rfl,q3,rfl⟩ <;> simp_all
 case h_17=>obtain⟨a,h1,b,h2,h3⟩:=h; simp[h1,h2,eD h3]
 case h_18 f first captured ho =>
  obtain⟨a,h1,b,h2,h3⟩:=h
  cases h3
  simp[IA h1,IA h2]
 case h_19=>cases h
end Go.Pg
namespace Go.Pg
variable {P:Program}{σ:Nat→Nat}{δ:Nat}{pre:List AB}{s:St}{fr:Fr}{g:Bool}
theorem F7{T:TypeId}{z:List V}(h:B5 P T=some z):z.map (V.ren σ δ)=z:=by
 unfold B5 at h
 split at h
 ·exact QF h
 ·cases h
theorem C0{α β:Type}(f:α→β)(cs ds:List α)(off:Nat):A0 (cs.map f) off (ds.map f)=(A0 cs off ds).map f:=by
 simp[A0,List.map_take,List.map_drop]
theorem OZ{place:Nat→Option (Nat×Nat)}:∀{ps:List (Nat×V)} {cs ds:List V},CZ place cs ps=some ds→CZ place (cs.map (V.ren σ δ)) (ps.map fun p=>(p.1,p.2.ren σ δ))=some (ds.map (V.ren σ δ))
 | [],cs,ds,h=>by simp[CZ]at h; subst h; rfl
 | (i,v) :: r,cs,ds,h=>by
  simp only[CZ]at h
  split at h
  ·cases h
  ·rename_i off size e
   split at h
   ·rename_i hc
    have:=OZ h
    simp only[List.map_cons,CZ,e,D9,List.length_map]
    rw[if_pos hc,C0]
    exact this
   ·cases h
theorem L6(ps:List (Nat×V)):((ps.map fun p=>(p.1,p.2.ren σ δ)).all fun p=>A7 p.2)=ps.all fun p=>A7 p.2:=by
 rw[List.all_map]
 congr 1
 funext p
 exact HS p.2
theorem jB{T:TypeId}{ps:List (Nat×V)}{v:V}(h:CR P T ps=some v):CR P T (ps.map fun p=>(p.1,p.2.ren σ δ))=some (v.ren σ δ):=by
 unfold CR at h ⊢
 split at h
 ·rename_i z fs e1 e2
  simp only[L6]
  split at h
  ·rename_i hc
   obtain⟨cs,h1,rfl⟩:=Option.map_eq_some_iff.1 h
   have:=OZ (σ:=σ) (δ:=δ) h1
   rw[F7 e1]at this
   rw[if_pos hc,this]
   simp
  ·cases h
 ·rename_i z n e e1 e2
  simp only[L6]
  split at h
  ·rename_i hc
   obtain⟨cs,h1,rfl⟩:=Option.map_eq_some_iff.1 h
   have:=OZ (σ:=σ) (δ:=δ) h1
   rw[F7 e1]at this
   rw[if_pos hc,this]
   simp
  ·cases h
 ·cases h
theorem YU{β:Type}(f:V→V)(size:Nat):∀(n:Nat) (cs:List V),CL size (cs.map f) n=(CL size cs n).map (List.map f)
 | 0,_=>rfl
 | n+1,cs=>by
  simp only[CL,List.map_cons,List.map_take]
  rw[← List.map_drop,YU (β:=β) f size n]
theorem UC{T:TypeId}{len:Nat}{ps:List (Nat×V)}{v:V}(h:BZ P T len ps=some v):BZ P T len (ps.map fun p=>(p.1,p.2.ren σ δ))=some (v.ren σ δ):=by
 unfold BZ at h ⊢
 split at h
 ·rename_i e e1
  split at h
  ·rename_i z e2
   split at h
   ·rename_i hc
    obtain⟨cs,h1,rfl⟩:=Option.map_eq_some_iff.1 h
    have:=OZ (σ:=σ) (δ:=δ) h1
    have hz:(List.replicate len z).flatten.map (V.ren σ δ)=(List.replicate len z).flatten:=by
     rw[List.map_flatten,List.map_replicate,F7 e2]
    rw[hz]at this
    simp only[L6]
    rw[if_pos hc,this]
    simp[YU (β:=Nat)]
   ·cases h
  ·cases h
 ·cases h
theorem QG{r:Operand→Option V}:∀{l:List (Nat×Operand)} {ps:List (Nat×V)},CW r l=some ps→CW (fun x=>(r x).map (V.ren σ δ)) l=some (ps.map fun p=>(p.1,p.2.ren σ δ))
 | [],ps,h=>by simp[CW]at h; subst h; rfl
 | (i,x) :: l,ps,h=>by
  simp only[CW]at h
  split at h
  ·rename_i v us h1 h2
   cases h
   simp[CW,h1,QG h2]
  ·cases h
theorem F8{v:V}{es:List (List V)}(h:elemsOf s v=some es):elemsOf (s.emb σ pre) (v.ren σ pre.length)=some (es.map (List.map (V.ren σ pre.length))):=by
 cases v with
 | list f ds=>simp only[elemsOf,Option.some.injEq]at h; subst h; simp[elemsOf]
 | vec l k γ n =>
  simp only[elemsOf]at h
  split at h
  ·rename_i γ' T ds e
   split at h
   ·rename_i hc
    cases h
    simp[elemsOf,BV,e,AX.ren,hc.1,hc.2,List.map_take]
   ·cases h
  ·cases h
 | vtl l k γ i n =>
  simp only[elemsOf]at h
  split at h
  ·rename_i γ' cs e
   split at h
   ·rename_i hc
    cases h
    simp[elemsOf,BV,e,AX.ren,hc.1,hc.2,List.map_take,List.map_drop,Function.comp_def]
   ·cases h
  ·cases h
 | nil=>simp only[elemsOf,Option.some.injEq]at h; subst h; simp[elemsOf]
 | _=>cases h
theorem IX:DO g (fr.ren σ δ)=fun x=>(DO g fr x).map (V.ren σ δ):=by funext x; exact DG x
theorem IB{o:Oper}{v:V}(h:E6 P g o fr s=some v):E6 P g o (fr.ren σ pre.length) (s.emb σ pre)=some (v.ren σ pre.length):=by
 unfold E6 at h ⊢
 split at h
 ·rename_i c x y ho
  split at h
  ·rename_i c' ca va cb vb e1 e2 e3
   split at h
   ·rename_i hc
    cases h
    simp only[DG,AAU,e1,e2,e3,Option.map_some,K1]
    rw[if_pos hc]
   ·cases h
  ·cases h
 ·rename_i T parts ho
  obtain⟨ps,h1,h2⟩:=Option.bind_eq_some_iff.1 h
  rw[IX,QG h1]
  exact jB h2
 ·rename_i T len parts ho
  obtain⟨ps,h1,h2⟩:=Option.bind_eq_some_iff.1 h
  rw[IX,QG h1]
  exact UC h2
 ·rw[IX]; exact AGP h
def AZ(s:St):Nat→V→Option V
 | 0,_=>none
 | f+1,v=>match v with
  | .list _ es=>some (.list false es)
  | .vec l k g m=>if l=s.up.length then(match s.loc.get k with
    | some (g',.vec _ es)=>if g'=g∧m≤es.length then some (.list false (es.take m)) else none
    | _=>none) else some v
  | .ptr l k g off=>if l=s.up.length then(match s.loc.get k with
    | some (g',.box cs)=>if g'=g then(cs.mapM (AZ s f)).map fun ds=>.ref (ds.drop off) else none
    | _=>none) else some v
  | .agg cs=>(cs.mapM (AZ s f)).map .agg
  | .tup cs=>(cs.mapM (AZ s f)).map .tup
  | .fn g xs ys=>match xs.mapM (AZ s f),ys.mapM (AZ s f)with
   | some a,some b=>some (.fn g a b)
   | _,_=>none
  | v=>some v
theorem F9{α β:Type}{f:α→Option β}{g:α→β}(h:∀x y,f x=some y→g x=y):∀{l:List α} {r:List β},l.mapM f=some r→l.map g=r
 | [],r,e=>by simp at e; subst e; rfl
 | x :: l,r,e=>by
  simp only[List.mapM_cons,Option.bind_eq_bind,Option.bind_eq_some_iff,Option.pure_def,Option.some.injEq]at e
  obtain⟨y,h1,ys,h2,rfl⟩:=e
  simp[h x y h1,F9 h h2]
theorem NV:∀(f:Nat) {v r:V},AZ s f v=some r→C9 s f v=r
 | 0,v,r,h=>by cases h
 | f+1,v,r,h=>by
  have ih:=fun v r=>NV f (v:=v) (r:=r)
  cases v with
  | list b es=>simpa [AZ,C9]using h
  | vec l k g m =>
   simp only[AZ]at h
   simp only[C9]
   split at h
   ·rename_i hl
    rw[if_pos hl]
    split at h
    ·rename_i g' T es e
     split at h
     ·rename_i hc; rw[e]; simp only[if_pos hc]; exact Option.some.inj h
     ·cases h
    ·cases h
   ·rename_i hl; rw[if_neg hl]; exact Option.some.inj h
  | ptr l k g off =>
   simp only[AZ]at h
   simp only[C9]
   split at h
   ·rename_i hl
    rw[if_pos hl]
    split at h
    ·rename_i g' cs e
     split at h
     ·rename_i hc
      obtain⟨ds,h1,rfl⟩:=Option.map_eq_some_iff.1 h
      rw[e]; simp only[if_pos hc,F9 ih h1]
     ·cases h
    ·cases h
   ·rename_i hl; rw[if_neg hl]; exact Option.some.inj h
  | agg cs =>
   obtain⟨ds,h1,rfl⟩:=Option.map_eq_some_iff.1 h
   simp only[C9,F9 ih h1]
  | tup cs =>
   obtain⟨ds,h1,rfl⟩:=Option.map_eq_some_iff.1 h
   simp only[C9,F9 ih h1]
  | fn g xs ys =>
   simp only[AZ]at h
   split at h
   ·rename_i a b h1 h2
    cases h
    simp only[C9,F9 ih h1,F9 ih h2]
   ·cases h
  | _=>simpa [AZ,C9]using h
theorem FI{f f':V→Option V}(h:∀v r,f v=some r→f' (v.ren σ δ)=some (r.ren σ δ)):∀{l r:List V},l.mapM f=some r→(l.map (V.ren σ δ)).mapM f'=some (r.map (V.ren σ δ))
 | [],r,e=>by simp at e; subst e; rfl
 | x :: l,r,e=>by
  simp only[List.mapM_cons,Option.bind_eq_bind,Option.bind_eq_some_iff,Option.pure_def,Option.some.injEq]at e
  obtain⟨y,h1,ys,h2,rfl⟩:=e
  simp[h x y h1,FI h h2]
theorem J5(k:Nat):(s.emb σ pre).loc.get k=(s.loc.get k).map fun p=>(σ p.1,p.2.ren σ pre.length):=AB.get_ren _ _
theorem JH:∀(f:Nat) {v r:V},AZ s f v=some r→AZ (s.emb σ pre) f (v.ren σ pre.length)=some (r.ren σ pre.length)
 | 0,v,r,h=>by cases h
 | f+1,v,r,h=>by
  have ih:=fun v r=>JH f (v:=v) (r:=r)
  cases v with
  | list b es=>simp only[AZ,Option.some.injEq]at h; subst h; simp[AZ]
  | vec l k g m =>
   simp only[AZ]at h
   split at h
   ·rename_i hl
    split at h
    ·rename_i g' T es e
     split at h
     ·rename_i hc
      cases h
      simp[AZ,C6,J5,hl,e,AX.ren,hc.1,hc.2,List.map_take]
     ·cases h
    ·cases h
   ·rename_i hl
    cases h
    have:¬l+pre.length=s.up.length+pre.length:=by omega
    simp[AZ,C6,hl]
  | ptr l k g off =>
   simp only[AZ]at h
   split at h
   ·rename_i hl
    split at h
    ·rename_i g' cs e
     split at h
     ·rename_i hc
      obtain⟨ds,h1,rfl⟩:=Option.map_eq_some_iff.1 h
      have:=FI ih h1
      simp[AZ,C6,J5,hl,e,AX.ren,hc,this,List.map_drop]
     ·cases h
    ·cases h
   ·rename_i hl
    cases h
    simp[AZ,C6,hl]
  | agg cs =>
   obtain⟨ds,h1,rfl⟩:=Option.map_eq_some_iff.1 h
   simp[AZ,FI ih h1]
  | tup cs =>
   obtain⟨ds,h1,rfl⟩:=Option.map_eq_some_iff.1 h
   simp[AZ,FI ih h1]
  | fn g xs ys =>
   simp only[AZ]at h
   split at h
   ·rename_i a b h1 h2
    cases h
    simp[AZ,FI ih h1,FI ih h2]
   ·cases h
  | _=>simp only[AZ,Option.some.injEq]at h; subst h; simp[AZ]
noncomputable def BJ(s:St)(v:V):Option V:=match v with
 | .list f es=>some (.list f es)
 | .int k n=>some (.int k n)
 | .bool b=>some (.bool b)
 | v=>AZ s 4 v
theorem IY{v r:V}(h:BJ s v=some r):E5 s v=r:=by
 unfold BJ at h
 unfold E5
 split at h
 ·simpa using h
 ·simpa [C9]using h
 ·simpa [C9]using h
 ·rename_i h1 h2 h3
  split
  ·rename_i f es; exact absurd rfl (h1 f es)
  ·exact NV 4 h
theorem VF{v:V}(h1:∀f es,v≠.list f es)(h2:∀k n,v≠.int k n)(h3:∀b,v≠.bool b):BJ s v=AZ s 4 v:=by
 unfold BJ
 split
 ·rename_i f es; exact absurd rfl (h1 f es)
 ·rename_i k n; exact absurd rfl (h2 k n)
 ·rename_i b; exact absurd rfl (h3 b)
 ·rfl
theorem J6{v r:V}(h:BJ s v=some r):BJ (s.emb σ pre) (v.ren σ pre.length)=some (r.ren σ pre.length):=by
 by_cases h1:∃f es,v=.list f es
 ·obtain⟨f,es,rfl⟩:=h1
  simp only[BJ,Option.some.injEq]at h; subst h; simp[BJ]
 by_cases h2:∃k n,v=.int k n
 ·obtain⟨k,n,rfl⟩:=h2
  simp only[BJ,Option.some.injEq]at h; subst h; simp[BJ]
 by_cases h3:∃b,v=.bool b
 ·obtain⟨b,rfl⟩:=h3
  simp only[BJ,Option.some.injEq]at h; subst h; simp[BJ]
 rw[VF (fun f es e=>h1 ⟨f,es,e⟩) (fun k n e=>h2 ⟨k,n,e⟩) (fun b e=>h3 ⟨b,e⟩)]at h
 rw[VF (fun f es e=>by cases v <;> simp at e; exact h1 ⟨_,_,rfl⟩) (fun k n e=>by cases v <;> simp at e; exact h2 ⟨_,_,rfl⟩) (fun b e=>by cases v <;> simp at e; exact h3 ⟨_,rfl⟩)]
 exact JH 4 h
def EK{α β:Type}(f:α→Option β):List α→Option (List β)
 | []=>some []
 | x :: l=>match f x with
  | some y=>match EK f l with
   | some r=>some (y :: r)
   | none=>none
  | none=>none
theorem K2{α β:Type}{f:α→Option β}{g:α→β}(h:∀x y,f x=some y→g x=y):∀{l:List α} {r:List β},EK f l=some r→l.map g=r
 | [],r,e=>by cases e; rfl
 | x :: l,r,e=>by
  simp only[EK]at e
  split at e
  ·rename_i y hy
   split at e
   ·rename_i q hq; cases e; simp[h _ _ hy,K2 h hq]
   ·cases e
  ·cases e
theorem K3{α β:Type}{f f':α→Option β}{a:α→α}{b:β→β}(h:∀x y,f x=some y→f' (a x)=some (b y)):∀{l:List α} {r:List β},EK f l=some r→EK f' (l.map a)=some (r.map b)
 | [],r,e=>by cases e; rfl
 | x :: l,r,e=>by
  simp only[EK]at e
  split at e
  ·rename_i y hy
   split at e
   ·rename_i q hq; cases e; simp[EK,h _ _ hy,K3 h hq]
   ·cases e
  ·cases e
noncomputable def CA(s:St)(r:AX):Option AX:=match r with
 | .box cs=>match EK (BJ s) cs with
  | some ds=>some (.box ds)
  | none=>none
 | .vec T es=>match EK (EK (BJ s)) es with
  | some ds=>some (.vec T ds)
  | none=>none
 | .map es=>match EK (fun e:V×V=>match BJ s e.1,BJ s e.2 with
   | some a,some b=>some (a,b)
   | _,_=>none) es with
  | some ds=>some (.map ds)
  | none=>none
 | r=>some r
noncomputable def CC(s:St)(r:AX):AX:=match CA s r with
 | some r'=>r'
 | none=>r
theorem YV{r r':AX}(h:CA s r=some r'):r'=r∨r'=GN s r:=by
 unfold CA at h
 split at h
 ·split at h
  ·rename_i ds hd; cases h; exact .inr (by simp only[GN,K2 (fun x y=>IY) hd])
  ·cases h
 ·split at h
  ·rename_i ds hd; cases h; exact .inr (by simp only[GN,K2 (fun x y=>K2 (fun x y=>IY)) hd])
  ·cases h
 ·split at h
  ·rename_i ds hd
   cases h
   refine .inr ?_
   simp only[GN]
   rw[K2 (g:=fun e=>(E5 s e.1,E5 s e.2)) (fun x y h=>?_) hd]
   split at h
   ·rename_i a b h1 h2; cases h; rw[IY h1,IY h2]
   ·cases h
  ·cases h
 ·cases h; exact .inl rfl
theorem KI{r r':AX}(h:CA s r=some r'):CA (s.emb σ pre) (r.ren σ pre.length)=some (r'.ren σ pre.length):=by
 cases r with
 | box cs =>
  simp only[CA]at h
  split at h
  ·rename_i ds hd; cases h; simp[CA,AX.ren,K3 (fun x y=>J6 (σ:=σ) (pre:=pre)) hd]
  ·cases h
 | vec T es =>
  simp only[CA]at h
  split at h
  ·rename_i ds hd; cases h; simp[CA,AX.ren,K3 (fun x y=>K3 (fun x y=>J6 (σ:=σ) (pre:=pre))) hd]
  ·cases h
 | map es =>
  simp only[CA]at h
  split at h
  ·rename_i ds hd
   cases h
   have:=K3 (f':=fun e:V×V=>match BJ (s.emb σ pre) e.1,BJ (s.emb σ pre) e.2 with
    | some a,some b=>some (a,b)
    | _,_=>none) (a:=fun p:V×V=>(p.1.ren σ pre.length,p.2.ren σ pre.length)) (b:=fun p:V×V=>(p.1.ren σ pre.length,p.2.ren σ pre.length)) (fun x y h=>by
     split at h
     ·rename_i a b h1 h2; cases h; simp[J6 h1,J6 h2]
     ·cases h) hd
   simp[CA,AX.ren,this]
  ·cases h
 | loop fr ps asg body N st=>simp only[CA,Option.some.injEq]at h; subst h; rfl
 | dead=>simp only[CA,Option.some.injEq]at h; subst h; rfl
theorem jC(r:AX):(CC s r).ren σ pre.length=r.ren σ pre.length∨(CC s r).ren σ pre.length=GN (s.emb σ pre) (r.ren σ pre.length):=by
 unfold CC
 split
 ·rename_i r' h
  rcases YV (KI (σ:=σ) (pre:=pre) h)with h' | h'
  ·exact .inl h'
  ·exact .inr h'
 ·exact .inl rfl
noncomputable def AQ(s:St)(L:AB):AB:=L.map fun p=>(p.1,p.2.1,CC s p.2.2)
theorem L7(s:St):∀(L:AB) (k:Nat),(AQ s L).get k=(L.get k).map fun p=>(p.1,CC s p.2)
 | [],k=>rfl
 | (j,x) :: L,k=>by
  have:=L7 s L k
  simp only[AQ,List.map_cons,AB.get]at this ⊢
  split
  ·rfl
  ·exact this
theorem nC{rv:ResultVar}{v:V}(h:DI P fr s rv=some v):DI P (fr.ren σ pre.length) (s.emb σ pre) rv=some (v.ren σ pre.length):=by
 cases rv with
 | tmp t =>
  simp only[DI]at h ⊢
  split at h
  ·rename_i e; cases h; simp[Fr.get_ren,e]
  ·cases h
 | cell ad T =>
  simp only[DI]at h ⊢
  split at h
  ·rename_i p e
   obtain⟨cs,h1,h2⟩:=Option.bind_eq_some_iff.1 h
   simp[Fr.get_ren,e,VE h1,bR h2]
  ·cases h
theorem NW{rs:List ResultVar}{v:V}(h:FM P rs fr s=some v):FM P rs (fr.ren σ pre.length) (s.emb σ pre)=some (v.ren σ pre.length):=by
 have key:∀{rs:List ResultVar} {vs:List V},rs.mapM (DI P fr s)=some vs→rs.mapM (DI P (fr.ren σ pre.length) (s.emb σ pre))=some (vs.map (V.ren σ pre.length)):=by
  intro rs
  induction rs with
  | nil=>intro vs e; simp at e; subst e; rfl
  | cons x l ih =>
   intro vs e
   simp only[List.mapM_cons,Option.bind_eq_bind,Option.bind_eq_some_iff,Option.pure_def,Option.some.injEq]at e
   obtain⟨y,h1,ys,h2,rfl⟩:=e
   simp[nC h1,ih h2]
 unfold FM at h ⊢
 split at h
 ·rename_i x e; cases h; rw[key e]; rfl
 ·rename_i vs hne e
  cases h
  rw[key e]
  cases vs with
  | nil=>simp
  | cons a r =>
   cases r with
   | nil=>exact absurd rfl (hne a)
   | cons b r=>simp
 ·cases h
theorem O0:∀(i:Nat) (vs:List V),AF i (vs.map (V.ren σ δ))=(AF i vs).ren σ δ
 | _,[]=>rfl
 | i,v :: vs=>by simp[AF,Fr.ren,O0 (i+1) vs]
end Go.Pg
