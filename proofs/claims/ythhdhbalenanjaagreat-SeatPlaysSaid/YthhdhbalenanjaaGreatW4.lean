/- Contracts: play, Play. No condition but a valid beach. -/
import Derived.Test.YthhdhbalenanjaaGreatW3
import Derived.Test.YthhdhbalenanjaaGreatFz
open Go Go.Pg Go.Proofs Go.Wind
namespace Go.Wind
def wJ(x y:GD):GD:=⟨x.sun+y.sun,x.calm+y.calm,x.good+y.good⟩
end Go.Wind
namespace Go.Proofs.Tryz.Op
set_option maxRecDepth 100000
set_option linter.unusedSimpArgs false
@[simp] theorem ARJ(l k γ i o:Nat):weakV (.eptr l k γ i o)=.eptr l k γ i o:=rfl
@[simp] theorem AID(f l k γ i o:Nat):AL (f+1) (.eptr l k γ i o)=false:=rfl
theorem UW(L:AB)(k γ:Nat)(r:AX):AB.put L k γ r=(k,γ,r) :: L:=rfl
theorem A5C(t:St)(l:List GD):CC t (.vec 155 (l.map B7))=.vec 155 (l.map B7):=OD fun e he v hv=>by
 obtain⟨x,_,rfl⟩:=List.mem_map.1 he
 simp only[B7,List.mem_cons,List.not_mem_nil,or_false]at hv
 rcases hv with rfl | rfl | rfl <;> rfl
theorem AIE(rs:List GD)(p:Nat)(x y z:Int):(rs.map B7).set p [.int .i64 x,.int .i64 y,.int .i64 z]=(rs.set p ⟨x,y,z⟩).map B7:=by rw[List.map_set]; rfl
theorem BDX(c γ p:Nat)(B:AX)(rest:AB)(rs:List GD)(hB:∀t,CC t B=B)(hr:∀t,AQ t rest=rest)(hp:p<rs.length)(hγ:γ<c)(y:GD)(w1:IntKind.i64.wrap (rs[p].sun+y.sun)=rs[p].sun+y.sun)(w2:IntKind.i64.wrap (rs[p].calm+y.calm)=rs[p].calm+y.calm)(w3:IntKind.i64.wrap (rs[p].good+y.good)=rs[p].good+y.good):∃X1 X2,∀(n d:Nat) (fr:Fr),IQ (BQ Tryz.prog ann kn (n+100)) (some d) ⟨c,fr,⟨[],(3,0,B) :: (20,γ,.vec 155 (rs.map B7)) :: rest⟩⟩ 152 [.eptr 0 20 γ p 0,.agg [i y.sun,i y.calm,i y.good]] =
  some ⟨c+1,(d,true,.tup []) :: fr,⟨[],(20,γ,.vec 155 ((rs.set p (wJ rs[p] y)).map B7)) :: (20,γ,X1) :: (20,γ,X2) :: (3,0,B) :: (20,γ,.vec 155 (rs.map B7)) :: rest⟩⟩:=by
 refine⟨.vec 155 ((rs.set p ⟨rs[p].sun+y.sun,rs[p].calm+y.calm,rs[p].good⟩).map B7),.vec 155 ((rs.set p ⟨rs[p].sun+y.sun,rs[p].calm,rs[p].good⟩).map B7),fun n d fr=>?_⟩
 rw[BK Tryz.func152 b152 rfl (by simp[show AL 9 (V.eptr 0 20 γ p 0)=false from rfl])]
 have hg:γ<c+1:=by omega
 have e:(rs.map B7).set p [i (rs[p].sun+y.sun),i (rs[p].calm+y.calm),i (rs[p].good+y.good)]=(rs.set p (wJ rs[p] y)).map B7:=AIE rs p _ _ _
 rw[← e]
 rw[← AIE,← AIE]
 generalize hz:(some _:Option XS)=Z
 simp[AYK,AF,B7,hp,hg,w1,w2,w3,UW]
 simp only[AIE,A5C,hB,hr]at hz ⊢
 exact hz
theorem ADJ(b:AJ)(plan:List (List Int))(t:List Int)(r p h:Nat):wJ (E3 (ID b plan t r p) (H4 b plan r) h) (Z5 b (r,p) h (BW plan h r) (t.getD h 0))=E3 (ID b plan t r p) (H4 b plan r) (h+1):=by
 have e:H4 b plan r h=decide (b.sun.getD h 0=BW plan h r):=by
  unfold H4
  congr 1
  exact propext eq_comm
 have e2:ID b plan t r p h=NH b (r,p) (BW plan h r) (t.getD h 0):=rfl
 simp only[E3,dM,Z5,wJ,← e,← e2]
 have g:∀(f:Nat→Bool),((dM f h:Nat):Int)+(if f h=true then 1 else 0)=((dM f h+if f h=true then 1 else 0:Nat):Int):=fun f=>by
  split <;> simp
 rw[g,g,g (fun h=>H4 b plan r h&&ID b plan t r p h)]
theorem ZX(calm lit:Nat→Bool)(n:Nat):0≤(E3 calm lit n).sun∧(E3 calm lit n).sun≤n∧0≤(E3 calm lit n).calm∧(E3 calm lit n).calm≤n∧0≤(E3 calm lit n).good∧(E3 calm lit n).good≤n:=by
 have h1:=XJ lit n
 have h2:=XJ calm n
 have h3:=XJ (fun h=>lit h&&calm h) n
 simp only[E3]
 omega
theorem A5D(b:AJ)(s:Int×Int)(h:Nat)(f w:Int):0≤(Z5 b s h f w).sun∧(Z5 b s h f w).sun≤1∧0≤(Z5 b s h f w).calm∧(Z5 b s h f w).calm≤1∧0≤(Z5 b s h f w).good∧(Z5 b s h f w).good≤1:=by
 unfold Z5
 simp only
 cases decide (b.sun.getD h 0=f) <;> cases NH b s f w <;> simp
theorem ARK(t:St)(k γ:Nat)(T:TypeId)(A:List (List V))(hA:∀e∈A,∀v∈e,BJ t v=some v):AQ t (pl k γ T A)=pl k γ T A:=by
 cases A with
 | nil=>rfl
 | cons e es =>
  show AQ t [(k,γ,.vec T (e :: es))]=_
  rw[CI,OD hA]; rfl
theorem A5E(t:St)(b:AJ):CC t (.box (AA b))=.box (AA b):=by
 simp[AA,AH,AN,AG]
def BO(l:List GD):List V:=[.list false (l.map B7)]
theorem AIF(t:St)(A:List (List GD)):∀e∈A.map BO,∀v∈e,BJ t v=some v:=by
 intro e he v hv
 obtain⟨l,_,rfl⟩:=List.mem_map.1 he
 simp only[BO,List.mem_cons,List.not_mem_nil,or_false]at hv
 subst hv
 simp[BJ,B7]
theorem ADK(b:AJ)(hb:Valid b)(plan:List (List Int))(hp:EV b plan)(t:List Int)(ht:AV t b.winds=true)(r p:Nat)(hr:(r:Int)<b.rows)(hp2:(p:Int)<b.places)(A:List (List GD))(tot:Int)(γ3:Nat):∀(d h c γ:Nat) (rs:List GD),h+d=t.length→(rs.length:Int)=b.places→rs[p]? = some (E3 (ID b plan t r p) (H4 b plan r) h)→γ<c→∀n m,d<m→A9 (AE Tryz.prog ann kn (n+1400) 67) RD (ann 67 (BN RD)) m ⟨c,[(1,true,HB plan),(2,true,li t),(3,true,.ptr 0 3 0 0),(6,true,pv 63 γ3 (A.map BO)),(7,true,i tot),(8,true,i r),(9,true,.vec 0 20 γ rs.length),(10,true,i p),(14,true,i b.rows),(15,true,i r),(22,true,i rs.length),(23,true,i p),(26,true,li t),(27,true,i t.length),(28,true,i h)],⟨[],(3,0,.box (AA b)) :: (20,γ,.vec 155 (rs.map B7)) :: pl 63 γ3 156 (A.map BO)⟩⟩ =
  some (.exit 4,⟨c+d,[(29,true,.bool false),(1,true,HB plan),(2,true,li t),(3,true,.ptr 0 3 0 0),(6,true,pv 63 γ3 (A.map BO)),(7,true,i tot),(8,true,i r),(9,true,.vec 0 20 γ rs.length),(10,true,i p),(14,true,i b.rows),(15,true,i r),(22,true,i rs.length),(23,true,i p),(26,true,li t),(27,true,i t.length),(28,true,i t.length)],⟨[],(3,0,.box (AA b)) :: (20,γ,.vec 155 ((rs.set p (C7 b plan t r p)).map B7)) :: pl 63 γ3 156 (A.map BO)⟩⟩)
 | 0,h,c,γ,rs,hd,hl,e,hγ,n,m+1,hm=>by
  have:h=t.length:=by omega
  subst this
  have:rs.set p (C7 b plan t r p)=rs:=by
   have hpl:p<rs.length:=by omega
   rw[List.getElem?_eq_getElem hpl,Option.some.injEq]at e
   unfold C7
   rw[← e]
   exact List.set_getElem_self hpl
  rw[this,AC]
  simp[AA]
 | d+1,h,c,γ,rs,hd,hl,e,hγ,n,m+1,hm=>by
  have hd':h<t.length:=by omega
  have hw:=BH (k:=h) (by have:=CE ht; have:=hb.hl; omega)
  have hlw:=CE ht
  have hwi:=hb.wi
  have hsu:=hb.su
  have hpn:=hp.len
  have hh:h<plan.length:=by omega
  have hpe:plan.getD h []=plan[h]:=by rw[List.getD_eq_getElem?_getD,List.getElem?_eq_getElem hh]; rfl
  have aX:r<plan[h].length:=by have:=hp.row h hh; rw[hpe]at this; omega
  have hx:BW plan h r=plan[h][r]:=by unfold BW; rw[hpe,List.getD_eq_getElem?_getD,List.getElem?_eq_getElem aX]; rfl
  have htd:t.getD h 0=t[h]:=by rw[List.getD_eq_getElem?_getD,List.getElem?_eq_getElem hd']; rfl
  have hdir:=LI hb ht hd'
  rw[htd,DM]at hdir
  have hro:=hb.ro
  have hpc:=hb.pl
  have q:=fun n=>kOf n b hb (r,p) (by simp only; omega) h (by omega) (BW plan h r) t[h] hdir
  rw[hx]at q
  have hpl:p<rs.length:=by omega
  rw[List.getElem?_eq_getElem hpl,Option.some.injEq]at e
  have st:=ADJ b plan t r p h
  rw[hx,htd,← e]at st
  have b1:=ZX (ID b plan t r p) (H4 b plan r) h
  have b2:=A5D b (r,p) h plan[h][r] t[h]
  rw[← e]at b1
  have hh5:h≤5:=by have:=hb.la; omega
  generalize Z5 b (r,p) h plan[h][r] t[h]=y at q st b2
  obtain⟨X1,X2,q2⟩:=BDX c γ p (.box (AA b)) (pl 63 γ3 156 (A.map BO)) rs (fun t=>A5E t b) (fun t=>ARK t 63 γ3 156 _ (AIF t A)) hpl hγ y (AW (by omega) (by omega)) (AW (by omega) (by omega)) (AW (by omega) (by omega))
  have ih:=ADK b hb plan hp t ht r p hr hp2 A tot γ3 d (h+1) (c+1) γ (rs.set p (wJ rs[p] y)) (by omega) (by simpa using hl) (by rw[List.getElem?_set_self hpl,st]) (by omega) n m (by omega)
  rw[List.set_set]at ih
  generalize rs.set p (C7 b plan t r p)=F at ih ⊢
  generalize hR:rs.set p (wJ rs[p] y)=R at ih q2
  have hRl:R.length=rs.length:=by rw[← hR]; simp
  have hc':c+1+d=c+(d+1):=by omega
  rw[hRl,hc']at ih
  rw[AC]
  simp only[AA,AG]at q q2 ih ⊢
  simp at ih
  simp[hd',hw,AH,AN,hh,aX,q,AG,B7,EZ,hpl,q2,ih]
def EW(b:AJ)(plan:List (List Int))(t:List Int)(r:Nat):Nat→Int
 | 0=>0
 | p+1=>EW b plan t r p+(C7 b plan t r p).good
theorem UY(b:AJ)(plan:List (List Int))(t:List Int)(r:Nat):∀p,0≤EW b plan t r p∧EW b plan t r p≤p*t.length
 | 0=>by simp[EW]
 | p+1=>by
  have h1:=UY b plan t r p
  have h2:=ZX (ID b plan t r p) (H4 b plan r) t.length
  simp only[EW,C7]
  have e:((p+1:Nat):Int)*(t.length:Int)=(p:Int)*t.length+t.length:=by rw[Int.natCast_succ,Int.add_mul,Int.one_mul]
  omega
def K7(b:AJ)(plan:List (List Int))(t:List Int)(r p:Nat):List GD:=(List.range b.places.toNat).map fun j=>if j<p then C7 b plan t r j else⟨0,0,0⟩
def TG(b:AJ)(plan:List (List Int))(t:List Int)(r:Nat):List GD:=(List.range b.places.toNat).map (C7 b plan t r)
theorem TH(b:AJ)(plan:List (List Int))(t:List Int)(r p:Nat):(K7 b plan t r p).length=b.places.toNat:=by simp[K7]
theorem ADL{b:AJ}{plan:List (List Int)}{t:List Int}{r p:Nat}(h:p<b.places.toNat):(K7 b plan t r p)[p]? = some ⟨0,0,0⟩:=by simp[K7,h]
theorem lI{b:AJ}{plan:List (List Int)}{t:List Int}{r p:Nat}:(K7 b plan t r p).set p (C7 b plan t r p)=K7 b plan t r (p+1):=by
 apply List.ext_getElem (by simp[K7])
 intro j h1 h2
 simp only[K7,List.getElem_set,List.getElem_map,List.getElem_range]
 by_cases e:p=j
 ·subst e; simp
 ·rw[if_neg e]
  have:(j<p)=(j<p+1):=propext ⟨fun h=>by omega,fun h=>by omega⟩
  simp only[this]
theorem wK(b:AJ)(plan:List (List Int))(t:List Int)(r:Nat):K7 b plan t r b.places.toNat=TG b plan t r:=by
 apply List.ext_getElem (by simp[K7,TG])
 intro j h1 h2
 have:j<b.places.toNat:=by simpa [K7]using h1
 simp only[K7,TG,List.getElem_map,List.getElem_range,if_pos this]
theorem wL(b:AJ)(plan:List (List Int))(t:List Int)(r:Nat):K7 b plan t r 0=List.replicate b.places.toNat ⟨0,0,0⟩:=by
 apply List.ext_getElem (by simp[K7])
 intro j h1 h2
 simp[K7]
theorem ADM(b:AJ)(hb:Valid b)(plan:List (List Int))(hp:EV b plan)(t:List Int)(ht:AV t b.winds=true)(r:Nat)(hr:(r:Int)<b.rows)(A:List (List GD))(tot:Int)(htot:0≤tot∧tot≤1000)(γ3 γ:Nat):∀(d p c:Nat),p+d=b.places.toNat→γ<c→∃c',γ<c'∧∀n m,d<m→A9 (AE Tryz.prog ann kn (n+1600) 67) RE (ann 67 (BN RE)) m ⟨c,[(1,true,HB plan),(2,true,li t),(3,true,.ptr 0 3 0 0),(6,true,pv 63 γ3 (A.map BO)),(7,true,i (tot+EW b plan t r p)),(8,true,i r),(9,true,.vec 0 20 γ b.places.toNat),(14,true,i b.rows),(15,true,i r),(22,true,i b.places.toNat),(23,true,i p)],⟨[],(3,0,.box (AA b)) :: (20,γ,.vec 155 ((K7 b plan t r p).map B7)) :: pl 63 γ3 156 (A.map BO)⟩⟩ =
  some (.exit 2,⟨c',[(24,true,.bool false),(1,true,HB plan),(2,true,li t),(3,true,.ptr 0 3 0 0),(6,true,pv 63 γ3 (A.map BO)),(7,true,i (tot+EW b plan t r b.places.toNat)),(8,true,i r),(9,true,.vec 0 20 γ b.places.toNat),(14,true,i b.rows),(15,true,i r),(22,true,i b.places.toNat),(23,true,i b.places.toNat)],⟨[],(3,0,.box (AA b)) :: (20,γ,.vec 155 ((TG b plan t r).map B7)) :: pl 63 γ3 156 (A.map BO)⟩⟩)
 | 0,p,c,hd,hγ=>by
  have:p=b.places.toNat:=by omega
  subst this
  refine⟨c,hγ,fun n m hm=>?_⟩
  obtain⟨m,rfl⟩:∃m',m=m'+1:=⟨m-1,by omega⟩
  rw[wK,AC]
  simp[AA]
 | d+1,p,c,hd,hγ=>by
  have hpc:=hb.pl
  have hla:=hb.la
  have hlw:=CE ht
  have hwi:=hb.wi
  have hw:=BH (k:=p) (by omega)
  have hp':p<b.places.toNat:=by omega
  obtain⟨c',h1,ih⟩:=ADM b hb plan hp t ht r hr A tot htot γ3 γ d (p+1) (c+t.length) (by omega) (by omega)
  have q:=ADK b hb plan hp t ht r p hr (by omega) A (tot+EW b plan t r p) γ3 t.length 0 c γ (K7 b plan t r p) (by omega) (by rw[TH]; omega) (ADL hp') hγ
  rw[lI,TH]at q
  have q:=fun n m=>q n (m+100) (by omega)
  have hg:(K7 b plan t r (p+1))[p]? = some (C7 b plan t r p):=by
   rw[← lI,List.getElem?_set_self (by rw[TH]; exact hp')]
  have hl:=TH b plan t r (p+1)
  have b1:=UY b plan t r p
  have b2:=ZX (ID b plan t r p) (H4 b plan r) t.length
  have b3:(p:Int)*t.length≤5*5:=Int.mul_le_mul (by omega) (by omega) (by omega) (by omega)
  have e1:tot+EW b plan t r (p+1)=tot+EW b plan t r p+(C7 b plan t r p).good:=by simp only[EW]; omega
  have hwt:IntKind.i64.wrap (tot+EW b plan t r p+(C7 b plan t r p).good)=tot+EW b plan t r p+(C7 b plan t r p).good:=AW (by unfold C7; omega) (by unfold C7; omega)
  rw[e1]at ih
  refine⟨c',h1,fun n m hm=>?_⟩
  obtain⟨m,rfl⟩:∃m',m=m'+1:=⟨m-1,by omega⟩
  have ih:=ih n m (by omega)
  generalize K7 b plan t r (p+1)=R at ih q hg hl
  generalize K7 b plan t r p=R0 at q ⊢
  have hgl:p<R.length:=by omega
  rw[List.getElem?_eq_getElem hgl,Option.some.injEq]at hg
  generalize C7 b plan t r p=y at *
  generalize EW b plan t r b.places.toNat=TT at ih ⊢
  generalize TG b plan t r=RR at ih ⊢
  generalize b.places.toNat=PP at hp' hl ih q ⊢
  rw[AC]
  simp only[AA]at q ih ⊢
  simp at ih q
  have hle:PP≤R.length:=by omega
  simp[hp',hw,hwt,hgl,hle,hg,B7,EZ,q,ih]
def HV(b:AJ)(plan:List (List Int))(t:List Int):Nat→Int
 | 0=>0
 | r+1=>HV b plan t r+EW b plan t r b.places.toNat
theorem cZ(b:AJ)(hb:Valid b)(plan:List (List Int))(t:List Int)(h5:t.length≤5):∀r,r≤3→0≤HV b plan t r∧HV b plan t r≤r*25
 | 0,_=>by simp[HV]
 | r+1,h=>by
  have h1:=cZ b hb plan t h5 r (by omega)
  have h2:=UY b plan t r b.places.toNat
  have:=hb.pl
  have b3:(b.places.toNat:Int)*t.length≤5*5:=Int.mul_le_mul (by omega) (by omega) (by omega) (by omega)
  simp only[HV]
  omega
def DP(b:AJ)(plan:List (List Int))(t:List Int)(n:Nat):List (List GD):=(List.range n).map (TG b plan t)
theorem oZ(b:AJ)(plan:List (List Int))(t:List Int)(n:Nat):DP b plan t (n+1)=DP b plan t n++[TG b plan t n]:=by
 simp[DP,List.range_succ]
theorem A5F{k:Nat}{x:List GD}(h:k≤10000):B4 Tryz.prog 156 k [BO x]=true:=by
 rw[CO (by simp[BO]) (by simp)]
 simp[maxLen,BO]; omega
theorem ADN(b:AJ)(hb:Valid b)(plan:List (List Int))(hp:EV b plan)(t:List Int)(ht:AV t b.winds=true):∀(d r c γ3:Nat),r+d=b.rows.toNat→0<c→∃fr c' γ',(BT fr 6=some (true,pv 63 γ' ((DP b plan t b.rows.toNat).map BO))∧BT fr 7=some (true,i (HV b plan t b.rows.toNat)))∧∀n m,d<m→A9 (AE Tryz.prog ann kn (n+1800) 67) RF (ann 67 (BN RF)) m ⟨c,[(1,true,HB plan),(2,true,li t),(3,true,.ptr 0 3 0 0),(6,true,pv 63 γ3 ((DP b plan t r).map BO)),(7,true,i (HV b plan t r)),(14,true,i b.rows),(15,true,i r)],⟨[],(3,0,.box (AA b)) :: pl 63 γ3 156 ((DP b plan t r).map BO)⟩⟩ =
  some (.exit 0,⟨c',fr,⟨[],(3,0,.box (AA b)) :: pl 63 γ' 156 ((DP b plan t b.rows.toNat).map BO)⟩⟩)
 | 0,r,c,γ3,hd,hc=>by
  have hr:r=b.rows.toNat:=by omega
  have hro:=hb.ro
  have hr':b.rows=(r:Int):=by omega
  rw[← hr]
  refine⟨?fr,c,γ3,?g1,fun n m hm=>?g2⟩
  case g2 =>
   obtain⟨m,rfl⟩:∃m',m=m'+1:=⟨m-1,by omega⟩
   rw[AC]
   simp[AA,hr']
   rfl
  case g1=>simp
 | d+1,r,c,γ3,hd,hc=>by
  have hro:=hb.ro
  have hpc:=hb.pl
  have hw:=BH (k:=r) (by omega)
  have hr':(r:Int)<b.rows:=by omega
  have hla:=hb.la
  have hlw:=CE ht
  have hwi:=hb.wi
  have b1:=cZ b hb plan t (by omega) r (by omega)
  obtain⟨c1,h1,q⟩:=ADM b hb plan hp t ht r hr' (DP b plan t r) (HV b plan t r) (by omega) γ3 c b.places.toNat 0 (c+1) (by omega) (by omega)
  have q:=fun n m=>q n (m+100) (by omega)
  obtain⟨fr,c',γ',e1,ih⟩:=ADN b hb plan hp t ht d (r+1) (c1+1) c1 (by omega) (by omega)
  have e:HV b plan t (r+1)=HV b plan t r+EW b plan t r b.places.toNat:=rfl
  have happ:=A5F (k:=(DP b plan t r).length) (x:=TG b plan t r) (by simp[DP]; omega)
  rw[wL]at q
  rw[oZ,e]at ih
  refine⟨fr,c',γ',e1,fun n m hm=>?_⟩
  obtain⟨m,rfl⟩:∃m',m=m'+1:=⟨m-1,by omega⟩
  have ih:=ih n m (by omega)
  have h0:EW b plan t r 0=0:=rfl
  rw[h0]at q
  generalize DP b plan t b.rows.toNat=FF at ih ⊢
  generalize EW b plan t r b.places.toNat=TT at ih q
  have hRl:(TG b plan t r).length=b.places.toNat:=by simp[TG]
  generalize TG b plan t r=RR at ih q happ hRl
  obtain⟨PP,hPP⟩:∃P:Nat,b.places=P:=⟨b.places.toNat,by omega⟩
  have hP2:b.places.toNat=PP:=by omega
  rw[hP2]at q hRl
  subst hRl
  rw[AC]
  simp only[AA,hPP]at q ih ⊢
  simp[BO]at ih q happ
  simp[B7]at q
  have m1:RR.length*24≤140737488355328:=by omega
  have m2:RR.length≤maxLen:=by simp[maxLen]; omega
  have htl:∀o,EJ 0 20 o (pl 63 γ3 156 ((DP b plan t r).map BO))=pl 63 γ3 156 ((DP b plan t r).map BO):=fun o=>UP (by decide) _ _ _ (by simp[BO,B7])
  simp[hr',hw,BO,q,ih,happ,m1,m2,htl]
theorem A5G(n:Nat)(b:AJ)(hb:Valid b)(plan:List (List Int))(hp:EV b plan)(t:List Int)(ht:AV t b.winds=true):AY Tryz.prog kn (AE Tryz.prog ann kn (n+2000)) 113 [.agg (AA b),HB plan,li t]=some (.tup [sl ((DP b plan t b.rows.toNat).map BO),i (HV b plan t b.rows.toNat)]):=by
 rw[AP rfl,AO Tryz.func113 A9Y rfl (by simp[AA,AH,AN,AG])]
 have hro:=hb.ro
 obtain⟨fr,c',γ',⟨e1,e2⟩,q⟩:=ADN b hb plan hp t ht b.rows.toNat 0 1 0 (by omega) (by omega)
 have q:=fun n m=>q n (m+100) (by omega)
 have h0:DP b plan t 0=[]:=rfl
 have h1:HV b plan t 0=0:=rfl
 rw[h0,h1]at q
 generalize DP b plan t b.rows.toNat=FF at *
 generalize HV b plan t b.rows.toNat=TT at *
 simp only[AA]at q ⊢
 simp at q
 simp[AYJ,AF,q,e1,e2]
 simp[BO,B7]
def sX(b:AJ)(plan:List (List Int))(t:List Int):List (List GD)×Int :=
 if CD b≠0 then([],CD b) else if CV b plan=true∧AV t b.winds=true then(DP b plan t b.rows.toNat,0) else([],2)
theorem ARL(n:Nat)(b:AJ)(h40:∀l∈b.winds,l.length≤40)(plan:List (List Int))(t:List Int):AY Tryz.prog kn (AE Tryz.prog ann kn (n+2200)) 66 [.agg (AA b),HB plan,li t]=some (.tup [sl ((sX b plan t).1.map BO),i (sX b plan t).2]):=by
 rw[AP rfl,AO Tryz.func66 b66 rfl (by simp[AA,AH,AN,AG])]
 have q1:=fun n=>ZW n b h40
 unfold sX
 by_cases h:CD b=0
 ·have hb:=NG h
  have q2:=fun n=>sV n b hb plan
  have q3:=fun n=>wI n b hb t
  rw[if_neg (by simp[h])]
  rw[h]at q1
  by_cases h2:CV b plan=true
  ·by_cases h3:AV t b.winds=true
   ·have q4:=fun n=>A5G n b hb plan (dN h2) t h3
    rw[if_pos ⟨h2,h3⟩]
    rw[h2]at q2
    rw[h3]at q3
    simp only[AA]at q1 q2 q3 q4 ⊢
    simp[c66,AF,AH,AN,AG,q1,q2,q3,q4]
    simp[BO,B7]
   ·rw[if_neg (fun h=>h3 h.2)]
    have h3:AV t b.winds=false:=by simpa using h3
    rw[h2]at q2
    rw[h3]at q3
    simp only[AA]at q1 q2 q3 ⊢
    simp[c66,AF,AH,AN,AG,q1,q2,q3]
    try rfl
  ·rw[if_neg (fun h=>h2 h.1)]
   have h2:CV b plan=false:=by simpa using h2
   rw[h2]at q2
   simp only[AA]at q1 q2 ⊢
   simp[c66,AF,AH,AN,AG,q1,q2]
   try rfl
 ·rw[if_pos h]
  simp only[AA]at q1 ⊢
  simp[c66,AF,AH,AN,AG,q1,h]
  try rfl
end Go.Proofs.Tryz.Op
open Go Go.Pg Go.Proofs Go.Wind
namespace Go.Proofs.Tryz.Op
set_option maxRecDepth 100000
set_option linter.unusedSimpArgs false
theorem AIG{j k m:Nat}(h1:j≠m)(h2:k≠m)(γ:Nat)(T:TypeId)(es:List (List V))(x:Nat×AX):(pl j γ T es++[(k,x)]).get m=none:=by
 cases es <;> simp[h1.symm,h2.symm]
theorem A5H{k:Nat}{x:Int×Int}(h:k≤10000):B4 Tryz.prog 86 k [[i x.1,i x.2]]=true:=by
 rw[CO (by simp) (by simp)]
 simp[maxLen]; omega
theorem BDY{k:Nat}{x:Int×Int}(h:k≤10000):B4 Tryz.prog 99 k [[i x.1,i x.2]]=true:=by
 rw[CO (by simp) (by simp)]
 simp[maxLen]; omega
def fF(b:AJ)(x y:V):AX:=.box [i b.last,i b.rows,i b.places,i b.reach,li b.face,li b.sun,HB b.winds,x,y]
theorem sY(b:AJ)(Z:AX)(hl:b.breaks.length≤100):∀(d k c γ:Nat) (acc:List (Int×Int)),k+d=b.breaks.length→acc.length≤k→2<c→∃c' γ',2<c'∧∀n m,d<m→A9 (AE Tryz.prog ann kn (n+400) 68) WP (ann 68 (BN WP)) m ⟨c,[(1,true,.ptr 0 1 0 0),(2,true,.ptr 0 2 1 0),(3,true,.ptr 0 3 2 0),(4,true,i k)],⟨[],(1,0,.box (AA b)) :: (2,1,Z) :: (3,2,fF b (pv 40 γ (acc.map AG)) .nil) :: pl 40 γ 86 (acc.map AG)⟩⟩ =
  some (.exit 0,⟨c',[(28,true,.bool false),(27,true,i b.breaks.length),(26,true,.list false (b.breaks.map AG)),(25,true,.ptr 0 1 0 7),(24,true,i b.breaks.length),(1,true,.ptr 0 1 0 0),(2,true,.ptr 0 2 1 0),(3,true,.ptr 0 3 2 0),(4,true,i b.breaks.length)],⟨[],(1,0,.box (AA b)) :: (2,1,Z) :: (3,2,fF b (pv 40 γ' ((acc++b.breaks.drop k).map AG)) .nil) :: pl 40 γ' 86 ((acc++b.breaks.drop k).map AG)⟩⟩)
 | 0,k,c,γ,acc,hk,ha,hc=>by
  have:k=b.breaks.length:=by omega
  subst this
  refine⟨c,γ,hc,fun n m hm=>?_⟩
  obtain⟨m,rfl⟩:∃m',m=m'+1:=⟨m-1,by omega⟩
  rw[List.drop_length,List.append_nil,AC]
  simp[AA,fF]
 | d+1,k,c,γ,acc,hk,ha,hc=>by
  have hk':k<b.breaks.length:=by omega
  have hw:=BH (k:=k) (by omega)
  have q:=fun n=>ADA n b.breaks[k]
  have happ:=A5H (k:=acc.length) (x:=b.breaks[k]) (by omega)
  obtain⟨c',γ',h1,ih⟩:=sY b Z hl d (k+1) (c+1) c (acc++[b.breaks[k]]) (by omega) (by simp; omega) (by omega)
  have hgo:acc++b.breaks.drop k=acc++[b.breaks[k]]++b.breaks.drop (k+1):=by
   rw[List.drop_eq_getElem_cons hk']; simp
  rw[← hgo]at ih
  refine⟨c',γ',h1,fun n m hm=>?_⟩
  obtain⟨m,rfl⟩:∃m',m=m'+1:=⟨m-1,by omega⟩
  have ih:=ih n m (by omega)
  have hc2:2<c+1:=by omega
  generalize acc++b.breaks.drop k=fin at ih ⊢
  rw[AC]
  simp only[AA,fF]at ih ⊢
  simp[AG]at ih q
  simp[hk',hw,AG,q,happ,EZ,HD,UW,hc2,ih]
theorem sZ(b:AJ)(Z:AX)(hl:b.notes.length≤100)(γ0:Nat)(A:List (List V)):∀(d k c γ:Nat) (acc:List (Int×Int)),k+d=b.notes.length→acc.length≤k→2<c→∃c' γ',2<c'∧∀n m,d<m→A9 (AE Tryz.prog ann kn (n+400) 68) WQ (ann 68 (BN WQ)) m ⟨c,[(1,true,.ptr 0 1 0 0),(2,true,.ptr 0 2 1 0),(3,true,.ptr 0 3 2 0),(5,true,i k)],⟨[],(1,0,.box (AA b)) :: (2,1,Z) :: (3,2,fF b (pv 40 γ0 A) (pv 65 γ (acc.map AG))) :: (pl 40 γ0 86 A++pl 65 γ 99 (acc.map AG))⟩⟩ =
  some (.exit 2,⟨c',[(46,true,.bool false),(45,true,i b.notes.length),(44,true,.list false (b.notes.map AG)),(43,true,.ptr 0 1 0 8),(42,true,i b.notes.length),(1,true,.ptr 0 1 0 0),(2,true,.ptr 0 2 1 0),(3,true,.ptr 0 3 2 0),(5,true,i b.notes.length)],⟨[],(1,0,.box (AA b)) :: (2,1,Z) :: (3,2,fF b (pv 40 γ0 A) (pv 65 γ' ((acc++b.notes.drop k).map AG))) :: (pl 40 γ0 86 A++pl 65 γ' 99 ((acc++b.notes.drop k).map AG))⟩⟩)
 | 0,k,c,γ,acc,hk,ha,hc=>by
  have:k=b.notes.length:=by omega
  subst this
  refine⟨c,γ,hc,fun n m hm=>?_⟩
  obtain⟨m,rfl⟩:∃m',m=m'+1:=⟨m-1,by omega⟩
  rw[List.drop_length,List.append_nil,AC]
  simp[AA,fF,OA,OB,OC,IZ,I0,KC]
 | d+1,k,c,γ,acc,hk,ha,hc=>by
  have hk':k<b.notes.length:=by omega
  have hw:=BH (k:=k) (by omega)
  have happ:=BDY (k:=acc.length) (x:=b.notes[k]) (by omega)
  obtain⟨c',γ',h1,ih⟩:=sZ b Z hl γ0 A d (k+1) (c+1) c (acc++[b.notes[k]]) (by omega) (by simp; omega) (by omega)
  have hgo:acc++b.notes.drop k=acc++[b.notes[k]]++b.notes.drop (k+1):=by
   rw[List.drop_eq_getElem_cons hk']; simp
  rw[← hgo]at ih
  refine⟨c',γ',h1,fun n m hm=>?_⟩
  obtain⟨m,rfl⟩:∃m',m=m'+1:=⟨m-1,by omega⟩
  have ih:=ih n m (by omega)
  have hc2:2<c+1:=by omega
  generalize acc++b.notes.drop k=fin at ih ⊢
  rw[AC]
  simp only[AA,fF]at ih ⊢
  simp[AG]at ih
  simp[hk',hw,AG,happ,EZ,HD,UW,hc2,OA,OB,OC,IZ,I0,KC,rY,ACE,AIG,ih]
theorem cV{f:Nat}{l:List (List V)}(h:AL f (.list false l)=true)(hf:f≠0):AL f (sl l)=true:=by
 cases l with
 | nil =>
  cases f with
  | zero=>exact absurd rfl hf
  | succ f=>rfl
 | cons e es=>exact h
theorem ARM(n:Nat)(b:AJ)(hf:b.face.length≤100)(hs:b.sun.length≤100)(hw:b.winds.length≤100)(h1:∀l∈b.winds,l.length≤100)(hb:b.breaks.length≤100)(hn:b.notes.length≤100):AY Tryz.prog kn (AE Tryz.prog ann kn (n+600)) 68 [.agg (AA b)]=some (.agg (G8 b)):=by
 rw[AP rfl,AO Tryz.func68 b68 rfl (by simp[AA,AH,AN,AG])]
 have q1:=fun n=>AC8 n b.face hf
 have q2:=fun n=>AC8 n b.sun hs
 have q3:=fun n=>ARC n b.winds hw h1
 obtain⟨c1,γ1,g1,r1⟩:=sY b (.box [i 0,i 0,i 0,i 0,.nil,.nil,.nil,.nil,.nil]) hb b.breaks.length 0 3 0 [] (by omega) (by simp) (by omega)
 have r1:=fun n m=>r1 n (m+200) (by omega)
 rw[List.drop_zero,List.nil_append]at r1
 obtain⟨c2,γ2,g2,r2⟩:=sZ b (.box [i 0,i 0,i 0,i 0,.nil,.nil,.nil,.nil,.nil]) hn γ1 (b.breaks.map AG) b.notes.length 0 c1 0 [] (by omega) (by simp) (by omega)
 have r2:=fun n m=>r2 n (m+200) (by omega)
 rw[List.drop_zero,List.nil_append]at r2
 simp only[AA,G8,fF]at r1 r2 ⊢
 simp at r1 r2
 have g3:1<c2:=by omega
 simp[c68,AF,AH,AN,q1,q2,q3,r1,r2,UW,g3,OA,OB,OC,IZ,I0,KC]
 rw[O5 (T:=86) 2 _ 40 γ1 _ (by simp[I0]),O5 (T:=99) 2 _ 65 γ2 _ (by simp[IZ])]
 have hcl:∀l:List (Int×Int),AL 8 (sl (l.map AG))=true:=fun l=>cV (by simp[AG]) (by decide)
 simp[AH,AN,hcl]
def A8V(b:AJ)(A:List (List GD)):Bool:=(A.all fun l=>decide ((l.length:Int)=b.places))&&decide ((A.length:Int)=b.rows)
end Go.Proofs.Tryz.Op
