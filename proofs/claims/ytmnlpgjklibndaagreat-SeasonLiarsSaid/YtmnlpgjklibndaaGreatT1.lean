/- Contracts: Nth, Truths of the reference, and sure. No condition. -/
import Derived.Test.YtmnlpgjklibndaaGreatZ2
import Derived.Test.YtmnlpgjklibndaaGreatW3
open Go.Proofs.Tryz renaming prog->bt
open List renaming all_eq_true->bj,getD_eq_getElem?_getD->bw,nil_append->bx,getElem?_eq_getElem->bz,drop_eq_getElem_cons->bf,exists_mem_of_ne_nil->bg,ne_nil_of_mem->bn,map_cons->br
open Bool renaming true_and->bq,and_eq_true->bc,false_eq_true->bp
set_option maxRecDepth 100000
set_option linter.unusedSimpArgs false
open Go Go.Pg Go.Proofs
namespace Go.Proofs.Tryz.Op
def CO:AE:=⟨0,0,0⟩
def HK(C:Int)(n:Nat):List AE->List AE
 |[]=>[]
 |l::r=>(A4 C l).getD (n % (A4 C l).length) CO::HK C (n / (A4 C l).length) r
theorem l51(b:AY)(h1:1<=b.chairs)(h4:b.chairs<=4)(hl:b.lines.length<=100)(hpos:∀l∈b.lines,0<(A4 b.chairs l).length):∀(d k:Nat) (v:Nat) (out:List AE) (c γ:Nat),k+d=b.lines.length->v<=5000->out.length<=k->γ<c ->
  ∃c' γ' v':Nat,γ'<c'/\∀n m,d<m->BS (AG bt ann kn (n+250) 37) VE (some ([1,2,5,6],[2,21,31])) m ⟨c,[(1,true,i v),(2,true,.ptr 0 2 0 0),(5,true,pv 31 γ (out.map AB)),(6,true,i k)],⟨[],(2,0,.box (AC b))::pl 31 γ 133 (out.map AB)⟩⟩ =
   some (.exit 0,⟨c',[(12,true,.bool false),(11,true,i b.lines.length),(10,true,.list false (b.lines.map AB)),(9,true,.ptr 0 2 0 3),(8,true,i b.lines.length),(1,true,i v'),(2,true,.ptr 0 2 0 0),(5,true,pv 31 γ' ((out++HK b.chairs v (b.lines.drop k)).map AB)),(6,true,i b.lines.length)],⟨[],(2,0,.box (AC b))::pl 31 γ' 133 ((out++HK b.chairs v (b.lines.drop k)).map AB)⟩⟩)
 |0,k,v,out,c,γ,hd,hv,ho,hg=>by
  have:k=b.lines.length:=by omega
  subst this;refine⟨c,γ,v,hg,fun n m hm=>?_⟩;obtain⟨m,rfl⟩:=qNz m (by omega);simp[AD,AC,HK]
 |d+1,k,v,out,c,γ,hd,hv,ho,hg=>by
  have hk:k<b.lines.length:=by omega
  have hr:=MG b.chairs b.lines[k] h4;have hp:=hpos b.lines[k] (List.getElem_mem hk);have hw:IntKind.i64.wrap ((k:Int)+1)=(k:Int)+1:=AV (by omega) (by omega);have hq:=fun n=>k83 n b b.lines[k] h1 h4;have hnth:HK b.chairs v (b.lines.drop k)=(A4 b.chairs b.lines[k]).getD (v % (A4 b.chairs b.lines[k]).length) CO::HK b.chairs (v / (A4 b.chairs b.lines[k]).length) (b.lines.drop (k+1)):=by rw[bf hk];rfl
  rw[hnth];generalize hR:A4 b.chairs b.lines[k]=R at hr hp hq;have hj:v % R.length<R.length:=Nat.mod_lt _ hp;have hdv:v / R.length<=5000:=Nat.le_trans (Nat.div_le_self _ _) hv;obtain⟨c',γ',v',i1,ih⟩:=l51 b h1 h4 hl hpos d (k+1) (v / R.length) (out++[R.getD (v % R.length) CO]) (c+1) c (by omega) hdv (by simp;omega) (by omega);refine⟨c',γ',v',i1,fun n m hm=>?_⟩;obtain⟨m,rfl⟩:=qNz m (by omega);have ih:=ih n m (by omega);have e1:(v:Int).tmod (R.length:Int)=((v % R.length:Nat):Int):=(Int.ofNat_tmod _ _).symm;have e2:(v:Int).tdiv (R.length:Int)=((v / R.length:Nat):Int):=(Int.ofNat_tdiv _ _).symm;have hgd:R.getD (v % R.length) CO=R[v % R.length]:=by simp[bw,hj]
  rw[hgd]at ih|-;have hne:¬R=[]:=by intro h;rw[h]at hp;simp at hp
  generalize v % R.length=j at hj e1 ih|-;generalize v / R.length=u at hdv e2 ih|-;have hw2:IntKind.i64.wrap (u:Int)=(u:Int):=AV (by omega) (by omega);have ho':CH bt 133 out.length [[i R[j].k,i R[j].c,i R[j].t]]=true:=by rw[DL (by simp) (by simp)];simp[maxLen];omega
  have hjI:(j:Int)<(R.length:Int):=by omega
  rw[AD];simp only[List.map_append,br,List.map_nil,J4,AB,List.append_assoc,List.cons_append,bx,AC]at ih hq|-;try simp at ih
  simp[hk,hw,AB,AM,hq,e1,e2,hj,hjI,hne,hw2,ho',ih];done
theorem bZ(C:Int):∀(ls:List AE) (n:Nat),(HK C n ls).length=ls.length
 |[],_=>rfl
 |l::r,n=>by simp[HK,bZ C r]
def A4D:Bool:=[1,2,3,4].all fun C:Int=>[0,1,2].all fun k:Int=>[-1,0,1,2,3].all fun c:Int=>[-1,0,1,2,3].all fun t:Int=>
 !(CA C ⟨k,c,t⟩)||decide (0<(A4 C ⟨k,c,t⟩).length)
theorem pU:A4D=true:=by decide +kernel
theorem G8{C:Int}(h1:1<=C)(h4:C<=4){l:AE}(h:CA C l=true):0<(A4 C l).length:=by obtain⟨k,c,t⟩:=l;obtain⟨v1,v2,v3⟩:=KZ h;simp only at v1 v2 v3;have q:=bj.1 (bj.1 (bj.1 (bj.1 pU C (ARV h1 h4)) k (ARW v1.1 v1.2)) c (xJ v2.1 (by omega))) t (xJ v3.1 (by omega));rw[h]at q;simpa using q
theorem k51(n:Nat)(b:AY)(hf:DH b=0)(v:Nat)(hv:v<=5000):A5 bt kn (AG bt ann kn (n+400)) 122 [.agg (AC b),i v]=some (sl ((HK b.chairs v b.lines).map AB)):=by
 obtain⟨h1,h4,hl8,hc4,hc1,hc2,hx1,hx2,hok,hcok,_⟩:=IP hf;rw[AQ rfl,AR Tryz.func122 A9H rfl (by simp[AB,AC,AM])];obtain⟨c',γ',v',i1,ih⟩:=l51 b h1 h4 (by omega) (fun l hl=>G8 h1 h4 (bj.1 hok l hl)) b.lines.length 0 v [] 1 0 (by omega) hv (by simp) (by omega);have ih:=ih (n+144) (n+394) (by omega);simp only[AC,List.map_nil,bx,List.drop_zero,fB,NW]at ih|-;try simp at ih
 simp[AY7,AH,AB,AM,ih];done
def fE(b:AY)(t:List AE):Bool:=I4 t&&b.counts.all (MJ b t)
def fF(b:AY)(v d:Nat):List (List AE):=((List.range' v d).map fun n=>HK b.chairs n b.lines).filter (fE b)
def R0(b:AY):List (List AE):=fF b 0 (C4 b.chairs 1 b.lines).toNat
theorem tG(C:Int):∀(ls:List AE) (n:Int),0<=n->0<=C4 C n ls
 |[],n,h=>h
 |l::r,n,h=>by
  have:=tG C r (JK (n*(A4 C l).length)) (by
   have:0<=n*((A4 C l).length:Int):=Int.mul_nonneg h (by omega);unfold JK; split <;> omega)
  simpa [C4]using this
def tri(l:AE):Int×Int×Int:=(l.k,l.c,l.t)
theorem tH:∀{x y:List AE},x.map tri=y.map tri->x=y
 |[],[],_=>rfl
 |[],_::_,h=>by simp at h
 |_::_,[],h=>by simp at h
 |a::x,b::y,h=>by simp only[br,List.cons.injEq]at h;obtain⟨h1,h2⟩:=h;obtain⟨a1,a2,a3⟩:=a;obtain⟨b1,b2,b3⟩:=b;simp only[tri,Prod.mk.injEq]at h1;obtain⟨rfl,rfl,rfl⟩:=h1;rw[tH h2]
def BCG:Bool:=[1,2,3,4].all fun C:Int=>[0,1,2].all fun k:Int=>[-1,0,1,2,3].all fun c:Int=>[-1,0,1,2,3].all fun t:Int=>
 !(CA C ⟨k,c,t⟩)||((A4 C ⟨k,c,t⟩).map tri==(readingsP C ⟨k,c,t⟩).map tri)
theorem xD:BCG=true:=by decide +kernel
theorem UD{C:Int}(h1:1<=C)(h4:C<=4){l:AE}(h:CA C l=true):A4 C l=readingsP C l:=by obtain⟨k,c,t⟩:=l;obtain⟨v1,v2,v3⟩:=KZ h;simp only at v1 v2 v3;have q:=bj.1 (bj.1 (bj.1 (bj.1 xD C (ARV h1 h4)) k (ARW v1.1 v1.2)) c (xJ v2.1 (by omega))) t (xJ v3.1 (by omega));rw[h]at q;exact tH (by simpa using q)
theorem NX{C:Int}{l x:AE}:G9 C l x=true↔x∈readingsP C l:=by
 unfold G9;rw[List.any_eq_true];constructor
 ·rintro ⟨y,hy,he⟩;rw[VV]at he;rw[he];exact hy
 ·intro hx;exact⟨x,hx,VV.2 rfl⟩
def Rd(C:Int):List AE->List AE->Prop
 |[],[]=>True
 |l::ls,x::xs=>x∈readingsP C l/\Rd C ls xs
 |_,_=>False
theorem AD1{C:Int}(h1:1<=C):∀{ls xs:List AE},(∀l∈ls,CA C l=true)->((xs.length=ls.length/\MI C ls xs=true)↔Rd C ls xs)
 |[],[],_=>by simp[Rd,MI]
 |[],_::_,_=>by simp[Rd]
 |_::_,[],_=>by simp[Rd]
 |l::ls,x::xs,h=>by have ih:=AD1 h1 (ls:=ls) (xs:=xs) fun y hy=>h y (by simp[hy]);have ha:=cC h1 (h l (by simp)) x;simp only[Rd,MI,List.length_cons,Nat.add_right_cancel_iff,bc,<-ha,NX,<-ih];exact⟨fun ⟨a,b,c⟩=>⟨b,a,c⟩,fun ⟨a,b,c⟩=>⟨b,a,c⟩⟩
theorem YJ{b:AY}(h1:1<=b.chairs)(hok:b.lines.all (CA b.chairs)=true){t:List AE}:J5 b t=true↔Rd b.chairs b.lines t:=by rw[<-AD1 h1 (fun l hl=>bj.1 hok l hl)];simp[J5]
def PN(C:Int):List AE->Nat
 |[]=>1
 |l::r=>(A4 C l).length*PN C r
theorem lO{C:Int}(h1:1<=C)(h4:C<=4):∀{ls xs:List AE},(∀l∈ls,CA C l=true)->Rd C ls xs->∃n,n<PN C ls/\HK C n ls=xs
 |[],[],_,_=>⟨0,by simp[PN],rfl⟩
 |[],_::_,_,h=>by cases h
 |_::_,[],_,h=>by cases h
 |l::ls,x::xs,hl,h=>by
  obtain⟨m,hm,e⟩:=lO h1 h4 (ls:=ls) (xs:=xs) (fun y hy=>hl y (by simp[hy])) h.2;have hr:=UD h1 h4 (hl l (by simp));obtain⟨j,hj,e2⟩:=List.getElem_of_mem h.1;rw[<-hr]at hj;have hp:0<(A4 C l).length:=by omega
  refine⟨j+(A4 C l).length*m,?_,?_⟩
  ·simp only[PN];calc j+(A4 C l).length*m<(A4 C l).length+(A4 C l).length*m:=by omega
    _=(A4 C l).length*(m+1):=by rw[Nat.mul_succ];omega
    _<=_:=Nat.mul_le_mul_left _ hm
  ·simp only[HK];rw[Nat.add_mul_mod_self_left,Nat.mod_eq_of_lt hj,Nat.add_mul_div_left _ _ hp,Nat.div_eq_of_lt hj,Nat.zero_add,e];congr 1;rw[bw,bz hj];simp only[Option.getD_some];rw[<-e2];congr 1
theorem AD2{C:Int}(h1:1<=C)(h4:C<=4):∀{ls:List AE} (n:Nat),(∀l∈ls,CA C l=true)->Rd C ls (HK C n ls)
 |[],n,_=>trivial
 |l::ls,n,h=>by refine⟨?_,AD2 h1 h4 _ fun y hy=>h y (by simp[hy])⟩;have hr:=UD h1 h4 (h l (by simp));have hp:=G8 h1 h4 (h l (by simp));have hj:n % (A4 C l).length<(A4 C l).length:=Nat.mod_lt _ hp;rw[<-hr,bw,bz hj];exact List.getElem_mem hj
theorem lP{C:Int}(h1:1<=C)(h4:C<=4):∀{ls:List AE},(∀l∈ls,CA C l=true)->1<=PN C ls
 |[],_=>by simp[PN]
 |l::ls,h=>by have i1:=lP h1 h4 (ls:=ls) fun y hy=>h y (by simp[hy]);have i2:=G8 h1 h4 (h l (by simp));exact Nat.mul_pos i2 i1
theorem cA{C:Int}(h1:1<=C)(h4:C<=4):∀{ls:List AE} (v:Nat),(∀l∈ls,CA C l=true)->1<=v->C4 C v ls<=4096->C4 C v ls=((v*PN C ls:Nat):Int)
 |[],v,_,_,_=>by simp[C4,PN]
 |l::ls,v,h,hv,hm=>by
  have i2:=G8 h1 h4 (h l (by simp));have hls:=fun y hy=>h y (List.mem_cons_of_mem l hy);have hpp:=lP h1 h4 hls;simp only[C4,List.foldl_cons]at hm|-;by_cases hc:v*(A4 C l).length<5000
  ·have e:JK ((v:Int)*((A4 C l).length:Int))=((v*(A4 C l).length:Nat):Int):=by unfold JK;rw[if_pos (by exact_mod_cast hc)];simp
   rw[e]at hm|-;have:=cA h1 h4 (ls:=ls) (v*(A4 C l).length) hls (Nat.mul_pos hv i2) hm;simp only[C4]at this;rw[this,PN,Nat.mul_assoc]
  ·exfalso;have e:JK ((v:Int)*((A4 C l).length:Int))=5000:=by unfold JK;rw[if_neg];intro hh;exact hc (by exact_mod_cast hh)
   rw[e]at hm;have key:∀(ls:List AE),(∀l∈ls,CA C l=true)->ls.foldl (fun n l=>JK (n*((A4 C l).length:Int))) 5000=5000:=by
    intro ls;induction ls with
    |nil=>intro _;rfl
    |cons a r ih=>
     intro hh
     have:=G8 h1 h4 (hh a (by simp))
     simp only[List.foldl_cons]
     have:JK (5000*((A4 C a).length:Int))=5000:=by unfold JK;split<;>omega
     rw[this]
     exact ih fun y hy=>hh y (by simp[hy])
   rw[key ls hls]at hm;omega
theorem UE{b:AY}(hf:DH b=0){t:List AE}:t∈R0 b↔PQ b t=true:=by
 obtain⟨h1,h4,hl8,hc4,hc1,hc2,hx1,hx2,hok,hcok,hm⟩:=IP hf;have hls:=fun l hl=>bj.1 hok l hl;have hN:=cA h1 h4 1 hls (Nat.le_refl _) hm;simp only[Nat.one_mul]at hN;have hN':C4 b.chairs 1 b.lines=((PN b.chairs b.lines:Nat):Int):=hN;unfold R0 fF PQ fE;rw[hN',Int.toNat_natCast];simp only[List.mem_filter,List.mem_map,List.mem_range'_1,bc,YJ h1 hok];constructor
 ·rintro ⟨⟨n,_,rfl⟩,h⟩;exact⟨AD2 h1 h4 n hls,h⟩
 ·rintro ⟨h,h'⟩;obtain⟨n,hn,e⟩:=lO h1 h4 hls h;exact⟨⟨n,⟨by omega,by omega⟩,e⟩,h'⟩
theorem fG(b:AY):∀(L:List AW) (k:Nat) (v:Bool),N4 b k v L=(v&&N4 b k true L)
 |[],k,v=>by simp[N4]
 |s::L,k,v=>by simp only[N4,bq];rw[fG b L (k+1) (v&&b.counts.all (countOne s.money k)),fG b L (k+1) (b.counts.all (countOne s.money k)),Bool.and_assoc]
theorem fH(b:AY):∀(d k:Nat) (s:AW) (ls:List AE) (ss:List AW) (p:List AE×List AW),k+d=b.lines.length ->
  (p∈TN b d k s ls ss↔∃r u,p=(ls++r,ss++u)/\r.length=d/\C7 b k s (b.lines.drop k) r=some u/\N4 b k true (s::u)=true)
 |0,k,s,ls,ss,p,hd=>by
  have e:b.lines.drop k=[]:=List.drop_eq_nil_of_le (by omega);simp only[TN,e];constructor
  ·intro h;split at h
   ·rename_i hc;simp only[List.mem_singleton]at h;exact⟨[],[],by simp[h],rfl,rfl,by simpa [N4]using hc⟩
   ·simp at h
  ·rintro ⟨r,u,rfl,hr,hs,hc⟩;have:r=[]:=List.eq_nil_of_length_eq_zero hr;subst this;have:u=[]:=by simpa [C7]using hs.symm
   subst this;rw[if_pos (by simpa [N4]using hc)];simp
 |d+1,k,s,ls,ss,p,hd=>by
  have hk:k<b.lines.length:=by omega
  simp only[TN,bz hk,bf hk];constructor
  ·intro h;split at h
   ·rename_i hc;simp only[List.mem_flatMap]at h;obtain⟨x,hx,h⟩:=h;split at h
    ·rename_i hn;obtain⟨r,u,rfl,hr,hs,hcs⟩:=(fH b d (k+1) _ _ _ p (by omega)).1 h;refine⟨x::r,(BX b.coin s k x).1::u,by simp,by simp[hr],?_,?_⟩
     ·simp only[C7,if_pos (NX.2 hx),if_pos hn,hs];rfl
     ·rw[N4,fG,hcs,bq,hc];rfl
    ·simp at h
   ·simp at h
  ·rintro ⟨r,u,rfl,hr,hs,hc⟩;rw[N4,fG,bq,bc]at hc;rw[if_pos hc.1];cases r with
   |nil=>simp at hr
   |cons x r=>
    simp only[C7]at hs
    split at hs
    ·rename_i ha;split at hs
     ·rename_i hn;rw[Option.map_eq_some_iff]at hs;obtain⟨u',hs,rfl⟩:=hs;refine List.mem_flatMap.2 ⟨x,NX.1 ha,?_⟩;rw[if_pos hn];exact(fH b d (k+1) _ _ _ _ (by omega)).2 ⟨r,u',by simp,by simpa using hr,hs,hc.2⟩
     ·cases hs
    ·cases hs
theorem lQ{b:AY}{t:List AE}{L:List AW}:(t,L)∈F2 b↔FG b t=some L/\N4 b 0 true L=true:=by
 unfold F2;rw[fH b _ _ _ _ _ _ (by omega)];unfold FG;constructor
 ·rintro ⟨r,u,e,hr,hs,hc⟩;simp only[bx,List.singleton_append,Prod.mk.injEq]at e;obtain⟨rfl,rfl⟩:=e;simp only[List.drop_zero]at hs;rw[if_pos hr,hs];exact⟨rfl,hc⟩
 ·rintro ⟨hs,hc⟩;split at hs
  ·rename_i hr;rw[Option.map_eq_some_iff]at hs;obtain⟨u,hs,rfl⟩:=hs;exact⟨t,u,by simp,hr,by simpa using hs,hc⟩
  ·cases hs
theorem KW{b:AY}(hf:DH b=0){t:List AE}:PQ b t=true↔∃L,(t,L)∈F2 b:=by
 have h:=lZ b t;rw[hf]at h;simp only[decide_true,bq]at h;rw[<-h];unfold FN;rw[N5,hf];simp only[decide_true,bq,lQ];cases FG b t with
 |none=>simp
 |some L=>simp
theorem YK(b:AY):∀(d k:Nat) (s:AW) (ls:List AE) (ss:List AW),endsP b d k s=true↔TN b d k s ls ss≠[]
 |0,k,s,ls,ss=>by simp only[endsP,TN];split<;>simp_all
 |d+1,k,s,ls,ss=>by
  simp only[endsP,TN];cases hc:b.counts.all (countOne s.money k)with
  |false=>simp
  |true=>
   simp only[bq,if_true]
   cases b.lines[k]? with
   |none=>simp
   |some l=>
    simp only[List.any_eq_true,bc,ne_eq,List.flatMap_eq_nil_iff]
    constructor
    ·rintro ⟨x,hx,hn,he⟩ hh;have:=hh x hx;rw[if_pos hn]at this;exact(YK b d (k+1) _ _ _).1 he this
    ·intro hh;rw[Classical.not_forall]at hh;obtain⟨x,hh⟩:=hh;rw[Classical.not_imp]at hh;obtain⟨hx,hh⟩:=hh;split at hh
     ·rename_i hn;exact⟨x,hx,hn,(YK b d (k+1) _ _ _).2 hh⟩
     ·exact absurd rfl hh
theorem YL(b:AY):N7 b=true↔F2 b≠[]:=YK b _ _ _ _ _
theorem AD3{b:AY}(hf:DH b=0):N7 b=true↔R0 b≠[]:=by
 rw[YL];constructor
 ·intro h;obtain⟨⟨t,L⟩,hp⟩:=bg _ h;exact bn ((UE hf).2 ((KW hf).2 ⟨L,hp⟩))
 ·intro h;obtain⟨t,ht⟩:=bg _ h;obtain⟨L,hL⟩:=(KW hf).1 ((UE hf).1 ht);exact bn hL
theorem l88(b:AY)(hf:DH b=0)(N:Nat)(hN:C4 b.chairs 1 b.lines=N)(hN2:N<=4096)(c:Nat):∀(d v:Nat),v+d=N->∀n m,d<m ->
  BS (AG bt ann kn (n+500) 21) VF (some ([1,3],[1,13])) m ⟨c,[(1,true,.ptr 0 1 0 0),(3,true,i v)],⟨[],[(1,0,.box (AC b))]⟩⟩ =
   if fF b v d=[] then some (.exit 0,⟨c,[(8,true,.bool false),(7,true,i N),(6,true,.agg (AC b)),(5,true,i N),(1,true,.ptr 0 1 0 0),(3,true,i N)],⟨[],[(1,0,.box (AC b))]⟩⟩)
   else some (.ret,⟨c,[(2,true,.bool true)],⟨[],[]⟩⟩)
 |0,v,hd,n,m,hm=>by
  obtain⟨h1,h4,hl8,hc4,hc1,hc2,hx1,hx2,hok,hcok,_⟩:=IP hf;have:v=N:=by omega
  subst this;have hq:=fun n=>k52 n b h1 h4 (by omega);rw[hN]at hq;obtain⟨m,rfl⟩:=qNz m (by omega);rw[if_pos (show fF b v 0=[] from rfl)];simp only[AC]at hq|-;simp[AD,hq,AB,AM];done
 |d+1,v,hd,n,m,hm=>by
  obtain⟨h1,h4,hl8,hc4,hc1,hc2,hx1,hx2,hok,hcok,_⟩:=IP hf;have hw:IntKind.i64.wrap ((v:Int)+1)=(v:Int)+1:=AV (by omega) (by omega);have hq:=fun n=>k52 n b h1 h4 (by omega);have q51:=fun n=>k51 n b hf v (by omega);have hlen:=bZ b.chairs b.lines v;have q58:=fun n=>k58 n (HK b.chairs v b.lines) (by omega);have q89:=fun n=>k89 n b hc1 hc2 hx1 hx2 (HK b.chairs v b.lines) (by omega) (fun x hx=>by
   have:=bj.1 hcok x hx;simp only[FF,EL,bc,decide_eq_true_eq]at this;rw[hlen]; exact this.1) hc4
  rw[hN]at hq;have hvN:v<N:=by omega
  have htr:fF b v (d+1)=(if fE b (HK b.chairs v b.lines)=true then[HK b.chairs v b.lines] else[])++fF b (v+1) d:=by simp only[fF,List.range'_succ,br,List.filter_cons];split<;>rfl
  have ih:=l88 b hf N hN hN2 c d (v+1) (by omega) n (m-1) (by omega);obtain⟨m,rfl⟩:=qNz m (by omega);rw[Nat.add_sub_cancel]at ih;rw[htr];unfold fE;generalize fF b (v+1) d=R at ih|-;generalize ht:HK b.chairs v b.lines=t at hlen q51 q58 q89;generalize hp:I4 t=p at q58;generalize hc:b.counts.all (MJ b t)=cc at q89;rw[AD];cases p with
  |false=>
   simp only[AC,Bool.false_and,bp,if_false,bx]at hq q51 q89 ih|-
   try simp at ih
   simp[hq,AM,q51,q58,q89,hw,hvN,AB,ih]
   done
  |true=>
   cases cc with
   |false=>
    simp only[AC,bq,bp,if_false,bx]at hq q51 q89 ih|-
    try simp at ih
    simp[hq,AM,q51,q58,q89,hw,hvN,AB,ih]
    done
   |true=>
    simp only[AC,bq,if_true,List.cons_append,bx,reduceCtorEq,if_false]at hq q51 q89|-
    simp[hq,AM,q51,q58,q89,hw,hvN,AB]
    done
theorem k88(n:Nat)(b:AY)(hf:DH b=0):A5 bt kn (AG bt ann kn (n+5000)) 120 [.agg (AC b)]=some (.bool (N7 b)):=by
 obtain⟨h1,h4,hl8,hc4,hc1,hc2,hx1,hx2,hok,hcok,hm⟩:=IP hf;rw[AQ rfl,AR Tryz.func120 A9I rfl (by simp[AB,AC,AM])];have hN:=tG b.chairs b.lines 1 (by omega);have ih:=l88 b hf (C4 b.chairs 1 b.lines).toNat (by omega) (by omega) 1 (C4 b.chairs 1 b.lines).toNat 0 (by omega) (n+4495) (n+4995) (by omega);have hT:fF b 0 (C4 b.chairs 1 b.lines).toNat=R0 b:=rfl;rw[hT]at ih;by_cases hE:R0 b=[]
 ·have hp:N7 b=false:=by
   cases h:N7 b with
   |false=>rfl
   |true=>exact absurd hE ((AD3 hf).1 h)
  rw[if_pos hE]at ih;rw[hp];simp only[AC]at ih|-;try simp at ih
  simp[AM1,AH,AB,AM,ih];done
 ·rw[if_neg hE]at ih;rw[(AD3 hf).2 hE];simp only[AC]at ih|-;try simp at ih
  simp[AM1,AH,AB,AM,ih];done
end Go.Proofs.Tryz.Op
