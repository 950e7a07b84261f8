/- Contracts: Nth, Truths of the reference, and sure. No condition. -/
import Derived.Test.YtmnlpgjklibndaaGreatZ2
import Derived.Test.YtmnlpgjklibndaaGreatW3
open Go.Proofs.Tryz renaming prog->bt
open List renaming all_eq_true->bj,getD_eq_getElem?_getD->bw,nil_append->bx,getElem?_eq_getElem->bz,drop_eq_getElem_cons->bf,exists_mem_of_ne_nil->bg,ne_nil_of_mem->bn,map_cons->br
open Bool renaming true_and->bq,and_eq_true->bc,false_eq_true->bp
set_option maxRecDepth 100000
set_option linter.unusedSimpArgs false
open Go Go.Pg Go.Proofs
namespace Go.Proofs.Tryz.Op
def oZ:AK:=⟨0,0,0⟩
def GW(C:Int)(n:Nat):List AK->List AK
 |[]=>[]
 |l::r=>(AX C l).getD (n % (AX C l).length) oZ::GW C (n / (AX C l).length) r
theorem l51(b:A5)(h1:1<=b.chairs)(h4:b.chairs<=4)(hl:b.lines.length<=100)(hpos:∀l∈b.lines,0<(AX b.chairs l).length):∀(d k:Nat) (v:Nat) (out:List AK) (c γ:Nat),k+d=b.lines.length->v<=5000->out.length<=k->γ<c ->
  ∃c' γ' v':Nat,γ'<c'/\∀n m,d<m->BQ (AF bt ann kn (n+250) 37) TY (some ([1,2,5,6],[2,21,31])) m ⟨c,[(1,true,i v),(2,true,.ptr 0 2 0 0),(5,true,pv 31 γ (out.map AD)),(6,true,i k)],⟨[],(2,0,.box (AC b))::pl 31 γ 133 (out.map AD)⟩⟩ =
   some (.exit 0,⟨c',[(12,true,.bool false),(11,true,i b.lines.length),(10,true,.list false (b.lines.map AD)),(9,true,.ptr 0 2 0 3),(8,true,i b.lines.length),(1,true,i v'),(2,true,.ptr 0 2 0 0),(5,true,pv 31 γ' ((out++GW b.chairs v (b.lines.drop k)).map AD)),(6,true,i b.lines.length)],⟨[],(2,0,.box (AC b))::pl 31 γ' 133 ((out++GW b.chairs v (b.lines.drop k)).map AD)⟩⟩)
 |0,k,v,out,c,γ,hd,hv,ho,hg=>by
  have:k=b.lines.length:=by omega
  subst this;refine⟨c,γ,v,hg,fun n m hm=>?_⟩;obtain⟨m,rfl⟩:=qNz m (by omega);simp[AE,AC,GW]
 |d+1,k,v,out,c,γ,hd,hv,ho,hg=>by
  have hk:k<b.lines.length:=by omega
  have hr:=LC b.chairs b.lines[k] h4;have hp:=hpos b.lines[k] (List.getElem_mem hk);have hw:IntKind.i64.wrap ((k:Int)+1)=(k:Int)+1:=AW (by omega) (by omega);have hq:=fun n=>k83 n b b.lines[k] h1 h4;have hnth:GW b.chairs v (b.lines.drop k)=(AX b.chairs b.lines[k]).getD (v % (AX b.chairs b.lines[k]).length) oZ::GW b.chairs (v / (AX b.chairs b.lines[k]).length) (b.lines.drop (k+1)):=by rw[bf hk];rfl
  rw[hnth];generalize hR:AX b.chairs b.lines[k]=R at hr hp hq;have hj:v % R.length<R.length:=Nat.mod_lt _ hp;have hdv:v / R.length<=5000:=Nat.le_trans (Nat.div_le_self _ _) hv;obtain⟨c',γ',v',i1,ih⟩:=l51 b h1 h4 hl hpos d (k+1) (v / R.length) (out++[R.getD (v % R.length) oZ]) (c+1) c (by omega) hdv (by simp;omega) (by omega);refine⟨c',γ',v',i1,fun n m hm=>?_⟩;obtain⟨m,rfl⟩:=qNz m (by omega);have ih:=ih n m (by omega);have e1:(v:Int).tmod (R.length:Int)=((v % R.length:Nat):Int):=(Int.ofNat_tmod _ _).symm;have e2:(v:Int).tdiv (R.length:Int)=((v / R.length:Nat):Int):=(Int.ofNat_tdiv _ _).symm;have hgd:R.getD (v % R.length) oZ=R[v % R.length]:=by simp[bw,hj]
  rw[hgd]at ih|-;have hne:¬R=[]:=by intro h;rw[h]at hp;simp at hp
  generalize v % R.length=j at hj e1 ih|-;generalize v / R.length=u at hdv e2 ih|-;have hw2:IntKind.i64.wrap (u:Int)=(u:Int):=AW (by omega) (by omega);have ho':CL bt 133 out.length [[i R[j].k,i R[j].c,i R[j].t]]=true:=by rw[D5 (by simp) (by simp)];simp[maxLen];omega
  have hjI:(j:Int)<(R.length:Int):=by omega
  rw[AE];simp only[List.map_append,br,List.map_nil,H8,AD,List.append_assoc,List.cons_append,bx,AC]at ih hq|-;try simp at ih
  simp[hk,hw,AD,AN,hq,e1,e2,hj,hjI,hne,hw2,ho',ih];done
theorem ZL(C:Int):∀(ls:List AK) (n:Nat),(GW C n ls).length=ls.length
 |[],_=>rfl
 |l::r,n=>by simp[GW,ZL C r]
def AZG:Bool:=[1,2,3,4].all fun C:Int=>[0,1,2].all fun k:Int=>[-1,0,1,2,3].all fun c:Int=>[-1,0,1,2,3].all fun t:Int=>
 !(BZ C ⟨k,c,t⟩)||decide (0<(AX C ⟨k,c,t⟩).length)
theorem mK:AZG=true:=by decide +kernel
theorem GL{C:Int}(h1:1<=C)(h4:C<=4){l:AK}(h:BZ C l=true):0<(AX C l).length:=by obtain⟨k,c,t⟩:=l;obtain⟨v1,v2,v3⟩:=J9 h;simp only at v1 v2 v3;have q:=bj.1 (bj.1 (bj.1 (bj.1 mK C (ANL h1 h4)) k (ANM v1.1 v1.2)) c (tQ v2.1 (by omega))) t (tQ v3.1 (by omega));rw[h]at q;simpa using q
theorem k51(n:Nat)(b:A5)(hf:DL b=0)(v:Nat)(hv:v<=5000):A4 bt kn (AF bt ann kn (n+400)) 122 [.agg (AC b),i v]=some (sl ((GW b.chairs v b.lines).map AD)):=by
 obtain⟨h1,h4,hl8,hc4,hc1,hc2,hx1,hx2,hok,hcok,_⟩:=HX hf;rw[AP rfl,AQ Tryz.func122 A4H rfl (by simp[AD,AC,AN])];obtain⟨c',γ',v',i1,ih⟩:=l51 b h1 h4 (by omega) (fun l hl=>GL h1 h4 (bj.1 hok l hl)) b.lines.length 0 v [] 1 0 (by omega) hv (by simp) (by omega);have ih:=ih (n+144) (n+394) (by omega);simp only[AC,List.map_nil,bx,List.drop_zero,cD,cE]at ih|-;try simp at ih
 simp[AUC,AJ,AD,AN,ih];done
def cF(b:A5)(t:List AK):Bool:=HH t&&b.counts.all (LF b t)
def cG(b:A5)(v d:Nat):List (List AK):=((List.range' v d).map fun n=>GW b.chairs n b.lines).filter (cF b)
def QW(b:A5):List (List AK):=cG b 0 (CV b.chairs 1 b.lines).toNat
theorem pA(C:Int):∀(ls:List AK) (n:Int),0<=n->0<=CV C n ls
 |[],n,h=>h
 |l::r,n,h=>by
  have:=pA C r (I0 (n*(AX C l).length)) (by
   have:0<=n*((AX C l).length:Int):=Int.mul_nonneg h (by omega);unfold I0; split <;> omega)
  simpa [CV]using this
def tri(l:AK):Int×Int×Int:=(l.k,l.c,l.t)
theorem pB:∀{x y:List AK},x.map tri=y.map tri->x=y
 |[],[],_=>rfl
 |[],_::_,h=>by simp at h
 |_::_,[],h=>by simp at h
 |a::x,b::y,h=>by simp only[br,List.cons.injEq]at h;obtain⟨h1,h2⟩:=h;obtain⟨a1,a2,a3⟩:=a;obtain⟨b1,b2,b3⟩:=b;simp only[tri,Prod.mk.injEq]at h1;obtain⟨rfl,rfl,rfl⟩:=h1;rw[pB h2]
def A68:Bool:=[1,2,3,4].all fun C:Int=>[0,1,2].all fun k:Int=>[-1,0,1,2,3].all fun c:Int=>[-1,0,1,2,3].all fun t:Int=>
 !(BZ C ⟨k,c,t⟩)||((AX C ⟨k,c,t⟩).map tri==(readingsP C ⟨k,c,t⟩).map tri)
theorem tN:A68=true:=by decide +kernel
theorem S0{C:Int}(h1:1<=C)(h4:C<=4){l:AK}(h:BZ C l=true):AX C l=readingsP C l:=by obtain⟨k,c,t⟩:=l;obtain⟨v1,v2,v3⟩:=J9 h;simp only at v1 v2 v3;have q:=bj.1 (bj.1 (bj.1 (bj.1 tN C (ANL h1 h4)) k (ANM v1.1 v1.2)) c (tQ v2.1 (by omega))) t (tQ v3.1 (by omega));rw[h]at q;exact pB (by simpa using q)
theorem M0{C:Int}{l x:AK}:GM C l x=true↔x∈readingsP C l:=by
 unfold GM;rw[List.any_eq_true];constructor
 ·rintro ⟨y,hy,he⟩;rw[UH]at he;rw[he];exact hy
 ·intro hx;exact⟨x,hx,UH.2 rfl⟩
def Rd(C:Int):List AK->List AK->Prop
 |[],[]=>True
 |l::ls,x::xs=>x∈readingsP C l/\Rd C ls xs
 |_,_=>False
theorem AAV{C:Int}(h1:1<=C):∀{ls xs:List AK},(∀l∈ls,BZ C l=true)->((xs.length=ls.length/\HD C ls xs=true)↔Rd C ls xs)
 |[],[],_=>by simp[Rd,HD]
 |[],_::_,_=>by simp[Rd]
 |_::_,[],_=>by simp[Rd]
 |l::ls,x::xs,h=>by have ih:=AAV h1 (ls:=ls) (xs:=xs) fun y hy=>h y (by simp[hy]);have ha:=ZP h1 (h l (by simp)) x;simp only[Rd,HD,List.length_cons,Nat.add_right_cancel_iff,bc,<-ha,M0,<-ih];exact⟨fun ⟨a,b,c⟩=>⟨b,a,c⟩,fun ⟨a,b,c⟩=>⟨b,a,c⟩⟩
theorem mL{b:A5}(h1:1<=b.chairs)(hok:b.lines.all (BZ b.chairs)=true){t:List AK}:FK b t=true↔Rd b.chairs b.lines t:=by rw[<-AAV h1 (fun l hl=>bj.1 hok l hl)];simp[FK]
def OQ(C:Int):List AK->Nat
 |[]=>1
 |l::r=>(AX C l).length*OQ C r
theorem hQ{C:Int}(h1:1<=C)(h4:C<=4):∀{ls xs:List AK},(∀l∈ls,BZ C l=true)->Rd C ls xs->∃n,n<OQ C ls/\GW C n ls=xs
 |[],[],_,_=>⟨0,by simp[OQ],rfl⟩
 |[],_::_,_,h=>by cases h
 |_::_,[],_,h=>by cases h
 |l::ls,x::xs,hl,h=>by
  obtain⟨m,hm,e⟩:=hQ h1 h4 (ls:=ls) (xs:=xs) (fun y hy=>hl y (by simp[hy])) h.2;have hr:=S0 h1 h4 (hl l (by simp));obtain⟨j,hj,e2⟩:=List.getElem_of_mem h.1;rw[<-hr]at hj;have hp:0<(AX C l).length:=by omega
  refine⟨j+(AX C l).length*m,?_,?_⟩
  ·simp only[OQ];calc j+(AX C l).length*m<(AX C l).length+(AX C l).length*m:=by omega
    _=(AX C l).length*(m+1):=by rw[Nat.mul_succ];omega
    _<=_:=Nat.mul_le_mul_left _ hm
  ·simp only[GW];rw[Nat.add_mul_mod_self_left,Nat.mod_eq_of_lt hj,Nat.add_mul_div_left _ _ hp,Nat.div_eq_of_lt hj,Nat.zero_add,e];congr 1;rw[bw,bz hj];simp only[Option.getD_some];rw[<-e2];congr 1
theorem AAW{C:Int}(h1:1<=C)(h4:C<=4):∀{ls:List AK} (n:Nat),(∀l∈ls,BZ C l=true)->Rd C ls (GW C n ls)
 |[],n,_=>trivial
 |l::ls,n,h=>by refine⟨?_,AAW h1 h4 _ fun y hy=>h y (by simp[hy])⟩;have hr:=S0 h1 h4 (h l (by simp));have hp:=GL h1 h4 (h l (by simp));have hj:n % (AX C l).length<(AX C l).length:=Nat.mod_lt _ hp;rw[<-hr,bw,bz hj];exact List.getElem_mem hj
theorem hU{C:Int}(h1:1<=C)(h4:C<=4):∀{ls:List AK},(∀l∈ls,BZ C l=true)->1<=OQ C ls
 |[],_=>by simp[OQ]
 |l::ls,h=>by have i1:=hU h1 h4 (ls:=ls) fun y hy=>h y (by simp[hy]);have i2:=GL h1 h4 (h l (by simp));exact Nat.mul_pos i2 i1
theorem ZM{C:Int}(h1:1<=C)(h4:C<=4):∀{ls:List AK} (v:Nat),(∀l∈ls,BZ C l=true)->1<=v->CV C v ls<=4096->CV C v ls=((v*OQ C ls:Nat):Int)
 |[],v,_,_,_=>by simp[CV,OQ]
 |l::ls,v,h,hv,hm=>by
  have i2:=GL h1 h4 (h l (by simp));have hls:=fun y hy=>h y (List.mem_cons_of_mem l hy);have hpp:=hU h1 h4 hls;simp only[CV,List.foldl_cons]at hm|-;by_cases hc:v*(AX C l).length<5000
  ·have e:I0 ((v:Int)*((AX C l).length:Int))=((v*(AX C l).length:Nat):Int):=by unfold I0;rw[if_pos (by exact_mod_cast hc)];simp
   rw[e]at hm|-;have:=ZM h1 h4 (ls:=ls) (v*(AX C l).length) hls (Nat.mul_pos hv i2) hm;simp only[CV]at this;rw[this,OQ,Nat.mul_assoc]
  ·exfalso;have e:I0 ((v:Int)*((AX C l).length:Int))=5000:=by unfold I0;rw[if_neg];intro hh;exact hc (by exact_mod_cast hh)
   rw[e]at hm;have key:∀(ls:List AK),(∀l∈ls,BZ C l=true)->ls.foldl (fun n l=>I0 (n*((AX C l).length:Int))) 5000=5000:=by
    intro ls;induction ls with
    |nil=>intro _;rfl
    |cons a r ih=>
     intro hh
     have:=GL h1 h4 (hh a (by simp))
     simp only[List.foldl_cons]
     have:I0 (5000*((AX C a).length:Int))=5000:=by unfold I0;split<;>omega
     rw[this]
     exact ih fun y hy=>hh y (by simp[hy])
   rw[key ls hls]at hm;omega
theorem S1{b:A5}(hf:DL b=0){t:List AK}:t∈QW b↔Q0 b t=true:=by
 obtain⟨h1,h4,hl8,hc4,hc1,hc2,hx1,hx2,hok,hcok,hm⟩:=HX hf;have hls:=fun l hl=>bj.1 hok l hl;have hN:=ZM h1 h4 1 hls (Nat.le_refl _) hm;simp only[Nat.one_mul]at hN;have hN':CV b.chairs 1 b.lines=((OQ b.chairs b.lines:Nat):Int):=hN;unfold QW cG Q0 cF;rw[hN',Int.toNat_natCast];simp only[List.mem_filter,List.mem_map,List.mem_range'_1,bc,mL h1 hok];constructor
 ·rintro ⟨⟨n,_,rfl⟩,h⟩;exact⟨AAW h1 h4 n hls,h⟩
 ·rintro ⟨h,h'⟩;obtain⟨n,hn,e⟩:=hQ h1 h4 hls h;exact⟨⟨n,⟨by omega,by omega⟩,e⟩,h'⟩
theorem cH(b:A5):∀(L:List AU) (k:Nat) (v:Bool),M4 b k v L=(v&&M4 b k true L)
 |[],k,v=>by simp[M4]
 |s::L,k,v=>by simp only[M4,bq];rw[cH b L (k+1) (v&&b.counts.all (countOne s.money k)),cH b L (k+1) (b.counts.all (countOne s.money k)),Bool.and_assoc]
theorem cI(b:A5):∀(d k:Nat) (s:AU) (ls:List AK) (ss:List AU) (p:List AK×List AU),k+d=b.lines.length ->
  (p∈SD b d k s ls ss↔∃r u,p=(ls++r,ss++u)/\r.length=d/\CX b k s (b.lines.drop k) r=some u/\M4 b k true (s::u)=true)
 |0,k,s,ls,ss,p,hd=>by
  have e:b.lines.drop k=[]:=List.drop_eq_nil_of_le (by omega);simp only[SD,e];constructor
  ·intro h;split at h
   ·rename_i hc;simp only[List.mem_singleton]at h;exact⟨[],[],by simp[h],rfl,rfl,by simpa [M4]using hc⟩
   ·simp at h
  ·rintro ⟨r,u,rfl,hr,hs,hc⟩;have:r=[]:=List.eq_nil_of_length_eq_zero hr;subst this;have:u=[]:=by simpa [CX]using hs.symm
   subst this;rw[if_pos (by simpa [M4]using hc)];simp
 |d+1,k,s,ls,ss,p,hd=>by
  have hk:k<b.lines.length:=by omega
  simp only[SD,bz hk,bf hk];constructor
  ·intro h;split at h
   ·rename_i hc;simp only[List.mem_flatMap]at h;obtain⟨x,hx,h⟩:=h;split at h
    ·rename_i hn;obtain⟨r,u,rfl,hr,hs,hcs⟩:=(cI b d (k+1) _ _ _ p (by omega)).1 h;refine⟨x::r,(BS b.coin s k x).1::u,by simp,by simp[hr],?_,?_⟩
     ·simp only[CX,if_pos (M0.2 hx),if_pos hn,hs];rfl
     ·rw[M4,cH,hcs,bq,hc];rfl
    ·simp at h
   ·simp at h
  ·rintro ⟨r,u,rfl,hr,hs,hc⟩;rw[M4,cH,bq,bc]at hc;rw[if_pos hc.1];cases r with
   |nil=>simp at hr
   |cons x r=>
    simp only[CX]at hs
    split at hs
    ·rename_i ha;split at hs
     ·rename_i hn;rw[Option.map_eq_some_iff]at hs;obtain⟨u',hs,rfl⟩:=hs;refine List.mem_flatMap.2 ⟨x,M0.1 ha,?_⟩;rw[if_pos hn];exact(cI b d (k+1) _ _ _ _ (by omega)).2 ⟨r,u',by simp,by simpa using hr,hs,hc.2⟩
     ·cases hs
    ·cases hs
theorem hX{b:A5}{t:List AK}{L:List AU}:(t,L)∈HI b↔E4 b t=some L/\M4 b 0 true L=true:=by
 unfold HI;rw[cI b _ _ _ _ _ _ (by omega)];unfold E4;constructor
 ·rintro ⟨r,u,e,hr,hs,hc⟩;simp only[bx,List.singleton_append,Prod.mk.injEq]at e;obtain⟨rfl,rfl⟩:=e;simp only[List.drop_zero]at hs;rw[if_pos hr,hs];exact⟨rfl,hc⟩
 ·rintro ⟨hs,hc⟩;split at hs
  ·rename_i hr;rw[Option.map_eq_some_iff]at hs;obtain⟨u,hs,rfl⟩:=hs;exact⟨t,u,by simp,hr,by simpa using hs,hc⟩
  ·cases hs
theorem iA{b:A5}(hf:DL b=0){t:List AK}:Q0 b t=true↔∃L,(t,L)∈HI b:=by
 have h:=iG b t;rw[hf]at h;simp only[decide_true,bq]at h;rw[<-h];unfold HC;rw[Q1,hf];simp only[decide_true,bq,hX];cases E4 b t with
 |none=>simp
 |some L=>simp
theorem WU(b:A5):∀(d k:Nat) (s:AU) (ls:List AK) (ss:List AU),endsP b d k s=true↔SD b d k s ls ss≠[]
 |0,k,s,ls,ss=>by simp only[endsP,SD];split<;>simp_all
 |d+1,k,s,ls,ss=>by
  simp only[endsP,SD];cases hc:b.counts.all (countOne s.money k)with
  |false=>simp
  |true=>
   simp only[bq,if_true]
   cases b.lines[k]? with
   |none=>simp
   |some l=>
    simp only[List.any_eq_true,bc,ne_eq,List.flatMap_eq_nil_iff]
    constructor
    ·rintro ⟨x,hx,hn,he⟩ hh;have:=hh x hx;rw[if_pos hn]at this;exact(WU b d (k+1) _ _ _).1 he this
    ·intro hh;rw[Classical.not_forall]at hh;obtain⟨x,hh⟩:=hh;rw[Classical.not_imp]at hh;obtain⟨hx,hh⟩:=hh;split at hh
     ·rename_i hn;exact⟨x,hx,hn,(WU b d (k+1) _ _ _).2 hh⟩
     ·exact absurd rfl hh
theorem AAX(b:A5):NF b=true↔HI b≠[]:=WU b _ _ _ _ _
theorem AAY{b:A5}(hf:DL b=0):NF b=true↔QW b≠[]:=by
 rw[AAX];constructor
 ·intro h;obtain⟨⟨t,L⟩,hp⟩:=bg _ h;exact bn ((S1 hf).2 ((iA hf).2 ⟨L,hp⟩))
 ·intro h;obtain⟨t,ht⟩:=bg _ h;obtain⟨L,hL⟩:=(iA hf).1 ((S1 hf).1 ht);exact bn hL
theorem l88(b:A5)(hf:DL b=0)(N:Nat)(hN:CV b.chairs 1 b.lines=N)(hN2:N<=4096)(c:Nat):∀(d v:Nat),v+d=N->∀n m,d<m ->
  BQ (AF bt ann kn (n+500) 21) TZ (some ([1,3],[1,13])) m ⟨c,[(1,true,.ptr 0 1 0 0),(3,true,i v)],⟨[],[(1,0,.box (AC b))]⟩⟩ =
   if cG b v d=[] then some (.exit 0,⟨c,[(8,true,.bool false),(7,true,i N),(6,true,.agg (AC b)),(5,true,i N),(1,true,.ptr 0 1 0 0),(3,true,i N)],⟨[],[(1,0,.box (AC b))]⟩⟩)
   else some (.ret,⟨c,[(2,true,.bool true)],⟨[],[]⟩⟩)
 |0,v,hd,n,m,hm=>by
  obtain⟨h1,h4,hl8,hc4,hc1,hc2,hx1,hx2,hok,hcok,_⟩:=HX hf;have:v=N:=by omega
  subst this;have hq:=fun n=>k52 n b h1 h4 (by omega);rw[hN]at hq;obtain⟨m,rfl⟩:=qNz m (by omega);rw[if_pos (show cG b v 0=[] from rfl)];simp only[AC]at hq|-;simp[AE,hq,AD,AN];done
 |d+1,v,hd,n,m,hm=>by
  obtain⟨h1,h4,hl8,hc4,hc1,hc2,hx1,hx2,hok,hcok,_⟩:=HX hf;have hw:IntKind.i64.wrap ((v:Int)+1)=(v:Int)+1:=AW (by omega) (by omega);have hq:=fun n=>k52 n b h1 h4 (by omega);have q51:=fun n=>k51 n b hf v (by omega);have hlen:=ZL b.chairs b.lines v;have q58:=fun n=>k58 n (GW b.chairs v b.lines) (by omega);have q89:=fun n=>k89 n b hc1 hc2 hx1 hx2 (GW b.chairs v b.lines) (by omega) (fun x hx=>by
   have:=bj.1 hcok x hx;simp only[EP,EW,bc,decide_eq_true_eq]at this;rw[hlen]; exact this.1) hc4
  rw[hN]at hq;have hvN:v<N:=by omega
  have htr:cG b v (d+1)=(if cF b (GW b.chairs v b.lines)=true then[GW b.chairs v b.lines] else[])++cG b (v+1) d:=by simp only[cG,List.range'_succ,br,List.filter_cons];split<;>rfl
  have ih:=l88 b hf N hN hN2 c d (v+1) (by omega) n (m-1) (by omega);obtain⟨m,rfl⟩:=qNz m (by omega);rw[Nat.add_sub_cancel]at ih;rw[htr];unfold cF;generalize cG b (v+1) d=R at ih|-;generalize ht:GW b.chairs v b.lines=t at hlen q51 q58 q89;generalize hp:HH t=p at q58;generalize hc:b.counts.all (LF b t)=cc at q89;rw[AE];cases p with
  |false=>
   simp only[AC,Bool.false_and,bp,if_false,bx]at hq q51 q89 ih|-
   try simp at ih
   simp[hq,AN,q51,q58,q89,hw,hvN,AD,ih]
   done
  |true=>
   cases cc with
   |false=>
    simp only[AC,bq,bp,if_false,bx]at hq q51 q89 ih|-
    try simp at ih
    simp[hq,AN,q51,q58,q89,hw,hvN,AD,ih]
    done
   |true=>
    simp only[AC,bq,if_true,List.cons_append,bx,reduceCtorEq,if_false]at hq q51 q89|-
    simp[hq,AN,q51,q58,q89,hw,hvN,AD]
    done
theorem k88(n:Nat)(b:A5)(hf:DL b=0):A4 bt kn (AF bt ann kn (n+5000)) 120 [.agg (AC b)]=some (.bool (NF b)):=by
 obtain⟨h1,h4,hl8,hc4,hc1,hc2,hx1,hx2,hok,hcok,hm⟩:=HX hf;rw[AP rfl,AQ Tryz.func120 A4I rfl (by simp[AD,AC,AN])];have hN:=pA b.chairs b.lines 1 (by omega);have ih:=l88 b hf (CV b.chairs 1 b.lines).toNat (by omega) (by omega) 1 (CV b.chairs 1 b.lines).toNat 0 (by omega) (n+4495) (n+4995) (by omega);have hT:cG b 0 (CV b.chairs 1 b.lines).toNat=QW b:=rfl;rw[hT]at ih;by_cases hE:QW b=[]
 ·have hp:NF b=false:=by
   cases h:NF b with
   |false=>rfl
   |true=>exact absurd hE ((AAY hf).1 h)
  rw[if_pos hE]at ih;rw[hp];simp only[AC]at ih|-;try simp at ih
  simp[AI0,AJ,AD,AN,ih];done
 ·rw[if_neg hE]at ih;rw[(AAY hf).2 hE];simp only[AC]at ih|-;try simp at ih
  simp[AI0,AJ,AD,AN,ih];done
end Go.Proofs.Tryz.Op
