/- Contracts: Nth, Truths of the reference, and sure. No condition. -/
import Derived.Test.YtmnlpgjklibndaaGreatZ2
import Derived.Test.YtmnlpgjklibndaaGreatW3
open Go.Proofs.Tryz renaming prog->bt
open List renaming all_eq_true->bj,getD_eq_getElem?_getD->bw,nil_append->bx,getElem?_eq_getElem->bz,drop_eq_getElem_cons->bf,exists_mem_of_ne_nil->bg,ne_nil_of_mem->bn,map_cons->br
open Bool renaming true_and->bq,and_eq_true->bc,false_eq_true->bp
set_option maxRecDepth 100000
set_option linter.unusedSimpArgs false
open Go Go.Pg Go.Proofs
namespace Go.Proofs.Tryz.Op
def CW:AF:=⟨0,0,0⟩
def HV(C:Int)(n:Nat):List AF->List AF
 |[]=>[]
 |l::r=>(A5 C l).getD (n % (A5 C l).length) CW::HV C (n / (A5 C l).length) r
theorem l51(b:AY)(h1:1<=b.chairs)(h4:b.chairs<=4)(hl:b.lines.length<=100)(hpos:∀l∈b.lines,0<(A5 b.chairs l).length):∀(d k:Nat) (v:Nat) (out:List AF) (c γ:Nat),k+d=b.lines.length->v<=5000->out.length<=k->γ<c ->
  ∃c' γ' v':Nat,γ'<c'/\∀n m,d<m->BR (AG bt ann kn (n+250) 37) V7 (some ([1,2,5,6],[2,21,31])) m ⟨c,[(1,true,i v),(2,true,.ptr 0 2 0 0),(5,true,pv 31 γ (out.map AB)),(6,true,i k)],⟨[],(2,0,.box (AC b))::pl 31 γ 133 (out.map AB)⟩⟩ =
   some (.exit 0,⟨c',[(12,true,.bool false),(11,true,i b.lines.length),(10,true,.list false (b.lines.map AB)),(9,true,.ptr 0 2 0 3),(8,true,i b.lines.length),(1,true,i v'),(2,true,.ptr 0 2 0 0),(5,true,pv 31 γ' ((out++HV b.chairs v (b.lines.drop k)).map AB)),(6,true,i b.lines.length)],⟨[],(2,0,.box (AC b))::pl 31 γ' 133 ((out++HV b.chairs v (b.lines.drop k)).map AB)⟩⟩)
 |0,k,v,out,c,γ,hd,hv,ho,hg=>by
  have:k=b.lines.length:=by omega
  subst this;refine⟨c,γ,v,hg,fun n m hm=>?_⟩;obtain⟨m,rfl⟩:=qNz m (by omega);simp[AE,AC,HV]
 |d+1,k,v,out,c,γ,hd,hv,ho,hg=>by
  have hk:k<b.lines.length:=by omega
  have hr:=MX b.chairs b.lines[k] h4;have hp:=hpos b.lines[k] (List.getElem_mem hk);have hw:IntKind.i64.wrap ((k:Int)+1)=(k:Int)+1:=AV (by omega) (by omega);have hq:=fun n=>k83 n b b.lines[k] h1 h4;have hnth:HV b.chairs v (b.lines.drop k)=(A5 b.chairs b.lines[k]).getD (v % (A5 b.chairs b.lines[k]).length) CW::HV b.chairs (v / (A5 b.chairs b.lines[k]).length) (b.lines.drop (k+1)):=by rw[bf hk];rfl
  rw[hnth];generalize hR:A5 b.chairs b.lines[k]=R at hr hp hq;have hj:v % R.length<R.length:=Nat.mod_lt _ hp;have hdv:v / R.length<=5000:=Nat.le_trans (Nat.div_le_self _ _) hv;obtain⟨c',γ',v',i1,ih⟩:=l51 b h1 h4 hl hpos d (k+1) (v / R.length) (out++[R.getD (v % R.length) CW]) (c+1) c (by omega) hdv (by simp;omega) (by omega);refine⟨c',γ',v',i1,fun n m hm=>?_⟩;obtain⟨m,rfl⟩:=qNz m (by omega);have ih:=ih n m (by omega);have e1:(v:Int).tmod (R.length:Int)=((v % R.length:Nat):Int):=(Int.ofNat_tmod _ _).symm;have e2:(v:Int).tdiv (R.length:Int)=((v / R.length:Nat):Int):=(Int.ofNat_tdiv _ _).symm;have hgd:R.getD (v % R.length) CW=R[v % R.length]:=by simp[bw,hj]
  rw[hgd]at ih|-;have hne:¬R=[]:=by intro h;rw[h]at hp;simp at hp
  generalize v % R.length=j at hj e1 ih|-;generalize v / R.length=u at hdv e2 ih|-;have hw2:IntKind.i64.wrap (u:Int)=(u:Int):=AV (by omega) (by omega);have ho':B8 bt 133 out.length [[i R[j].k,i R[j].c,i R[j].t]]=true:=by rw[CL (by simp) (by simp)];simp[maxLen];omega
  have hjI:(j:Int)<(R.length:Int):=by omega
  rw[AE];simp only[List.map_append,br,List.map_nil,JF,AB,List.append_assoc,List.cons_append,bx,AC]at ih hq|-;try simp at ih
  simp[hk,hw,AB,AN,hq,e1,e2,hj,hjI,hne,hw2,ho',ih];done
theorem dG(C:Int):∀(ls:List AF) (n:Nat),(HV C n ls).length=ls.length
 |[],_=>rfl
 |l::r,n=>by simp[HV,dG C r]
def A55:Bool:=[1,2,3,4].all fun C:Int=>[0,1,2].all fun k:Int=>[-1,0,1,2,3].all fun c:Int=>[-1,0,1,2,3].all fun t:Int=>
 !(CG C ⟨k,c,t⟩)||decide (0<(A5 C ⟨k,c,t⟩).length)
theorem sF:A55=true:=by decide +kernel
theorem HK{C:Int}(h1:1<=C)(h4:C<=4){l:AF}(h:CG C l=true):0<(A5 C l).length:=by obtain⟨k,c,t⟩:=l;obtain⟨v1,v2,v3⟩:=LI h;simp only at v1 v2 v3;have q:=bj.1 (bj.1 (bj.1 (bj.1 sF C (ATH h1 h4)) k (ATI v1.1 v1.2)) c (zO v2.1 (by omega))) t (zO v3.1 (by omega));rw[h]at q;simpa using q
theorem k51(n:Nat)(b:AY)(hf:DN b=0)(v:Nat)(hv:v<=5000):A4 bt kn (AG bt ann kn (n+400)) 122 [.agg (AC b),i v]=some (sl ((HV b.chairs v b.lines).map AB)):=by
 obtain⟨h1,h4,hl8,hc4,hc1,hc2,hx1,hx2,hok,hcok,_⟩:=I3 hf;rw[AP rfl,AQ Tryz.func122 BA8 rfl (by simp[AB,AC,AN])];obtain⟨c',γ',v',i1,ih⟩:=l51 b h1 h4 (by omega) (fun l hl=>HK h1 h4 (bj.1 hok l hl)) b.lines.length 0 v [] 1 0 (by omega) hv (by simp) (by omega);have ih:=ih (n+144) (n+394) (by omega);simp only[AC,List.map_nil,bx,List.drop_zero,ZD,MV]at ih|-;try simp at ih
 simp[A0U,AH,AB,AN,ih];done
def gM(b:AY)(t:List AF):Bool:=JH t&&b.counts.all (M0 b t)
def gN(b:AY)(v d:Nat):List (List AF):=((List.range' v d).map fun n=>HV b.chairs n b.lines).filter (gM b)
def SV(b:AY):List (List AF):=gN b 0 (DC b.chairs 1 b.lines).toNat
theorem vE(C:Int):∀(ls:List AF) (n:Int),0<=n->0<=DC C n ls
 |[],n,h=>h
 |l::r,n,h=>by
  have:=vE C r (JX (n*(A5 C l).length)) (by
   have:0<=n*((A5 C l).length:Int):=Int.mul_nonneg h (by omega);unfold JX; split <;> omega)
  simpa [DC]using this
def tri(l:AF):Int×Int×Int:=(l.k,l.c,l.t)
theorem vF:∀{x y:List AF},x.map tri=y.map tri->x=y
 |[],[],_=>rfl
 |[],_::_,h=>by simp at h
 |_::_,[],h=>by simp at h
 |a::x,b::y,h=>by simp only[br,List.cons.injEq]at h;obtain⟨h1,h2⟩:=h;obtain⟨a1,a2,a3⟩:=a;obtain⟨b1,b2,b3⟩:=b;simp only[tri,Prod.mk.injEq]at h1;obtain⟨rfl,rfl,rfl⟩:=h1;rw[vF h2]
def BEA:Bool:=[1,2,3,4].all fun C:Int=>[0,1,2].all fun k:Int=>[-1,0,1,2,3].all fun c:Int=>[-1,0,1,2,3].all fun t:Int=>
 !(CG C ⟨k,c,t⟩)||((A5 C ⟨k,c,t⟩).map tri==(readingsP C ⟨k,c,t⟩).map tri)
theorem zI:BEA=true:=by decide +kernel
theorem U6{C:Int}(h1:1<=C)(h4:C<=4){l:AF}(h:CG C l=true):A5 C l=readingsP C l:=by obtain⟨k,c,t⟩:=l;obtain⟨v1,v2,v3⟩:=LI h;simp only at v1 v2 v3;have q:=bj.1 (bj.1 (bj.1 (bj.1 zI C (ATH h1 h4)) k (ATI v1.1 v1.2)) c (zO v2.1 (by omega))) t (zO v3.1 (by omega));rw[h]at q;exact vF (by simpa using q)
theorem OL{C:Int}{l x:AF}:HL C l x=true↔x∈readingsP C l:=by
 unfold HL;rw[List.any_eq_true];constructor
 ·rintro ⟨y,hy,he⟩;rw[WO]at he;rw[he];exact hy
 ·intro hx;exact⟨x,hx,WO.2 rfl⟩
def Rd(C:Int):List AF->List AF->Prop
 |[],[]=>True
 |l::ls,x::xs=>x∈readingsP C l/\Rd C ls xs
 |_,_=>False
theorem AFH{C:Int}(h1:1<=C):∀{ls xs:List AF},(∀l∈ls,CG C l=true)->((xs.length=ls.length/\MZ C ls xs=true)↔Rd C ls xs)
 |[],[],_=>by simp[Rd,MZ]
 |[],_::_,_=>by simp[Rd]
 |_::_,[],_=>by simp[Rd]
 |l::ls,x::xs,h=>by have ih:=AFH h1 (ls:=ls) (xs:=xs) fun y hy=>h y (by simp[hy]);have ha:=dJ h1 (h l (by simp)) x;simp only[Rd,MZ,List.length_cons,Nat.add_right_cancel_iff,bc,<-ha,OL,<-ih];exact⟨fun ⟨a,b,c⟩=>⟨b,a,c⟩,fun ⟨a,b,c⟩=>⟨b,a,c⟩⟩
theorem ZF{b:AY}(h1:1<=b.chairs)(hok:b.lines.all (CG b.chairs)=true){t:List AF}:KI b t=true↔Rd b.chairs b.lines t:=by rw[<-AFH h1 (fun l hl=>bj.1 hok l hl)];simp[KI]
def P9(C:Int):List AF->Nat
 |[]=>1
 |l::r=>(A5 C l).length*P9 C r
theorem nE{C:Int}(h1:1<=C)(h4:C<=4):∀{ls xs:List AF},(∀l∈ls,CG C l=true)->Rd C ls xs->∃n,n<P9 C ls/\HV C n ls=xs
 |[],[],_,_=>⟨0,by simp[P9],rfl⟩
 |[],_::_,_,h=>by cases h
 |_::_,[],_,h=>by cases h
 |l::ls,x::xs,hl,h=>by
  obtain⟨m,hm,e⟩:=nE h1 h4 (ls:=ls) (xs:=xs) (fun y hy=>hl y (by simp[hy])) h.2;have hr:=U6 h1 h4 (hl l (by simp));obtain⟨j,hj,e2⟩:=List.getElem_of_mem h.1;rw[<-hr]at hj;have hp:0<(A5 C l).length:=by omega
  refine⟨j+(A5 C l).length*m,?_,?_⟩
  ·simp only[P9];calc j+(A5 C l).length*m<(A5 C l).length+(A5 C l).length*m:=by omega
    _=(A5 C l).length*(m+1):=by rw[Nat.mul_succ];omega
    _<=_:=Nat.mul_le_mul_left _ hm
  ·simp only[HV];rw[Nat.add_mul_mod_self_left,Nat.mod_eq_of_lt hj,Nat.add_mul_div_left _ _ hp,Nat.div_eq_of_lt hj,Nat.zero_add,e];congr 1;rw[bw,bz hj];simp only[Option.getD_some];rw[<-e2];congr 1
theorem AFI{C:Int}(h1:1<=C)(h4:C<=4):∀{ls:List AF} (n:Nat),(∀l∈ls,CG C l=true)->Rd C ls (HV C n ls)
 |[],n,_=>trivial
 |l::ls,n,h=>by refine⟨?_,AFI h1 h4 _ fun y hy=>h y (by simp[hy])⟩;have hr:=U6 h1 h4 (h l (by simp));have hp:=HK h1 h4 (h l (by simp));have hj:n % (A5 C l).length<(A5 C l).length:=Nat.mod_lt _ hp;rw[<-hr,bw,bz hj];exact List.getElem_mem hj
theorem nF{C:Int}(h1:1<=C)(h4:C<=4):∀{ls:List AF},(∀l∈ls,CG C l=true)->1<=P9 C ls
 |[],_=>by simp[P9]
 |l::ls,h=>by have i1:=nF h1 h4 (ls:=ls) fun y hy=>h y (by simp[hy]);have i2:=HK h1 h4 (h l (by simp));exact Nat.mul_pos i2 i1
theorem dH{C:Int}(h1:1<=C)(h4:C<=4):∀{ls:List AF} (v:Nat),(∀l∈ls,CG C l=true)->1<=v->DC C v ls<=4096->DC C v ls=((v*P9 C ls:Nat):Int)
 |[],v,_,_,_=>by simp[DC,P9]
 |l::ls,v,h,hv,hm=>by
  have i2:=HK h1 h4 (h l (by simp));have hls:=fun y hy=>h y (List.mem_cons_of_mem l hy);have hpp:=nF h1 h4 hls;simp only[DC,List.foldl_cons]at hm|-;by_cases hc:v*(A5 C l).length<5000
  ·have e:JX ((v:Int)*((A5 C l).length:Int))=((v*(A5 C l).length:Nat):Int):=by unfold JX;rw[if_pos (by exact_mod_cast hc)];simp
   rw[e]at hm|-;have:=dH h1 h4 (ls:=ls) (v*(A5 C l).length) hls (Nat.mul_pos hv i2) hm;simp only[DC]at this;rw[this,P9,Nat.mul_assoc]
  ·exfalso;have e:JX ((v:Int)*((A5 C l).length:Int))=5000:=by unfold JX;rw[if_neg];intro hh;exact hc (by exact_mod_cast hh)
   rw[e]at hm;have key:∀(ls:List AF),(∀l∈ls,CG C l=true)->ls.foldl (fun n l=>JX (n*((A5 C l).length:Int))) 5000=5000:=by
    intro ls;induction ls with
    |nil=>intro _;rfl
    |cons a r ih=>
     intro hh
     have:=HK h1 h4 (hh a (by simp))
     simp only[List.foldl_cons]
     have:JX (5000*((A5 C a).length:Int))=5000:=by unfold JX;split<;>omega
     rw[this]
     exact ih fun y hy=>hh y (by simp[hy])
   rw[key ls hls]at hm;omega
theorem U7{b:AY}(hf:DN b=0){t:List AF}:t∈SV b↔QC b t=true:=by
 obtain⟨h1,h4,hl8,hc4,hc1,hc2,hx1,hx2,hok,hcok,hm⟩:=I3 hf;have hls:=fun l hl=>bj.1 hok l hl;have hN:=dH h1 h4 1 hls (Nat.le_refl _) hm;simp only[Nat.one_mul]at hN;have hN':DC b.chairs 1 b.lines=((P9 b.chairs b.lines:Nat):Int):=hN;unfold SV gN QC gM;rw[hN',Int.toNat_natCast];simp only[List.mem_filter,List.mem_map,List.mem_range'_1,bc,ZF h1 hok];constructor
 ·rintro ⟨⟨n,_,rfl⟩,h⟩;exact⟨AFI h1 h4 n hls,h⟩
 ·rintro ⟨h,h'⟩;obtain⟨n,hn,e⟩:=nE h1 h4 hls h;exact⟨⟨n,⟨by omega,by omega⟩,e⟩,h'⟩
theorem gO(b:AY):∀(L:List AW) (k:Nat) (v:Bool),OO b k v L=(v&&OO b k true L)
 |[],k,v=>by simp[OO]
 |s::L,k,v=>by simp only[OO,bq];rw[gO b L (k+1) (v&&b.counts.all (countOne s.money k)),gO b L (k+1) (b.counts.all (countOne s.money k)),Bool.and_assoc]
theorem gP(b:AY):∀(d k:Nat) (s:AW) (ls:List AF) (ss:List AW) (p:List AF×List AW),k+d=b.lines.length ->
  (p∈UH b d k s ls ss↔∃r u,p=(ls++r,ss++u)/\r.length=d/\DE b k s (b.lines.drop k) r=some u/\OO b k true (s::u)=true)
 |0,k,s,ls,ss,p,hd=>by
  have e:b.lines.drop k=[]:=List.drop_eq_nil_of_le (by omega);simp only[UH,e];constructor
  ·intro h;split at h
   ·rename_i hc;simp only[List.mem_singleton]at h;exact⟨[],[],by simp[h],rfl,rfl,by simpa [OO]using hc⟩
   ·simp at h
  ·rintro ⟨r,u,rfl,hr,hs,hc⟩;have:r=[]:=List.eq_nil_of_length_eq_zero hr;subst this;have:u=[]:=by simpa [DE]using hs.symm
   subst this;rw[if_pos (by simpa [OO]using hc)];simp
 |d+1,k,s,ls,ss,p,hd=>by
  have hk:k<b.lines.length:=by omega
  simp only[UH,bz hk,bf hk];constructor
  ·intro h;split at h
   ·rename_i hc;simp only[List.mem_flatMap]at h;obtain⟨x,hx,h⟩:=h;split at h
    ·rename_i hn;obtain⟨r,u,rfl,hr,hs,hcs⟩:=(gP b d (k+1) _ _ _ p (by omega)).1 h;refine⟨x::r,(B6 b.coin s k x).1::u,by simp,by simp[hr],?_,?_⟩
     ·simp only[DE,if_pos (OL.2 hx),if_pos hn,hs];rfl
     ·rw[OO,gO,hcs,bq,hc];rfl
    ·simp at h
   ·simp at h
  ·rintro ⟨r,u,rfl,hr,hs,hc⟩;rw[OO,gO,bq,bc]at hc;rw[if_pos hc.1];cases r with
   |nil=>simp at hr
   |cons x r=>
    simp only[DE]at hs
    split at hs
    ·rename_i ha;split at hs
     ·rename_i hn;rw[Option.map_eq_some_iff]at hs;obtain⟨u',hs,rfl⟩:=hs;refine List.mem_flatMap.2 ⟨x,OL.1 ha,?_⟩;rw[if_pos hn];exact(gP b d (k+1) _ _ _ _ (by omega)).2 ⟨r,u',by simp,by simpa using hr,hs,hc.2⟩
     ·cases hs
    ·cases hs
theorem nG{b:AY}{t:List AF}{L:List AW}:(t,L)∈GB b↔FQ b t=some L/\OO b 0 true L=true:=by
 unfold GB;rw[gP b _ _ _ _ _ _ (by omega)];unfold FQ;constructor
 ·rintro ⟨r,u,e,hr,hs,hc⟩;simp only[bx,List.singleton_append,Prod.mk.injEq]at e;obtain⟨rfl,rfl⟩:=e;simp only[List.drop_zero]at hs;rw[if_pos hr,hs];exact⟨rfl,hc⟩
 ·rintro ⟨hs,hc⟩;split at hs
  ·rename_i hr;rw[Option.map_eq_some_iff]at hs;obtain⟨u,hs,rfl⟩:=hs;exact⟨t,u,by simp,hr,by simpa using hs,hc⟩
  ·cases hs
theorem LF{b:AY}(hf:DN b=0){t:List AF}:QC b t=true↔∃L,(t,L)∈GB b:=by
 have h:=nP b t;rw[hf]at h;simp only[decide_true,bq]at h;rw[<-h];unfold FY;rw[OP,hf];simp only[decide_true,bq,nG];cases FQ b t with
 |none=>simp
 |some L=>simp
theorem ZG(b:AY):∀(d k:Nat) (s:AW) (ls:List AF) (ss:List AW),endsP b d k s=true↔UH b d k s ls ss≠[]
 |0,k,s,ls,ss=>by simp only[endsP,UH];split<;>simp_all
 |d+1,k,s,ls,ss=>by
  simp only[endsP,UH];cases hc:b.counts.all (countOne s.money k)with
  |false=>simp
  |true=>
   simp only[bq,if_true]
   cases b.lines[k]? with
   |none=>simp
   |some l=>
    simp only[List.any_eq_true,bc,ne_eq,List.flatMap_eq_nil_iff]
    constructor
    ·rintro ⟨x,hx,hn,he⟩ hh;have:=hh x hx;rw[if_pos hn]at this;exact(ZG b d (k+1) _ _ _).1 he this
    ·intro hh;rw[Classical.not_forall]at hh;obtain⟨x,hh⟩:=hh;rw[Classical.not_imp]at hh;obtain⟨hx,hh⟩:=hh;split at hh
     ·rename_i hn;exact⟨x,hx,hn,(ZG b d (k+1) _ _ _).2 hh⟩
     ·exact absurd rfl hh
theorem ZH(b:AY):OR b=true↔GB b≠[]:=ZG b _ _ _ _ _
theorem AFJ{b:AY}(hf:DN b=0):OR b=true↔SV b≠[]:=by
 rw[ZH];constructor
 ·intro h;obtain⟨⟨t,L⟩,hp⟩:=bg _ h;exact bn ((U7 hf).2 ((LF hf).2 ⟨L,hp⟩))
 ·intro h;obtain⟨t,ht⟩:=bg _ h;obtain⟨L,hL⟩:=(LF hf).1 ((U7 hf).1 ht);exact bn hL
theorem l88(b:AY)(hf:DN b=0)(N:Nat)(hN:DC b.chairs 1 b.lines=N)(hN2:N<=4096)(c:Nat):∀(d v:Nat),v+d=N->∀n m,d<m ->
  BR (AG bt ann kn (n+500) 21) V8 (some ([1,3],[1,13])) m ⟨c,[(1,true,.ptr 0 1 0 0),(3,true,i v)],⟨[],[(1,0,.box (AC b))]⟩⟩ =
   if gN b v d=[] then some (.exit 0,⟨c,[(8,true,.bool false),(7,true,i N),(6,true,.agg (AC b)),(5,true,i N),(1,true,.ptr 0 1 0 0),(3,true,i N)],⟨[],[(1,0,.box (AC b))]⟩⟩)
   else some (.ret,⟨c,[(2,true,.bool true)],⟨[],[]⟩⟩)
 |0,v,hd,n,m,hm=>by
  obtain⟨h1,h4,hl8,hc4,hc1,hc2,hx1,hx2,hok,hcok,_⟩:=I3 hf;have:v=N:=by omega
  subst this;have hq:=fun n=>k52 n b h1 h4 (by omega);rw[hN]at hq;obtain⟨m,rfl⟩:=qNz m (by omega);rw[if_pos (show gN b v 0=[] from rfl)];simp only[AC]at hq|-;simp[AE,hq,AB,AN];done
 |d+1,v,hd,n,m,hm=>by
  obtain⟨h1,h4,hl8,hc4,hc1,hc2,hx1,hx2,hok,hcok,_⟩:=I3 hf;have hw:IntKind.i64.wrap ((v:Int)+1)=(v:Int)+1:=AV (by omega) (by omega);have hq:=fun n=>k52 n b h1 h4 (by omega);have q51:=fun n=>k51 n b hf v (by omega);have hlen:=dG b.chairs b.lines v;have q58:=fun n=>k58 n (HV b.chairs v b.lines) (by omega);have q89:=fun n=>k89 n b hc1 hc2 hx1 hx2 (HV b.chairs v b.lines) (by omega) (fun x hx=>by
   have:=bj.1 hcok x hx;simp only[FP,EW,bc,decide_eq_true_eq]at this;rw[hlen]; exact this.1) hc4
  rw[hN]at hq;have hvN:v<N:=by omega
  have htr:gN b v (d+1)=(if gM b (HV b.chairs v b.lines)=true then[HV b.chairs v b.lines] else[])++gN b (v+1) d:=by simp only[gN,List.range'_succ,br,List.filter_cons];split<;>rfl
  have ih:=l88 b hf N hN hN2 c d (v+1) (by omega) n (m-1) (by omega);obtain⟨m,rfl⟩:=qNz m (by omega);rw[Nat.add_sub_cancel]at ih;rw[htr];unfold gM;generalize gN b (v+1) d=R at ih|-;generalize ht:HV b.chairs v b.lines=t at hlen q51 q58 q89;generalize hp:JH t=p at q58;generalize hc:b.counts.all (M0 b t)=cc at q89;rw[AE];cases p with
  |false=>
   simp only[AC,Bool.false_and,bp,if_false,bx]at hq q51 q89 ih|-
   try simp at ih
   simp[hq,AN,q51,q58,q89,hw,hvN,AB,ih]
   done
  |true=>
   cases cc with
   |false=>
    simp only[AC,bq,bp,if_false,bx]at hq q51 q89 ih|-
    try simp at ih
    simp[hq,AN,q51,q58,q89,hw,hvN,AB,ih]
    done
   |true=>
    simp only[AC,bq,if_true,List.cons_append,bx,reduceCtorEq,if_false]at hq q51 q89|-
    simp[hq,AN,q51,q58,q89,hw,hvN,AB]
    done
theorem k88(n:Nat)(b:AY)(hf:DN b=0):A4 bt kn (AG bt ann kn (n+5000)) 120 [.agg (AC b)]=some (.bool (OR b)):=by
 obtain⟨h1,h4,hl8,hc4,hc1,hc2,hx1,hx2,hok,hcok,hm⟩:=I3 hf;rw[AP rfl,AQ Tryz.func120 BA9 rfl (by simp[AB,AC,AN])];have hN:=vE b.chairs b.lines 1 (by omega);have ih:=l88 b hf (DC b.chairs 1 b.lines).toNat (by omega) (by omega) 1 (DC b.chairs 1 b.lines).toNat 0 (by omega) (n+4495) (n+4995) (by omega);have hT:gN b 0 (DC b.chairs 1 b.lines).toNat=SV b:=rfl;rw[hT]at ih;by_cases hE:SV b=[]
 ·have hp:OR b=false:=by
   cases h:OR b with
   |false=>rfl
   |true=>exact absurd hE ((AFJ hf).1 h)
  rw[if_pos hE]at ih;rw[hp];simp only[AC]at ih|-;try simp at ih
  simp[AOL,AH,AB,AN,ih];done
 ·rw[if_neg hE]at ih;rw[(AFJ hf).2 hE];simp only[AC]at ih|-;try simp at ih
  simp[AOL,AH,AB,AN,ih];done
end Go.Proofs.Tryz.Op
