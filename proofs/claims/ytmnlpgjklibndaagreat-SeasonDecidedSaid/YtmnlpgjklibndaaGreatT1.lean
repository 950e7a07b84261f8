/- Contracts: Nth, Truths of the reference, and sure. No condition. -/
import Derived.Test.YtmnlpgjklibndaaGreatZ2
import Derived.Test.YtmnlpgjklibndaaGreatW3
open Go.Proofs.Tryz renaming prog->cq
open List renaming all_eq_true->bj,nil_append->bq,getD_eq_getElem?_getD->bz,getElem?_eq_getElem->bc,drop_eq_getElem_cons->bf,map_cons->bg,exists_mem_of_ne_nil->bh,cons_append->bp,map_nil->bt,ne_nil_of_mem->cj,append_assoc->ck
open Bool renaming and_eq_true->bw,true_and->bx,false_eq_true->bn
set_option maxRecDepth 100000
set_option linter.unusedSimpArgs false
open Go Go.Pg Go.Proofs
namespace Go.Proofs.Tryz.Op
def CX:AF:=⟨0,0,0⟩
def FU(C:Int)(n:Nat):List AF->List AF
 |[]=>[]
 |l::r=>(A7 C l).getD (n % (A7 C l).length) CX::FU C (n / (A7 C l).length) r
theorem l51(b:A5)(h1:1<=b.chairs)(h4:b.chairs<=4)(hl:b.lines.length<=100)(hpos:∀l∈b.lines,0<(A7 b.chairs l).length):∀(d k:Nat) (v:Nat) (out:List AF) (c γ:Nat),k+d=b.lines.length->v<=5000->out.length<=k->γ<c ->
  ∃c' γ' v':Nat,γ'<c'/\∀n m,d<m->BN (AH cq ann kn (n+250) 37) W3 (some ([1,2,5,6],[2,21,31])) m ⟨c,[(1,true,i v),(2,true,.ptr 0 2 0 0),(5,true,pv 31 γ (out.map AB)),(6,true,i k)],⟨[],(2,0,.box (AE b))::pl 31 γ 133 (out.map AB)⟩⟩ =
   some (.exit 0,⟨c',[(12,true,.bool false),(11,true,i b.lines.length),(10,true,.list false (b.lines.map AB)),(9,true,.ptr 0 2 0 3),(8,true,i b.lines.length),(1,true,i v'),(2,true,.ptr 0 2 0 0),(5,true,pv 31 γ' ((out++FU b.chairs v (b.lines.drop k)).map AB)),(6,true,i b.lines.length)],⟨[],(2,0,.box (AE b))::pl 31 γ' 133 ((out++FU b.chairs v (b.lines.drop k)).map AB)⟩⟩)
 |0,k,v,out,c,γ,hd,hv,ho,hg=>by
  have:k=b.lines.length:=by omega
  subst this;refine⟨c,γ,v,hg,fun n m hm=>?_⟩;obtain⟨m,rfl⟩:=qNz m (by omega);simp[AD,AE,FU]
 |d+1,k,v,out,c,γ,hd,hv,ho,hg=>by
  have hk:k<b.lines.length:=by omega
  have hr:=NI b.chairs b.lines[k] h4;have hp:=hpos b.lines[k] (List.getElem_mem hk);have hw:IntKind.i64.wrap ((k:Int)+1)=(k:Int)+1:=AU (by omega) (by omega);have hq:=fun n=>k83 n b b.lines[k] h1 h4;have hnth:FU b.chairs v (b.lines.drop k)=(A7 b.chairs b.lines[k]).getD (v % (A7 b.chairs b.lines[k]).length) CX::FU b.chairs (v / (A7 b.chairs b.lines[k]).length) (b.lines.drop (k+1)):=by rw[bf hk];rfl
  rw[hnth];generalize hR:A7 b.chairs b.lines[k]=R at hr hp hq;have hj:v % R.length<R.length:=Nat.mod_lt _ hp;have hdv:v / R.length<=5000:=Nat.le_trans (Nat.div_le_self _ _) hv;obtain⟨c',γ',v',i1,ih⟩:=l51 b h1 h4 hl hpos d (k+1) (v / R.length) (out++[R.getD (v % R.length) CX]) (c+1) c (by omega) hdv (by simp;omega) (by omega);refine⟨c',γ',v',i1,fun n m hm=>?_⟩;obtain⟨m,rfl⟩:=qNz m (by omega);have ih:=ih n m (by omega);have e1:(v:Int).tmod (R.length:Int)=((v % R.length:Nat):Int):=(Int.ofNat_tmod _ _).symm;have e2:(v:Int).tdiv (R.length:Int)=((v / R.length:Nat):Int):=(Int.ofNat_tdiv _ _).symm;have hgd:R.getD (v % R.length) CX=R[v % R.length]:=by simp[bz,hj]
  rw[hgd]at ih|-;have hne:¬R=[]:=by intro h;rw[h]at hp;simp at hp
  generalize v % R.length=j at hj e1 ih|-;generalize v / R.length=u at hdv e2 ih|-;have hw2:IntKind.i64.wrap (u:Int)=(u:Int):=AU (by omega) (by omega);have ho':CD cq 133 out.length [[i R[j].k,i R[j].c,i R[j].t]]=true:=by rw[CQ (by simp) (by simp)];simp[maxLen];omega
  have hjI:(j:Int)<(R.length:Int):=by omega
  rw[AD];simp only[List.map_append,bg,bt,FJ,AB,ck,bp,bq,AE]at ih hq|-;try simp at ih
  simp[hk,hw,AB,AM,hq,e1,e2,hj,hjI,hne,hw2,ho',ih];done
theorem UZ(C:Int):∀(ls:List AF) (n:Nat),(FU C n ls).length=ls.length
 |[],_=>rfl
 |l::r,n=>by simp[FU,UZ C r]
def A9L:Bool:=[1,2,3,4].all fun C:Int=>[0,1,2].all fun k:Int=>[-1,0,1,2,3].all fun c:Int=>[-1,0,1,2,3].all fun t:Int=>
 !(CJ C ⟨k,c,t⟩)||decide (0<(A7 C ⟨k,c,t⟩).length)
theorem uS:A9L=true:=by decide +kernel
theorem H0{C:Int}(h1:1<=C)(h4:C<=4){l:AF}(h:CJ C l=true):0<(A7 C l).length:=by obtain⟨k,c,t⟩:=l;obtain⟨v1,v2,v3⟩:=MB h;simp only at v1 v2 v3;have q:=bj.1 (bj.1 (bj.1 (bj.1 uS C (AWN h1 h4)) k (AWO v1.1 v1.2)) c (ABL v2.1 (by omega))) t (ABL v3.1 (by omega));rw[h]at q;simpa using q
theorem k51(n:Nat)(b:A5)(hf:DC b=0)(v:Nat)(hv:v<=5000):AW cq kn (AH cq ann kn (n+400)) 122 [.agg (AE b),i v]=some (sl ((FU b.chairs v b.lines).map AB)):=by
 obtain⟨h1,h4,hl8,hc4,hc1,hc2,hx1,hx2,hok,hcok,_⟩:=F8 hf;rw[AO rfl,AP Tryz.func122 BEW rfl (by simp[AB,AE,AM])];obtain⟨c',γ',v',i1,ih⟩:=l51 b h1 h4 (by omega) (fun l hl=>H0 h1 h4 (bj.1 hok l hl)) b.lines.length 0 v [] 1 0 (by omega) hv (by simp) (by omega);have ih:=ih (n+144) (n+394) (by omega);simp only[AE,bt,bq,List.drop_zero,LD,HZ]at ih|-;try simp at ih
 simp[A30,AJ,AB,AM,ih];done
def BK(t:List AF):List V:=[sl (t.map AB)]
def U0(b:A5)(t:List AF):Bool:=IZ t&&b.counts.all (LH b t)
def O2(b:A5)(v d:Nat):List (List AF):=((List.range' v d).map fun n=>FU b.chairs n b.lines).filter (U0 b)
theorem l43(b:A5)(hf:DC b=0)(N:Nat)(hN:CS b.chairs 1 b.lines=N)(hN2:N<=4096):∀(d v:Nat) (out:List (List AF)) (c γ:Nat),v+d=N->out.length<=v->γ<c ->
  ∃c' γ':Nat,γ'<c'/\∀n m,d<m->BN (AH cq ann kn (n+500) 27) gL (some ([1,3,4],[1,14,25])) m ⟨c,[(1,true,.ptr 0 1 0 0),(3,true,pv 25 γ (out.map BK)),(4,true,i v)],⟨[],(1,0,.box (AE b))::pl 25 γ 22 (out.map BK)⟩⟩ =
   some (.exit 0,⟨c',[(9,true,.bool false),(8,true,i N),(7,true,.agg (AE b)),(6,true,i N),(1,true,.ptr 0 1 0 0),(3,true,pv 25 γ' ((out++O2 b v d).map BK)),(4,true,i N)],⟨[],(1,0,.box (AE b))::pl 25 γ' 22 ((out++O2 b v d).map BK)⟩⟩)
 |0,v,out,c,γ,hd,ho,hg=>by
  obtain⟨h1,h4,hl8,hc4,hc1,hc2,hx1,hx2,hok,hcok,_⟩:=F8 hf;have:v=N:=by omega
  subst this;have hq:=fun n=>k52 n b h1 h4 (by omega);rw[hN]at hq;refine⟨c,γ,hg,fun n m hm=>?_⟩;obtain⟨m,rfl⟩:=qNz m (by omega);simp only[AE]at hq|-;simp[AD,O2,hq,AB,AM];done
 |d+1,v,out,c,γ,hd,ho,hg=>by
  obtain⟨h1,h4,hl8,hc4,hc1,hc2,hx1,hx2,hok,hcok,_⟩:=F8 hf;have hw:IntKind.i64.wrap ((v:Int)+1)=(v:Int)+1:=AU (by omega) (by omega);have hq:=fun n=>k52 n b h1 h4 (by omega);have q51:=fun n=>k51 n b hf v (by omega);have hlen:=UZ b.chairs b.lines v;have q58:=fun n=>k58 n (FU b.chairs v b.lines) (by omega);have q89:=fun n=>k89 n b hc1 hc2 hx1 hx2 (FU b.chairs v b.lines) (by omega) (fun x hx=>by
   have:=bj.1 hcok x hx;simp only[FL,D7,bw,decide_eq_true_eq]at this;rw[hlen]; exact this.1) hc4
  rw[hN]at hq;have hvN:v<N:=by omega
  have htr:O2 b v (d+1)=(if U0 b (FU b.chairs v b.lines)=true then[FU b.chairs v b.lines] else[])++O2 b (v+1) d:=by simp only[O2,List.range'_succ,bg,List.filter_cons];split<;>rfl
  rw[htr];unfold U0;generalize ht:FU b.chairs v b.lines=t at hlen q51 q58 q89;generalize hp:IZ t=p at q58;generalize hc:b.counts.all (LH b t)=cc at q89;have hcl:(t.map AB).all (fun e=>e.all (AK 7))=true:=by simp[AB]
  have hcl8:(t.map AB).all (fun e=>e.all (AK 8))=true:=by simp[AB]
  cases hpc:(p&&cc)with
  |false=>
   obtain⟨c',γ',i1,ih⟩:=l43 b hf N hN hN2 d (v+1) out c γ (by omega) (by omega) hg
   refine⟨c',γ',i1,fun n m hm=>?_⟩
   obtain⟨m,rfl⟩:=qNz m (by omega)
   have ih:=ih n m (by omega)
   rw[AD]
   simp only[AE,bn,if_false,bq]at hq q51 q89 ih|-
   try simp at ih hcl8
   cases p with
   |false=>
    simp[hq,AM,q51,q58,q89,hw,hvN,AB,ih]
    done
   |true=>
    have:cc=false:=by simpa using hpc
    subst this
    simp[hq,AM,q51,q58,q89,hw,hvN,AB,ih]
    done
  |true=>
   obtain⟨c',γ',i1,ih⟩:=l43 b hf N hN hN2 d (v+1) (out++[t]) (c+1) c (by omega) (by simp;omega) (by omega)
   refine⟨c',γ',i1,fun n m hm=>?_⟩
   obtain⟨m,rfl⟩:=qNz m (by omega)
   have ih:=ih n m (by omega)
   simp only[bw]at hpc
   obtain⟨rfl,rfl⟩:=hpc
   have ho':CD cq 22 out.length [[sl (t.map AB)]]=true:=by rw[CQ (by simp) (by simp)];simp[maxLen];omega
   rw[AD]
   simp only[AE,if_true,List.map_append,bg,bt,FJ,BK,ck,bp,bq]at hq q51 q89 ih|-
   try simp at ih
   simp[hq,AM,q51,q58,q89,hw,hvN,AB,BK,ho',ih]
   done
def DZ(b:A5):List (List AF):=O2 b 0 (CS b.chairs 1 b.lines).toNat
theorem jK(C:Int):∀(ls:List AF) (n:Int),0<=n->0<=CS C n ls
 |[],n,h=>h
 |l::r,n,h=>by
  have:=jK C r (KL (n*(A7 C l).length)) (by
   have:0<=n*((A7 C l).length:Int):=Int.mul_nonneg h (by omega);unfold KL; split <;> omega)
  simpa [CS]using this
theorem k43(n:Nat)(b:A5)(hf:DC b=0):AW cq kn (AH cq ann kn (n+5000)) 74 [.agg (AE b)]=some (sl ((DZ b).map BK)):=by
 obtain⟨h1,h4,hl8,hc4,hc1,hc2,hx1,hx2,hok,hcok,hm⟩:=F8 hf;rw[AO rfl,AP Tryz.func74 b74 rfl (by simp[AB,AE,AM])];have hN:=jK b.chairs b.lines 1 (by omega);obtain⟨c',γ',i1,ih⟩:=l43 b hf (CS b.chairs 1 b.lines).toNat (by omega) (by omega) (CS b.chairs 1 b.lines).toNat 0 [] 1 0 (by omega) (by simp) (by omega);have ih:=ih (n+4494) (n+4994) (by omega);unfold DZ;simp only[AE,bt,bq,LD,HZ]at ih|-;try simp at ih
 generalize O2 b 0 (CS b.chairs 1 b.lines).toNat=L at ih|-;have hcl:(L.map BK).all (fun e=>e.all (AK 8))=true:=by simp[BK,AB]
 try simp at hcl
 simp[c74,AJ,AB,AM,ih];exact hcl
def tri(l:AF):Int×Int×Int:=(l.k,l.c,l.t)
theorem xR:∀{x y:List AF},x.map tri=y.map tri->x=y
 |[],[],_=>rfl
 |[],_::_,h=>by simp at h
 |_::_,[],h=>by simp at h
 |a::x,b::y,h=>by simp only[bg,List.cons.injEq]at h;obtain⟨h1,h2⟩:=h;obtain⟨a1,a2,a3⟩:=a;obtain⟨b1,b2,b3⟩:=b;simp only[tri,Prod.mk.injEq]at h1;obtain⟨rfl,rfl,rfl⟩:=h1;rw[xR h2]
def BH1:Bool:=[1,2,3,4].all fun C:Int=>[0,1,2].all fun k:Int=>[-1,0,1,2,3].all fun c:Int=>[-1,0,1,2,3].all fun t:Int=>
 !(CJ C ⟨k,c,t⟩)||((A7 C ⟨k,c,t⟩).map tri==(readingsP C ⟨k,c,t⟩).map tri)
theorem ABF:BH1=true:=by decide +kernel
theorem VY{C:Int}(h1:1<=C)(h4:C<=4){l:AF}(h:CJ C l=true):A7 C l=readingsP C l:=by obtain⟨k,c,t⟩:=l;obtain⟨v1,v2,v3⟩:=MB h;simp only at v1 v2 v3;have q:=bj.1 (bj.1 (bj.1 (bj.1 ABF C (AWN h1 h4)) k (AWO v1.1 v1.2)) c (ABL v2.1 (by omega))) t (ABL v3.1 (by omega));rw[h]at q;exact xR (by simpa using q)
theorem O3{C:Int}{l x:AF}:H1 C l x=true↔x∈readingsP C l:=by
 unfold H1;rw[List.any_eq_true];constructor
 ·rintro ⟨y,hy,he⟩;rw[XM]at he;rw[he];exact hy
 ·intro hx;exact⟨x,hx,XM.2 rfl⟩
def Rd(C:Int):List AF->List AF->Prop
 |[],[]=>True
 |l::ls,x::xs=>x∈readingsP C l/\Rd C ls xs
 |_,_=>False
theorem AHZ{C:Int}(h1:1<=C):∀{ls xs:List AF},(∀l∈ls,CJ C l=true)->((xs.length=ls.length/\NK C ls xs=true)↔Rd C ls xs)
 |[],[],_=>by simp[Rd,NK]
 |[],_::_,_=>by simp[Rd]
 |_::_,[],_=>by simp[Rd]
 |l::ls,x::xs,h=>by have ih:=AHZ h1 (ls:=ls) (xs:=xs) fun y hy=>h y (by simp[hy]);have ha:=fH h1 (h l (by simp)) x;simp only[Rd,NK,List.length_cons,Nat.add_right_cancel_iff,bw,<-ha,O3,<-ih];exact⟨fun ⟨a,b,c⟩=>⟨b,a,c⟩,fun ⟨a,b,c⟩=>⟨b,a,c⟩⟩
theorem aM{b:A5}(h1:1<=b.chairs)(hok:b.lines.all (CJ b.chairs)=true){t:List AF}:K4 b t=true↔Rd b.chairs b.lines t:=by rw[<-AHZ h1 (fun l hl=>bj.1 hok l hl)];simp[K4]
def QR(C:Int):List AF->Nat
 |[]=>1
 |l::r=>(A7 C l).length*QR C r
theorem pH{C:Int}(h1:1<=C)(h4:C<=4):∀{ls xs:List AF},(∀l∈ls,CJ C l=true)->Rd C ls xs->∃n,n<QR C ls/\FU C n ls=xs
 |[],[],_,_=>⟨0,by simp[QR],rfl⟩
 |[],_::_,_,h=>by cases h
 |_::_,[],_,h=>by cases h
 |l::ls,x::xs,hl,h=>by
  obtain⟨m,hm,e⟩:=pH h1 h4 (ls:=ls) (xs:=xs) (fun y hy=>hl y (by simp[hy])) h.2;have hr:=VY h1 h4 (hl l (by simp));obtain⟨j,hj,e2⟩:=List.getElem_of_mem h.1;rw[<-hr]at hj;have hp:0<(A7 C l).length:=by omega
  refine⟨j+(A7 C l).length*m,?_,?_⟩
  ·simp only[QR];calc j+(A7 C l).length*m<(A7 C l).length+(A7 C l).length*m:=by omega
    _=(A7 C l).length*(m+1):=by rw[Nat.mul_succ];omega
    _<=_:=Nat.mul_le_mul_left _ hm
  ·simp only[FU];rw[Nat.add_mul_mod_self_left,Nat.mod_eq_of_lt hj,Nat.add_mul_div_left _ _ hp,Nat.div_eq_of_lt hj,Nat.zero_add,e];congr 1;rw[bz,bc hj];simp only[Option.getD_some];rw[<-e2];congr 1
theorem AH0{C:Int}(h1:1<=C)(h4:C<=4):∀{ls:List AF} (n:Nat),(∀l∈ls,CJ C l=true)->Rd C ls (FU C n ls)
 |[],n,_=>trivial
 |l::ls,n,h=>by refine⟨?_,AH0 h1 h4 _ fun y hy=>h y (by simp[hy])⟩;have hr:=VY h1 h4 (h l (by simp));have hp:=H0 h1 h4 (h l (by simp));have hj:n % (A7 C l).length<(A7 C l).length:=Nat.mod_lt _ hp;rw[<-hr,bz,bc hj];exact List.getElem_mem hj
theorem pI{C:Int}(h1:1<=C)(h4:C<=4):∀{ls:List AF},(∀l∈ls,CJ C l=true)->1<=QR C ls
 |[],_=>by simp[QR]
 |l::ls,h=>by have i1:=pI h1 h4 (ls:=ls) fun y hy=>h y (by simp[hy]);have i2:=H0 h1 h4 (h l (by simp));exact Nat.mul_pos i2 i1
theorem fF{C:Int}(h1:1<=C)(h4:C<=4):∀{ls:List AF} (v:Nat),(∀l∈ls,CJ C l=true)->1<=v->CS C v ls<=4096->CS C v ls=((v*QR C ls:Nat):Int)
 |[],v,_,_,_=>by simp[CS,QR]
 |l::ls,v,h,hv,hm=>by
  have i2:=H0 h1 h4 (h l (by simp));have hls:=fun y hy=>h y (List.mem_cons_of_mem l hy);have hpp:=pI h1 h4 hls;simp only[CS,List.foldl_cons]at hm|-;by_cases hc:v*(A7 C l).length<5000
  ·have e:KL ((v:Int)*((A7 C l).length:Int))=((v*(A7 C l).length:Nat):Int):=by unfold KL;rw[if_pos (by exact_mod_cast hc)];simp
   rw[e]at hm|-;have:=fF h1 h4 (ls:=ls) (v*(A7 C l).length) hls (Nat.mul_pos hv i2) hm;simp only[CS]at this;rw[this,QR,Nat.mul_assoc]
  ·exfalso;have e:KL ((v:Int)*((A7 C l).length:Int))=5000:=by unfold KL;rw[if_neg];intro hh;exact hc (by exact_mod_cast hh)
   rw[e]at hm;have key:∀(ls:List AF),(∀l∈ls,CJ C l=true)->ls.foldl (fun n l=>KL (n*((A7 C l).length:Int))) 5000=5000:=by
    intro ls;induction ls with
    |nil=>intro _;rfl
    |cons a r ih=>
     intro hh
     have:=H0 h1 h4 (hh a (by simp))
     simp only[List.foldl_cons]
     have:KL (5000*((A7 C a).length:Int))=5000:=by unfold KL;split<;>omega
     rw[this]
     exact ih fun y hy=>hh y (by simp[hy])
   rw[key ls hls]at hm;omega
theorem JC{b:A5}(hf:DC b=0){t:List AF}:t∈DZ b↔QU b t=true:=by
 obtain⟨h1,h4,hl8,hc4,hc1,hc2,hx1,hx2,hok,hcok,hm⟩:=F8 hf;have hls:=fun l hl=>bj.1 hok l hl;have hN:=fF h1 h4 1 hls (Nat.le_refl _) hm;simp only[Nat.one_mul]at hN;have hN':CS b.chairs 1 b.lines=((QR b.chairs b.lines:Nat):Int):=hN;unfold DZ O2 QU U0;rw[hN',Int.toNat_natCast];simp only[List.mem_filter,List.mem_map,List.mem_range'_1,bw,aM h1 hok];constructor
 ·rintro ⟨⟨n,_,rfl⟩,h⟩;exact⟨AH0 h1 h4 n hls,h⟩
 ·rintro ⟨h,h'⟩;obtain⟨n,hn,e⟩:=pH h1 h4 hls h;exact⟨⟨n,⟨by omega,by omega⟩,e⟩,h'⟩
theorem jL(b:A5):∀(L:List AY) (k:Nat) (v:Bool),O7 b k v L=(v&&O7 b k true L)
 |[],k,v=>by simp[O7]
 |s::L,k,v=>by simp only[O7,bx];rw[jL b L (k+1) (v&&b.counts.all (countOne s.money k)),jL b L (k+1) (b.counts.all (countOne s.money k)),Bool.and_assoc]
theorem jM(b:A5):∀(d k:Nat) (s:AY) (ls:List AF) (ss:List AY) (p:List AF×List AY),k+d=b.lines.length ->
  (p∈U6 b d k s ls ss↔∃r u,p=(ls++r,ss++u)/\r.length=d/\DI b k s (b.lines.drop k) r=some u/\O7 b k true (s::u)=true)
 |0,k,s,ls,ss,p,hd=>by
  have e:b.lines.drop k=[]:=List.drop_eq_nil_of_le (by omega);simp only[U6,e];constructor
  ·intro h;split at h
   ·rename_i hc;simp only[List.mem_singleton]at h;exact⟨[],[],by simp[h],rfl,rfl,by simpa [O7]using hc⟩
   ·simp at h
  ·rintro ⟨r,u,rfl,hr,hs,hc⟩;have:r=[]:=List.eq_nil_of_length_eq_zero hr;subst this;have:u=[]:=by simpa [DI]using hs.symm
   subst this;rw[if_pos (by simpa [O7]using hc)];simp
 |d+1,k,s,ls,ss,p,hd=>by
  have hk:k<b.lines.length:=by omega
  simp only[U6,bc hk,bf hk];constructor
  ·intro h;split at h
   ·rename_i hc;simp only[List.mem_flatMap]at h;obtain⟨x,hx,h⟩:=h;split at h
    ·rename_i hn;obtain⟨r,u,rfl,hr,hs,hcs⟩:=(jM b d (k+1) _ _ _ p (by omega)).1 h;refine⟨x::r,(CA b.coin s k x).1::u,by simp,by simp[hr],?_,?_⟩
     ·simp only[DI,if_pos (O3.2 hx),if_pos hn,hs];rfl
     ·rw[O7,jL,hcs,bx,hc];rfl
    ·simp at h
   ·simp at h
  ·rintro ⟨r,u,rfl,hr,hs,hc⟩;rw[O7,jL,bx,bw]at hc;rw[if_pos hc.1];cases r with
   |nil=>simp at hr
   |cons x r=>
    simp only[DI]at hs
    split at hs
    ·rename_i ha;split at hs
     ·rename_i hn;rw[Option.map_eq_some_iff]at hs;obtain⟨u',hs,rfl⟩:=hs;refine List.mem_flatMap.2 ⟨x,O3.1 ha,?_⟩;rw[if_pos hn];exact(jM b d (k+1) _ _ _ _ (by omega)).2 ⟨r,u',by simp,by simpa using hr,hs,hc.2⟩
     ·cases hs
    ·cases hs
theorem pJ{b:A5}{t:List AF}{L:List AY}:(t,L)∈GO b↔F2 b t=some L/\O7 b 0 true L=true:=by
 unfold GO;rw[jM b _ _ _ _ _ _ (by omega)];unfold F2;constructor
 ·rintro ⟨r,u,e,hr,hs,hc⟩;simp only[bq,List.singleton_append,Prod.mk.injEq]at e;obtain⟨rfl,rfl⟩:=e;simp only[List.drop_zero]at hs;rw[if_pos hr,hs];exact⟨rfl,hc⟩
 ·rintro ⟨hs,hc⟩;split at hs
  ·rename_i hr;rw[Option.map_eq_some_iff]at hs;obtain⟨u,hs,rfl⟩:=hs;exact⟨t,u,by simp,hr,by simpa using hs,hc⟩
  ·cases hs
theorem O4{b:A5}(hf:DC b=0){t:List AF}:QU b t=true↔∃L,(t,L)∈GO b:=by
 have h:=pT b t;rw[hf]at h;simp only[decide_true,bx]at h;rw[<-h];unfold GA;rw[O8,hf];simp only[decide_true,bx,pJ];cases F2 b t with
 |none=>simp
 |some L=>simp
theorem aN(b:A5):∀(d k:Nat) (s:AY) (ls:List AF) (ss:List AY),endsP b d k s=true↔U6 b d k s ls ss≠[]
 |0,k,s,ls,ss=>by simp only[endsP,U6];split<;>simp_all
 |d+1,k,s,ls,ss=>by
  simp only[endsP,U6];cases hc:b.counts.all (countOne s.money k)with
  |false=>simp
  |true=>
   simp only[bx,if_true]
   cases b.lines[k]? with
   |none=>simp
   |some l=>
    simp only[List.any_eq_true,bw,ne_eq,List.flatMap_eq_nil_iff]
    constructor
    ·rintro ⟨x,hx,hn,he⟩ hh;have:=hh x hx;rw[if_pos hn]at this;exact(aN b d (k+1) _ _ _).1 he this
    ·intro hh;rw[Classical.not_forall]at hh;obtain⟨x,hh⟩:=hh;rw[Classical.not_imp]at hh;obtain⟨hx,hh⟩:=hh;split at hh
     ·rename_i hn;exact⟨x,hx,hn,(aN b d (k+1) _ _ _).2 hh⟩
     ·exact absurd rfl hh
theorem pK(b:A5):PA b=true↔GO b≠[]:=aN b _ _ _ _ _
theorem AH1{b:A5}(hf:DC b=0):PA b=true↔DZ b≠[]:=by
 rw[pK];constructor
 ·intro h;obtain⟨⟨t,L⟩,hp⟩:=bh _ h;exact cj ((JC hf).2 ((O4 hf).2 ⟨L,hp⟩))
 ·intro h;obtain⟨t,ht⟩:=bh _ h;obtain⟨L,hL⟩:=(O4 hf).1 ((JC hf).1 ht);exact cj hL
theorem l88(b:A5)(hf:DC b=0)(N:Nat)(hN:CS b.chairs 1 b.lines=N)(hN2:N<=4096)(c:Nat):∀(d v:Nat),v+d=N->∀n m,d<m ->
  BN (AH cq ann kn (n+500) 21) W5 (some ([1,3],[1,13])) m ⟨c,[(1,true,.ptr 0 1 0 0),(3,true,i v)],⟨[],[(1,0,.box (AE b))]⟩⟩ =
   if O2 b v d=[] then some (.exit 0,⟨c,[(8,true,.bool false),(7,true,i N),(6,true,.agg (AE b)),(5,true,i N),(1,true,.ptr 0 1 0 0),(3,true,i N)],⟨[],[(1,0,.box (AE b))]⟩⟩)
   else some (.ret,⟨c,[(2,true,.bool true)],⟨[],[]⟩⟩)
 |0,v,hd,n,m,hm=>by
  obtain⟨h1,h4,hl8,hc4,hc1,hc2,hx1,hx2,hok,hcok,_⟩:=F8 hf;have:v=N:=by omega
  subst this;have hq:=fun n=>k52 n b h1 h4 (by omega);rw[hN]at hq;obtain⟨m,rfl⟩:=qNz m (by omega);rw[if_pos (show O2 b v 0=[] from rfl)];simp only[AE]at hq|-;simp[AD,hq,AB,AM];done
 |d+1,v,hd,n,m,hm=>by
  obtain⟨h1,h4,hl8,hc4,hc1,hc2,hx1,hx2,hok,hcok,_⟩:=F8 hf;have hw:IntKind.i64.wrap ((v:Int)+1)=(v:Int)+1:=AU (by omega) (by omega);have hq:=fun n=>k52 n b h1 h4 (by omega);have q51:=fun n=>k51 n b hf v (by omega);have hlen:=UZ b.chairs b.lines v;have q58:=fun n=>k58 n (FU b.chairs v b.lines) (by omega);have q89:=fun n=>k89 n b hc1 hc2 hx1 hx2 (FU b.chairs v b.lines) (by omega) (fun x hx=>by
   have:=bj.1 hcok x hx;simp only[FL,D7,bw,decide_eq_true_eq]at this;rw[hlen]; exact this.1) hc4
  rw[hN]at hq;have hvN:v<N:=by omega
  have htr:O2 b v (d+1)=(if U0 b (FU b.chairs v b.lines)=true then[FU b.chairs v b.lines] else[])++O2 b (v+1) d:=by simp only[O2,List.range'_succ,bg,List.filter_cons];split<;>rfl
  have ih:=l88 b hf N hN hN2 c d (v+1) (by omega) n (m-1) (by omega);obtain⟨m,rfl⟩:=qNz m (by omega);rw[Nat.add_sub_cancel]at ih;rw[htr];unfold U0;generalize O2 b (v+1) d=R at ih|-;generalize ht:FU b.chairs v b.lines=t at hlen q51 q58 q89;generalize hp:IZ t=p at q58;generalize hc:b.counts.all (LH b t)=cc at q89;rw[AD];cases p with
  |false=>
   simp only[AE,Bool.false_and,bn,if_false,bq]at hq q51 q89 ih|-
   try simp at ih
   simp[hq,AM,q51,q58,q89,hw,hvN,AB,ih]
   done
  |true=>
   cases cc with
   |false=>
    simp only[AE,bx,bn,if_false,bq]at hq q51 q89 ih|-
    try simp at ih
    simp[hq,AM,q51,q58,q89,hw,hvN,AB,ih]
    done
   |true=>
    simp only[AE,bx,if_true,bp,bq,reduceCtorEq,if_false]at hq q51 q89|-
    simp[hq,AM,q51,q58,q89,hw,hvN,AB]
    done
theorem k88(n:Nat)(b:A5)(hf:DC b=0):AW cq kn (AH cq ann kn (n+5000)) 120 [.agg (AE b)]=some (.bool (PA b)):=by
 obtain⟨h1,h4,hl8,hc4,hc1,hc2,hx1,hx2,hok,hcok,hm⟩:=F8 hf;rw[AO rfl,AP Tryz.func120 BEX rfl (by simp[AB,AE,AM])];have hN:=jK b.chairs b.lines 1 (by omega);have ih:=l88 b hf (CS b.chairs 1 b.lines).toNat (by omega) (by omega) 1 (CS b.chairs 1 b.lines).toNat 0 (by omega) (n+4495) (n+4995) (by omega);have hT:O2 b 0 (CS b.chairs 1 b.lines).toNat=DZ b:=rfl;rw[hT]at ih;by_cases hE:DZ b=[]
 ·have hp:PA b=false:=by
   cases h:PA b with
   |false=>rfl
   |true=>exact absurd hE ((AH1 hf).1 h)
  rw[if_pos hE]at ih;rw[hp];simp only[AE]at ih|-;try simp at ih
  simp[ARL,AJ,AB,AM,ih];done
 ·rw[if_neg hE]at ih;rw[(AH1 hf).2 hE];simp only[AE]at ih|-;try simp at ih
  simp[ARL,AJ,AB,AM,ih];done
end Go.Proofs.Tryz.Op
