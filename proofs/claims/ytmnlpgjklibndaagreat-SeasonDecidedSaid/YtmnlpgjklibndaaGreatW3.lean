/- Contracts of the reference: ChairOut, TokenOut, Money, Mixed, IsRead, IsPossible, Counted, Fits. No condition. -/
import Derived.Test.YtmnlpgjklibndaaGreatW2
open Go.Proofs.Tryz renaming prog->cx
open Bool renaming false_eq_true->bj,and_eq_true->bn,true_and->bp
open List renaming drop_eq_getElem_cons->bq,all_eq_true->bw,drop_zero->bz,map_cons->bf,range'_succ->br,getLast?_cons->cj,range'->ck
open Int renaming natCast_zero->bx,mul_le_mul_of_nonneg_left->bc
open Nat renaming add_assoc->bg,reduceAdd->bh,eq_zero_or_pos->bt
set_option maxRecDepth 100000
set_option linter.unusedSimpArgs false
open Go Go.Pg Go.Proofs
namespace Go.Proofs.Tryz.Op
def JD(sel:AF->Int)(x:Int):Nat->Int->List AF->Int
 |_,v,[]=>v
 |k,v,t::ts=>JD sel x (k+1) (if sel t=x then(if t.k=1 then(k:Int) else -1) else v) ts
def FG(sel:AF->Int)(ts:List AF)(a:Nat)(x:Int):Int:=JD sel x 0 (-1) (ts.take a)
theorem KM{α:Type}{l:List α}{a k:Nat}(hk:k<a)(ha:a<=l.length):(l.take a).drop k=l[k]'(by omega)::(l.take a).drop (k+1):=by rw[bq (by simp;omega)];simp
theorem l63(n:Nat)(ts:List AF)(x:Int)(a:Nat)(ha:a<=ts.length)(hlen:ts.length<=1000):∀(d k:Nat) (v:Int) (c m:Nat),k+d=a->d<m ->
  BN (AH cx ann kn (n+50) 29) gF (some ([0,1,2,7,8],[])) m ⟨c,[(0,true,.list false (ts.map AB)),(1,true,i a),(2,true,i x),(7,true,i v),(8,true,i k)],⟨[],[]⟩⟩ =
  some (.exit 0,⟨c,[(11,true,.bool false),(10,true,i a),(9,true,i a),(0,true,.list false (ts.map AB)),(1,true,i a),(2,true,i x),(7,true,i (JD AF.c x k v ((ts.take a).drop k))),(8,true,i a)],⟨[],[]⟩⟩)
 |0,k,v,c,m+1,hd,hm=>by
  have:k=a:=by omega
  subst this;simp[AD,JD]
 |d+1,k,v,c,m+1,hd,hm=>by
  have hk:k<ts.length:=by omega
  have hka:k<a:=by omega
  have hw:IntKind.i64.wrap ((k:Int)+1)=(k:Int)+1:=AU (by omega) (by omega);have ih:=l63 n ts x a ha hlen d (k+1) (if ts[k].c=x then(if ts[k].k=1 then(k:Int) else -1) else v) c m (by omega) (by omega);rw[AD,KM hka ha];simp only[JD,AB]at ih|-;generalize e1:decide (ts[k].c=x)=b1;generalize e2:decide (ts[k].k=1)=b2;have e1':(ts[k].c=x)=(b1=true):=by rw[<-e1];simp
  have e2':(ts[k].k=1)=(b2=true):=by rw[<-e2];simp
  simp only[e1',e2']at ih|-;simp[hk,hka,hw,AB,e1];cases b1
  ·simp at ih;simp[hk,hw,AB,ih]
  ·cases b2
   ·simp at ih;simp[hk,hw,AB,e2,ih]
   ·simp at ih;simp[hk,hw,AB,e2,ih]
theorem k63(n:Nat)(ts:List AF)(x:Int)(a:Nat)(ha:a<=ts.length)(hlen:ts.length<=90):AW cx kn (AH cx ann kn (n+100)) 84 [.list false (ts.map AB),i a,i x]=some (i (FG AF.c ts a x)):=by have q:=l63 (n+44) ts x a ha (by omega) a 0 (-1) 0 (n+94) (by omega) (by omega);rw[AO rfl,AP Tryz.func84 b84 rfl (by simp[AB])];simp only[bz,bg,bh,bx]at q;simp[c84,AJ,q,FG]
theorem l64(n:Nat)(ts:List AF)(x:Int)(a:Nat)(ha:a<=ts.length)(hlen:ts.length<=1000):∀(d k:Nat) (v:Int) (c m:Nat),k+d=a->d<m ->
  BN (AH cx ann kn (n+50) 29) gG (some ([0,1,2,7,8],[])) m ⟨c,[(0,true,.list false (ts.map AB)),(1,true,i a),(2,true,i x),(7,true,i v),(8,true,i k)],⟨[],[]⟩⟩ =
  some (.exit 0,⟨c,[(11,true,.bool false),(10,true,i a),(9,true,i a),(0,true,.list false (ts.map AB)),(1,true,i a),(2,true,i x),(7,true,i (JD AF.t x k v ((ts.take a).drop k))),(8,true,i a)],⟨[],[]⟩⟩)
 |0,k,v,c,m+1,hd,hm=>by
  have:k=a:=by omega
  subst this;simp[AD,JD]
 |d+1,k,v,c,m+1,hd,hm=>by
  have hk:k<ts.length:=by omega
  have hka:k<a:=by omega
  have hw:IntKind.i64.wrap ((k:Int)+1)=(k:Int)+1:=AU (by omega) (by omega);have ih:=l64 n ts x a ha hlen d (k+1) (if ts[k].t=x then(if ts[k].k=1 then(k:Int) else -1) else v) c m (by omega) (by omega);rw[AD,KM hka ha];simp only[JD,AB]at ih|-;generalize e1:decide (ts[k].t=x)=b1;generalize e2:decide (ts[k].k=1)=b2;have e1':(ts[k].t=x)=(b1=true):=by rw[<-e1];simp
  have e2':(ts[k].k=1)=(b2=true):=by rw[<-e2];simp
  simp only[e1',e2']at ih|-;simp[hk,hka,hw,AB,e1];cases b1
  ·simp at ih;simp[hk,hw,AB,ih]
  ·cases b2
   ·simp at ih;simp[hk,hw,AB,e2,ih]
   ·simp at ih;simp[hk,hw,AB,e2,ih]
theorem k64(n:Nat)(ts:List AF)(x:Int)(a:Nat)(ha:a<=ts.length)(hlen:ts.length<=90):AW cx kn (AH cx ann kn (n+100)) 83 [.list false (ts.map AB),i a,i x]=some (i (FG AF.t ts a x)):=by have q:=l64 (n+44) ts x a ha (by omega) a 0 (-1) 0 (n+94) (by omega) (by omega);rw[AO rfl,AP Tryz.func83 b83 rfl (by simp[AB])];simp only[bz,bg,bh,bx]at q;simp[c83,AJ,q,FG]
def PT(ts:List AF)(k:Nat)(t:AF):Bool:=!((decide (0<=FG AF.c ts k t.c) != decide (t.k=2))||(decide (0<=FG AF.t ts k t.t) != decide (t.k=2)))
def LG(ts:List AF):Nat->List AF->Bool
 |_,[]=>true
 |k,t::r=>PT ts k t&&LG ts (k+1) r
theorem l58(n:Nat)(ts:List AF)(hlen:ts.length<=90):∀(d k:Nat) (c m:Nat),k+d=ts.length->d<m ->
  BN (AH cx ann kn (n+150) 45) gH (some ([0,3],[])) m ⟨c,[(0,true,.list false (ts.map AB)),(3,true,i k)],⟨[],[]⟩⟩ =
  bif LG ts k (ts.drop k) then some (.exit 0,⟨c,[(10,true,.bool false),(9,true,i ts.length),(8,true,.list false (ts.map AB)),(7,true,i ts.length),(0,true,.list false (ts.map AB)),(3,true,i ts.length)],⟨[],[]⟩⟩)
  else some (.ret,⟨c,[(2,true,.bool false)],⟨[],[]⟩⟩)
 |0,k,c,m+1,hd,hm=>by
  have:k=ts.length:=by omega
  subst this;simp[AD,LG]
 |d+1,k,c,m+1,hd,hm=>by
  have hk:k<ts.length:=by omega
  have hw:IntKind.i64.wrap ((k:Int)+1)=(k:Int)+1:=AU (by omega) (by omega);have ih:=l58 n ts hlen d (k+1) c m (by omega) (by omega);have q1:=fun n=>k63 n ts ts[k].c k (by omega) hlen;have q2:=fun n=>k64 n ts ts[k].t k (by omega) hlen;rw[AD,bq hk];simp only[LG,PT,AB]at ih|-;generalize e1:decide (0<=FG AF.c ts k ts[k].c)=b1;generalize e2:decide (0<=FG AF.t ts k ts[k].t)=b2;generalize e3:decide (ts[k].k=2)=b3;try simp at ih
  have hcl:(ts.map AB).all (fun e=>e.all (AK 8))=true:=by simp[AB]
  simp[hk,hw,AB,q1,q2,e1,e2,e3,ih];cases b1<;>cases b3<;>cases b2<;>simp[ih,hw]
def IZ(ts:List AF):Bool:=LG ts 0 ts
theorem k58(n:Nat)(ts:List AF)(hlen:ts.length<=90):AW cx kn (AH cx ann kn (n+200)) 81 [.list false (ts.map AB)]=some (.bool (IZ ts)):=by have q:=l58 (n+45) ts hlen ts.length 0 0 (n+195) (by omega) (by omega);rw[AO rfl,AP Tryz.func81 b81 rfl (by simp[AB])];simp only[bz,bg,bh,bx]at q;unfold IZ;cases h:LG ts 0 ts<;>(rw[h]at q;simp at q;simp[c81,AJ,q])
def GN(coin:Int):Int->List AF->Int
 |v,[]=>v
 |v,t::r=>GN coin (if t.k=1 then v+coin else v-coin) r
def JP(b:A5)(ts:List AF)(a:Nat):Int:=GN b.coin b.box (ts.take a)
theorem l44(n:Nat)(b:A5)(hc1:1<=b.coin)(hc2:b.coin<=99)(ts:List AF)(a:Nat)(ha:a<=ts.length)(hlen:ts.length<=90):∀(d k:Nat) (v:Int) (c m:Nat),k+d=a->d<m->-(1000+100*(k:Int))<=v->v<=1000+100*(k:Int) ->
  ∃_:Fr,BN (AH cx ann kn (n+50) 31) W2 (some ([1,2,3,7,8],[3])) m ⟨c,[(1,true,.list false (ts.map AB)),(2,true,i a),(3,true,.ptr 0 3 0 0),(7,true,i v),(8,true,i k)],⟨[],[(3,0,.box (AE b))]⟩⟩ =
  some (.exit 0,⟨c,[(13,true,.bool false),(12,true,i a),(11,true,i a),(1,true,.list false (ts.map AB)),(2,true,i a),(3,true,.ptr 0 3 0 0),(7,true,i (GN b.coin v ((ts.take a).drop k))),(8,true,i a)],⟨[],[(3,0,.box (AE b))]⟩⟩)
 |0,k,v,c,m+1,hd,hm,hv1,hv2=>by
  have:k=a:=by omega
  subst this;exact⟨[],by simp[AD,GN,AE]⟩
 |d+1,k,v,c,m+1,hd,hm,hv1,hv2=>by
  have hk:k<ts.length:=by omega
  have hka:k<a:=by omega
  have hw:IntKind.i64.wrap ((k:Int)+1)=(k:Int)+1:=AU (by omega) (by omega);have hw2:IntKind.i64.wrap (v+b.coin)=v+b.coin:=AU (by omega) (by omega);have hw3:IntKind.i64.wrap (v-b.coin)=v-b.coin:=AU (by omega) (by omega);refine⟨[],?_⟩;rw[AD,KM hka ha];by_cases e1:ts[k].k=1
  ·obtain⟨_,ih⟩:=l44 n b hc1 hc2 ts a ha hlen d (k+1) (v+b.coin) c m (by omega) (by omega) (by omega) (by omega);simp only[GN,AE,e1,if_true]at ih|-;try simp at ih
   simp[hk,hka,hw,hw2,AB,e1,ih]
  ·obtain⟨_,ih⟩:=l44 n b hc1 hc2 ts a ha hlen d (k+1) (v-b.coin) c m (by omega) (by omega) (by omega) (by omega);have e2:decide (ts[k].k=1)=false:=by simpa using e1
   simp only[GN,AE,e1,if_false]at ih|-;try simp at ih
   simp[hk,hka,hw,hw3,AB,e2,ih]
theorem k44(n:Nat)(b:A5)(hc1:1<=b.coin)(hc2:b.coin<=99)(hx1:0<=b.box)(hx2:b.box<=999)(ts:List AF)(a:Nat)(ha:a<=ts.length)(hlen:ts.length<=90):AW cx kn (AH cx ann kn (n+100)) 124 [.agg (AE b),.list false (ts.map AB),i a]=some (i (JP b ts a)):=by obtain⟨_,q⟩:=l44 (n+44) b hc1 hc2 ts a ha hlen a 0 b.box 1 (n+94) (by omega) (by omega) (by omega) (by omega);rw[AO rfl,AP Tryz.func124 BEV rfl (by simp[AB,AE,AM])];simp only[AE,bz,bg,bh,bx]at q|-;simp[A3Z,AJ,q,JP]
def XL(C:Int)(l t:AF):Bool:=D7 t.k 1 2&&(D7 t.c 0 (C-1)&&(D7 t.t 0 (C-1)&&PS l t))
def NK(C:Int):List AF->List AF->Bool
 |l::ls,t::ts=>XL C l t&&NK C ls ts
 |_,_=>true
def K4(b:A5)(ts:List AF):Bool:=decide (ts.length=b.lines.length)&&NK b.chairs b.lines ts
def uV(ts:List AF)(k:Nat)(t:AF):Bool:=decide (t.k=2)&&!decide (FG AF.c ts k t.c=FG AF.t ts k t.t)
def pQ(ts:List AF):Nat->Int->List AF->Int
 |_,v,[]=>v
 |k,v,t::r=>pQ ts (k+1) (if uV ts k t=true then v+1 else v) r
def A90(ts:List AF):Int:=pQ ts 0 0 ts
def LH(b:A5)(ts:List AF)(x:FK):Bool:=D7 (JP b ts x.a.toNat) x.lo x.hi
theorem l89(n:Nat)(b:A5)(hc1:1<=b.coin)(hc2:b.coin<=99)(hx1:0<=b.box)(hx2:b.box<=999)(ts:List AF)(hlen:ts.length<=90)(hcs:∀x∈b.counts,0<=x.a/\x.a<=ts.length)(hcl:b.counts.length<=4):∀(d k:Nat) (c m:Nat),k+d=b.counts.length->d<m->1<=c ->
  ∃c':Nat,BN (AH cx ann kn (n+150) 32) gK (some ([1,2,5],[2])) m ⟨c,[(1,true,.list false (ts.map AB)),(2,true,.ptr 0 2 0 0),(5,true,i k)],⟨[],[(2,0,.box (AE b))]⟩⟩ =
  bif (b.counts.drop k).all (LH b ts) then some (.exit 0,⟨c',[(11,true,.bool false),(10,true,i b.counts.length),(9,true,.list false (b.counts.map AM)),(8,true,.ptr 0 2 0 4),(7,true,i b.counts.length),(1,true,.list false (ts.map AB)),(2,true,.ptr 0 2 0 0),(5,true,i b.counts.length)],⟨[],[(2,0,.box (AE b))]⟩⟩)
  else some (.ret,⟨c',[(4,true,.bool false)],⟨[],[]⟩⟩)
 |0,k,c,m+1,hd,hm,hc=>by
  have:k=b.counts.length:=by omega
  subst this;exact⟨c,by simp[AD,AE]⟩
 |d+1,k,c,m+1,hd,hm,hc=>by
  have hk:k<b.counts.length:=by omega
  have hw:IntKind.i64.wrap ((k:Int)+1)=(k:Int)+1:=AU (by omega) (by omega);obtain⟨c',ih⟩:=l89 n b hc1 hc2 hx1 hx2 ts hlen hcs hcl d (k+1) (c+1) m (by omega) (by omega) (by omega);have hx:=hcs _ (List.getElem_mem hk);have q:=fun n=>k44 n b hc1 hc2 hx1 hx2 ts b.counts[k].a.toNat (by omega) hlen;have ea:((b.counts[k].a.toNat:Nat):Int)=b.counts[k].a:=by omega
  rw[AD,bq hk,List.all_cons];rw[ea]at q;simp only[LH,AE,AB]at ih q|-;generalize e1:D7 (JP b ts b.counts[k].a.toNat) b.counts[k].lo b.counts[k].hi=b1;try simp at ih
  cases b1
  ·refine⟨c+1,?_⟩;simp[hk,hw,AM,AB,q,e1]
  ·refine⟨c',?_⟩;simp[hk,hw,AM,AB,q,e1,ih]
theorem k89(n:Nat)(b:A5)(hc1:1<=b.coin)(hc2:b.coin<=99)(hx1:0<=b.box)(hx2:b.box<=999)(ts:List AF)(hlen:ts.length<=90)(hcs:∀x∈b.counts,0<=x.a/\x.a<=ts.length)(hcl:b.counts.length<=4):AW cx kn (AH cx ann kn (n+200)) 82 [.agg (AE b),.list false (ts.map AB)]=some (.bool (b.counts.all (LH b ts))):=by obtain⟨c',q⟩:=l89 (n+45) b hc1 hc2 hx1 hx2 ts hlen hcs hcl b.counts.length 0 1 (n+195) (by omega) (by omega) (by omega);rw[AO rfl,AP Tryz.func82 b82 rfl (by simp[AB,AE,AM])];simp only[AE,bz,bg,bh,bx]at q|-;cases h:b.counts.all (LH b ts)<;>(rw[h]at q;simp at q;simp[c82,AJ,q])
def QU(b:A5)(ts:List AF):Bool:=K4 b ts&&(IZ ts&&b.counts.all (LH b ts))
def A91:Bool:=[1,2,3,4].all fun C:Int=>[0,1,2].all fun k:Int=>[-1,0,1,2,3].all fun c:Int=>[-1,0,1,2,3].all fun t:Int=>
 !(CJ C ⟨k,c,t⟩)||((A7 C ⟨k,c,t⟩).length==(readingsP C ⟨k,c,t⟩).length)
theorem uW:A91=true:=by decide +kernel
theorem ABL{x:Int}(h:-1<=x)(h2:x<=3):x∈([-1,0,1,2,3]:List Int):=by
 have:x = -1\/x=0\/x=1\/x=2\/x=3:=by omega
 rcases this with rfl|rfl|rfl|rfl|rfl<;>decide
theorem AWN{x:Int}(h:1<=x)(h2:x<=4):x∈([1,2,3,4]:List Int):=by
 have:x=1\/x=2\/x=3\/x=4:=by omega
 rcases this with rfl|rfl|rfl|rfl<;>decide
theorem AWO{x:Int}(h:0<=x)(h2:x<=2):x∈([0,1,2]:List Int):=by
 have:x=0\/x=1\/x=2:=by omega
 rcases this with rfl|rfl|rfl<;>decide
theorem AWP{C:Int}(h1:1<=C)(h4:C<=4){l:AF}(h:CJ C l=true):(A7 C l).length=(readingsP C l).length:=by obtain⟨k,c,t⟩:=l;obtain⟨v1,v2,v3⟩:=MB h;simp only at v1 v2 v3;have q:=bw.1 (bw.1 (bw.1 (bw.1 uW C (AWN h1 h4)) k (AWO v1.1 v1.2)) c (ABL v2.1 (by omega))) t (ABL v3.1 (by omega));rw[h]at q;simpa using q
theorem xW{C:Int}(h1:1<=C)(h4:C<=4):∀(ls:List AF) (v w:Int),(∀l∈ls,CJ C l=true)->0<=v->v<=5000->(v<=4096->w=v)->(4096<v->4096<w/\w<=4097)->(4096<CS C v ls↔4096<MA C w ls)/\(CS C v ls<=4096->MA C w ls=CS C v ls)
 |[],v,w,_,_,_,h3,h5=>by simp only[CS,MA,List.foldl_nil];omega
 |l::ls,v,w,hl,h0,h0',h3,h5=>by
  have e:=AWP h1 h4 (hl l (by simp));have hr:=NI C l h4;have hq:=U2 h0 h0' hr;simp only[CS,MA,List.foldl_cons];rw[<-e];have:=xW h1 h4 ls (KL (v*((A7 C l).length:Int))) (U3 (w*((A7 C l).length:Int))) (fun x hx=>hl x (by simp[hx])) (by unfold KL;split<;>omega) (by unfold KL;split<;>omega) ?_ ?_
  ·exact this
  ·intro h;by_cases hv:v<=4096
   ·rw[h3 hv];unfold KL U3 at *;split at h<;>split<;>omega
   ·obtain⟨w1,w2⟩:=h5 (by omega);rcases bt (A7 C l).length with hz|hz
    ·rw[hz];simp[KL,U3]
    ·have g1:v*1<=v*((A7 C l).length:Int):=bc (by omega) (by omega);unfold KL at h;split at h<;>omega
  ·intro h;by_cases hv:v<=4096
   ·rw[h3 hv];unfold KL U3 at *;split at h<;>split<;>omega
   ·obtain⟨w1,w2⟩:=h5 (by omega);rcases bt (A7 C l).length with hz|hz
    ·rw[hz]at h;simp[KL]at h
    ·have g1:w*1<=w*((A7 C l).length:Int):=bc (by omega) (by omega);unfold U3;split<;>omega
theorem O8(b:A5):E4 b=DC b:=by
 unfold E4 DC;split
 ·rfl
 ·split
  ·rfl
  ·rename_i h2;split
   ·rfl
   ·rename_i h3;split
    ·rfl
    ·simp[D7]at h2;simp only[Bool.not_eq_false]at h3;have:=(xW (C:=b.chairs) (by omega) (by omega) b.lines 1 1 (fun l hl=>bw.1 h3 l hl) (by omega) (by omega) (by omega) (by omega)).1;simp only[this]
theorem xX{a x:Int}:∀{d:Nat},x∈rng a d↔a<=x/\x<a+d
 |0=>by simp only[rng,List.not_mem_nil,false_iff];omega
 |d+1=>by have:=xX (a:=a+1) (x:=x) (d:=d);simp only[rng,List.mem_cons,this];omega
theorem aX{sg no a b x:Int}(h:a<=b+1):x∈F9 sg no a b↔(sg=no/\a<=x/\x<=b)\/(sg≠no/\x=sg):=by
 unfold F9;split
 ·rename_i e;rw[xX];simp only[e,true_and,ne_eq,not_true_eq_false,false_and,or_false];omega
 ·rename_i e;simp[e]
theorem cT{C:Int}{l x:AF}:x∈readingsP C l↔x.k∈F9 l.k 0 1 2/\x.c∈F9 l.c (-1) 0 (C-1)/\x.t∈F9 l.t (-1) 0 (C-1):=by refine⟨QT,fun ⟨h1,h2,h3⟩=>?_⟩;unfold readingsP rd1 rd2 rd3;simp only[List.mem_flatMap,List.mem_map];exact⟨_,h1,_,h2,_,h3,rfl⟩
theorem XM{l x:AF}:eqL l x=true↔l=x:=by obtain⟨a,b,c⟩:=l;obtain⟨d,e,f⟩:=x;simp[eqL]
theorem fH{C:Int}(h1:1<=C){l:AF}(h:CJ C l=true)(x:AF):H1 C l x=XL C l x:=by
 obtain⟨v1,v2,v3⟩:=MB h;have e1:H1 C l x=true↔x∈readingsP C l:=by
  unfold H1;rw[List.any_eq_true];constructor
  ·rintro ⟨y,hy,he⟩;rw[XM]at he;rw[he];exact hy
  ·intro hx;exact⟨x,hx,XM.2 rfl⟩
 rw[Bool.eq_iff_iff,e1,cT,aX (by omega),aX (by omega),aX (by omega)];simp only[XL,D7,PS,bn,Bool.or_eq_true,decide_eq_true_eq];omega
theorem aY(sel:AF->Int)(x:Int)(t:AF):∀(l:List AF) (k:Nat) (v:Int),JD sel x k v (l++[t])=if sel t=x then(if t.k=1 then((k+l.length:Nat):Int) else -1) else JD sel x k v l
 |[],k,v=>by simp[JD]
 |a::l,k,v=>by
  simp only[List.cons_append,JD,aY sel x t l,List.length_cons];have:k+1+l.length=k+(l.length+1):=by omega
  rw[this]
theorem fI{α:Type}{l:List α}{k:Nat}(h:k<l.length):l.take (k+1)=l.take k++[l[k]]:=by rw[List.take_succ_eq_append_getElem h]
theorem MC(sel:AF->Int)(ts:List AF)(k:Nat)(h:k<ts.length)(x:Int):FG sel ts (k+1) x=if sel ts[k]=x then(if ts[k].k=1 then(k:Int) else -1) else FG sel ts k x:=by unfold FG;rw[fI h,aY];simp[Nat.min_eq_left (Nat.le_of_lt h)]
theorem TK(coin:Int)(t:AF):∀(l:List AF) (v:Int),GN coin v (l++[t])=if t.k=1 then GN coin v l+coin else GN coin v l-coin
 |[],v=>by simp[GN]
 |a::l,v=>by simp only[List.cons_append,GN,TK coin t l]
theorem V1(b:A5)(ts:List AF)(k:Nat)(h:k<ts.length):JP b ts (k+1)=if ts[k].k=1 then JP b ts k+b.coin else JP b ts k-b.coin:=by unfold JP;rw[fI h,TK]
structure FC(b:A5)(ts:List AF)(k:Nat)(s:AY):Prop where
 ok:s.ok
 ch:∀j:Nat,j<4->s.ch.getD j 0=FG AF.c ts k j+1
 tk:∀j:Nat,j<4->s.tk.getD j 0=FG AF.t ts k j+1
 money:s.money=JP b ts k
theorem jS(sel:AF->Int)(ts:List AF)(x:Int):∀(k:Nat),k<=ts.length->-1<=FG sel ts k x
 |0,_=>by simp[FG,JD]
 |k+1,h=>by
  rw[MC sel ts k (by omega)];have:=jS sel ts x k (by omega);split
  ·split<;>omega
  ·exact this
theorem ABM{b:A5}{ts:List AF}{k:Nat}{s:AY}(h:FC b ts k s)(hk:k<ts.length)(hk1:1<=ts[k].k/\ts[k].k<=2)(hc:0<=ts[k].c/\ts[k].c<4)(ht:0<=ts[k].t/\ts[k].t<4) :
  (CA b.coin s k ts[k]).2=PT ts k ts[k]/\(PT ts k ts[k]=true->FC b ts (k+1) (CA b.coin s k ts[k]).1/\(CA b.coin s k ts[k]).1.mixed=if uV ts k ts[k]=true then s.mixed+1 else s.mixed):=by
 have hcn:((ts[k].c.toNat:Nat):Int)=ts[k].c:=by omega
 have htn:((ts[k].t.toNat:Nat):Int)=ts[k].t:=by omega
 have g1:=h.ch ts[k].c.toNat (by omega)
 have g2:=h.tk ts[k].t.toNat (by omega)
 rw[hcn]at g1
 rw[htn]at g2
 have b1:=jS AF.c ts ts[k].c k (by omega)
 have b2:=jS AF.t ts ts[k].t k (by omega)
 have d1:decide (s.ch.getD ts[k].c.toNat 0=0)=!decide (0<=FG AF.c ts k ts[k].c):=JZ (by rw[g1];omega)
 have d2:decide (s.tk.getD ts[k].t.toNat 0=0)=!decide (0<=FG AF.t ts k ts[k].t):=JZ (by rw[g2];omega)
 have d3:decide (s.ch.getD ts[k].c.toNat 0=s.tk.getD ts[k].t.toNat 0)=decide (FG AF.c ts k ts[k].c=FG AF.t ts k ts[k].t):=by rw[g1,g2];congr 1;apply propext;omega
 have hset:∀(l:List Int) (n:Nat) (v:Int) (j:Nat),l.length=4->j<4->(l.set n v).getD j 0=if n=j then v else l.getD j 0:=by
  intro l n v j hl hj;simp only[List.getD_eq_getElem?_getD,List.getElem?_set,hl];split
  ·rename_i e;subst e;simp[hj]
  ·rfl
 unfold CA PT uV
 simp only[d1,d2,d3,Bool.not_not]
 by_cases h2:ts[k].k=2
 ·have hp:¬ts[k].k=1:=by omega
  simp only[h2,decide_true,bp,if_true];cases e:((decide (0<=FG AF.c ts k ts[k].c) != true)||(decide (0<=FG AF.t ts k ts[k].t) != true))with
  |true=>simp
  |false=>
   refine⟨by simp,fun _=>⟨⟨⟨by simp[h.ok.ch],by simp[h.ok.tk]⟩,fun j hj=>?_,fun j hj=>?_,?_⟩,?_⟩⟩
   ·simp only[bj,if_false];rw[hset _ _ _ _ h.ok.ch hj,MC _ _ _ hk,h.ch j hj];by_cases ej:ts[k].c.toNat=j
    ·have:ts[k].c=(j:Int):=by omega
     simp[ej,this,h2]
    ·have:¬ts[k].c=(j:Int):=by omega
     simp[ej,this]
   ·simp only[bj,if_false];rw[hset _ _ _ _ h.ok.tk hj,MC _ _ _ hk,h.tk j hj];by_cases ej:ts[k].t.toNat=j
    ·have:ts[k].t=(j:Int):=by omega
     simp[ej,this,h2]
    ·have:¬ts[k].t=(j:Int):=by omega
     simp[ej,this]
   ·simp only[bj,if_false];rw[V1 b ts k hk,if_neg hp,h.money]
   ·simp only[bj,if_false];cases decide (FG AF.c ts k ts[k].c=FG AF.t ts k ts[k].t)<;>simp
 ·have hp:ts[k].k=1:=by omega
  have hd:decide (ts[k].k=2)=false:=by simpa using h2
  simp only[hd,Bool.false_and,bj,if_false];cases e:((decide (0<=FG AF.c ts k ts[k].c) != false)||(decide (0<=FG AF.t ts k ts[k].t) != false))with
  |true=>simp
  |false=>
   refine⟨by simp,fun _=>⟨⟨⟨by simp[h.ok.ch],by simp[h.ok.tk]⟩,fun j hj=>?_,fun j hj=>?_,?_⟩,?_⟩⟩
   ·simp only[bj,if_false];rw[hset _ _ _ _ h.ok.ch hj,MC _ _ _ hk,h.ch j hj];by_cases ej:ts[k].c.toNat=j
    ·have:ts[k].c=(j:Int):=by omega
     simp[ej,this,hp]
    ·have:¬ts[k].c=(j:Int):=by omega
     simp[ej,this]
   ·simp only[bj,if_false];rw[hset _ _ _ _ h.ok.tk hj,MC _ _ _ hk,h.tk j hj];by_cases ej:ts[k].t.toNat=j
    ·have:ts[k].t=(j:Int):=by omega
     simp[ej,this,hp]
    ·have:¬ts[k].t=(j:Int):=by omega
     simp[ej,this]
   ·simp only[bj,if_false];rw[V1 b ts k hk,if_pos hp,h.money]
   ·simp
theorem aZ(b:A5)(ts:List AF):FC b ts 0 (BQ b):=by
 refine⟨GJ b,fun j hj=>?_,fun j hj=>?_,?_⟩
 ·have:j=0\/j=1\/j=2\/j=3:=by omega
  rcases this with rfl|rfl|rfl|rfl<;>simp[BQ,FG,JD]
 ·have:j=0\/j=1\/j=2\/j=3:=by omega
  rcases this with rfl|rfl|rfl|rfl<;>simp[BQ,FG,JD]
 ·simp[BQ,JP,GN]
theorem xY{b:A5}{ts:List AF}(h1:1<=b.chairs)(h4:b.chairs<=4)(hok:b.lines.all (CJ b.chairs)=true)(hlen:ts.length=b.lines.length):∀(d k:Nat) (s:AY),k+d=ts.length->FC b ts k s ->
  ((NK b.chairs (b.lines.drop k) (ts.drop k)&&LG ts k (ts.drop k))=false->DI b k s (b.lines.drop k) (ts.drop k)=none) /\
  ((NK b.chairs (b.lines.drop k) (ts.drop k)&&LG ts k (ts.drop k))=true->∃L,DI b k s (b.lines.drop k) (ts.drop k)=some L/\L.map AY.money=(ck (k+1) d).map (JP b ts)/\TJ s.mixed L=pQ ts k s.mixed (ts.drop k))
 |0,k,s,hd,hs=>by
  have:k=ts.length:=by omega
  subst this;have e:b.lines.drop ts.length=[]:=by rw[hlen];simp
  simp only[e,List.drop_length];refine⟨fun h=>by simp[NK,LG]at h,fun _=>⟨[],rfl,rfl,by simp[TJ,pQ]⟩⟩
 |d+1,k,s,hd,hs=>by
  have hk:k<ts.length:=by omega
  have hk2:k<b.lines.length:=by omega
  have hlk:=bw.1 hok _ (List.getElem_mem hk2);rw[bq hk,bq hk2];simp only[NK,LG,DI,pQ];have ha:=fH h1 hlk ts[k];cases hr:XL b.chairs b.lines[k] ts[k]with
  |false=>
   rw[hr]at ha
   simp[ha]
  |true=>
   rw[hr]at ha
   obtain⟨r1,r2,r3⟩:=aW h4 hlk ha
   obtain⟨n1,n2⟩:=ABM hs hk r1 (by omega) (by omega)
   cases hp:PT ts k ts[k]with
   |false=>
    rw[hp]at n1
    simp[ha,n1]
   |true=>
    rw[hp]at n1
    obtain⟨m1,m2⟩:=n2 hp
    have hcx:((k:Nat):Int)=(k:Int):=rfl
    obtain⟨i1,i2⟩:=xY h1 h4 hok hlen d (k+1) _ (by omega) m1
    simp only[bp,ha,n1,if_true]
    refine⟨fun h=>?_,fun h=>?_⟩
    ·rw[i1 h];rfl
    ·obtain⟨L,q1,q2,q3⟩:=i2 h;refine⟨_,by rw[q1];rfl,?_,?_⟩
     ·rw[bf,q2,m1.money,br];rfl
     ·have:TJ s.mixed ((CA b.coin s k ts[k]).1::L)=TJ (CA b.coin s k ts[k]).1.mixed L:=by simp only[TJ,bf,cj,Option.getD_some]
      rw[this,q3,m2]
theorem pR{b:A5}{ts:List AF}(hf:DC b=0) :
  ((K4 b ts&&IZ ts)=false->F2 b ts=none) /\
  ((K4 b ts&&IZ ts)=true->∃L,F2 b ts=some L/\L.map AY.money=(ck 0 (ts.length+1)).map (JP b ts)/\TJ 0 L=A90 ts):=by
 obtain⟨h1,h4,_,_,_,_,_,_,hok,_,_⟩:=F8 hf
 unfold F2 K4 IZ A90
 by_cases hlen:ts.length=b.lines.length
 ·obtain⟨i1,i2⟩:=xY h1 h4 hok hlen ts.length 0 (BQ b) (by omega) (aZ b ts);simp only[bz]at i1 i2;simp only[hlen,decide_true,bp,if_true];refine⟨fun h=>by rw[i1 h];rfl,fun h=>?_⟩;obtain⟨L,q1,q2,q3⟩:=i2 h;refine⟨_,by rw[q1];rfl,?_,?_⟩
  ·rw[bf,q2,(aZ b ts).money,<-hlen,br];rfl
  ·have:TJ 0 (BQ b::L)=TJ (BQ b).mixed L:=by simp only[TJ,bf,cj,Option.getD_some]
   rw[this,q3];rfl
 ·simp[hlen]
def ABN(b:A5):Nat->Bool->List Int->Bool
 |_,v,[]=>v
 |k,v,m::r=>ABN b (k+1) (v&&b.counts.all (countOne m k)) r
theorem AH9(b:A5):∀(L:List AY) (k:Nat) (v:Bool),O7 b k v L=ABN b k v (L.map AY.money)
 |[],_,_=>rfl
 |s::L,k,v=>by simp only[O7,bf,ABN,AH9 b L]
theorem pS(b:A5)(f:Nat->Int):∀(d k:Nat) (v:Bool),ABN b k v ((ck k d).map f)=true↔v=true/\∀j,k<=j->j<k+d->b.counts.all (countOne (f j) j)=true
 |0,k,v=>by simp only[List.range'_zero,List.map_nil,ABN];exact⟨fun h=>⟨h,fun j h1 h2=>by omega⟩,fun h=>h.1⟩
 |d+1,k,v=>by
  simp only[br,bf,ABN,pS b f d,bn];refine⟨fun ⟨⟨h1,h2⟩,h3⟩=>⟨h1,fun j j1 j2=>?_⟩,fun ⟨h1,h2⟩=>⟨⟨h1,h2 k (by omega) (by omega)⟩,fun j j1 j2=>h2 j (by omega) (by omega)⟩⟩;by_cases e:j=k
  ·subst e;exact h2
  ·exact h3 j (by omega) (by omega)
theorem pT(b:A5)(ts:List AF):GA b ts=(decide (DC b=0)&&QU b ts):=by
 unfold GA;rw[O8];by_cases hf:DC b=0
 ·simp only[hf,decide_true,bp];obtain⟨i1,i2⟩:=pR (ts:=ts) hf;unfold QU;rw[<-Bool.and_assoc];cases h:(K4 b ts&&IZ ts)with
  |false=>rw[i1 h];simp
  |true=>
   obtain⟨L,q1,q2,_⟩:=i2 h
   rw[q1]
   simp only[bp]
   rw[AH9,q2,Bool.eq_iff_iff,pS]
   obtain⟨_,_,_,_,_,_,_,_,_,hcok,_⟩:=F8 hf
   have hl:ts.length=b.lines.length:=by simp only[K4,bn,decide_eq_true_eq]at h;exact h.1.1
   have hcs:∀x∈b.counts,0<=x.a/\x.a<=ts.length:=by intro x hx;have:=bw.1 hcok x hx;simp only[FL,D7,bn,decide_eq_true_eq]at this;rw[hl];exact this.1
   simp only[true_and,bw]
   refine⟨fun h x hx=>?_,fun h j _ hj x hx=>?_⟩
   ·obtain⟨a1,a2⟩:=hcs x hx;have:=h x.a.toNat (by omega) (by omega) x hx;have e:((x.a.toNat:Nat):Int)=x.a:=by omega
    rw[countOne,e]at this;simpa [LH]using this
   ·unfold countOne;by_cases e:x.a=(j:Int)
    ·have:=h x hx;unfold LH at this;rw[e]at this|-;simpa using this
    ·simp[e]
 ·simp[hf]
end Go.Proofs.Tryz.Op
