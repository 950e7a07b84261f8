/- Contracts of the reference: ChairOut, TokenOut, Money, Mixed, IsRead, IsPossible, Counted, Fits. No condition. -/
import Derived.Test.YtmnlpgjklibndaaGreatW2
open Go renaming Program->cz,Operand->cd,TypeId->cg
open Go.Proofs.Tryz renaming prog->cx
open List renaming drop_eq_getElem_cons->bj,all_eq_true->bw,drop_zero->bc,map_cons->bn,range'_succ->br,getLast?_cons->cj,range'->ck
open Bool renaming false_eq_true->bq,and_eq_true->bz,true_and->bp
open Int renaming natCast_zero->bx,mul_le_mul_of_nonneg_left->bh
open Nat renaming add_assoc->bf,reduceAdd->bg,eq_zero_or_pos->bt
set_option maxRecDepth 100000
set_option linter.unusedSimpArgs false
open Go Go.Pg Go.Proofs
namespace Go.Proofs.Tryz.Op
def HO(sel:AK->Int)(x:Int):Nat->Int->List AK->Int
 |_,v,[]=>v
 |k,v,t::ts=>HO sel x (k+1) (if sel t=x then(if t.k=1 then(k:Int) else -1) else v) ts
def EM(sel:AK->Int)(ts:List AK)(a:Nat)(x:Int):Int:=HO sel x 0 (-1) (ts.take a)
theorem I1{α:Type}{l:List α}{a k:Nat}(hk:k<a)(ha:a<=l.length):(l.take a).drop k=l[k]'(by omega)::(l.take a).drop (k+1):=by rw[bj (by simp;omega)];simp
theorem l63(n:Nat)(ts:List AK)(x:Int)(a:Nat)(ha:a<=ts.length)(hlen:ts.length<=1000):∀(d k:Nat) (v:Int) (c m:Nat),k+d=a->d<m ->
  BQ (AF cx ann kn (n+50) 29) Z9 (some ([0,1,2,7,8],[])) m ⟨c,[(0,true,.list false (ts.map AD)),(1,true,i a),(2,true,i x),(7,true,i v),(8,true,i k)],⟨[],[]⟩⟩ =
  some (.exit 0,⟨c,[(11,true,.bool false),(10,true,i a),(9,true,i a),(0,true,.list false (ts.map AD)),(1,true,i a),(2,true,i x),(7,true,i (HO AK.c x k v ((ts.take a).drop k))),(8,true,i a)],⟨[],[]⟩⟩)
 |0,k,v,c,m+1,hd,hm=>by
  have:k=a:=by omega
  subst this;simp[AE,HO]
 |d+1,k,v,c,m+1,hd,hm=>by
  have hk:k<ts.length:=by omega
  have hka:k<a:=by omega
  have hw:IntKind.i64.wrap ((k:Int)+1)=(k:Int)+1:=AW (by omega) (by omega);have ih:=l63 n ts x a ha hlen d (k+1) (if ts[k].c=x then(if ts[k].k=1 then(k:Int) else -1) else v) c m (by omega) (by omega);rw[AE,I1 hka ha];simp only[HO,AD]at ih|-;generalize e1:decide (ts[k].c=x)=b1;generalize e2:decide (ts[k].k=1)=b2;have e1':(ts[k].c=x)=(b1=true):=by rw[<-e1];simp
  have e2':(ts[k].k=1)=(b2=true):=by rw[<-e2];simp
  simp only[e1',e2']at ih|-;simp[hk,hka,hw,AD,e1];cases b1
  ·simp at ih;simp[hk,hw,AD,ih]
  ·cases b2
   ·simp at ih;simp[hk,hw,AD,e2,ih]
   ·simp at ih;simp[hk,hw,AD,e2,ih]
theorem k63(n:Nat)(ts:List AK)(x:Int)(a:Nat)(ha:a<=ts.length)(hlen:ts.length<=90):A4 cx kn (AF cx ann kn (n+100)) 84 [.list false (ts.map AD),i a,i x]=some (i (EM AK.c ts a x)):=by have q:=l63 (n+44) ts x a ha (by omega) a 0 (-1) 0 (n+94) (by omega) (by omega);rw[AP rfl,AQ Tryz.func84 b84 rfl (by simp[AD])];simp only[bc,bf,bg,bx]at q;simp[c84,AJ,q,EM]
theorem l64(n:Nat)(ts:List AK)(x:Int)(a:Nat)(ha:a<=ts.length)(hlen:ts.length<=1000):∀(d k:Nat) (v:Int) (c m:Nat),k+d=a->d<m ->
  BQ (AF cx ann kn (n+50) 29) aA (some ([0,1,2,7,8],[])) m ⟨c,[(0,true,.list false (ts.map AD)),(1,true,i a),(2,true,i x),(7,true,i v),(8,true,i k)],⟨[],[]⟩⟩ =
  some (.exit 0,⟨c,[(11,true,.bool false),(10,true,i a),(9,true,i a),(0,true,.list false (ts.map AD)),(1,true,i a),(2,true,i x),(7,true,i (HO AK.t x k v ((ts.take a).drop k))),(8,true,i a)],⟨[],[]⟩⟩)
 |0,k,v,c,m+1,hd,hm=>by
  have:k=a:=by omega
  subst this;simp[AE,HO]
 |d+1,k,v,c,m+1,hd,hm=>by
  have hk:k<ts.length:=by omega
  have hka:k<a:=by omega
  have hw:IntKind.i64.wrap ((k:Int)+1)=(k:Int)+1:=AW (by omega) (by omega);have ih:=l64 n ts x a ha hlen d (k+1) (if ts[k].t=x then(if ts[k].k=1 then(k:Int) else -1) else v) c m (by omega) (by omega);rw[AE,I1 hka ha];simp only[HO,AD]at ih|-;generalize e1:decide (ts[k].t=x)=b1;generalize e2:decide (ts[k].k=1)=b2;have e1':(ts[k].t=x)=(b1=true):=by rw[<-e1];simp
  have e2':(ts[k].k=1)=(b2=true):=by rw[<-e2];simp
  simp only[e1',e2']at ih|-;simp[hk,hka,hw,AD,e1];cases b1
  ·simp at ih;simp[hk,hw,AD,ih]
  ·cases b2
   ·simp at ih;simp[hk,hw,AD,e2,ih]
   ·simp at ih;simp[hk,hw,AD,e2,ih]
theorem k64(n:Nat)(ts:List AK)(x:Int)(a:Nat)(ha:a<=ts.length)(hlen:ts.length<=90):A4 cx kn (AF cx ann kn (n+100)) 83 [.list false (ts.map AD),i a,i x]=some (i (EM AK.t ts a x)):=by have q:=l64 (n+44) ts x a ha (by omega) a 0 (-1) 0 (n+94) (by omega) (by omega);rw[AP rfl,AQ Tryz.func83 b83 rfl (by simp[AD])];simp only[bc,bf,bg,bx]at q;simp[c83,AJ,q,EM]
def NT(ts:List AK)(k:Nat)(t:AK):Bool:=!((decide (0<=EM AK.c ts k t.c) != decide (t.k=2))||(decide (0<=EM AK.t ts k t.t) != decide (t.k=2)))
def JU(ts:List AK):Nat->List AK->Bool
 |_,[]=>true
 |k,t::r=>NT ts k t&&JU ts (k+1) r
theorem l58(n:Nat)(ts:List AK)(hlen:ts.length<=90):∀(d k:Nat) (c m:Nat),k+d=ts.length->d<m ->
  BQ (AF cx ann kn (n+150) 45) aC (some ([0,3],[])) m ⟨c,[(0,true,.list false (ts.map AD)),(3,true,i k)],⟨[],[]⟩⟩ =
  bif JU ts k (ts.drop k) then some (.exit 0,⟨c,[(10,true,.bool false),(9,true,i ts.length),(8,true,.list false (ts.map AD)),(7,true,i ts.length),(0,true,.list false (ts.map AD)),(3,true,i ts.length)],⟨[],[]⟩⟩)
  else some (.ret,⟨c,[(2,true,.bool false)],⟨[],[]⟩⟩)
 |0,k,c,m+1,hd,hm=>by
  have:k=ts.length:=by omega
  subst this;simp[AE,JU]
 |d+1,k,c,m+1,hd,hm=>by
  have hk:k<ts.length:=by omega
  have hw:IntKind.i64.wrap ((k:Int)+1)=(k:Int)+1:=AW (by omega) (by omega);have ih:=l58 n ts hlen d (k+1) c m (by omega) (by omega);have q1:=fun n=>k63 n ts ts[k].c k (by omega) hlen;have q2:=fun n=>k64 n ts ts[k].t k (by omega) hlen;rw[AE,bj hk];simp only[JU,NT,AD]at ih|-;generalize e1:decide (0<=EM AK.c ts k ts[k].c)=b1;generalize e2:decide (0<=EM AK.t ts k ts[k].t)=b2;generalize e3:decide (ts[k].k=2)=b3;try simp at ih
  have hcl:(ts.map AD).all (fun e=>e.all (AL 8))=true:=by simp[AD]
  simp[hk,hw,AD,q1,q2,e1,e2,e3,ih];cases b1<;>cases b3<;>cases b2<;>simp[ih,hw]
def HH(ts:List AK):Bool:=JU ts 0 ts
theorem k58(n:Nat)(ts:List AK)(hlen:ts.length<=90):A4 cx kn (AF cx ann kn (n+200)) 81 [.list false (ts.map AD)]=some (.bool (HH ts)):=by have q:=l58 (n+45) ts hlen ts.length 0 0 (n+195) (by omega) (by omega);rw[AP rfl,AQ Tryz.func81 b81 rfl (by simp[AD])];simp only[bc,bf,bg,bx]at q;unfold HH;cases h:JU ts 0 ts<;>(rw[h]at q;simp at q;simp[c81,AJ,q])
def FJ(coin:Int):Int->List AK->Int
 |v,[]=>v
 |v,t::r=>FJ coin (if t.k=1 then v+coin else v-coin) r
def HY(b:A5)(ts:List AK)(a:Nat):Int:=FJ b.coin b.box (ts.take a)
theorem l44(n:Nat)(b:A5)(hc1:1<=b.coin)(hc2:b.coin<=99)(ts:List AK)(a:Nat)(ha:a<=ts.length)(hlen:ts.length<=90):∀(d k:Nat) (v:Int) (c m:Nat),k+d=a->d<m->-(1000+100*(k:Int))<=v->v<=1000+100*(k:Int) ->
  ∃_:Fr,BQ (AF cx ann kn (n+50) 31) TX (some ([1,2,3,7,8],[3])) m ⟨c,[(1,true,.list false (ts.map AD)),(2,true,i a),(3,true,.ptr 0 3 0 0),(7,true,i v),(8,true,i k)],⟨[],[(3,0,.box (AC b))]⟩⟩ =
  some (.exit 0,⟨c,[(13,true,.bool false),(12,true,i a),(11,true,i a),(1,true,.list false (ts.map AD)),(2,true,i a),(3,true,.ptr 0 3 0 0),(7,true,i (FJ b.coin v ((ts.take a).drop k))),(8,true,i a)],⟨[],[(3,0,.box (AC b))]⟩⟩)
 |0,k,v,c,m+1,hd,hm,hv1,hv2=>by
  have:k=a:=by omega
  subst this;exact⟨[],by simp[AE,FJ,AC]⟩
 |d+1,k,v,c,m+1,hd,hm,hv1,hv2=>by
  have hk:k<ts.length:=by omega
  have hka:k<a:=by omega
  have hw:IntKind.i64.wrap ((k:Int)+1)=(k:Int)+1:=AW (by omega) (by omega);have hw2:IntKind.i64.wrap (v+b.coin)=v+b.coin:=AW (by omega) (by omega);have hw3:IntKind.i64.wrap (v-b.coin)=v-b.coin:=AW (by omega) (by omega);refine⟨[],?_⟩;rw[AE,I1 hka ha];by_cases e1:ts[k].k=1
  ·obtain⟨_,ih⟩:=l44 n b hc1 hc2 ts a ha hlen d (k+1) (v+b.coin) c m (by omega) (by omega) (by omega) (by omega);simp only[FJ,AC,e1,if_true]at ih|-;try simp at ih
   simp[hk,hka,hw,hw2,AD,e1,ih]
  ·obtain⟨_,ih⟩:=l44 n b hc1 hc2 ts a ha hlen d (k+1) (v-b.coin) c m (by omega) (by omega) (by omega) (by omega);have e2:decide (ts[k].k=1)=false:=by simpa using e1
   simp only[FJ,AC,e1,if_false]at ih|-;try simp at ih
   simp[hk,hka,hw,hw3,AD,e2,ih]
theorem k44(n:Nat)(b:A5)(hc1:1<=b.coin)(hc2:b.coin<=99)(hx1:0<=b.box)(hx2:b.box<=999)(ts:List AK)(a:Nat)(ha:a<=ts.length)(hlen:ts.length<=90):A4 cx kn (AF cx ann kn (n+100)) 124 [.agg (AC b),.list false (ts.map AD),i a]=some (i (HY b ts a)):=by obtain⟨_,q⟩:=l44 (n+44) b hc1 hc2 ts a ha hlen a 0 b.box 1 (n+94) (by omega) (by omega) (by omega) (by omega);rw[AP rfl,AQ Tryz.func124 A4F rfl (by simp[AD,AC,AN])];simp only[AC,bc,bf,bg,bx]at q|-;simp[AUB,AJ,q,HY]
theorem W3{P:cz}{E:XE}{st:XS}(d:Option Tmp)(k:IK):QV P E d k st true (some (true,.bool true))=B9 P E d k st:=rfl
theorem W4{P:cz}{E:XE}{st:XS}(d:Option Tmp)(k:IK):QV P E d k st false (some (true,.bool false))=B9 P E d k st:=rfl
theorem M5{P:cz}{E:XE}{st:XS}(d:Option Tmp)(x:cd):QV P E d (.mv x) st true (some (true,.bool false))=some (CD d st,[]):=rfl
theorem M6{P:cz}{E:XE}{st:XS}(d:Option Tmp)(x:cd):QV P E d (.mv x) st false (some (true,.bool true))=some (CD d st,[]):=rfl
theorem M7{P:cz}{E:XE}{st:XS}(d:Option Tmp)(x:cd)(w b:Bool):QV P E d (.mv x) st w (some (false,.bool b))=some (CD d st,[]):=rfl
theorem KA{P:cz}{E:XE}{st:XS}(d:Option Tmp)(op:BinOp)(T:cg)(x y:cd):QV P E d (.bin op T x y) st true (some (true,.bool false))=some (CD d st,[]):=rfl
theorem KB{P:cz}{E:XE}{st:XS}(d:Option Tmp)(op:BinOp)(T:cg)(x y:cd):QV P E d (.bin op T x y) st false (some (true,.bool true))=some (CD d st,[]):=rfl
theorem KC{P:cz}{E:XE}{st:XS}(d:Option Tmp)(op:BinOp)(T:cg)(x y:cd)(w b:Bool):QV P E d (.bin op T x y) st w (some (false,.bool b))=some (CD d st,[]):=rfl
theorem M8{P:cz}{E:XE}{st:XS}(d:Option Tmp)(T:cg)(x:cd)(f:Nat):QV P E d (.fa T x f) st true (some (true,.bool false))=some (CD d st,[]):=rfl
theorem M9{P:cz}{E:XE}{st:XS}(d:Option Tmp)(T:cg)(x:cd)(f:Nat):QV P E d (.fa T x f) st false (some (true,.bool true))=some (CD d st,[]):=rfl
theorem NA{P:cz}{E:XE}{st:XS}(d:Option Tmp)(T:cg)(x:cd)(f:Nat)(w b:Bool):QV P E d (.fa T x f) st w (some (false,.bool b))=some (CD d st,[]):=rfl
theorem NB{P:cz}{E:XE}{st:XS}(d:Option Tmp)(T:cg)(x:cd):QV P E d (.ld T x) st true (some (true,.bool false))=some (CD d st,[]):=rfl
theorem NC{P:cz}{E:XE}{st:XS}(d:Option Tmp)(T:cg)(x:cd):QV P E d (.ld T x) st false (some (true,.bool true))=some (CD d st,[]):=rfl
theorem ND{P:cz}{E:XE}{st:XS}(d:Option Tmp)(T:cg)(x:cd)(w b:Bool):QV P E d (.ld T x) st w (some (false,.bool b))=some (CD d st,[]):=rfl
theorem I2{P:cz}{E:XE}{st:XS}(d:Option Tmp)(x y z:cd):QV P E d (.pick x y z) st true (some (true,.bool false))=some (CD d st,[]):=rfl
theorem I3{P:cz}{E:XE}{st:XS}(d:Option Tmp)(x y z:cd):QV P E d (.pick x y z) st false (some (true,.bool true))=some (CD d st,[]):=rfl
theorem I4{P:cz}{E:XE}{st:XS}(d:Option Tmp)(x y z:cd)(w b:Bool):QV P E d (.pick x y z) st w (some (false,.bool b))=some (CD d st,[]):=rfl
theorem HP{P:cz}{E:XE}{st:XS}(d:Option Tmp)(T:cg)(ps:List (Nat×cd)):QV P E d (.build T ps) st true (some (true,.bool false))=some (CD d st,[]):=rfl
theorem HQ{P:cz}{E:XE}{st:XS}(d:Option Tmp)(T:cg)(ps:List (Nat×cd)):QV P E d (.build T ps) st false (some (true,.bool true))=some (CD d st,[]):=rfl
theorem HR{P:cz}{E:XE}{st:XS}(d:Option Tmp)(T:cg)(ps:List (Nat×cd))(w b:Bool):QV P E d (.build T ps) st w (some (false,.bool b))=some (CD d st,[]):=rfl
theorem KD{P:cz}{E:XE}{st:XS}(d:Option Tmp)(op:Op):QV P E d (.oth op) st true (some (true,.bool false))=some (CD d st,[]):=rfl
theorem KE{P:cz}{E:XE}{st:XS}(d:Option Tmp)(op:Op):QV P E d (.oth op) st false (some (true,.bool true))=some (CD d st,[]):=rfl
theorem KF{P:cz}{E:XE}{st:XS}(d:Option Tmp)(op:Op)(w b:Bool):QV P E d (.oth op) st w (some (false,.bool b))=some (CD d st,[]):=rfl
theorem I5{P:cz}{E:XE}{st:XS}(d:Option Tmp)(t:Option Tmp)(f:cd)(a:List cd):QV P E d (.call false t f a) st true (some (true,.bool false))=some (CD d st,[]):=rfl
theorem I6{P:cz}{E:XE}{st:XS}(d:Option Tmp)(t:Option Tmp)(f:cd)(a:List cd):QV P E d (.call false t f a) st false (some (true,.bool true))=some (CD d st,[]):=rfl
theorem I7{P:cz}{E:XE}{st:XS}(d:Option Tmp)(t:Option Tmp)(f:cd)(a:List cd)(w b:Bool):QV P E d (.call false t f a) st w (some (false,.bool b))=some (CD d st,[]):=rfl
def QZ(C:Int)(l t:AK):Bool:=EW t.k 1 2&&(EW t.c 0 (C-1)&&(EW t.t 0 (C-1)&&LB l t))
def HD(C:Int):List AK->List AK->Bool
 |l::ls,t::ts=>QZ C l t&&HD C ls ts
 |_,_=>true
theorem l57(n:Nat)(b:A5)(h1:1<=b.chairs)(h4:b.chairs<=4)(ts:List AK)(hlen:ts.length=b.lines.length)(hl8:b.lines.length<=8):∀(d k:Nat) (c m:Nat),k+d=ts.length->d<m->1<=c ->
  ∃c':Nat,BQ (AF cx ann kn (n+150) 55) aB (some ([1,2,5],[2])) m ⟨c,[(1,true,.list false (ts.map AD)),(2,true,.ptr 0 2 0 0),(5,true,i k)],⟨[],[(2,0,.box (AC b))]⟩⟩ =
  bif HD b.chairs (b.lines.drop k) (ts.drop k) then some (.exit 0,⟨c',[(16,true,.bool false),(15,true,i ts.length),(14,true,.list false (ts.map AD)),(13,true,i ts.length),(1,true,.list false (ts.map AD)),(2,true,.ptr 0 2 0 0),(5,true,i ts.length)],⟨[],[(2,0,.box (AC b))]⟩⟩)
  else some (.ret,⟨c',[(4,true,.bool false)],⟨[],[]⟩⟩)
 |0,k,c,m+1,hd,hm,hc=>by
  have:k=ts.length:=by omega
  subst this;refine⟨c,?_⟩;have e:b.lines.drop ts.length=[]:=by rw[hlen];simp
  simp[AE,HD,AC,e]
 |d+1,k,c,m+1,hd,hm,hc=>by
  have hk:k<ts.length:=by omega
  have hk2:k<b.lines.length:=by omega
  have hw:IntKind.i64.wrap ((k:Int)+1)=(k:Int)+1:=AW (by omega) (by omega);have hw2:IntKind.i64.wrap (b.chairs-1)=b.chairs-1:=AW (by omega) (by omega);obtain⟨c',ih⟩:=l57 n b h1 h4 ts hlen hl8 d (k+1) (c+1) m (by omega) (by omega) (by omega);have q:=fun n=>k99 n b.lines[k] ts[k];rw[AE,bj hk,bj hk2];simp only[HD,QZ,AC,AD]at ih q|-;generalize e1:EW ts[k].k 1 2=b1;generalize e2:EW ts[k].c 0 (b.chairs-1)=b2;generalize e3:EW ts[k].t 0 (b.chairs-1)=b3;generalize e4:LB b.lines[k] ts[k]=b4 at q;try simp at ih
  have fin:∀v,(b1&&(b2&&(b3&&b4)))=v->∃c',v=false\/v=true:=fun v _=>⟨0,by cases v<;>simp⟩;clear fin;cases b1
  ·refine⟨c+1,?_⟩;simp[-MX,W3,W4,M5,M6,M7,KA,KB,KC,M8,M9,NA,NB,NC,ND,I2,I3,I4,HP,HQ,HR,KD,KE,KF,I5,I6,I7,hk,hk2,hw,hw2,AD,e1]
  cases b2
  ·refine⟨c+1,?_⟩;simp[-MX,W3,W4,M5,M6,M7,KA,KB,KC,M8,M9,NA,NB,NC,ND,I2,I3,I4,HP,HQ,HR,KD,KE,KF,I5,I6,I7,hk,hk2,hw,hw2,AD,e1,e2]
  cases b3
  ·refine⟨c+1,?_⟩;simp[-MX,W3,W4,M5,M6,M7,KA,KB,KC,M8,M9,NA,NB,NC,ND,I2,I3,I4,HP,HQ,HR,KD,KE,KF,I5,I6,I7,hk,hk2,hw,hw2,AD,e1,e2,e3]
  cases b4
  ·refine⟨c+1,?_⟩;simp[-MX,W3,W4,M5,M6,M7,KA,KB,KC,M8,M9,NA,NB,NC,ND,I2,I3,I4,HP,HQ,HR,KD,KE,KF,I5,I6,I7,hk,hk2,hw,hw2,AD,e1,e2,e3,q]
  ·refine⟨c',?_⟩;simp[-MX,W3,W4,M5,M6,M7,KA,KB,KC,M8,M9,NA,NB,NC,ND,I2,I3,I4,HP,HQ,HR,KD,KE,KF,I5,I6,I7,hk,hk2,hw,hw2,AD,e1,e2,e3,q,ih]
def FK(b:A5)(ts:List AK):Bool:=decide (ts.length=b.lines.length)&&HD b.chairs b.lines ts
theorem k57(n:Nat)(b:A5)(h1:1<=b.chairs)(h4:b.chairs<=4)(ts:List AK)(hl8:b.lines.length<=8):A4 cx kn (AF cx ann kn (n+200)) 80 [.agg (AC b),.list false (ts.map AD)]=some (.bool (FK b ts)):=by
 rw[AP rfl,AQ Tryz.func80 b80 rfl (by simp[AD,AC,AN])];unfold FK;by_cases hlen:ts.length=b.lines.length
 ·obtain⟨c',q⟩:=l57 (n+44) b h1 h4 ts hlen hl8 ts.length 0 1 (n+194) (by omega) (by omega) (by omega);simp only[AC,bc,bf,bg,bx]at q|-;cases h:HD b.chairs b.lines ts<;>(rw[h]at q;simp only[hlen]at q;simp at q;simp[c80,AJ,hlen,q])
 ·have e1:decide ((ts.length:Int)=(b.lines.length:Int))=false:=by simp;omega
  simp[c80,AJ,AC,e1,hlen]
def mO(ts:List AK)(k:Nat)(t:AK):Bool:=decide (t.k=2)&&!decide (EM AK.c ts k t.c=EM AK.t ts k t.t)
def iD(ts:List AK):Nat->Int->List AK->Int
 |_,v,[]=>v
 |k,v,t::r=>iD ts (k+1) (if mO ts k t=true then v+1 else v) r
def AZS(ts:List AK):Int:=iD ts 0 0 ts
def LF(b:A5)(ts:List AK)(x:EX):Bool:=EW (HY b ts x.a.toNat) x.lo x.hi
theorem l89(n:Nat)(b:A5)(hc1:1<=b.coin)(hc2:b.coin<=99)(hx1:0<=b.box)(hx2:b.box<=999)(ts:List AK)(hlen:ts.length<=90)(hcs:∀x∈b.counts,0<=x.a/\x.a<=ts.length)(hcl:b.counts.length<=4):∀(d k:Nat) (c m:Nat),k+d=b.counts.length->d<m->1<=c ->
  ∃c':Nat,BQ (AF cx ann kn (n+150) 32) aD (some ([1,2,5],[2])) m ⟨c,[(1,true,.list false (ts.map AD)),(2,true,.ptr 0 2 0 0),(5,true,i k)],⟨[],[(2,0,.box (AC b))]⟩⟩ =
  bif (b.counts.drop k).all (LF b ts) then some (.exit 0,⟨c',[(11,true,.bool false),(10,true,i b.counts.length),(9,true,.list false (b.counts.map AN)),(8,true,.ptr 0 2 0 4),(7,true,i b.counts.length),(1,true,.list false (ts.map AD)),(2,true,.ptr 0 2 0 0),(5,true,i b.counts.length)],⟨[],[(2,0,.box (AC b))]⟩⟩)
  else some (.ret,⟨c',[(4,true,.bool false)],⟨[],[]⟩⟩)
 |0,k,c,m+1,hd,hm,hc=>by
  have:k=b.counts.length:=by omega
  subst this;exact⟨c,by simp[AE,AC]⟩
 |d+1,k,c,m+1,hd,hm,hc=>by
  have hk:k<b.counts.length:=by omega
  have hw:IntKind.i64.wrap ((k:Int)+1)=(k:Int)+1:=AW (by omega) (by omega);obtain⟨c',ih⟩:=l89 n b hc1 hc2 hx1 hx2 ts hlen hcs hcl d (k+1) (c+1) m (by omega) (by omega) (by omega);have hx:=hcs _ (List.getElem_mem hk);have q:=fun n=>k44 n b hc1 hc2 hx1 hx2 ts b.counts[k].a.toNat (by omega) hlen;have ea:((b.counts[k].a.toNat:Nat):Int)=b.counts[k].a:=by omega
  rw[AE,bj hk,List.all_cons];rw[ea]at q;simp only[LF,AC,AD]at ih q|-;generalize e1:EW (HY b ts b.counts[k].a.toNat) b.counts[k].lo b.counts[k].hi=b1;try simp at ih
  cases b1
  ·refine⟨c+1,?_⟩;simp[hk,hw,AN,AD,q,e1]
  ·refine⟨c',?_⟩;simp[hk,hw,AN,AD,q,e1,ih]
theorem k89(n:Nat)(b:A5)(hc1:1<=b.coin)(hc2:b.coin<=99)(hx1:0<=b.box)(hx2:b.box<=999)(ts:List AK)(hlen:ts.length<=90)(hcs:∀x∈b.counts,0<=x.a/\x.a<=ts.length)(hcl:b.counts.length<=4):A4 cx kn (AF cx ann kn (n+200)) 82 [.agg (AC b),.list false (ts.map AD)]=some (.bool (b.counts.all (LF b ts))):=by obtain⟨c',q⟩:=l89 (n+45) b hc1 hc2 hx1 hx2 ts hlen hcs hcl b.counts.length 0 1 (n+195) (by omega) (by omega) (by omega);rw[AP rfl,AQ Tryz.func82 b82 rfl (by simp[AD,AC,AN])];simp only[AC,bc,bf,bg,bx]at q|-;cases h:b.counts.all (LF b ts)<;>(rw[h]at q;simp at q;simp[c82,AJ,q])
def Q0(b:A5)(ts:List AK):Bool:=FK b ts&&(HH ts&&b.counts.all (LF b ts))
theorem k56(n:Nat)(b:A5)(hf:DL b=0)(ts:List AK)(hlen:ts.length<=90):A4 cx kn (AF cx ann kn (n+300)) 34 [.agg (AC b),.list false (ts.map AD)]=some (.bool (Q0 b ts)):=by
 obtain⟨h1,h4,hl8,hc4,hc1,hc2,hx1,hx2,hok,hcok,_⟩:=HX hf;have q1:=fun n=>k57 n b h1 h4 ts hl8;have q2:=fun n=>k58 n ts hlen;rw[AP rfl,AQ Tryz.func34 b34 rfl (by simp[AD,AC,AN])];unfold Q0;cases e1:FK b ts
 ·simp only[e1,AC]at q1|-;simp[c34,AJ,q1,AD,AN]
 ·have hl:ts.length=b.lines.length:=by simp only[FK,bz,decide_eq_true_eq]at e1;exact e1.1
  have hcs:∀x∈b.counts,0<=x.a/\x.a<=ts.length:=by intro x hx;have:=bw.1 hcok x hx;simp only[EP,EW,bz,decide_eq_true_eq]at this;rw[hl];exact this.1
  have q3:=fun n=>k89 n b hc1 hc2 hx1 hx2 ts hlen hcs hc4;cases e2:HH ts
  ·simp only[e1,e2,AC]at q1 q2|-;simp[c34,AJ,q1,q2,AD,AN]
  ·simp only[e1,e2,AC]at q1 q2 q3|-;simp[c34,AJ,q1,q2,q3,AD,AN]
def AZT:Bool:=[1,2,3,4].all fun C:Int=>[0,1,2].all fun k:Int=>[-1,0,1,2,3].all fun c:Int=>[-1,0,1,2,3].all fun t:Int=>
 !(BZ C ⟨k,c,t⟩)||((AX C ⟨k,c,t⟩).length==(readingsP C ⟨k,c,t⟩).length)
theorem mP:AZT=true:=by decide +kernel
theorem tQ{x:Int}(h:-1<=x)(h2:x<=3):x∈([-1,0,1,2,3]:List Int):=by
 have:x = -1\/x=0\/x=1\/x=2\/x=3:=by omega
 rcases this with rfl|rfl|rfl|rfl|rfl<;>decide
theorem ANL{x:Int}(h:1<=x)(h2:x<=4):x∈([1,2,3,4]:List Int):=by
 have:x=1\/x=2\/x=3\/x=4:=by omega
 rcases this with rfl|rfl|rfl|rfl<;>decide
theorem ANM{x:Int}(h:0<=x)(h2:x<=2):x∈([0,1,2]:List Int):=by
 have:x=0\/x=1\/x=2:=by omega
 rcases this with rfl|rfl|rfl<;>decide
theorem ANN{C:Int}(h1:1<=C)(h4:C<=4){l:AK}(h:BZ C l=true):(AX C l).length=(readingsP C l).length:=by obtain⟨k,c,t⟩:=l;obtain⟨v1,v2,v3⟩:=J9 h;simp only at v1 v2 v3;have q:=bw.1 (bw.1 (bw.1 (bw.1 mP C (ANL h1 h4)) k (ANM v1.1 v1.2)) c (tQ v2.1 (by omega))) t (tQ v3.1 (by omega));rw[h]at q;simpa using q
theorem pE{C:Int}(h1:1<=C)(h4:C<=4):∀(ls:List AK) (v w:Int),(∀l∈ls,BZ C l=true)->0<=v->v<=5000->(v<=4096->w=v)->(4096<v->4096<w/\w<=4097)->(4096<CV C v ls↔4096<M2 C w ls)/\(CV C v ls<=4096->M2 C w ls=CV C v ls)
 |[],v,w,_,_,_,h3,h5=>by simp only[CV,M2,List.foldl_nil];omega
 |l::ls,v,w,hl,h0,h0',h3,h5=>by
  have e:=ANN h1 h4 (hl l (by simp));have hr:=LC C l h4;have hq:=SA h0 h0' hr;simp only[CV,M2,List.foldl_cons];rw[<-e];have:=pE h1 h4 ls (I0 (v*((AX C l).length:Int))) (WY (w*((AX C l).length:Int))) (fun x hx=>hl x (by simp[hx])) (by unfold I0;split<;>omega) (by unfold I0;split<;>omega) ?_ ?_
  ·exact this
  ·intro h;by_cases hv:v<=4096
   ·rw[h3 hv];unfold I0 WY at *;split at h<;>split<;>omega
   ·obtain⟨w1,w2⟩:=h5 (by omega);rcases bt (AX C l).length with hz|hz
    ·rw[hz];simp[I0,WY]
    ·have g1:v*1<=v*((AX C l).length:Int):=bh (by omega) (by omega);unfold I0 at h;split at h<;>omega
  ·intro h;by_cases hv:v<=4096
   ·rw[h3 hv];unfold I0 WY at *;split at h<;>split<;>omega
   ·obtain⟨w1,w2⟩:=h5 (by omega);rcases bt (AX C l).length with hz|hz
    ·rw[hz]at h;simp[I0]at h
    ·have g1:w*1<=w*((AX C l).length:Int):=bh (by omega) (by omega);unfold WY;split<;>omega
theorem Q1(b:A5):EL b=DL b:=by
 unfold EL DL;split
 ·rfl
 ·split
  ·rfl
  ·rename_i h2;split
   ·rfl
   ·rename_i h3;split
    ·rfl
    ·simp[EW]at h2;simp only[Bool.not_eq_false]at h3;have:=(pE (C:=b.chairs) (by omega) (by omega) b.lines 1 1 (fun l hl=>bw.1 h3 l hl) (by omega) (by omega) (by omega) (by omega)).1;simp only[this]
theorem pF{a x:Int}:∀{d:Nat},x∈tO a d↔a<=x/\x<a+d
 |0=>by simp only[tO,List.not_mem_nil,false_iff];omega
 |d+1=>by have:=pF (a:=a+1) (x:=x) (d:=d);simp only[tO,List.mem_cons,this];omega
theorem W5{sg no a b x:Int}(h:a<=b+1):x∈F1 sg no a b↔(sg=no/\a<=x/\x<=b)\/(sg≠no/\x=sg):=by
 unfold F1;split
 ·rename_i e;rw[pF];simp only[e,true_and,ne_eq,not_true_eq_false,false_and,or_false];omega
 ·rename_i e;simp[e]
theorem X3{C:Int}{l x:AK}:x∈readingsP C l↔x.k∈F1 l.k 0 1 2/\x.c∈F1 l.c (-1) 0 (C-1)/\x.t∈F1 l.t (-1) 0 (C-1):=by refine⟨OR,fun ⟨h1,h2,h3⟩=>?_⟩;unfold readingsP rd1 rd2 rd3;simp only[List.mem_flatMap,List.mem_map];exact⟨_,h1,_,h2,_,h3,rfl⟩
theorem UH{l x:AK}:eqL l x=true↔l=x:=by obtain⟨a,b,c⟩:=l;obtain⟨d,e,f⟩:=x;simp[eqL]
theorem ZP{C:Int}(h1:1<=C){l:AK}(h:BZ C l=true)(x:AK):GM C l x=QZ C l x:=by
 obtain⟨v1,v2,v3⟩:=J9 h;have e1:GM C l x=true↔x∈readingsP C l:=by
  unfold GM;rw[List.any_eq_true];constructor
  ·rintro ⟨y,hy,he⟩;rw[UH]at he;rw[he];exact hy
  ·intro hx;exact⟨x,hx,UH.2 rfl⟩
 rw[Bool.eq_iff_iff,e1,X3,W5 (by omega),W5 (by omega),W5 (by omega)];simp only[QZ,EW,LB,bz,Bool.or_eq_true,decide_eq_true_eq];omega
theorem W6(sel:AK->Int)(x:Int)(t:AK):∀(l:List AK) (k:Nat) (v:Int),HO sel x k v (l++[t])=if sel t=x then(if t.k=1 then((k+l.length:Nat):Int) else -1) else HO sel x k v l
 |[],k,v=>by simp[HO]
 |a::l,k,v=>by
  simp only[List.cons_append,HO,W6 sel x t l,List.length_cons];have:k+1+l.length=k+(l.length+1):=by omega
  rw[this]
theorem ZQ{α:Type}{l:List α}{k:Nat}(h:k<l.length):l.take (k+1)=l.take k++[l[k]]:=by rw[List.take_succ_eq_append_getElem h]
theorem KG(sel:AK->Int)(ts:List AK)(k:Nat)(h:k<ts.length)(x:Int):EM sel ts (k+1) x=if sel ts[k]=x then(if ts[k].k=1 then(k:Int) else -1) else EM sel ts k x:=by unfold EM;rw[ZQ h,W6];simp[Nat.min_eq_left (Nat.le_of_lt h)]
theorem Q2(coin:Int)(t:AK):∀(l:List AK) (v:Int),FJ coin v (l++[t])=if t.k=1 then FJ coin v l+coin else FJ coin v l-coin
 |[],v=>by simp[FJ]
 |a::l,v=>by simp only[List.cons_append,FJ,Q2 coin t l]
theorem S3(b:A5)(ts:List AK)(k:Nat)(h:k<ts.length):HY b ts (k+1)=if ts[k].k=1 then HY b ts k+b.coin else HY b ts k-b.coin:=by unfold HY;rw[ZQ h,Q2]
structure EI(b:A5)(ts:List AK)(k:Nat)(s:AU):Prop where
 ok:s.ok
 ch:∀j:Nat,j<4->s.ch.getD j 0=EM AK.c ts k j+1
 tk:∀j:Nat,j<4->s.tk.getD j 0=EM AK.t ts k j+1
 money:s.money=HY b ts k
theorem cN(sel:AK->Int)(ts:List AK)(x:Int):∀(k:Nat),k<=ts.length->-1<=EM sel ts k x
 |0,_=>by simp[EM,HO]
 |k+1,h=>by
  rw[KG sel ts k (by omega)];have:=cN sel ts x k (by omega);split
  ·split<;>omega
  ·exact this
theorem tR{b:A5}{ts:List AK}{k:Nat}{s:AU}(h:EI b ts k s)(hk:k<ts.length)(hk1:1<=ts[k].k/\ts[k].k<=2)(hc:0<=ts[k].c/\ts[k].c<4)(ht:0<=ts[k].t/\ts[k].t<4) :
  (BS b.coin s k ts[k]).2=NT ts k ts[k]/\(NT ts k ts[k]=true->EI b ts (k+1) (BS b.coin s k ts[k]).1/\(BS b.coin s k ts[k]).1.mixed=if mO ts k ts[k]=true then s.mixed+1 else s.mixed):=by
 have hcn:((ts[k].c.toNat:Nat):Int)=ts[k].c:=by omega
 have htn:((ts[k].t.toNat:Nat):Int)=ts[k].t:=by omega
 have g1:=h.ch ts[k].c.toNat (by omega)
 have g2:=h.tk ts[k].t.toNat (by omega)
 rw[hcn]at g1
 rw[htn]at g2
 have b1:=cN AK.c ts ts[k].c k (by omega)
 have b2:=cN AK.t ts ts[k].t k (by omega)
 have d1:decide (s.ch.getD ts[k].c.toNat 0=0)=!decide (0<=EM AK.c ts k ts[k].c):=H7 (by rw[g1];omega)
 have d2:decide (s.tk.getD ts[k].t.toNat 0=0)=!decide (0<=EM AK.t ts k ts[k].t):=H7 (by rw[g2];omega)
 have d3:decide (s.ch.getD ts[k].c.toNat 0=s.tk.getD ts[k].t.toNat 0)=decide (EM AK.c ts k ts[k].c=EM AK.t ts k ts[k].t):=by rw[g1,g2];congr 1;apply propext;omega
 have hset:∀(l:List Int) (n:Nat) (v:Int) (j:Nat),l.length=4->j<4->(l.set n v).getD j 0=if n=j then v else l.getD j 0:=by
  intro l n v j hl hj;simp only[List.getD_eq_getElem?_getD,List.getElem?_set,hl];split
  ·rename_i e;subst e;simp[hj]
  ·rfl
 unfold BS NT mO
 simp only[d1,d2,d3,Bool.not_not]
 by_cases h2:ts[k].k=2
 ·have hp:¬ts[k].k=1:=by omega
  simp only[h2,decide_true,bp,if_true];cases e:((decide (0<=EM AK.c ts k ts[k].c) != true)||(decide (0<=EM AK.t ts k ts[k].t) != true))with
  |true=>simp
  |false=>
   refine⟨by simp,fun _=>⟨⟨⟨by simp[h.ok.ch],by simp[h.ok.tk]⟩,fun j hj=>?_,fun j hj=>?_,?_⟩,?_⟩⟩
   ·simp only[bq,if_false];rw[hset _ _ _ _ h.ok.ch hj,KG _ _ _ hk,h.ch j hj];by_cases ej:ts[k].c.toNat=j
    ·have:ts[k].c=(j:Int):=by omega
     simp[ej,this,h2]
    ·have:¬ts[k].c=(j:Int):=by omega
     simp[ej,this]
   ·simp only[bq,if_false];rw[hset _ _ _ _ h.ok.tk hj,KG _ _ _ hk,h.tk j hj];by_cases ej:ts[k].t.toNat=j
    ·have:ts[k].t=(j:Int):=by omega
     simp[ej,this,h2]
    ·have:¬ts[k].t=(j:Int):=by omega
     simp[ej,this]
   ·simp only[bq,if_false];rw[S3 b ts k hk,if_neg hp,h.money]
   ·simp only[bq,if_false];cases decide (EM AK.c ts k ts[k].c=EM AK.t ts k ts[k].t)<;>simp
 ·have hp:ts[k].k=1:=by omega
  have hd:decide (ts[k].k=2)=false:=by simpa using h2
  simp only[hd,Bool.false_and,bq,if_false];cases e:((decide (0<=EM AK.c ts k ts[k].c) != false)||(decide (0<=EM AK.t ts k ts[k].t) != false))with
  |true=>simp
  |false=>
   refine⟨by simp,fun _=>⟨⟨⟨by simp[h.ok.ch],by simp[h.ok.tk]⟩,fun j hj=>?_,fun j hj=>?_,?_⟩,?_⟩⟩
   ·simp only[bq,if_false];rw[hset _ _ _ _ h.ok.ch hj,KG _ _ _ hk,h.ch j hj];by_cases ej:ts[k].c.toNat=j
    ·have:ts[k].c=(j:Int):=by omega
     simp[ej,this,hp]
    ·have:¬ts[k].c=(j:Int):=by omega
     simp[ej,this]
   ·simp only[bq,if_false];rw[hset _ _ _ _ h.ok.tk hj,KG _ _ _ hk,h.tk j hj];by_cases ej:ts[k].t.toNat=j
    ·have:ts[k].t=(j:Int):=by omega
     simp[ej,this,hp]
    ·have:¬ts[k].t=(j:Int):=by omega
     simp[ej,this]
   ·simp only[bq,if_false];rw[S3 b ts k hk,if_pos hp,h.money]
   ·simp
theorem W7(b:A5)(ts:List AK):EI b ts 0 (BE b):=by
 refine⟨FF b,fun j hj=>?_,fun j hj=>?_,?_⟩
 ·have:j=0\/j=1\/j=2\/j=3:=by omega
  rcases this with rfl|rfl|rfl|rfl<;>simp[BE,EM,HO]
 ·have:j=0\/j=1\/j=2\/j=3:=by omega
  rcases this with rfl|rfl|rfl|rfl<;>simp[BE,EM,HO]
 ·simp[BE,HY,FJ]
theorem pG{b:A5}{ts:List AK}(h1:1<=b.chairs)(h4:b.chairs<=4)(hok:b.lines.all (BZ b.chairs)=true)(hlen:ts.length=b.lines.length):∀(d k:Nat) (s:AU),k+d=ts.length->EI b ts k s ->
  ((HD b.chairs (b.lines.drop k) (ts.drop k)&&JU ts k (ts.drop k))=false->CX b k s (b.lines.drop k) (ts.drop k)=none) /\
  ((HD b.chairs (b.lines.drop k) (ts.drop k)&&JU ts k (ts.drop k))=true->∃L,CX b k s (b.lines.drop k) (ts.drop k)=some L/\L.map AU.money=(ck (k+1) d).map (HY b ts)/\QY s.mixed L=iD ts k s.mixed (ts.drop k))
 |0,k,s,hd,hs=>by
  have:k=ts.length:=by omega
  subst this;have e:b.lines.drop ts.length=[]:=by rw[hlen];simp
  simp only[e,List.drop_length];refine⟨fun h=>by simp[HD,JU]at h,fun _=>⟨[],rfl,rfl,by simp[QY,iD]⟩⟩
 |d+1,k,s,hd,hs=>by
  have hk:k<ts.length:=by omega
  have hk2:k<b.lines.length:=by omega
  have hlk:=bw.1 hok _ (List.getElem_mem hk2);rw[bj hk,bj hk2];simp only[HD,JU,CX,iD];have ha:=ZP h1 hlk ts[k];cases hr:QZ b.chairs b.lines[k] ts[k]with
  |false=>
   rw[hr]at ha
   simp[ha]
  |true=>
   rw[hr]at ha
   obtain⟨r1,r2,r3⟩:=W1 h4 hlk ha
   obtain⟨n1,n2⟩:=tR hs hk r1 (by omega) (by omega)
   cases hp:NT ts k ts[k]with
   |false=>
    rw[hp]at n1
    simp[ha,n1]
   |true=>
    rw[hp]at n1
    obtain⟨m1,m2⟩:=n2 hp
    have hcx:((k:Nat):Int)=(k:Int):=rfl
    obtain⟨i1,i2⟩:=pG h1 h4 hok hlen d (k+1) _ (by omega) m1
    simp only[bp,ha,n1,if_true]
    refine⟨fun h=>?_,fun h=>?_⟩
    ·rw[i1 h];rfl
    ·obtain⟨L,q1,q2,q3⟩:=i2 h;refine⟨_,by rw[q1];rfl,?_,?_⟩
     ·rw[bn,q2,m1.money,br];rfl
     ·have:QY s.mixed ((BS b.coin s k ts[k]).1::L)=QY (BS b.coin s k ts[k]).1.mixed L:=by simp only[QY,bn,cj,Option.getD_some]
      rw[this,q3,m2]
theorem iE{b:A5}{ts:List AK}(hf:DL b=0) :
  ((FK b ts&&HH ts)=false->E4 b ts=none) /\
  ((FK b ts&&HH ts)=true->∃L,E4 b ts=some L/\L.map AU.money=(ck 0 (ts.length+1)).map (HY b ts)/\QY 0 L=AZS ts):=by
 obtain⟨h1,h4,_,_,_,_,_,_,hok,_,_⟩:=HX hf
 unfold E4 FK HH AZS
 by_cases hlen:ts.length=b.lines.length
 ·obtain⟨i1,i2⟩:=pG h1 h4 hok hlen ts.length 0 (BE b) (by omega) (W7 b ts);simp only[bc]at i1 i2;simp only[hlen,decide_true,bp,if_true];refine⟨fun h=>by rw[i1 h];rfl,fun h=>?_⟩;obtain⟨L,q1,q2,q3⟩:=i2 h;refine⟨_,by rw[q1];rfl,?_,?_⟩
  ·rw[bn,q2,(W7 b ts).money,<-hlen,br];rfl
  ·have:QY 0 (BE b::L)=QY (BE b).mixed L:=by simp only[QY,bn,cj,Option.getD_some]
   rw[this,q3];rfl
 ·simp[hlen]
def tS(b:A5):Nat->Bool->List Int->Bool
 |_,v,[]=>v
 |k,v,m::r=>tS b (k+1) (v&&b.counts.all (countOne m k)) r
theorem AA2(b:A5):∀(L:List AU) (k:Nat) (v:Bool),M4 b k v L=tS b k v (L.map AU.money)
 |[],_,_=>rfl
 |s::L,k,v=>by simp only[M4,bn,tS,AA2 b L]
theorem iF(b:A5)(f:Nat->Int):∀(d k:Nat) (v:Bool),tS b k v ((ck k d).map f)=true↔v=true/\∀j,k<=j->j<k+d->b.counts.all (countOne (f j) j)=true
 |0,k,v=>by simp only[List.range'_zero,List.map_nil,tS];exact⟨fun h=>⟨h,fun j h1 h2=>by omega⟩,fun h=>h.1⟩
 |d+1,k,v=>by
  simp only[br,bn,tS,iF b f d,bz];refine⟨fun ⟨⟨h1,h2⟩,h3⟩=>⟨h1,fun j j1 j2=>?_⟩,fun ⟨h1,h2⟩=>⟨⟨h1,h2 k (by omega) (by omega)⟩,fun j j1 j2=>h2 j (by omega) (by omega)⟩⟩;by_cases e:j=k
  ·subst e;exact h2
  ·exact h3 j (by omega) (by omega)
theorem iG(b:A5)(ts:List AK):HC b ts=(decide (DL b=0)&&Q0 b ts):=by
 unfold HC;rw[Q1];by_cases hf:DL b=0
 ·simp only[hf,decide_true,bp];obtain⟨i1,i2⟩:=iE (ts:=ts) hf;unfold Q0;rw[<-Bool.and_assoc];cases h:(FK b ts&&HH ts)with
  |false=>rw[i1 h];simp
  |true=>
   obtain⟨L,q1,q2,_⟩:=i2 h
   rw[q1]
   simp only[bp]
   rw[AA2,q2,Bool.eq_iff_iff,iF]
   obtain⟨_,_,_,_,_,_,_,_,_,hcok,_⟩:=HX hf
   have hl:ts.length=b.lines.length:=by simp only[FK,bz,decide_eq_true_eq]at h;exact h.1.1
   have hcs:∀x∈b.counts,0<=x.a/\x.a<=ts.length:=by intro x hx;have:=bw.1 hcok x hx;simp only[EP,EW,bz,decide_eq_true_eq]at this;rw[hl];exact this.1
   simp only[true_and,bw]
   refine⟨fun h x hx=>?_,fun h j _ hj x hx=>?_⟩
   ·obtain⟨a1,a2⟩:=hcs x hx;have:=h x.a.toNat (by omega) (by omega) x hx;have e:((x.a.toNat:Nat):Int)=x.a:=by omega
    rw[countOne,e]at this;simpa [LF]using this
   ·unfold countOne;by_cases e:x.a=(j:Int)
    ·have:=h x hx;unfold LF at this;rw[e]at this|-;simpa using this
    ·simp[e]
 ·simp[hf]
end Go.Proofs.Tryz.Op
