/- Words as keys of a memo: what a look into the map gives, and a store into it. No condition. -/
import Derived.Test.YtmnlpgjklibndaaGreatW1
open Go.Proofs.Tryz renaming prog->bf,underlying98->bg
open List renaming map_cons->bj,mem_singleton->bq,mem_cons->bw,nodup_cons->bx,mem_append->bz,mem_map->bc
set_option maxRecDepth 100000
open Go Go.Pg
namespace Go.Proofs.Tryz.Op
structure Wrd where
 after:Int
 tok:Bool
 num:Int
 out:Bool
deriving DecidableEq
def Wrd.ok(w:Wrd):Prop:=(Lit.int .i64 w.after).wf=true/\(Lit.int .i64 w.num).wf=true
def N4(w:Wrd):V:=.agg [.int .i64 w.after,.bool w.tok,.int .i64 w.num,.bool w.out]
def DW(p:Wrd×Bool):V×V:=(N4 p.1,.bool p.2)
theorem kK{c key:V}{b:Bool}(h:isV [c] key=some b):∃(cf:Bool) (es:List (List V)) (w:Wrd),c=.list cf es/\key=N4 w/\w.ok/\es.all lM=true/\0<=w.after/\w.after<=es.length/\b=(TW w.tok w.num (es.take w.after.toNat) false==w.out):=by
 unfold isV at h;split at h
 ·rename_i cf es after tok num out e1;cases e1;cases hw:wfK es after num with
  |false=>rw[hw]at h;cases h
  |true=>
   rw[hw]at h
   unfold wfK at hw
   simp only[Bool.and_eq_true,decide_eq_true_eq]at hw
   obtain⟨h1,h2,h3,h4,h5⟩:=hw
   cases h
   exact⟨cf,es,⟨after,tok,num,out⟩,rfl,rfl,⟨h3,h4⟩,h5,h1,h2,rfl⟩
 ·cases h
theorem A2C(d:Nat){n:Int}(h:(Lit.int .i64 n).wf=true):bf.keyLits (d+1) 3 [.int .i64 n]=some [.int .i64 n]:=by unfold Program.keyLits;rw[Tryz.underlying3];simp only;rw[if_pos ⟨trivial,h⟩]
theorem kl4(d:Nat)(b:Bool):bf.keyLits (d+1) 4 [.bool b]=some [.bool b]:=by unfold Program.keyLits;rw[Tryz.underlying4]
theorem klW(d:Nat)(w:Wrd)(h:w.ok):(bf.keyLits (d+2) 98 [.int .i64 w.after,.bool w.tok,.int .i64 w.num,.bool w.out]).isSome=true:=by have c3:bf.cellsOf 3=1:=R4;have c4:bf.cellsOf 4=1:=wD;unfold Program.keyLits;rw[bg];simp only;rw[if_pos (by rw[lH];exact⟨rfl,by decide +kernel⟩)];simp[List.mapM_cons,c3,c4,A2C d h.1,A2C d h.2,kl4 d]
theorem A2D:bf.keyType 98=true:=by kernel_rfl
theorem AQK:bf.types.size+1=(bf.types.size-1)+2:=by have:1<=bf.types.size:=of_decide_eq_true (by kernel_rfl);omega
theorem vI(w:Wrd)(h:w.ok):P6 bf 98 (N4 w)=some [.int .i64 w.after,.bool w.tok,.int .i64 w.num,.bool w.out]:=by
 have q:=klW (bf.types.size-1) w h;rw[<-AQK]at q;have hf:(Value.agg #[.int .i64 w.after,.bool w.tok,.int .i64 w.num,.bool w.out]).formed bf 98=true:=by unfold Value.formed;rw[bg];simp[lH]
 have hko:(keyOf bf 98 (.agg #[.int .i64 w.after,.bool w.tok,.int .i64 w.num,.bool w.out])).isSome=true:=by unfold keyOf;rw[bg];simp only;rw[if_pos (by rw[A2D,hf];rfl),Option.isSome_map];exact q
 have hp:DP [.int .i64 w.after,.bool w.tok,.int .i64 w.num,.bool w.out]=some [.int .i64 w.after,.bool w.tok,.int .i64 w.num,.bool w.out]:=rfl;unfold P6 N4;simp only[hp];rw[if_pos hko]
theorem rK:lP bf 98=true:=by kernel_rfl
theorem ACG:rX bf 128=some (98,4):=by kernel_rfl
theorem AIV:Q4 bf 4=some (.bool false):=by kernel_rfl
theorem A2E(v w:Wrd):wH [.int .i64 v.after,.bool v.tok,.int .i64 v.num,.bool v.out] [.int .i64 w.after,.bool w.tok,.int .i64 w.num,.bool w.out]=some (decide (v=w)):=by obtain⟨a,b,c,d⟩:=v;obtain⟨a',b',c',d'⟩:=w;simp[wH];by_cases h1:a=a'<;>by_cases h2:b=b'<;>by_cases h3:c=c'<;>by_cases h4:d=d'<;>simp[h1,h2,h3,h4]
def bU(w:Wrd):List (Wrd×Bool)->Nat->List Nat
 |[],_=>[]
 |p::L,j=>if p.1=w then j::bU w L (j+1) else bU w L (j+1)
theorem WG(w:Wrd):∀(L:List (Wrd×Bool)) (j:Nat),(∀p∈L,p.1.ok)->H5 bf 98 [.int .i64 w.after,.bool w.tok,.int .i64 w.num,.bool w.out] (L.map DW) j=some (bU w L j)
 |[],_,_=>rfl
 |p::L,j,h=>by have ih:=WG w L (j+1) (fun q hq=>h q (by simp[hq]));simp only[bj,DW,H5,vI p.1 (h p (by simp)),A2E p.1 w];have ih':H5 bf 98 _ (List.map DW L) (j+1)=some (bU w L (j+1)):=ih;rw[ih'];simp[bU]
theorem PC(w:Wrd):∀(L:List (Wrd×Bool)) (j:Nat),w∉L.map (·.1)->bU w L j=[]
 |[],_,_=>rfl
 |p::L,j,h=>by simp only[bj,bw,not_or]at h;have hp:¬p.1=w:=fun hh=>h.1 hh.symm;simp[bU,hp,PC w L (j+1) h.2]
theorem cZ(w:Wrd):∀(L:List (Wrd×Bool)) (j:Nat),w∈L.map (·.1)->(L.map (·.1)).Nodup->∃k,bU w L j=[j+k]/\∃b,L[k]? = some (w,b)
 |p::L,j,h,hn=>by
  simp only[bj,bx]at hn;by_cases hp:p.1=w
  ·refine⟨0,?_,p.2,?_⟩
   ·simp[bU,hp,PC w L (j+1) (by rw[<-hp];exact hn.1)]
   ·simp[<-hp]
  ·simp only[bj,bw]at h;obtain⟨k,i1,b,i2⟩:=cZ w L (j+1) (h.resolve_left fun hh=>hp hh.symm) hn.2;refine⟨k+1,?_,b,?_⟩
   ·simp[bU,hp,i1];omega
   ·simpa using i2
theorem ACH{v w:Wrd}(h:N4 v=N4 w):v=w:=by obtain⟨a,b,c,d⟩:=v;obtain⟨a',b',c',d'⟩:=w;simp only[N4,V.agg.injEq,List.cons.injEq,V.int.injEq,V.bool.injEq,true_and,and_true]at h;obtain⟨rfl,rfl,rfl,rfl⟩:=h;rfl
def yI(es:List (List V))(w:Wrd):Bool:=TW w.tok w.num (es.take w.after.toNat) false==w.out
structure kL(es:List (List V))(L:List (Wrd×Bool)):Prop where
 ok:∀p∈L,p.1.ok
 so:∀p∈L,p.2=yI es p.1
 rg:∀p∈L,0<=p.1.after/\p.1.after<=es.length
 nd:(L.map (·.1)).Nodup
theorem kM{cf:Bool}{es:List (List V)}:∀{m:List (V×V)},JS [.list cf es] m->∃L,m=L.map DW/\kL es L
 |[],_=>⟨[],rfl,⟨fun _ h=>(by cases h),fun _ h=>(by cases h),fun _ h=>(by cases h),List.nodup_nil⟩⟩
 |e::m,h=>by
  obtain⟨h1,h2⟩:=h;simp only[bj,bx]at h2;obtain⟨L,rfl,q1,q2,q4,q3⟩:=kM (cf:=cf) (es:=es) (m:=m) ⟨fun x hx=>h1 x (by simp[hx]),h2.2⟩;obtain⟨b,hb,he⟩:=h1 e (by simp);obtain⟨cf',es',w,e1,e2,e3,_,e5,e6,e4⟩:=kK hb;cases e1;refine⟨(w,b)::L,?_,⟨fun p hp=>?_,fun p hp=>?_,fun p hp=>?_,?_⟩⟩
  ·obtain⟨x,y⟩:=e;simp only at e2 he;simp[DW,e2,he]
  ·rcases bw.1 hp with rfl|hp
   ·exact e3
   ·exact q1 p hp
  ·rcases bw.1 hp with rfl|hp
   ·exact e4
   ·exact q2 p hp
  ·rcases bw.1 hp with rfl|hp
   ·exact⟨e5,e6⟩
   ·exact q4 p hp
  ·simp only[bj,bx];refine⟨fun hm=>h2.1 ?_,q3⟩;obtain⟨p,hp,hp2⟩:=bc.1 hm;exact bc.2 ⟨DW p,bc.2 ⟨p,hp,rfl⟩,by rw[e2,<-hp2];rfl⟩
theorem ACI{cf:Bool}{es:List (List V)}{L:List (Wrd×Bool)}(h:kL es L)(hes:es.all lM=true):JS [.list cf es] (L.map DW):=by
 refine⟨fun e he=>?_,?_⟩
 ·obtain⟨p,hp,rfl⟩:=bc.1 he;refine⟨p.2,?_,rfl⟩;have hw:wfK es p.1.after p.1.num=true:=by unfold wfK;simp only[Bool.and_eq_true,decide_eq_true_eq];exact⟨(h.rg p hp).1,(h.rg p hp).2,(h.ok p hp).1,(h.ok p hp).2,hes⟩
  rw[h.so p hp];show cond (wfK es p.1.after p.1.num) _ none=_;rw[hw];rfl
 ·have:(L.map DW).map (·.1)=(L.map (·.1)).map N4:=by simp[DW,Function.comp_def]
  rw[this];exact List.Pairwise.map _ (fun a b hab hh=>hab (ACH hh)) h.nd
theorem yJ{s:St}{l q g:Nat}{es:List (List V)}{L:List (Wrd×Bool)}{w:Wrd}(hs:s.get l q=some (g,.map (L.map DW)))(hL:kL es L)(hw:w.ok) :
  ∃k:Bool,(k=false->w∉L.map (·.1))/\CO bf s 128 (.mp l q g) (N4 w) true=some (.tup [.bool (if k then yI es w else false),.bool k]):=by
 by_cases h:w∈L.map (·.1)
 ·refine⟨true,fun hh=>(by cases hh),?_⟩;unfold CO;simp only[ACG,hs,rK,vI w hw,WG w L 0 hL.ok,and_self,if_true];obtain⟨k,i1,b,i2⟩:=cZ w L 0 h hL.nd;have:=hL.so _ (List.mem_of_getElem? i2);simp only at this;simp[i1,i2,DW,this]
 ·refine⟨false,fun _=>h,?_⟩;unfold CO;simp only[ACG,hs,rK,vI w hw,WG w L 0 hL.ok,and_self,if_true];simp[PC w L 0 h,AIV]
theorem ACJ{s:St}{l q g:Nat}{es:List (List V)}{L:List (Wrd×Bool)}{w:Wrd}(b:Bool)(hs:s.get l q=some (g,.map (L.map DW)))(hL:kL es L)(hw:w.ok)(hn:w∉L.map (·.1)) :
  I5 bf s 128 (.mp l q g) (N4 w) (.bool b)=some (l,q,g,(L++[(w,b)]).map DW):=by
 unfold I5
 simp only[ACG,hs,rK,vI w hw,WG w L 0 hL.ok,and_self,if_true]
 simp[PC w L 0 hn,DW]
theorem ACK{es:List (List V)}{L:List (Wrd×Bool)}{w:Wrd}(hL:kL es L)(hw:w.ok)(hr:0<=w.after/\w.after<=es.length)(hn:w∉L.map (·.1)):kL es (L++[(w,yI es w)]):=by
 refine⟨fun p hp=>?_,fun p hp=>?_,fun p hp=>?_,?_⟩
 ·rcases bz.1 hp with hp|hp
  ·exact hL.ok p hp
  ·rcases bq.1 hp;exact hw
 ·rcases bz.1 hp with hp|hp
  ·exact hL.so p hp
  ·rcases bq.1 hp;rfl
 ·rcases bz.1 hp with hp|hp
  ·exact hL.rg p hp
  ·rcases bq.1 hp;exact hr
 ·rw[List.map_append,List.nodup_append];refine⟨hL.nd,by simp,fun a ha b hb hab=>hn ?_⟩;simp only[bj,List.map_nil,bq]at hb;rw[<-hb,<-hab];exact ha
end Go.Proofs.Tryz.Op
open Go.Proofs
namespace Go.Pg
@[simp] theorem AM4(f:Nat)(d:List V):AK (f+1) (.memo d)=true:=rfl
@[simp] theorem AQL(d:List V):weakV (.memo d)=.memo d:=rfl
@[simp] theorem AQM(d:List V):weakC (.memo d)=.memo d:=rfl
@[simp] theorem AQN(d:List V):weakM (.memo d)=.memo d:=rfl
@[simp] theorem AQO(l k:Nat)(o:Option (Nat×A6))(f:Nat)(d:List V):BS l k o f (.memo d)=.memo d:=by cases f<;>rfl
@[simp] theorem AM5(s:St)(f:Nat)(d:List V):A4 s (f+1) (.memo d)=some (.memo d):=rfl
@[simp] theorem AIW(s:St)(d:List V):B4 s (.memo d)=some (.memo d):=rfl
end Go.Pg
namespace Go.Proofs.Tryz.Op
abbrev bo(b:Bool):V:=.bool b
def AG(w:Wrd):List V:=[i w.after,.bool w.tok,i w.num,.bool w.out]
abbrev J2(l:List Wrd):V:=.list false (l.map AG)
def AL(l:List Wrd):List V:=[J2 l]
structure BC where
 book:A5
 wits:List (List Wrd)
 liars:Int
 claims:List Wrd
def AC(c:BC):List V:=[i c.book.chairs,i c.book.coin,i c.book.box,.list false (c.book.lines.map AB),.list false (c.book.counts.map AM),.list false (c.wits.map AL),i c.liars,.list false (c.claims.map AG)]
end Go.Proofs.Tryz.Op
