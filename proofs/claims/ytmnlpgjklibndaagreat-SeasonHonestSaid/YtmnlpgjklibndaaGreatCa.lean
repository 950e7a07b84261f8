/- Words as keys of a memo: what a look into the map gives, and a store into it. No condition. -/
import Derived.Test.YtmnlpgjklibndaaGreatW1
open Go.Proofs.Tryz renaming prog->bf,underlying98->bg
open List renaming map_cons->bj,mem_singleton->bq,mem_cons->bw,nodup_cons->bx,mem_append->bz,mem_map->bc
set_option maxRecDepth 100000
open Go Go.Pg
namespace Go.Proofs.Tryz.Op
structure Wrd where
 after:Int
 tok:Bool
 num:Int
 out:Bool
deriving DecidableEq
def Wrd.ok(w:Wrd):Prop:=(Lit.int .i64 w.after).wf=true/\(Lit.int .i64 w.num).wf=true
def NJ(w:Wrd):V:=.agg [.int .i64 w.after,.bool w.tok,.int .i64 w.num,.bool w.out]
def DP(p:Wrd×Bool):V×V:=(NJ p.1,.bool p.2)
theorem iE{c key:V}{b:Bool}(h:isV [c] key=some b):∃(cf:Bool) (es:List (List V)) (w:Wrd),c=.list cf es/\key=NJ w/\w.ok/\es.all jE=true/\0<=w.after/\w.after<=es.length/\b=(XC w.tok w.num (es.take w.after.toNat) false==w.out):=by
 unfold isV at h;split at h
 ·rename_i cf es after tok num out e1;cases e1;cases hw:wfK es after num with
  |false=>rw[hw]at h;cases h
  |true=>
   rw[hw]at h
   unfold wfK at hw
   simp only[Bool.and_eq_true,decide_eq_true_eq]at hw
   obtain⟨h1,h2,h3,h4,h5⟩:=hw
   cases h
   exact⟨cf,es,⟨after,tok,num,out⟩,rfl,rfl,⟨h3,h4⟩,h5,h1,h2,rfl⟩
 ·cases h
theorem AY6(d:Nat){n:Int}(h:(Lit.int .i64 n).wf=true):bf.keyLits (d+1) 3 [.int .i64 n]=some [.int .i64 n]:=by unfold Program.keyLits;rw[Tryz.underlying3];simp only;rw[if_pos ⟨trivial,h⟩]
theorem kl4(d:Nat)(b:Bool):bf.keyLits (d+1) 4 [.bool b]=some [.bool b]:=by unfold Program.keyLits;rw[Tryz.underlying4]
theorem klW(d:Nat)(w:Wrd)(h:w.ok):(bf.keyLits (d+2) 98 [.int .i64 w.after,.bool w.tok,.int .i64 w.num,.bool w.out]).isSome=true:=by have c3:bf.cellsOf 3=1:=RM;have c4:bf.cellsOf 4=1:=tL;unfold Program.keyLits;rw[bg];simp only;rw[if_pos (by rw[iZ];exact⟨rfl,by decide +kernel⟩)];simp[List.mapM_cons,c3,c4,AY6 d h.1,AY6 d h.2,kl4 d]
theorem AY7:bf.keyType 98=true:=by kernel_rfl
theorem ANM:bf.types.size+1=(bf.types.size-1)+2:=by have:1<=bf.types.size:=of_decide_eq_true (by kernel_rfl);omega
theorem sU(w:Wrd)(h:w.ok):PQ bf 98 (NJ w)=some [.int .i64 w.after,.bool w.tok,.int .i64 w.num,.bool w.out]:=by
 have q:=klW (bf.types.size-1) w h;rw[<-ANM]at q;have hf:(Value.agg #[.int .i64 w.after,.bool w.tok,.int .i64 w.num,.bool w.out]).formed bf 98=true:=by unfold Value.formed;rw[bg];simp[iZ]
 have hko:(keyOf bf 98 (.agg #[.int .i64 w.after,.bool w.tok,.int .i64 w.num,.bool w.out])).isSome=true:=by unfold keyOf;rw[bg];simp only;rw[if_pos (by rw[AY7,hf];rfl),Option.isSome_map];exact q
 have hp:DJ [.int .i64 w.after,.bool w.tok,.int .i64 w.num,.bool w.out]=some [.int .i64 w.after,.bool w.tok,.int .i64 w.num,.bool w.out]:=rfl;unfold PQ NJ;simp only[hp];rw[if_pos hko]
theorem oG:jH bf 98=true:=by kernel_rfl
theorem AAL:oS bf 128=some (98,4):=by kernel_rfl
theorem AGC:QL bf 4=some (.bool false):=by kernel_rfl
theorem AY8(v w:Wrd):tP [.int .i64 v.after,.bool v.tok,.int .i64 v.num,.bool v.out] [.int .i64 w.after,.bool w.tok,.int .i64 w.num,.bool w.out]=some (decide (v=w)):=by obtain⟨a,b,c,d⟩:=v;obtain⟨a',b',c',d'⟩:=w;simp[tP];by_cases h1:a=a'<;>by_cases h2:b=b'<;>by_cases h3:c=c'<;>by_cases h4:d=d'<;>simp[h1,h2,h3,h4]
def aB(w:Wrd):List (Wrd×Bool)->Nat->List Nat
 |[],_=>[]
 |p::L,j=>if p.1=w then j::aB w L (j+1) else aB w L (j+1)
theorem VP(w:Wrd):∀(L:List (Wrd×Bool)) (j:Nat),(∀p∈L,p.1.ok)->HP bf 98 [.int .i64 w.after,.bool w.tok,.int .i64 w.num,.bool w.out] (L.map DP) j=some (aB w L j)
 |[],_,_=>rfl
 |p::L,j,h=>by have ih:=VP w L (j+1) (fun q hq=>h q (by simp[hq]));simp only[bj,DP,HP,sU p.1 (h p (by simp)),AY8 p.1 w];have ih':HP bf 98 _ (List.map DP L) (j+1)=some (aB w L (j+1)):=ih;rw[ih'];simp[aB]
theorem OT(w:Wrd):∀(L:List (Wrd×Bool)) (j:Nat),w∉L.map (·.1)->aB w L j=[]
 |[],_,_=>rfl
 |p::L,j,h=>by simp only[bj,bw,not_or]at h;have hp:¬p.1=w:=fun hh=>h.1 hh.symm;simp[aB,hp,OT w L (j+1) h.2]
theorem bB(w:Wrd):∀(L:List (Wrd×Bool)) (j:Nat),w∈L.map (·.1)->(L.map (·.1)).Nodup->∃k,aB w L j=[j+k]/\∃b,L[k]? = some (w,b)
 |p::L,j,h,hn=>by
  simp only[bj,bx]at hn;by_cases hp:p.1=w
  ·refine⟨0,?_,p.2,?_⟩
   ·simp[aB,hp,OT w L (j+1) (by rw[<-hp];exact hn.1)]
   ·simp[<-hp]
  ·simp only[bj,bw]at h;obtain⟨k,i1,b,i2⟩:=bB w L (j+1) (h.resolve_left fun hh=>hp hh.symm) hn.2;refine⟨k+1,?_,b,?_⟩
   ·simp[aB,hp,i1];omega
   ·simpa using i2
theorem AAM{v w:Wrd}(h:NJ v=NJ w):v=w:=by obtain⟨a,b,c,d⟩:=v;obtain⟨a',b',c',d'⟩:=w;simp only[NJ,V.agg.injEq,List.cons.injEq,V.int.injEq,V.bool.injEq,true_and,and_true]at h;obtain⟨rfl,rfl,rfl,rfl⟩:=h;rfl
def vX(es:List (List V))(w:Wrd):Bool:=XC w.tok w.num (es.take w.after.toNat) false==w.out
structure iF(es:List (List V))(L:List (Wrd×Bool)):Prop where
 ok:∀p∈L,p.1.ok
 so:∀p∈L,p.2=vX es p.1
 rg:∀p∈L,0<=p.1.after/\p.1.after<=es.length
 nd:(L.map (·.1)).Nodup
theorem iG{cf:Bool}{es:List (List V)}:∀{m:List (V×V)},I7 [.list cf es] m->∃L,m=L.map DP/\iF es L
 |[],_=>⟨[],rfl,⟨fun _ h=>(by cases h),fun _ h=>(by cases h),fun _ h=>(by cases h),List.nodup_nil⟩⟩
 |e::m,h=>by
  obtain⟨h1,h2⟩:=h;simp only[bj,bx]at h2;obtain⟨L,rfl,q1,q2,q4,q3⟩:=iG (cf:=cf) (es:=es) (m:=m) ⟨fun x hx=>h1 x (by simp[hx]),h2.2⟩;obtain⟨b,hb,he⟩:=h1 e (by simp);obtain⟨cf',es',w,e1,e2,e3,_,e5,e6,e4⟩:=iE hb;cases e1;refine⟨(w,b)::L,?_,⟨fun p hp=>?_,fun p hp=>?_,fun p hp=>?_,?_⟩⟩
  ·obtain⟨x,y⟩:=e;simp only at e2 he;simp[DP,e2,he]
  ·rcases bw.1 hp with rfl|hp
   ·exact e3
   ·exact q1 p hp
  ·rcases bw.1 hp with rfl|hp
   ·exact e4
   ·exact q2 p hp
  ·rcases bw.1 hp with rfl|hp
   ·exact⟨e5,e6⟩
   ·exact q4 p hp
  ·simp only[bj,bx];refine⟨fun hm=>h2.1 ?_,q3⟩;obtain⟨p,hp,hp2⟩:=bc.1 hm;exact bc.2 ⟨DP p,bc.2 ⟨p,hp,rfl⟩,by rw[e2,<-hp2];rfl⟩
theorem AAN{cf:Bool}{es:List (List V)}{L:List (Wrd×Bool)}(h:iF es L)(hes:es.all jE=true):I7 [.list cf es] (L.map DP):=by
 refine⟨fun e he=>?_,?_⟩
 ·obtain⟨p,hp,rfl⟩:=bc.1 he;refine⟨p.2,?_,rfl⟩;have hw:wfK es p.1.after p.1.num=true:=by unfold wfK;simp only[Bool.and_eq_true,decide_eq_true_eq];exact⟨(h.rg p hp).1,(h.rg p hp).2,(h.ok p hp).1,(h.ok p hp).2,hes⟩
  rw[h.so p hp];show cond (wfK es p.1.after p.1.num) _ none=_;rw[hw];rfl
 ·have:(L.map DP).map (·.1)=(L.map (·.1)).map NJ:=by simp[DP,Function.comp_def]
  rw[this];exact List.Pairwise.map _ (fun a b hab hh=>hab (AAM hh)) h.nd
theorem vY{s:St}{l q g:Nat}{es:List (List V)}{L:List (Wrd×Bool)}{w:Wrd}(hs:s.get l q=some (g,.map (L.map DP)))(hL:iF es L)(hw:w.ok) :
  ∃k:Bool,(k=false->w∉L.map (·.1))/\CM bf s 128 (.mp l q g) (NJ w) true=some (.tup [.bool (if k then vX es w else false),.bool k]):=by
 by_cases h:w∈L.map (·.1)
 ·refine⟨true,fun hh=>(by cases hh),?_⟩;unfold CM;simp only[AAL,hs,oG,sU w hw,VP w L 0 hL.ok,and_self,if_true];obtain⟨k,i1,b,i2⟩:=bB w L 0 h hL.nd;have:=hL.so _ (List.mem_of_getElem? i2);simp only at this;simp[i1,i2,DP,this]
 ·refine⟨false,fun _=>h,?_⟩;unfold CM;simp only[AAL,hs,oG,sU w hw,VP w L 0 hL.ok,and_self,if_true];simp[OT w L 0 h,AGC]
theorem AAO{s:St}{l q g:Nat}{es:List (List V)}{L:List (Wrd×Bool)}{w:Wrd}(b:Bool)(hs:s.get l q=some (g,.map (L.map DP)))(hL:iF es L)(hw:w.ok)(hn:w∉L.map (·.1)) :
  IE bf s 128 (.mp l q g) (NJ w) (.bool b)=some (l,q,g,(L++[(w,b)]).map DP):=by
 unfold IE
 simp only[AAL,hs,oG,sU w hw,VP w L 0 hL.ok,and_self,if_true]
 simp[OT w L 0 hn,DP]
theorem AAP{es:List (List V)}{L:List (Wrd×Bool)}{w:Wrd}(hL:iF es L)(hw:w.ok)(hr:0<=w.after/\w.after<=es.length)(hn:w∉L.map (·.1)):iF es (L++[(w,vX es w)]):=by
 refine⟨fun p hp=>?_,fun p hp=>?_,fun p hp=>?_,?_⟩
 ·rcases bz.1 hp with hp|hp
  ·exact hL.ok p hp
  ·rcases bq.1 hp;exact hw
 ·rcases bz.1 hp with hp|hp
  ·exact hL.so p hp
  ·rcases bq.1 hp;rfl
 ·rcases bz.1 hp with hp|hp
  ·exact hL.rg p hp
  ·rcases bq.1 hp;exact hr
 ·rw[List.map_append,List.nodup_append];refine⟨hL.nd,by simp,fun a ha b hb hab=>hn ?_⟩;simp only[bj,List.map_nil,bq]at hb;rw[<-hb,<-hab];exact ha
end Go.Proofs.Tryz.Op
open Go.Proofs
namespace Go.Pg
@[simp] theorem AKG(f:Nat)(d:List V):AK (f+1) (.memo d)=true:=rfl
@[simp] theorem ANN(d:List V):weakV (.memo d)=.memo d:=rfl
@[simp] theorem ANO(d:List V):weakC (.memo d)=.memo d:=rfl
@[simp] theorem ANP(d:List V):weakM (.memo d)=.memo d:=rfl
@[simp] theorem ANQ(l k:Nat)(o:Option (Nat×AZ))(f:Nat)(d:List V):BH l k o f (.memo d)=.memo d:=by cases f<;>rfl
@[simp] theorem AKH(s:St)(f:Nat)(d:List V):AX s (f+1) (.memo d)=some (.memo d):=rfl
@[simp] theorem AGD(s:St)(d:List V):BT s (.memo d)=some (.memo d):=rfl
end Go.Pg
namespace Go.Proofs.Tryz.Op
abbrev bo(b:Bool):V:=.bool b
def AJ(w:Wrd):List V:=[i w.after,.bool w.tok,i w.num,.bool w.out]
abbrev NH(l:List Wrd):V:=.list false (l.map AJ)
def AM(l:List Wrd):List V:=[NH l]
structure BF where
 book:AY
 wits:List (List Wrd)
 liars:Int
 claims:List Wrd
def AD(c:BF):List V:=[i c.book.chairs,i c.book.coin,i c.book.box,.list false (c.book.lines.map AB),.list false (c.book.counts.map AN),.list false (c.wits.map AM),i c.liars,.list false (c.claims.map AJ)]
end Go.Proofs.Tryz.Op
