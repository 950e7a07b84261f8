/- The ground of a way to prove Go functions through values without memory: abstract values, the places that a call owns, what of the heap they stand for. No program in sight. -/
import Derived.RangeFuncRecord
import Derived.RangeFuncCalls
import Derived.Laws.AppendOwn
import Derived.KernelRfl
import Derived.DeepKeys
import Derived.Laws.StructEq
import Derived.Laws.Cover3
import Derived.WalkSpells
import Derived.Lib.SliceRun
import Derived.DeepKeys3
open Go renaming Value->dj,TypeId->dk,Program->dq,Operand->dv,World->dw,IntKind->dx
open Option renaming bind_eq_some_iff->bj,map_eq_some_iff->bq,some->bf
open List renaming getElem?_eq_some_iff->bw,getElem_take->bx,eq_nil_of_length_eq_zero->bz,getElem_drop->bc,getElem_mem->bg,length_pos_iff->br,getElem?_drop->cj,getElem?_take->ck,getElem_cons_zero->cq,getElem_map->cx,getElem_of_mem->cz,toArray->cg
open Nat renaming eq_of_beq_eq_true->bh,le_refl->cr
open Array renaming getElem?_toList->bn,getElem?_eq_some_iff->bt,toArray_toList->cd
open Bool renaming and_eq_true->bp,false_eq_true->cm
open Prod renaming mk->cp
namespace Go.Pg
inductive V where
 |int (k:dx) (n:Int)
 |bool (b:Bool)
 |raw (v:dj)
 |agg (cs:List V)
 |tup (vs:List V)
 |list (full:Bool) (es:List (List V))
 |ref (cs:List V)
 |ptr (l k g off:Nat)
 |eptr (l k g i off:Nat)
 |vec (l k g len:Nat)
 |mp (l k g:Nat)
 |fn (f:FuncId) (first captured:List V)
 |yld (l k g:Nat)
 |nil
 |vtl (l k g i len:Nat)
 |any
 |memo (d:List V)
instance:Inhabited V:=⟨.bool false⟩
def V.isCell:V->Bool
 |.agg _|.tup _=>false
 |_=>true
inductive LS where
 |ready
 |busy
 |left (c:Code)
def LS.is:LS->Loop->Prop
 |.ready,r=>r.state=.ready/\r.pending=none
 |.busy,r=>r.state=.busy/\r.pending=none
 |.left c,r=>r.state=.done/\r.pending=some c
inductive A6 where
 |box (cs:List V)
 |vec (T:dk) (es:List (List V))
 |map (es:List (V×V))
 |loop (fr:List (Nat×Bool×V)) (ps:List Tmp) (asg body:Code) (N:Nat) (st:LS)
 |dead
instance:Inhabited A6:=⟨.dead⟩
abbrev AA:=List (Nat×Nat×A6)
def AA.get:AA->Nat->Option (Nat×A6)
 |[],_=>none
 |(k',x)::t,k=>if k=k' then some x else AA.get t k
def AA.put(L:AA)(k g:Nat)(r:A6):AA:=(k,g,r)::L
@[simp] theorem AA.get_nil(k:Nat):AA.get [] k=none:=rfl
theorem AA.free(L:AA):∃d,∀k,d<=k->AA.get L k=none:=by
 induction L with
 |nil=>exact⟨0,fun _ _=>rfl⟩
 |cons x L ih=>
  obtain⟨d,hd⟩:=ih
  obtain⟨j,y⟩:=x
  refine⟨max d (j+1),fun k hk=>?_⟩
  show(if k=j then some y else AA.get L k)=none
  rw[if_neg (by omega)]
  exact hd k (by omega)
theorem AA.get_put(L:AA)(k g j:Nat)(r:A6):(L.put k g r).get j=if j=k then some (g,r) else L.get j:=rfl
structure St where
 up:List AA
 loc:AA
def St.get(s:St)(l k:Nat):Option (Nat×A6) :=
 if l=s.up.length then s.loc.get k else match s.up[l]? with
  |some L=>L.get k
  |none=>none
def St.put(s:St)(l k g:Nat)(r:A6):St :=
 if l=s.up.length then { s with loc:=s.loc.put k g r } else { s with up:=s.up.modify l (fun L=>L.put k g r) }
theorem St.put_len(s:St)(l k g:Nat)(r:A6):(s.put l k g r).up.length=s.up.length:=by unfold St.put;split<;>simp
theorem St.get_put(s:St){l k g:Nat}{r:A6}{x:Nat×A6}(hx:s.get l k=some x)(l' k':Nat) :
  (s.put l k g r).get l' k'=if l'=l/\k'=k then some (g,r) else s.get l' k':=by
 unfold St.get St.put
 by_cases h:l=s.up.length
 ·subst h;by_cases h':l'=s.up.length
  ·simp[h',AA.get_put]
  ·simp[h']
 ·simp only[if_neg h];by_cases h':l'=s.up.length
  ·subst h';have:¬s.up.length=l:=fun e=>h e.symm;simp[this]
  ·simp only[List.length_modify,if_neg h',List.getElem?_modify];by_cases hl:l'=l
   ·subst hl;unfold St.get at hx;rw[if_neg h]at hx;cases hu:s.up[l']? with
    |none=>simp[hu]at hx
    |some L=>simp[AA.get_put]
   ·have:¬l=l':=fun e=>hl e.symm;simp[hl,this]
theorem St.get_putLoc(s:St){k g:Nat}{r:A6}(l' k':Nat) :
  (s.put s.up.length k g r).get l' k'=if l'=s.up.length/\k'=k then some (g,r) else s.get l' k':=by
 unfold St.get St.put
 simp only[if_true]
 by_cases h':l'=s.up.length
 ·simp[h',AA.get_put]
 ·simp[h']
structure Gh where
 sl:Nat->Option Obj
 be:Nat->Option (Nat×Nat×Nat)
 env:Os×Array (Nat×ByteArray)×Nat
 mm:Nat->Option (List V)
structure Gh.le(G G':Gh):Prop where
 a:∀b o,G.sl b=some o->G'.sl b=some o
 b:∀g x,G.be g=some x->G'.be g=some x
 e:G'.env=G.env
 m:∀b d,G.mm b=some d->G'.mm b=some d
theorem Gh.le_refl(G:Gh):G.le G:=⟨fun _ _ h=>h,fun _ _ h=>h,rfl,fun _ _ h=>h⟩
theorem Gh.le_trans{A B C:Gh}(h:A.le B)(h':B.le C):A.le C:=⟨fun b o x=>h'.1 b o (h.1 b o x),fun g y x=>h'.2 g y (h.2 g y x),h'.e.trans h.e,fun b d x=>h'.m b d (h.m b d x)⟩
inductive RepV(G:Gh):V->dj->Prop
 |int (k:dx) (n:Int):RepV G (.int k n) (.int k n)
 |bool (b:Bool):RepV G (.bool b) (.bool b)
 |raw (v:dj) (h:v.oneCell'=true):RepV G (.raw v) v
 |agg (cs:List V) (arr:Array dj) (hl:cs.length=arr.size) (hc:∀c∈cs,c.isCell=true)
   (h:∀i (h1:i<cs.length) (h2:i<arr.size),RepV G cs[i] arr[i]):RepV G (.agg cs) (.agg arr)
 |tup (cs:List V) (arr:Array dj) (hl:cs.length=arr.size)
   (h:∀i (h1:i<cs.length) (h2:i<arr.size),RepV G cs[i] arr[i]):RepV G (.tup cs) (.tuple arr)
 |list (full:Bool) (es:List (List V)) (a:Option Addr) (cap b off sz:Nat) (arr:Array dj) (T:dk) (fz:Nat×Nat) (vs:Nat->Nat->dj)
   (hcap:es.length<=cap) (hfull:full=true->cap=es.length)
   (ha:es≠[]->a=some ⟨b,off,none⟩/\G.sl b=some (.cells arr T fz))
   (hl:∀i (h:i<es.length),es[i].length=sz)
   (hv:∀i (h:i<es.length) j (hj:j<es[i].length),arr[off+i*sz+j]? = some (vs i j)/\es[i][j].isCell=true)
   (hr:∀i (h:i<es.length) j (hj:j<es[i].length),RepV G es[i][j] (vs i j)):RepV G (.list full es) (.slice a es.length cap)
 |ref (cs:List V) (b off:Nat) (arr:Array dj) (T:dk) (fz:Nat×Nat) (vs:Nat->dj)
   (ha:G.sl b=some (.cells arr T fz))
   (hv:∀j (hj:j<cs.length),arr[off+j]? = some (vs j)/\cs[j].isCell=true)
   (hr:∀j (hj:j<cs.length),RepV G cs[j] (vs j)):RepV G (.ref cs) (.pointer (some ⟨b,off,none⟩))
 |ptr (l k g off b sz C:Nat) (h:G.be g=some (b,sz,C)):RepV G (.ptr l k g off) (.pointer (some ⟨b,off,none⟩))
 |eptr (l k g i off b sz C:Nat) (h:G.be g=some (b,sz,C)):RepV G (.eptr l k g i off) (.pointer (some ⟨b,i*sz+off,none⟩))
 |vec (l k g len b sz C:Nat) (a:Option Addr) (h:G.be g=some (b,sz,C)) (hlen:len<=C)
   (ha:C≠0->a=some ⟨b,0,none⟩):RepV G (.vec l k g len) (.slice a len C)
 |mp (l k g b sz C:Nat) (h:G.be g=some (b,sz,C)):RepV G (.mp l k g) (.map (some b))
 |fn (f:FuncId) (xs ys:List V) (a1 a2:Array dj) (h1:xs.length=a1.size) (h2:ys.length=a2.size)
   (hx:∀i (p:i<xs.length) (q:i<a1.size),RepV G xs[i] a1[i]) (hy:∀i (p:i<ys.length) (q:i<a2.size),RepV G ys[i] a2[i]) :
   RepV G (.fn f xs ys) (.func (.func f) a1 a2)
 |yld (l k g b sz C:Nat) (h:G.be g=some (b,sz,C)):RepV G (.yld l k g) (.func (.yield b) #[] #[])
 |nil:RepV G .nil (.slice none 0 0)
 |vtl (l k g i n b sz C cap:Nat) (a:Option Addr) (h:G.be g=some (b,sz,C)) (hlen:i+n<=C) (ha:n≠0->a=some ⟨b,i*sz,none⟩):RepV G (.vtl l k g i n) (.slice a n cap)
 |any (v:dj) (h:v.oneCell'=true):RepV G .any v
 |memo (d:List V) (b:Nat) (h:G.mm b=some d):RepV G (.memo d) (.map (some b))
theorem RepV.mono{G G':Gh}(hle:G.le G'){x:V}{v:dj}(h:RepV G x v):RepV G' x v:=by
 induction h with
 |int k n=>exact .int k n
 |bool b=>exact .bool b
 |raw v h=>exact .raw v h
 |agg cs arr hl hc _ ih=>exact .agg cs arr hl hc ih
 |tup cs arr hl _ ih=>exact .tup cs arr hl ih
 |list full es a cap b off sz arr T fz vs hcap hfull ha hl hv _ ih=>
  exact .list full es a cap b off sz arr T fz vs hcap hfull (fun h=>⟨(ha h).1,hle.1 _ _ (ha h).2⟩) hl hv ih
 |ref cs b off arr T fz vs ha hv _ ih=>exact .ref cs b off arr T fz vs (hle.1 _ _ ha) hv ih
 |ptr l k g off b sz C h=>exact .ptr l k g off b sz C (hle.2 _ _ h)
 |eptr l k g i off b sz C h=>exact .eptr l k g i off b sz C (hle.2 _ _ h)
 |vec l k g len b sz C a h hlen ha=>exact .vec l k g len b sz C a (hle.2 _ _ h) hlen ha
 |mp l k g b sz C h=>exact .mp l k g b sz C (hle.2 _ _ h)
 |fn f xs ys a1 a2 h1 h2 _ _ ihx ihy=>exact .fn f xs ys a1 a2 h1 h2 ihx ihy
 |yld l k g b sz C h=>exact .yld l k g b sz C (hle.2 _ _ h)
 |nil=>exact .nil
 |vtl l k g i n b sz C cap a h hlen ha=>exact .vtl l k g i n b sz C cap a (hle.2 _ _ h) hlen ha
 |any v h=>exact .any v h
 |memo d b h=>exact .memo d b (hle.m _ _ h)
theorem RepV.cell{G:Gh}{x:V}{v:dj}(h:RepV G x v)(hc:x.isCell=true):v.oneCell'=true:=by cases h<;>first|rfl|assumption|simp[V.isCell]at hc
def RepL(G:Gh)(cs:List V)(vs:List dj):Prop:=cs.length=vs.length/\∀i (h1:i<cs.length) (h2:i<vs.length),cs[i].isCell=true/\RepV G cs[i] vs[i]
def RepA(G:Gh)(cs:List V)(vs:List dj):Prop:=cs.length=vs.length/\∀i (h1:i<cs.length) (h2:i<vs.length),RepV G cs[i] vs[i]
theorem RepL.mono{G G':Gh}(hle:G.le G'){cs:List V}{vs:List dj}(h:RepL G cs vs):RepL G' cs vs :=
 ⟨h.1,fun i h1 h2=>⟨(h.2 i h1 h2).1,(h.2 i h1 h2).2.mono hle⟩⟩
theorem RepL.one{G:Gh}{cs:List V}{vs:List dj}(h:RepL G cs vs):∀v∈vs,v.oneCell'=true:=by intro v hv;obtain⟨i,hi,rfl⟩:=cz hv;have:=h.2 i (by rw[h.1];exact hi) hi;exact this.2.cell this.1
theorem RepL.nil(G:Gh):RepL G [] []:=⟨rfl,fun i h=>absurd h (by simp)⟩
theorem RepA.nil(G:Gh):RepA G [] []:=⟨rfl,fun i h=>absurd h (by simp)⟩
theorem RepL.cons{G:Gh}{c:V}{v:dj}{cs:List V}{vs:List dj}(hc:c.isCell=true)(h:RepV G c v)(ht:RepL G cs vs):RepL G (c::cs) (v::vs):=by
 refine⟨by simp[ht.1],fun i h1 h2=>?_⟩;cases i with
 |zero=>exact⟨hc,h⟩
 |succ i=>exact ht.2 i (by simpa using h1) (by simpa using h2)
theorem RepA.cons{G:Gh}{c:V}{v:dj}{cs:List V}{vs:List dj}(h:RepV G c v)(ht:RepA G cs vs):RepA G (c::cs) (v::vs):=by
 refine⟨by simp[ht.1],fun i h1 h2=>?_⟩;cases i with
 |zero=>exact h
 |succ i=>exact ht.2 i (by simpa using h1) (by simpa using h2)
theorem RepL.append{G:Gh}{cs ds:List V}{vs us:List dj}(h:RepL G cs vs)(h':RepL G ds us):RepL G (cs++ds) (vs++us):=by
 induction cs generalizing vs with
 |nil=>have:vs=[]:=bz h.1.symm;subst this;simpa using h'
 |cons c cs ih=>
  cases vs with
  |nil=>exact absurd h.1 (by simp)
  |cons v vs=>
   have h0:=h.2 0 (by simp) (by simp)
   exact .cons h0.1 h0.2 (ih ⟨by simpa using h.1,fun i h1 h2=>h.2 (i+1) (by simpa using h1) (by simpa using h2)⟩)
theorem RepA.append{G:Gh}{cs ds:List V}{vs us:List dj}(h:RepA G cs vs)(h':RepA G ds us):RepA G (cs++ds) (vs++us):=by
 induction cs generalizing vs with
 |nil=>have:vs=[]:=bz h.1.symm;subst this;simpa using h'
 |cons c cs ih=>
  cases vs with
  |nil=>exact absurd h.1 (by simp)
  |cons v vs=>
   exact .cons (h.2 0 (by simp) (by simp)) (ih ⟨by simpa using h.1,fun i h1 h2=>h.2 (i+1) (by simpa using h1) (by simpa using h2)⟩)
theorem RepL.drop{G:Gh}{cs:List V}{vs:List dj}(h:RepL G cs vs)(n:Nat):RepL G (cs.drop n) (vs.drop n):=by refine⟨by simp[h.1],fun i h1 h2=>?_⟩;simp only[bc];exact h.2 _ _ _
theorem RepL.take{G:Gh}{cs:List V}{vs:List dj}(h:RepL G cs vs)(n:Nat):RepL G (cs.take n) (vs.take n):=by refine⟨by simp[h.1],fun i h1 h2=>?_⟩;simp only[bx];exact h.2 _ _ _
theorem RepL.toAgg{G:Gh}{cs:List V}{vs:List dj}(h:RepL G cs vs):RepV G (.agg cs) (.agg vs.toArray) :=
 .agg cs _ (by simp[h.1]) (fun c hc=>by
  obtain⟨i,hi,rfl⟩:=cz hc;exact(h.2 i hi (by rw[<- h.1]; exact hi)).1) (fun i h1 h2=>by
  simp only[List.getElem_toArray];exact(h.2 i h1 (by simpa using h2)).2)
theorem RepL.ofAgg{G:Gh}{cs:List V}{v:dj}(h:RepV G (.agg cs) v):∃arr:Array dj,v=.agg arr/\RepL G cs arr.toList:=by
 cases h with
 |agg _ arr hl hc h=>exact⟨arr,rfl,by simpa using hl,fun i h1 h2=>⟨hc _ (bg h1),by simpa using h i h1 (by simpa using h2)⟩⟩
theorem RepL.get{G:Gh}{cs:List V}{vs:List dj}(h:RepL G cs vs){i:Nat}{c:V}(hc:cs[i]? = some c):∃v,vs[i]? = some v/\c.isCell=true/\RepV G c v:=by
 obtain⟨hi,rfl⟩:=bw.1 hc;have hi':i<vs.length:=by rw[<-h.1];exact hi
 exact⟨vs[i],List.getElem?_eq_getElem hi',h.2 i hi hi'⟩
abbrev Fr:=List (Nat×Bool×V)
def Fr.get:Fr->Nat->Option (Bool×V)
 |[],_=>none
 |(k',x)::t,k=>if k=k' then some x else Fr.get t k
def Fr.put(fr:Fr)(k:Nat)(c:Bool)(v:V):Fr:=(k,c,v)::fr
theorem Fr.get_put(fr:Fr)(k j:Nat)(c:Bool)(v:V):(fr.put k c v).get j=if j=k then some (c,v) else fr.get j:=rfl
def HI(G:Gh)(fr:Fr)(tmps:Array dj):Prop :=
 ∀k c v,fr.get k=some (c,v)->∃x,tmps[k]? = some x/\(c=true->RepV G v x)/\(c=false->x=undef)
theorem HI.mono{G G':Gh}(hle:G.le G'){fr:Fr}{tmps:Array dj}(h:HI G fr tmps):HI G' fr tmps:=by intro k c v hk;obtain⟨x,h1,h2,h3⟩:=h k c v hk;exact⟨x,h1,fun hc=>(h2 hc).mono hle,h3⟩
theorem HI.put{G:Gh}{fr:Fr}{a:Act}(h:HI G fr a.tmps){k:Nat}(hk:k<a.tmps.size){c:Bool}{v:V}{x:dj}(h1:c=true->RepV G v x)(h2:c=false->x=undef) :
  HI G (fr.put k c v) (a.put (some k) x).tmps:=by
 intro j c' v' hj
 rw[Fr.get_put]at hj
 simp only[Act.put]
 split at hj
 ·rename_i e;subst e;simp only[bf.injEq,cp.injEq]at hj;obtain⟨rfl,rfl⟩:=hj;exact⟨x,by simp[hk],h1,h2⟩
 ·rename_i hne;obtain⟨y,hy,h3⟩:=h j c' v' hj;exact⟨y,by rw[Array.getElem?_setIfInBounds_ne (fun e=>hne e.symm)];exact hy,h3⟩
def HJ(G:Gh)(g:Nat)(w:dw):A6->Prop
 |.box cs=>∃b arr T,G.be g=some (b,1,cs.length)/\w.heap[b]? = some (.cells arr T (0,0))/\RepL G cs arr.toList
 |.vec T es=>∃b sz C,G.be g=some (b,sz,C)/\es.length<=C/\(∀e∈es,e.length=sz)/\(C<=maxLen/\(es=[]->C=0)) /\
   (C≠0->∃arr,w.heap[b]? = some (.cells arr T (0,0))/\arr.size=C*sz/\RepL G es.flatten (arr.toList.take (es.length*sz)))
 |.map es=>∃b arr clock,G.be g=some (b,1,1)/\w.heap[b]? = some (.map arr clock)/\es.length=arr.size /\
   (∀i (h1:i<es.length) (h2:i<arr.size),RepV G es[i].1 arr[i].key/\RepV G es[i].2 arr[i].val)
 |.loop fr ps asg body N st=>∃b r,G.be g=some (b,1,1)/\w.heap[b]? = some (.loop r)/\HI G fr r.tmps/\r.tmps.size=N/\r.params.toList=ps/\r.assign=asg/\r.body=body/\st.is r
 |.dead=>True
def BG(G:Gh)(g:Nat):A6->Option Nat
 |.dead=>none
 |.vec _ _=>match G.be g with
  |some (b,_,C)=>if C=0 then none else some b
  |none=>none
 |_=>(G.be g).map (·.1)
theorem HJ.keep{G G':Gh}{g:Nat}{w w':dw}{r:A6}(h:HJ G g w r)(hle:G.le G')(hw:∀b,BG G g r=some b->w'.heap[b]? = w.heap[b]?):HJ G' g w' r:=by
 cases r with
 |dead=>trivial
 |box cs=>
  obtain⟨b,arr,T,h1,h2,h3⟩:=h
  exact⟨b,arr,T,hle.2 _ _ h1,(hw b (by simp[BG,h1])).trans h2,h3.mono hle⟩
 |vec T es=>
  obtain⟨b,sz,C,h1,h2,h3,h4,h5⟩:=h
  refine⟨b,sz,C,hle.2 _ _ h1,h2,h3,h4,fun hC=>?_⟩
  obtain⟨arr,h6,h7,h8⟩:=h5 hC
  exact⟨arr,(hw b (by simp[BG,h1,hC])).trans h6,h7,h8.mono hle⟩
 |map es=>
  obtain⟨b,arr,clock,h1,h2,h3,h4⟩:=h
  exact⟨b,arr,clock,hle.2 _ _ h1,(hw b (by simp[BG,h1])).trans h2,h3,fun i p q=>⟨(h4 i p q).1.mono hle,(h4 i p q).2.mono hle⟩⟩
 |loop fr ps asg body N st=>
  obtain⟨b,r,h1,h2,h3,h4⟩:=h
  exact⟨b,r,hle.2 _ _ h1,(hw b (by simp[BG,h1])).trans h2,h3.mono hle,h4⟩
theorem HJ.owned{G:Gh}{g:Nat}{w:dw}{r:A6}{G':Gh}(h:HJ G g w r)(hle:G.le G'){b:Nat}(hb:BG G' g r=some b):BG G g r=some b:=by
 cases r with
 |dead=>cases hb
 |box cs=>obtain⟨b',arr,T,h1,_⟩:=h;simp only[BG,h1,hle.2 _ _ h1]at hb|-;exact hb
 |vec T es=>obtain⟨b',sz,C,h1,_⟩:=h;simp only[BG,h1,hle.2 _ _ h1]at hb|-;exact hb
 |map es=>obtain⟨b',arr,clock,h1,_⟩:=h;simp only[BG,h1,hle.2 _ _ h1]at hb|-;exact hb
 |loop fr ps asg body N st=>obtain⟨b',r,h1,_⟩:=h;simp only[BG,h1,hle.2 _ _ h1]at hb|-;exact hb
def dM(o:Obj):Prop:=∀c T fz,o=.cells c T fz->fz=(0,0)
def QI(G:Gh)(w:dw):Prop:=w.os=G.env.1/\w.output=G.env.2.1/\G.env.2.2<=w.heap.size/\∀b c T fz,G.env.2.2<=b->w.heap[b]? = some (.cells c T fz)->fz=(0,0)
def TW(tok:Bool)(num:Int):List (List V)->Bool->Bool
 |[],o=>o
 | e :: r,o=>TW tok num r (match e with
  |[.int _ kind,.int _ chair,.int _ token]=>if (if tok=true then token else chair)=num then decide (kind=1) else o
  | _=>o)
def lM:List V->Bool
 |[.int .i64 _,.int .i64 _,.int .i64 _]=>true
 |_=>false
def wfK(es:List (List V))(after num:Int):Bool:=decide (0<=after)&&(decide (after<=es.length)&&((Lit.int .i64 after).wf&&((Lit.int .i64 num).wf&&es.all lM)))
def isV:List V->V->Option Bool
 |[.list _ es],.agg [.int .i64 after,.bool tok,.int .i64 num,.bool out]=>cond (wfK es after num) (some (TW tok num (es.take after.toNat) false==out)) none
 |_,_=>none
def A5H(d:List V)(e:V×V):Prop:=∃b,isV d e.1=some b/\e.2=.bool b
def JS(d:List V)(es:List (V×V)):Prop:=(∀e∈es,A5H d e)/\(es.map (·.1)).Nodup
theorem JS.nil(d:List V):JS d []:=⟨fun _ h=>(by cases h),List.nodup_nil⟩
def MP(G:Gh)(w:dw)(b:Nat)(d:List V):Prop:=∃arr clock,∃es:List (V×V),w.heap[b]? = some (.map arr clock)/\es.length=arr.size /\
 (∀i (h1:i<es.length) (h2:i<arr.size),RepV G es[i].1 arr[i].key/\RepV G es[i].2 arr[i].val)/\JS d es
theorem MP.keep{G G':Gh}{w w':dw}{b:Nat}{d:List V}(h:MP G w b d)(hr:∀x v,RepV G x v->RepV G' x v)(hw:w'.heap[b]? = w.heap[b]?):MP G' w' b d:=by obtain⟨arr,clock,es,h1,h2,h3,h4⟩:=h;exact⟨arr,clock,es,hw.trans h1,h2,fun i p q=>⟨hr _ _ (h3 i p q).1,hr _ _ (h3 i p q).2⟩,h4⟩
theorem wG{G G':Gh}{k:dx}{n:Int}{v:dj}(h:RepV G (.int k n) v):RepV G' (.int k n) v:=by cases h;exact .int _ _
theorem R7{G G':Gh}{b:Bool}{v:dj}(h:RepV G (.bool b) v):RepV G' (.bool b) v:=by cases h;exact .bool _
theorem AKH{G G':Gh}{d:List V}{x:V}{v:dj}{b:Bool}(hk:isV d x=some b)(h:RepV G x v):RepV G' x v:=by
 unfold isV at hk;split at hk
 ·cases h with
  |agg cs arr hl hc hi=>
   refine .agg _ arr hl hc fun i h1 h2=>?_
   have q:=hi i h1 h2
   match i,h1 with
   |0,_=>exact wG q
   |1,_=>exact R7 q
   |2,_=>exact wG q
   |3,_=>exact R7 q
   |n+4,h1=>simp at h1;omega
 ·cases hk
theorem MP.any{G G':Gh}{w:dw}{b:Nat}{d:List V}(h:MP G w b d):MP G' w b d:=by obtain⟨arr,clock,es,h1,h2,h3,h4⟩:=h;refine⟨arr,clock,es,h1,h2,fun i p q=>?_,h4⟩;obtain⟨q1,q2⟩:=h3 i p q;obtain⟨c,e1,e2⟩:=h4.1 _ (bg p);refine⟨AKH e1 q1,?_⟩;rw[e2]at q2|-;exact R7 q2
structure J7(G:Gh)(s:St)(w:dw):Prop where
 at':∀b d,G.mm b=some d->MP G w b d
 lt:∀b d,G.mm b=some d->b<w.heap.size
 ow:∀l k g r b,s.get l k=some (g,r)->BG G g r=some b->G.mm b=none
 sl:∀b d,G.mm b=some d->G.sl b=none
structure CE(G:Gh)(s:St)(w:dw):Prop where
 sl:∀b o,G.sl b=some o->w.heap[b]? = some o
 res:∀l k g r,s.get l k=some (g,r)->HJ G g w r
 sep:∀l k g r l' k' g' r' b,s.get l k=some (g,r)->s.get l' k'=some (g',r')->BG G g r=some b->BG G g' r'=some b->l=l'/\k=k'
 out:∀l k g r b,s.get l k=some (g,r)->BG G g r=some b->G.sl b=none/\b<w.heap.size
 fresh:∃N,∀g,N<=g->G.be g=none
 env:QI G w
 me:J7 G s w
theorem J7.stepR{G G':Gh}{s s':St}{w w':dw}(h:J7 G s w)(hle:∀x v,RepV G x v->RepV G' x v)(hmm:G'.mm=G.mm)(hw:∀b d,G.mm b=some d->w'.heap[b]? = w.heap[b]?)
  (hs:∀l k g r b,s'.get l k=some (g,r)->BG G' g r=some b->(∃l k g r,s.get l k=some (g,r)/\BG G g r=some b)\/w.heap.size<=b)
  (hsl:∀b d,G.mm b=some d->G'.sl b=none):J7 G' s' w':=by
 have hlt:∀b d,G.mm b=some d->b<w'.heap.size:=fun b d hb=>by obtain⟨arr,clock,es,h1,_⟩:=h.at' b d hb;exact(bt.1 ((hw b d hb).trans h1)).1
 refine⟨fun b d hb=>?_,fun b d hb=>hlt b d (by rw[<-hmm];exact hb),fun l k g r b h1 h2=>?_,fun b d hb=>hsl b d (by rw[<-hmm];exact hb)⟩
 ·rw[hmm]at hb;exact(h.at' b d hb).keep hle (hw b d hb)
 ·rw[hmm];rcases hs l k g r b h1 h2 with⟨l',k',g',r',h3,h4⟩|h3
  ·exact h.ow _ _ _ _ _ h3 h4
  ·cases hb:G.mm b with
   |none=>rfl
   |some d=>have:=h.lt b d hb;omega
theorem J7.step{G G':Gh}{s s':St}{w w':dw}(h:J7 G s w)(hle:G.le G')(hmm:G'.mm=G.mm)(hw:∀b d,G.mm b=some d->w'.heap[b]? = w.heap[b]?)
  (hs:∀l k g r b,s'.get l k=some (g,r)->BG G' g r=some b->(∃l k g r,s.get l k=some (g,r)/\BG G g r=some b)\/w.heap.size<=b)
  (hsl:∀b d,G.mm b=some d->G'.sl b=none):J7 G' s' w':=h.stepR (fun _ _ h=>h.mono hle) hmm hw hs hsl
def i64(n:Int):V:=.int .i64 n
def CK:dj->Option V
 |.int k n=>some (.int k n)
 |.bool b=>some (.bool b)
 |.slice none 0 0=>some .nil
 |.agg _|.tuple _=>none
 |v=>some (.raw v)
theorem MQ{G:Gh}{v:dj}{x:V}(h:CK v=some x):RepV G x v:=by
 cases v with
 |int k n=>simp only[CK,bf.injEq]at h;subst h;exact .int k n
 |bool b=>simp only[CK,bf.injEq]at h;subst h;exact .bool b
 |slice a n c=>
  by_cases e:a=none/\n=0/\c=0
  ·obtain⟨rfl,rfl,rfl⟩:=e;simp only[CK,bf.injEq]at h;subst h;exact .nil
  ·have:CK (.slice a n c)=some (.raw (.slice a n c)):=by unfold CK;split<;>simp_all
   rw[this]at h;cases h;exact .raw _ rfl
 |agg cs=>simp[CK]at h
 |tuple cs=>simp[CK]at h
 |_=>simp only[CK,bf.injEq]at h;subst h;exact .raw _ rfl
def rd(fr:Fr):dv->Option (Bool×V)
 |.tmp t=>fr.get t
 |.const v=>(CK v).map fun x=>(true,x)
 |.func f=>some (true,.fn f [] [])
 |.global _=>none
theorem rW{G:Gh}{fr:Fr}{a:Act}(h:HI G fr a.tmps){x:dv}{c:Bool}{v:V}(hr:rd fr x=some (c,v))(hc:c=true):RepV G v (a.eval x):=by
 cases x with
 |tmp t=>
  obtain⟨y,hy,h1,_⟩:=h t c v hr
  have:a.eval (.tmp t)=y:=by simp[Act.eval,Array.getD_eq_getD_getElem?,hy]
  rw[this];exact h1 hc
 |const u=>
  simp only[rd,bq,cp.injEq]at hr
  obtain⟨y,hy,_,rfl⟩:=hr
  exact MQ hy
 |func f=>
  simp only[rd,bf.injEq,cp.injEq]at hr
  obtain⟨_,rfl⟩:=hr
  exact .fn f [] [] #[] #[] rfl rfl (fun i h=>absurd h (by simp)) (fun i h=>absurd h (by simp))
 |global g=>simp[rd]at hr
def AEV(P:dq)(T:dk):Bool:=match P.underlying T with
 |some (.struct _)|some (.array _ _)=>true
 |_=>false
def dN(P:dq)(T:dk):Option dj:=(P.info? T).bind (·.zero)
def BA:V->List V
 |.agg cs=>cs
 |v=>[v]
def GP:List dj->Option (List V)
 |[]=>some []
 |v::r=>match CK v,GP r with
  |some x,some l=>some (x::l)
  |_,_=>none
def B8(P:dq)(T:dk):Option (List V):=match dN P T with
 |some z=>GP z.cells.toList
 |none=>none
def BL(P:dq)(T:dk)(f:Nat):Option (dk×Nat):=match P.underlying T with
 |some (.struct fs)=>(fs[f]?).map fun x=>(x.type,x.offset)
 |_=>none
def BT(P:dq)(T:dk)(cs:List V):Option V:=match P.underlying T with
 |some (.struct _)|some (.array _ _)=>if P.cellsOf T<=cs.length then some (.agg (cs.take (P.cellsOf T))) else none
 |some _=>cs[0]?
 |none=>none
def BF(s:St):V->Option (List V)
 |.ref cs=>some cs
 |.ptr l k g off=>match s.get l k with
  |some (g',.box cs)=>if g'=g then some (cs.drop off) else none
  |_=>none
 |.eptr l k g i off=>match s.get l k with
  |some (g',.vec _ es)=>if g'=g then(es[i]?).map (·.drop off) else none
  |_=>none
 |_=>none
def AEW(op:BinOp)(a b:Int):Option Bool:=match op with
 |.eql=>some (a==b)
 |.neq=>some (a != b)
 |.lss=>some (decide (a<b))
 |.leq=>some (decide (a<=b))
 |.gtr=>some (decide (b<a))
 |.geq=>some (decide (b<=a))
 |_=>none
def EV(op:BinOp)(k:dx)(a b:Int):Option V:=match op with
 |.add=>some (.int k (k.wrap (a+b)))
 |.sub=>some (.int k (k.wrap (a-b)))
 |.mul=>some (.int k (k.wrap (a*b)))
 |.quo=>if b=0 then none else some (.int k (k.wrap (a.tdiv b)))
 |.rem=>if b=0 then none else some (.int k (a.tmod b))
 |.and=>some (.int k (k.wrap (BitVec.ofInt k.bits a &&& BitVec.ofInt k.bits b).toNat))
 |.or=>some (.int k (k.wrap (BitVec.ofInt k.bits a ||| BitVec.ofInt k.bits b).toNat))
 |.xor=>some (.int k (k.wrap (BitVec.ofInt k.bits a ^^^ BitVec.ofInt k.bits b).toNat))
 |.andNot=>some (.int k (k.wrap (BitVec.ofInt k.bits a &&& ~~~ BitVec.ofInt k.bits b).toNat))
 |.shl=>if b<0 then none else some (.int k (k.wrap (a*2 ^ (min b.toNat k.bits))))
 |.shr=>if b<0 then none else some (.int k (a.fdiv (2 ^ (min b.toNat k.bits))))
 |.eql|.neq|.lss|.leq|.gtr|.geq=>(AEW op a b).map .bool
def lN(P:dq)(T:dk):Bool:=match P.underlying T with
 |some .bool=>true
 |_=>false
def DP:List V->Option (List dj)
 |[]=>some []
 |.int k n::r=>match DP r with
  |some l=>some (.int k n::l)
  |none=>none
 |.bool b::r=>match DP r with
  |some l=>some (.bool b::l)
  |none=>none
 |_=>none
def K6:List Lit->List Lit->Bool
 |[],[]=>true
 |.int _ a::x,.int _ b::y=>(a==b)&&K6 x y
 |.bool a::x,.bool b::y=>(a==b)&&K6 x y
 |_,_=>false
def CR:List Lit->List Lit->Bool
 |[],[]=>true
 |.int k _::x,.int j _::y=>decide (k=j)&&CR x y
 |.bool _::x,.bool _::y=>CR x y
 |_,_=>false
theorem Q2:∀{x y:List Lit},CR x y=true->(K6 x y=true↔x=y)
 |[],[],_=>by simp[K6]
 |.int k a::x,.int j b::y,h=>by simp only[CR,bp,decide_eq_true_eq]at h;obtain⟨rfl,h⟩:=h;simp[K6,Q2 h]
 |.bool a::x,.bool b::y,h=>by simp only[CR]at h;simp[K6,Q2 h]
 |[],_::_,h=>by simp[CR]at h
 |.bool _::_,[],h=>by simp[CR]at h
 |.bool _::_,.int _ _::_,h=>by simp[CR]at h
 |.int _ _::_,[],h=>by simp[CR]at h
 |.int _ _::_,.bool _::_,h=>by simp[CR]at h
 |.float _ _::_,_,h=>by simp[CR]at h
 |.string _::_,_,h=>by simp[CR]at h
 |.nil::_,_,h=>by simp[CR]at h
 |.int _ _::_,.float _ _::_,h=>by simp[CR]at h
 |.int _ _::_,.string _::_,h=>by simp[CR]at h
 |.int _ _::_,.nil::_,h=>by simp[CR]at h
 |.bool _::_,.float _ _::_,h=>by simp[CR]at h
 |.bool _::_,.string _::_,h=>by simp[CR]at h
 |.bool _::_,.nil::_,h=>by simp[CR]at h
def Q3(P:dq)(T:dk)(cs ds:List V):Option Bool:=match DP cs,DP ds with
 |some a,some b=>match P.keyLits 16 T a,P.keyLits 16 T b with
  |some x,some y=>if AEV P T&&P.keyTypeAt 16 T&&!(P.eqGuardType P.depth T)&&Nat.beq a.length (P.cellsOf T)&&Nat.beq b.length (P.cellsOf T)&&CR x y then some (K6 x y) else none
  |_,_=>none
 |_,_=>none
def DQ(P:dq)(T:dk):Bool:=match P.underlying T with
 |some (.slice _)=>true
 |_=>false
def HK:V->Option Bool
 |.nil=>some true
 |.list _ (_::_)=>some false
 |.vec _ _ _ (_+1)=>some false
 |.vtl _ _ _ _ (_+1)=>some false
 |.raw (.slice a _ _)=>some a.isNone
 |_=>none
def bX(op:BinOp)(k:dx)(a b:Int):Option V:=match op with
 |.shl=>if b<0 then none else some (.int k (k.wrap (a*2 ^ (min b.toNat k.bits))))
 |.shr=>if b<0 then none else some (.int k (a.fdiv (2 ^ (min b.toNat k.bits))))
 |_=>none
def F3(P:dq)(op:BinOp)(T:dk)(x y:V):Option V :=
 match x,y with
 |.int k a,.int j b=>if k=j then EV op k a b else bX op k a b
 | .bool a,.bool b=>if lN P T then(match op with
  |.eql=>some (.bool (a==b))
  |.neq=>some (.bool (a != b))
  | _=>none) else none
 |.agg cs,.agg ds=>match op with
  |.eql=>(Q3 P T cs ds).map .bool
  |.neq=>(Q3 P T cs ds).map fun b=>.bool !b
  |_=>none
 | x,.nil=>if DQ P T then(match op with
  |.eql=>(HK x).map .bool
  |.neq=>(HK x).map fun b=>.bool !b
  | _=>none) else none
 |_,_=>none
section
variable {P:dq}{G:Gh}{w:dw}
theorem yY{op:BinOp}{a b:Int}{r:Bool}(h:AEW op a b=some r):(Op.intCmp op a b).run P w=.ok (.bool r) w:=by cases op<;>simp only[AEW,bf.injEq,reduceCtorEq]at h<;>subst h<;>simp[Op.intCmp]
theorem yZ{op:BinOp}{T:dk}{k:dx}{a b:Int}{v:V}(h:EV op k a b=some v) :
    ∃x,(binOp op T (.int k a) (.int k b)).run P w=.ok x w/\RepV G v x:=by
  cases op
  case add=>cases h;exact⟨.int k (k.wrap (a+b)),by simp[binOp,Op.intArith],.int _ _⟩
  case sub=>cases h;exact⟨.int k (k.wrap (a-b)),by simp[binOp,Op.intArith],.int _ _⟩
  case mul=>cases h;exact⟨.int k (k.wrap (a*b)),by simp[binOp,Op.intArith],.int _ _⟩
  case quo=>
    simp only[EV]at h
    split at h
    · cases h
    · rename_i hb;cases h;exact⟨.int k (k.wrap (a.tdiv b)),by simp[binOp,Op.intDiv,hb],.int _ _⟩
  case rem=>
    simp only[EV]at h
    split at h
    · cases h
    · rename_i hb;cases h;exact⟨.int k (a.tmod b),by simp[binOp,Op.intDiv,hb],.int _ _⟩
  case and=>cases h;exact⟨.int k (k.wrap (BitVec.ofInt k.bits a &&& BitVec.ofInt k.bits b).toNat),by simp[binOp,Op.intBits],.int _ _⟩
  case or=>cases h;exact⟨.int k (k.wrap (BitVec.ofInt k.bits a ||| BitVec.ofInt k.bits b).toNat),by simp[binOp,Op.intBits],.int _ _⟩
  case xor=>cases h;exact⟨.int k (k.wrap (BitVec.ofInt k.bits a ^^^ BitVec.ofInt k.bits b).toNat),by simp[binOp,Op.intBits],.int _ _⟩
  case andNot=>cases h;exact⟨.int k (k.wrap (BitVec.ofInt k.bits a &&& ~~~ BitVec.ofInt k.bits b).toNat),by simp[binOp,Op.intBits],.int _ _⟩
  case shl=>
    simp only[EV]at h
    split at h
    · cases h
    · rename_i hb;cases h;exact⟨.int k (k.wrap (a*2 ^ (min b.toNat k.bits))),by simp[binOp,Op.shift,hb],.int _ _⟩
  case shr=>
    simp only[EV]at h
    split at h
    · cases h
    · rename_i hb;cases h;exact⟨.int k (a.fdiv (2 ^ (min b.toNat k.bits))),by simp[binOp,Op.shift,hb],.int _ _⟩
  all_goals
    first
    |(simp only[EV]at h;cases h;done)
    | (simp only[EV,bq]at h
       obtain⟨r,hr,rfl⟩:=h
       exact⟨.bool r,by simp[binOp,yY (P:=P) (w:=w) hr],.bool r⟩)
theorem AEX{op:BinOp}{T:dk}{k j:dx}{a b:Int}{v:V}(h:bX op k a b=some v) :
  ∃x,(binOp op T (.int k a) (.int j b)).run P w=.ok x w/\RepV G v x:=by
 cases op
 case shl=>
  simp only[bX]at h
  split at h
  ·cases h
  ·rename_i hb;cases h;exact⟨.int k (k.wrap (a*2 ^ (min b.toNat k.bits))),by simp[binOp,Op.shift,hb],.int _ _⟩
 case shr=>
  simp only[bX]at h
  split at h
  ·cases h
  ·rename_i hb;cases h;exact⟨.int k (a.fdiv (2 ^ (min b.toNat k.bits))),by simp[binOp,Op.shift,hb],.int _ _⟩
 all_goals (simp only[bX]at h;cases h)
theorem VE(op:BinOp)(T:dk)(x y:dv)(k j:dx)(a b:Int):(eqGuard op T x y (.int k a) (.int j b)).run P w=.ok () w:=by cases op<;>simp[eqGuard]
theorem R8(op:BinOp)(T:dk)(x y:dv)(a b:Bool):(eqGuard op T x y (.bool a) (.bool b)).run P w=.ok () w:=by cases op<;>simp[eqGuard]
theorem J8{G:Gh}:∀{cs:List V} {vs:List dj} {l:List dj},RepL G cs vs->DP cs=some l->vs=l
 |[],vs,l,h,e=>by cases e;exact bz h.1.symm
 |c::cs,[],l,h,e=>absurd h.1 (by simp)
 |c::cs,v::vs,l,h,e=>by
  have h0:=(h.2 0 (by simp) (by simp)).2;have ht:RepL G cs vs:=⟨by simpa using h.1,fun i p q=>h.2 (i+1) (by simpa using p) (by simpa using q)⟩;simp only[cq]at h0;cases c with
  |int k n=>
   simp only[DP]at e
   split at e
   ·rename_i r hr;cases e;cases h0;rw[J8 ht hr]
   ·cases e
  |bool b=>
   simp only[DP]at e
   split at e
   ·rename_i r hr;cases e;cases h0;rw[J8 ht hr]
   ·cases e
  |_=>simp[DP]at e
theorem lO{T:dk}{cs ds:List V}{xs ys:Array dj}{r:Bool}(h:Q3 P T cs ds=some r)(hx:RepV G (.agg cs) (.agg xs))(hy:RepV G (.agg ds) (.agg ys)) :
  (Op.equalIn 10000 T (.agg xs) (.agg ys)).run P w=.ok r w/\P.eqGuardType P.depth T=false:=by
 unfold Q3 at h
 split at h
 ·rename_i a b ha hb;split at h
  ·rename_i x y hlx hly;split at h
   ·rename_i hc;cases h;simp only[bp,Bool.not_eq_true']at hc;obtain⟨⟨⟨⟨⟨c1,c2⟩,c3⟩,c4⟩,c5⟩,c6⟩:=hc;have c4:=bh c4;have c5:=bh c5;obtain⟨xs',e1,hx'⟩:=RepL.ofAgg hx;obtain⟨ys',e2,hy'⟩:=RepL.ofAgg hy;cases e1;cases e2;have ex:=J8 hx' ha;have ey:=J8 hy' hb;have fm:∀(zs:Array dj),zs.toList.length=P.cellsOf T->(Value.agg zs).formed P T=true:=by
     intro zs hz;unfold AEV at c1;unfold Value.formed;split at c1
     ·rename_i e;simp only[e];simpa using hz
     ·rename_i e;simp only[e];simpa using hz
     ·cases c1
    have hE:EqAt P (9984+16) T:=run_equalIn_deep 9984 16 T c2;obtain⟨r,hr,hiff⟩:=hE w 16 16 (.agg xs) (.agg ys) x y (fm xs (by rw[ex];exact c4)) (fm ys (by rw[ey];exact c5)) (by show P.keyLits 16 T xs.toList=_;rw[ex];exact hlx) (by show P.keyLits 16 T ys.toList=_;rw[ey];exact hly);refine⟨?_,c3⟩;have:r=K6 x y:=by
     have h1:=Q2 c6;cases hr':r<;>cases he:K6 x y
     ·rfl
     ·have:=hiff.2 (h1.1 he);rw[hr']at this;cases this
     ·have:=h1.2 (hiff.1 hr');rw[he]at this;cases this
     ·rfl
    rw[<-this];exact hr
   ·cases h
  ·cases h
 ·cases h
theorem QJ(op:BinOp)(T:dk)(x y:dv)(a a':Option Addr)(n c n' c':Nat):(eqGuard op T x y (.slice a n c) (.slice a' n' c')).run P w=.ok () w:=by cases op<;>simp[eqGuard]
theorem YN{x:V}{v:dj}{b:Bool}(h:HK x=some b)(hv:RepV G x v):∃a n c,v=.slice a n c/\a.isNone=b:=by
 unfold HK at h;split at h
 ·cases h;cases hv;exact⟨none,0,0,rfl,rfl⟩
 ·cases h;cases hv with
  |list f es a cap b off sz arr T fz vs hcap hfull ha=>exact⟨a,_,cap,rfl,by rw[(ha (by simp)).1];rfl⟩
 ·cases h;cases hv with
  |vec l k g len b sz C a h hlen ha=>exact⟨a,_,C,rfl,by rw[ha (by omega)];rfl⟩
 ·cases h;cases hv with
  |vtl l k g i n b sz C cap a h hlen ha=>exact⟨a,_,cap,rfl,by rw[ha (by omega)];rfl⟩
 ·cases h;cases hv;exact⟨_,_,_,rfl,rfl⟩
 ·cases h
theorem zA{op:BinOp}{T:dk}{p q:dv}{x y v:V}{a b:dj}(h:F3 P op T x y=some v)(hx:RepV G x a)(hy:RepV G y b) :
  ∃r,(do eqGuard op T p q a b;binOp op T a b:Sem dj).run P w=.ok r w/\RepV G v r:=by
 unfold F3 at h
 split at h
 ·cases hx;cases hy;split at h
  ·rename_i k a j b hk;subst hk;obtain⟨r,h1,h2⟩:=yZ (P:=P) (G:=G) (w:=w) (T:=T) h;exact⟨r,by simp[VE,h1],h2⟩
  ·rename_i k a j b hk;obtain⟨r,h1,h2⟩:=AEX (P:=P) (G:=G) (w:=w) (T:=T) (j:=j) h;exact⟨r,by simp[VE,h1],h2⟩
 ·cases hx;cases hy;split at h
  ·rename_i hb;have hu:P.underlying T=some .bool:=by
    unfold lN at hb;split at hb
    ·assumption
    ·cases hb
   split at h
   ·cases h;exact⟨_,by simp[R8,binOp,run_equal_bool w T _ _ hu],.bool _⟩
   ·cases h;exact⟨_,by simp[R8,binOp,run_equal_bool w T _ _ hu,bne],.bool _⟩
   ·cases h
  ·cases h
 ·rename_i cs ds;cases hx with
  |agg _ xs hl hc hr=>
   cases hy with
   |agg _ ys hl' hc' hr'=>
    split at h
    ·obtain⟨r,he,rfl⟩:=bq.1 h;obtain⟨h1,h2⟩:=lO (w:=w) he (.agg cs xs hl hc hr) (.agg ds ys hl' hc' hr');exact⟨.bool r,by simp[run_eqGuard_agg _ _ _ _ _ _ _ h2,run_eql_struct,h1],.bool _⟩
    ·obtain⟨r,he,rfl⟩:=bq.1 h;obtain⟨h1,h2⟩:=lO (w:=w) he (.agg cs xs hl hc hr) (.agg ds ys hl' hc' hr');exact⟨.bool !r,by simp[run_eqGuard_agg _ _ _ _ _ _ _ h2,run_neq_struct,h1],.bool _⟩
    ·cases h
 ·split at h
  ·rename_i hs;have hu:∃e,P.underlying T=some (.slice e):=by
    unfold DQ at hs;split at hs
    ·rename_i e hu;exact⟨e,hu⟩
    ·cases hs
   obtain⟨e,hu⟩:=hu;cases hy;split at h
   ·obtain⟨r,he,rfl⟩:=bq.1 h;obtain⟨a,n,c,rfl,hn⟩:=YN he hx;exact⟨.bool r,by simp[QJ,Lib.run_eql_slice_nil w T e a n c 0 0 hu,hn],.bool _⟩
   ·obtain⟨r,he,rfl⟩:=bq.1 h;obtain⟨a,n,c,rfl,hn⟩:=YN he hx;exact⟨.bool !r,by simp[QJ,run_neq_slice_nil_any w T e a n c 0 0 hu,hn],.bool _⟩
   ·cases h
  ·cases h
 ·cases h
end
def wf(ρ:Option Nat):Fence:={ Fence.wide with round:=ρ }
def AKI(r:Nat):Deferred:={ target:=.collected r,args:=#[] }
structure I4(n N:Nat)(G0 G:Gh)(fr:Fr)(s:St)(a:Act)(w:dw):Prop where
 le:G0.le G
 inv:CE G s w
 fr:HI G fr a.tmps
 size:a.tmps.size=N
 lvl:s.up.length=n
 marks:∃rs:List Nat,a.defers=rs.map AKI/\rs.Nodup/\∀r∈rs,G0.sl r=none/\G.sl r=some (.deferred (some []))
def K7(n N:Nat)(G0:Gh)(K:Exit->Fr->St->Prop)(e:Exit)(a:Act)(w:dw):Prop:=∃G fr s,I4 n N G0 G fr s a w/\K e fr s
def weakC:V->V
 |.list _ es=>.list false es
 |v=>v
def weakV:V->V
 |.list _ es=>.list false es
 |.agg cs=>.agg (cs.map weakC)
 |v=>v
theorem RepV.unfull{G:Gh}{f:Bool}{es:List (List V)}{v:dj}(h:RepV G (.list f es) v):RepV G (.list false es) v:=by
 cases h with
 |list _ _ a cap b off sz arr T fz vs hcap hfull ha hl hv hr=>exact .list false es a cap b off sz arr T fz vs hcap (fun h=>by cases h) ha hl hv hr
theorem RepV.weakC{G:Gh}{x:V}{v:dj}(h:RepV G x v):RepV G (weakC x) v:=by cases x<;>first|exact h|exact h.unfull
theorem gO(x:V):(weakC x).isCell=x.isCell:=by cases x<;>rfl
theorem RepV.weakV{G:Gh}{x:V}{v:dj}(h:RepV G x v):RepV G (weakV x) v:=by
 cases x with
 |list f es=>exact h.unfull
 |agg cs=>
  cases h with
  |agg _ arr hl hc hr=>
   refine .agg _ arr (by simpa using hl) (fun c hc'=>?_) (fun i h1 h2=>?_)
   ·obtain⟨d,hd,rfl⟩:=List.mem_map.1 hc';rw[gO];exact hc d hd
   ·simp only[cx];exact(hr i (by simpa using h1) h2).weakC
 |_=>exact h
theorem RepA.weak{G:Gh}{xs:List V}{vs:List dj}(h:RepA G xs vs):RepA G (xs.map Pg.weakV) vs :=
 ⟨by simpa using h.1,fun i h1 h2=>by simp only[cx];exact(h.2 i (by simpa using h1) h2).weakV⟩
def DU(g:Bool)(fr:Fr)(x:dv):Option V:=match rd fr x with
 |some (c,v)=>if (!g||c)=true then some v else none
 |none=>none
theorem R9{G:Gh}{fr:Fr}{a:Act}(h:HI G fr a.tmps){x:dv}{v:V}(hr:DU true fr x=some v):RepV G v (a.eval x):=by
 unfold DU at hr;split at hr
 ·rename_i c u hu;split at hr
  ·rename_i hc;cases hr;exact rW h hu (by simpa using hc)
  ·cases hr
 ·cases hr
def NW(fr:Fr):Option (Tmp×Bool)->Option Bool
 |none=>some true
 |some (d,want)=>match fr.get d with
  |some (c,.bool b)=>some (c&&(b==want))
  |_=>none
def HL(all:List Oper)(o:Oper)(g:Option (Tmp×Bool)):Bool:=match o.guard,g with
 |none,none=>true
 | some (j,w),some (d,w')=>w == w'&&(match all[j]? with
  |some p=>match p.dst with
   |some d'=>Nat.beq d' d
   |none=>false
  | none=>false)
 |_,_=>false
theorem YO{G:Gh}{fr:Fr}{tmps:Array dj}(h:HI G fr tmps){ops:Array Oper}{o:Oper}{gd:Option (Tmp×Bool)}{g:Bool}(hgd:HL ops.toList o gd=true)(hg:NW fr gd=some g) :
  Region.wanted o (yielded ops tmps)=g:=by
 unfold HL at hgd
 unfold Region.wanted
 split at hgd
 ·rename_i ho;rw[ho];simpa [NW]using hg
 ·rename_i j w d w' ho;rw[ho];simp only[bp,beq_iff_eq]at hgd;obtain⟨rfl,hgd⟩:=hgd;split at hgd
  ·rename_i p hp;split at hgd
   ·rename_i d' hd';have hdd:d'=d:=bh hgd;subst hdd;simp only[NW]at hg;split at hg
    ·rename_i c b hb;simp only[bf.injEq]at hg;obtain⟨x,hx,h1,h2⟩:=h d' _ _ hb;have:yielded ops tmps j=if c then some b else none:=by
      unfold yielded;have e1:ops[j]? = some p:=by rw[<-bn];exact hp
      rw[e1];simp only[Option.bind_some,hd',hx];cases c with
      |true=>have:=h1 rfl;cases this;rfl
      |false=>rw[h2 rfl];rfl
     show(yielded ops tmps j==some w)=g;rw[this,<-hg];cases c<;>cases b<;>cases w<;>rfl
    ·cases hg
   ·cases hgd
  ·cases hgd
 ·cases hgd
def NN(P:dq)(U:dk)(cs:List V)(off:Nat):Option V:=match P.underlying U with
 |some (.struct _)|some (.array _ _)=>if off+P.cellsOf U<=cs.length then some (.agg ((cs.drop off).take (P.cellsOf U))) else none
 |some _=>cs[off]?
 |none=>none
def JV(P:dq)(T:dk)(x:V)(f:Nat):Option V:=match x,BL P T f with
 |.agg cs,some (U,off)=>NN P U cs off
 |_,_=>none
def C8(P:dq)(T:dk)(x:V)(f:Nat):Option V:=match BL P T f with
 |some (U,off)=>if P.cellsOf U=0 then none else match x with
  |.ref cs=>some (.ref (cs.drop off))
  |.ptr l k g o=>some (.ptr l k g (o+off))
  |.eptr l k g i o=>some (.eptr l k g i (o+off))
  |_=>none
 |none=>none
def BR(P:dq)(T:dk):Option (Option Nat×dk):=match P.underlying T with
 |some (.slice e)=>some (none,e)
 |some (.array n e)=>some (some n,e)
 |_=>none
def BV(P:dq)(s:St)(T:dk)(x i:V):Option V:=match BR P T,x,i with
 |some (none,e),.list _ es,.int _ j=>if 0<=j/\j<es.length/\(es.getD j.toNat []).length=P.cellsOf e/\0<P.cellsOf e then some (.ref (es.getD j.toNat [])) else none
 |some (none,e),.vec l k g n,.int _ j=>match s.get l k with
  |some (g',.vec _ es)=>if g'=g/\0<=j/\j<n/\n<=es.length/\(es.getD j.toNat []).length=P.cellsOf e/\0<P.cellsOf e then some (.eptr l k g j.toNat 0) else none
  |_=>none
 |some (some n,e),.ref cs,.int _ j=>if 0<=j/\j<n/\0<P.cellsOf e then some (.ref (cs.drop (j.toNat*P.cellsOf e))) else none
 |some (some n,e),.ptr l k g o,.int _ j=>if 0<=j/\j<n/\0<P.cellsOf e then some (.ptr l k g (o+j.toNat*P.cellsOf e)) else none
 |some (some n,e),.eptr l k g i' o,.int _ j=>if 0<=j/\j<n/\0<P.cellsOf e then some (.eptr l k g i' (o+j.toNat*P.cellsOf e)) else none
 |_,_,_=>none
def ASU(P:dq)(T:dk):Bool:=match P.underlying T with
 |some .string=>true
 |_=>false
theorem zC{P:dq}{T:dk}(h:ASU P T=true):P.underlying T=some .string:=by
 unfold ASU at h;split at h
 ·assumption
 ·cases h
def GL(P:dq)(T:dk)(x i:V):Option V:=match BR P T,x,i with
 |some (some n,e),.agg cs,.int _ j=>if 0<=j/\j<n/\0<P.cellsOf e then NN P e cs (j.toNat*P.cellsOf e) else none
 |none,.raw (.string b),.int _ j=>if ASU P T=true/\0<=j then(b[j.toNat]?).map fun c=>.int .u8 c.toNat else none
 |_,_,_=>none
def J9(P:dq)(src dst:dk)(x:V):Option V:=match x,P.underlying src,P.underlying dst with
 |.int _ n,some (.int _),some (.int k)=>some (.int k (k.wrap n))
 |_,_,_=>none
def bY(op:UnOp)(x:V):Option V:=match op,x with
 |.not,.bool b=>some (.bool !b)
 |.neg,.int k n=>some (.int k (k.wrap (0-n)))
 |_,_=>none
def NO:V->Option V
 |.ref cs=>some (.ref cs)
 |.ptr l k g o=>some (.ptr l k g o)
 |.eptr l k g i o=>some (.eptr l k g i o)
 |.fn f a b=>some (.fn f a b)
 |.yld l k g=>some (.yld l k g)
 |_=>none
def FY(x:V)(i:Nat):Option V:=match x with
 |.tup vs=>vs[i]?
 |_=>none
def GV(P:dq)(T:dk)(x:V):Option V:=match P.underlying T,x with
 |some (.slice _),.list _ es=>some (.int .i64 es.length)
 |some (.slice _),.vec _ _ _ n=>some (.int .i64 n)
 |some (.slice _),.nil=>some (.int .i64 0)
 |some (.array n _),_=>some (.int .i64 n)
 |_,_=>none
def hiN(n:Nat):Option V->Option Nat
 |none=>some n
 |some (.int _ h)=>if 0<=h/\h<=n then some h.toNat else none
 |_=>none
def CG(P:dq)(s:St)(T:dk)(x:V)(lo hi mx:Option V):Option V:=match BR P T,x,lo,hi,mx with
 |some (none,e),.list _ es,none,some (.int _ h),none=>if 0<=h/\h<=es.length/\0<P.cellsOf e then some (.list false (es.take h.toNat)) else none
 |some (none,e),.list _ es,some (.int _ l),none,none=>if 0<=l/\l<=es.length/\0<P.cellsOf e/\es.all (fun x=>x.length==P.cellsOf e)=true then some (.list false (es.drop l.toNat)) else none
 |some (none,e),.list _ es,some (.int _ l),some (.int _ h),none=>
  if 0<=l/\l<=h/\h<=es.length/\0<P.cellsOf e/\es.all (fun x=>x.length==P.cellsOf e)=true then some (.list false ((es.take h.toNat).drop l.toNat)) else none
 |some (none,e),.list _ _,none,some (.int _ h),some (.int _ m)=>if h=0/\m=0/\0<P.cellsOf e then some (.list true []) else none
 |some (none,e),.vec l k g n,none,some (.int _ h),none=>if 0<=h/\h<=n/\0<P.cellsOf e then some (.vec l k g h.toNat) else none
 |some (none,e),.vec l k g n,some (.int _ i),none,none=>match s.get l k with
  |some (g',.vec _ es)=>if g'=g/\es.all (fun x=>x.length==P.cellsOf e)=true/\es≠[]/\0<=i/\i<=n/\0<P.cellsOf e then some (.vtl l k g i.toNat (n-i.toNat)) else none
  |_=>none
 |some (some n,e),.ptr l k g o,none,hi,none=>match s.get l k,hiN n hi with
  |some (g',.box cs),some h=>if g'=g/\P.cellsOf e=1/\o+n<=cs.length then some (.vtl l k g o h) else none
  |_,_=>none
 |_,_,_,_,_=>none
def wH:List V->List V->Option Bool
 |[],[]=>some true
 | .int k a :: x,.int j b :: y=>if k=j then(match wH x y with
  |some r=>some ((a==b)&&r)
  | none=>none) else none
 |.bool a::x,.bool b::y=>match wH x y with
  |some r=>some ((a==b)&&r)
  |none=>none
 |_,_=>none
def P6(P:dq)(K:dk)(v:V):Option (List V):=match v with
 |.agg cs=>match DP cs with
  |some ks=>if (keyOf P K (.agg ks.toArray)).isSome then some cs else none
  |none=>none
 |_=>none
def lP(P:dq)(K:dk):Bool:=AEV P K&&P.keyTypeAt 16 K&&P.tiled 16 K
def H5(P:dq)(K:dk)(ks:List V):List (V×V)->Nat->Option (List Nat)
 |[],_=>some []
 |(k,_)::es,i=>match P6 P K k with
  |some js=>match wH js ks,H5 P K ks es (i+1)with
   |some b,some l=>some (if b then i::l else l)
   |_,_=>none
  |none=>none
def Q4(P:dq)(T:dk):Option V:=match dN P T with
 |some (.agg arr)=>match GP arr.toList with
  |some cs=>some (.agg cs)
  |none=>none
 |some v=>CK v
 |none=>none
def rX(P:dq)(T:dk):Option (dk×dk):=match P.underlying T with
 |some (.map k e)=>some (k,e)
 |_=>none
def CO(P:dq)(s:St)(T:dk)(m k:V)(ok:Bool):Option V:=match rX P T,m with
 |some (K,E),.mp l q g=>match s.get l q with
  | some (g',.map es)=>if g'=g/\lP P K=true then(match P6 P K k with
   |some ks=>match H5 P K ks es 0 with
    |some []=>(Q4 P E).map fun z=>if ok then .tup [z,.bool false] else z
    |some [i]=>(es[i]?).map fun e=>if ok then .tup [e.2,.bool true] else e.2
    |_=>none
   | none=>none) else none
  |_=>none
 |_,_=>none
def I5(P:dq)(s:St)(T:dk)(m k v:V):Option (Nat×Nat×Nat×List (V×V)):=match rX P T,m with
 |some (K,_),.mp l q g=>match s.get l q with
  | some (g',.map es)=>if g'=g/\lP P K=true then(match P6 P K k with
   |some ks=>match H5 P K ks es 0 with
    |some []=>some (l,q,g,es++[(k,v)])
    |some [i]=>some (l,q,g,es.set i (k,v))
    |_=>none
   | none=>none) else none
  |_=>none
 |_,_=>none
def SA(a b:V):Option V:=match a,b with
 |.int k m,.int j n=>if k=j then some (.int k (if n>m then n else m)) else none
 |_,_=>none
def SB(a b:V):Option V:=match a,b with
 |.int k m,.int j n=>if k=j then some (.int k (if n<m then n else m)) else none
 |_,_=>none
def JG(P:dq)(o:Oper)(s:St)(r:dv->Option V):Option V:=match o.op with
 |.move x|.assign x=>r x
 |.nilCheck x=>(r x).bind NO
 |.load T x=>(r x).bind fun v=>(BF s v).bind fun cs=>BT P T cs
 |.binOp op T x y _=>(r x).bind fun a=>(r y).bind fun b=>F3 P op T a b
 |.unOp op _ x=>(r x).bind fun a=>bY op a
 |.convert src dst x=>(r x).bind fun a=>J9 P src dst a
 |.fieldAddr T x f=>(r x).bind fun a=>C8 P T a f
 |.field T x f=>(r x).bind fun a=>JV P T a f
 |.indexAddr T x i=>(r x).bind fun a=>(r i).bind fun b=>BV P s T a b
 |.index T x i=>(r x).bind fun a=>(r i).bind fun b=>GL P T a b
 |.extract x i=>(r x).bind fun a=>FY a i
 |.call { callee:=.builtin .len,args,argTypes }=>match args.toList,argTypes.toList with
  |[x],[T]=>(r x).bind fun a=>GV P T a
  |_,_=>none
 |.call { callee:=.builtin .max,args,.. }=>match args.toList with
  |[x,y]=>(r x).bind fun a=>(r y).bind fun b=>SA a b
  |_=>none
 |.call { callee:=.builtin .min,args,.. }=>match args.toList with
  |[x,y]=>(r x).bind fun a=>(r y).bind fun b=>SB a b
  |_=>none
 |.slice T x lo hi mx=>(r x).bind fun a=>
   (match lo with|none=>some none|some y=>(r y).map some).bind fun l=>
   (match hi with|none=>some none|some y=>(r y).map some).bind fun h=>
   (match mx with|none=>some none|some y=>(r y).map some).bind fun m=>CG P s T a l h m
 |.lookup T x i ok=>(r x).bind fun a=>(r i).bind fun b=>CO P s T a b ok
 |.makeFunc (.func f) first captured=>(first.toList.mapM r).bind fun a=>(captured.toList.mapM r).bind fun b=>some (.fn f a b)
 |_=>none
variable {P:dq}{G:Gh}{s:St}{w:dw}
theorem gP{cs:List V}{x:dj}(hI:CE G s w)(h:RepV G (.ref cs) x) :
  ∃b off vs,x=.pointer (some ⟨b,off,none⟩)/\RepL G cs vs/\∀j u,vs[j]? = some u->w.cell? ⟨b,off+j,none⟩=some u:=by
 cases h with
 |ref _ b off arr T fz vs ha hv hr=>
  refine⟨b,off,(List.range cs.length).map vs,rfl,⟨by simp,fun i h1 h2=>?_⟩,fun j u hj=>?_⟩
  ·simp only[cx,List.getElem_range];exact⟨(hv i h1).2,hr i h1⟩
  ·have hlt:j<cs.length:=by have:=(bw.1 hj).1;simpa using this
   simp only[List.getElem?_map,List.getElem?_range hlt,Option.map_some,bf.injEq]at hj;subst hj;simp[World.cell?,hI.sl _ _ ha,(hv j hlt).1]
theorem LM{G:Gh}:∀{es:List (List V)} {vs:List dj} {sz:Nat},(∀e∈es,e.length=sz)->RepL G es.flatten vs->∀{i:Nat} {e:List V},es[i]? = some e ->
  RepL G e ((vs.drop (i*sz)).take sz)
 |[],_,_,_,_,i,e,he=>by simp at he
 |e0::es,vs,sz,hl,h,i,e,he=>by
  have h0:e0.length=sz:=hl e0 (by simp);have hf:(e0::es).flatten=e0++es.flatten:=rfl;rw[hf]at h;have hlen:sz<=vs.length:=by rw[<-h.1,List.length_append];omega
  have hA:RepL G e0 (vs.take sz):=by have:=h.take sz;rw[List.take_append_of_le_length (by omega),List.take_of_length_le (by omega)]at this;exact this
  have hB:RepL G es.flatten (vs.drop sz):=by have:=h.drop sz;rw[<-h0,List.drop_left]at this;rw[<-h0];exact this
  cases i with
  |zero=>simp at he;subst he;simpa using hA
  |succ i=>
   have:=LM (fun e he=>hl e (by simp[he])) hB (i:=i) (e:=e) (by simpa using he)
   rw[List.drop_drop]at this
   rw[show(i+1)*sz=sz+i*sz by rw[Nat.add_mul];omega]
   exact this
theorem lQ{x:V}{y:dj}{cs:List V}(hI:CE G s w)(h:RepV G x y)(hc:BF s x=some cs) :
  ∃b off vs,y=.pointer (some ⟨b,off,none⟩)/\RepL G cs vs/\∀j u,vs[j]? = some u->w.cell? ⟨b,off+j,none⟩=some u:=by
 unfold BF at hc
 split at hc
 ·cases hc;exact gP hI h
 ·split at hc
  ·rename_i l k g off _ g' ds hget;split at hc
   ·rename_i e;subst e;cases hc;cases h with
    |ptr _ _ _ _ b sz C hb=>
     obtain⟨b',arr,T,hb',hh,hr⟩:=hI.res _ _ _ _ hget
     rw[hb]at hb'
     simp only[bf.injEq,cp.injEq]at hb'
     obtain⟨rfl,rfl,rfl⟩:=hb'
     refine⟨b,off,arr.toList.drop off,rfl,hr.drop off,fun j u hj=>?_⟩
     simp only[cj]at hj
     simp[World.cell?,hh,<-bn,hj]
   ·cases hc
  ·cases hc
 ·split at hc
  ·rename_i l k g i off _ g' T0 es hget;split at hc
   ·rename_i e;subst e;simp only[bq]at hc;obtain⟨e,he,rfl⟩:=hc;cases h with
    |eptr _ _ _ _ _ b sz C hb=>
     obtain⟨b',sz',C',hb',hle,hlen,_,hrow⟩:=hI.res _ _ _ _ hget
     rw[hb]at hb'
     simp only[bf.injEq,cp.injEq]at hb'
     obtain⟨rfl,rfl,rfl⟩:=hb'
     have hi:i<es.length:=(bw.1 he).1
     obtain⟨arr,hh,hsz,hr⟩:=hrow (by omega)
     have hE:=LM hlen hr he
     refine⟨b,i*sz+off,_,rfl,hE.drop off,fun j u hj=>?_⟩
     rw[cj,ck]at hj
     split at hj
     ·rw[cj,ck]at hj;split at hj
      ·simp only[World.cell?,hh,Option.isSome_none,cm,if_false,<-bn];rw[<-hj];congr 1;omega
      ·cases hj
     ·cases hj
   ·cases hc
  ·cases hc
 ·cases hc
theorem YP{T:dk}{d:TypeDesc}(hu:P.underlying T=some d):(sizeOf T).run P w=.ok (P.cellsOf T) w:=by obtain⟨i,hi⟩:=info_of_underlying hu;simp[sizeOf,typeInfo,hi,Program.cellsOf]
theorem dO{T:dk}{cs:List V}{v:V}{b off:Nat}{vs:List dj}(hr:RepL G cs vs)(hc:∀j u,vs[j]? = some u->w.cell? ⟨b,off+j,none⟩=some u)
  (h:BT P T cs=some v):∃r,(Instr.loadAt T (.pointer (some ⟨b,off,none⟩))).run P w=.ok r w/\RepV G v r:=by
 have agg:(∃d,P.underlying T=some d/\((∃fs,d=.struct fs)\/∃n e,d=.array n e))->P.cellsOf T<=cs.length->v=.agg (cs.take (P.cellsOf T)) ->
   ∃r,(Instr.loadAt T (.pointer (some ⟨b,off,none⟩))).run P w=.ok r w/\RepV G v r:=by
  rintro ⟨d,hu,hd⟩ hle rfl
  have hl:(vs.take (P.cellsOf T)).length=P.cellsOf T:=by rw[List.length_take,<-hr.1];omega
  have hrun:=run_loadCells_list (P:=P) w ⟨b,off,none⟩ (vs.take (P.cellsOf T)) (fun j u hj=>by
   rw[Addr.add_lit];rw[ck]at hj;split at hj
   ·exact hc j u hj
   ·cases hj)
  rw[hl]at hrun
  refine⟨.agg (vs.take (P.cellsOf T)).toArray,?_,(hr.take _).toAgg⟩
  rcases hd with⟨fs,rfl⟩|⟨n,e,rfl⟩<;>simp[Instr.loadAt,Instr.sureAddr,loadVar,isAgg,run_underlying hu,YP hu,hrun]
 unfold BT at h
 split at h
 ·rename_i fs hu;split at h
  ·rename_i hle;exact agg ⟨_,hu,.inl ⟨fs,rfl⟩⟩ hle (by simpa using h.symm)
  ·cases h
 ·rename_i n e hu;split at h
  ·rename_i hle;exact agg ⟨_,hu,.inr ⟨n,e,rfl⟩⟩ hle (by simpa using h.symm)
  ·cases h
 ·rename_i d hn1 hn2 hu;obtain⟨u,hu',hcell,hrep⟩:=hr.get h;refine⟨u,?_,hrep⟩;have hcl:=hc 0 u hu';simp only[Nat.add_zero]at hcl;have:(isAgg T).run P w=.ok false w:=by cases d<;>simp_all [isAgg,run_underlying hu]
  simp[Instr.loadAt,Instr.sureAddr,loadVar,this,hcl]
 ·cases h
theorem CU{T:dk}(h:0<P.cellsOf T):(sizeOf T).run P w=.ok (P.cellsOf T) w:=by
 cases hi:P.info? T with
 |none=>simp[Program.cellsOf,hi]at h
 |some i=>simp[sizeOf,typeInfo,hi,Program.cellsOf]
theorem lR{U:dk}{cs:List V}{off:Nat}{v:V}{vs:List dj}(hr:RepL G cs vs)(h:NN P U cs off=some v) :
  ∃r,(part U vs.toArray off).run P w=.ok r w/\RepV G v r:=by
 have agg:(∃d,P.underlying U=some d/\((∃fs,d=.struct fs)\/∃n e,d=.array n e))->off+P.cellsOf U<=cs.length->v=.agg ((cs.drop off).take (P.cellsOf U)) ->
   ∃r,(part U vs.toArray off).run P w=.ok r w/\RepV G v r:=by
  rintro ⟨d,hu,hd⟩ hle rfl
  refine⟨.agg ((vs.drop off).take (P.cellsOf U)).toArray,?_,((hr.drop off).take _).toAgg⟩
  rcases hd with⟨fs,rfl⟩|⟨n,e,rfl⟩<;>simp[part,isAgg,run_underlying hu,YP hu,List.extract]
 unfold NN at h
 split at h
 ·rename_i fs hu;split at h
  ·rename_i hle;exact agg ⟨_,hu,.inl ⟨fs,rfl⟩⟩ hle (by simpa using h.symm)
  ·cases h
 ·rename_i n e hu;split at h
  ·rename_i hle;exact agg ⟨_,hu,.inr ⟨n,e,rfl⟩⟩ hle (by simpa using h.symm)
  ·cases h
 ·rename_i d hn1 hn2 hu;obtain⟨u,hu',_,hrep⟩:=hr.get h;refine⟨u,?_,hrep⟩;have:(isAgg U).run P w=.ok false w:=by cases d<;>simp_all [isAgg,run_underlying hu]
  simp[part,this,hu']
 ·cases h
theorem lS{cs:List V}{b off n:Nat}(h:RepV G (.ref cs) (.pointer (some ⟨b,off,none⟩))):RepV G (.ref (cs.drop n)) (.pointer (some ⟨b,off+n,none⟩)):=by
 cases h with
 |ref _ _ _ arr T fz vs ha hv hr=>
  refine .ref _ b (off+n) arr T fz (fun j=>vs (n+j)) ha (fun j hj=>?_) (fun j hj=>?_)
  ·have hj':n+j<cs.length:=by simp at hj;omega
   have:=hv (n+j) hj';simp only[bc];exact⟨by rw[<-this.1];congr 1;omega,this.2⟩
  ·simp only[bc];exact hr _ _
theorem bZ{T:dk}{f:Nat}{x v:V}{y:dj}(h:C8 P T x f=some v)(hr:RepV G x y) :
  ∃r,(Instr.fieldAt T y f).run P w=.ok r w/\RepV G v r:=by
 unfold C8 at h
 split at h
 ·rename_i U off hf;split at h
  ·cases h
  ·rename_i hz;unfold BL at hf;split at hf
   ·rename_i fs hu;simp only[bq,cp.injEq]at hf;obtain⟨fd,hfd,rfl,rfl⟩:=hf;have hrun:∀a:Addr,(Instr.fieldAt T (.pointer (some a)) f).run P w=.ok (.pointer (some (a.add fd.offset))) w:=by intro a;simp[Instr.fieldAt,run_underlying hu,hfd,Instr.sureAddr,fieldPlace,CU (P:=P) (w:=w) (Nat.pos_of_ne_zero hz),hz]
    split at h
    ·cases h;have hr':=hr;cases hr with
     |ref _ b off _ _ _ _ _ _ _=>exact⟨_,hrun _,by rw[Addr.add_lit];exact lS hr'⟩
    ·cases h;cases hr with
     |ptr _ _ _ _ b sz C hb=>exact⟨_,hrun _,by rw[Addr.add_lit];exact .ptr _ _ _ _ b sz C hb⟩
    ·cases h;cases hr with
     |eptr _ _ _ _ _ b sz C hb=>exact⟨_,hrun _,by rw[Addr.add_lit,Nat.add_assoc];exact .eptr _ _ _ _ _ b sz C hb⟩
    ·cases h
   ·cases hf
 ·cases h
theorem CH{T e:dk}(h:BR P T=some (none,e)):P.underlying T=some (.slice e):=by unfold BR at h;split at h<;>simp_all
theorem I6{T e:dk}{n:Nat}(h:BR P T=some (some n,e)):P.underlying T=some (.array n e):=by unfold BR at h;split at h<;>simp_all
theorem cA{T:dk}{x i v:V}{y z:dj}(hI:CE G s w)(h:BV P s T x i=some v)(hx:RepV G x y)(hi:RepV G i z) :
  ∃r,(Instr.indexAt T y z).run P w=.ok r w/\RepV G v r:=by
 have arr:∀{n:Nat} {e:dk} {j:Int} {k:dx} (a:Addr),P.underlying T=some (.array n e)->0<=j->j<n->0<P.cellsOf e ->
   (Instr.indexAt T (.pointer (some a)) (.int k j)).run P w=.ok (.pointer (some (a.add (j.toNat*P.cellsOf e)))) w:=by
  intro n e j k a hu h1 h2 h3
  simp[Instr.indexAt,asIntOf,run_underlying hu,Instr.sureAddr,h1,h2,CU (P:=P) (w:=w) h3]
 unfold BV at h
 split at h
 ·rename_i e full es k j hel;split at h
  ·rename_i hc;cases h;have hu:=CH hel;cases hi;cases hx with
   |list _ _ a cap b off sz arr T' fz vs hcap hfull ha hl hv hr=>
    obtain⟨hj0,hj1,hlen,hpz⟩:=hc
    have hj:j.toNat<es.length:=by omega
    have hne:es≠[]:=by intro e;simp[e]at hj
    obtain⟨rfl,hsl⟩:=ha hne
    have hget:es.getD j.toNat []=es[j.toNat]:=by simp[List.getD,hj]
    rw[hget]at hlen|-
    have hsz:=hl j.toNat hj
    have hpos:=CU (P:=P) (w:=w) hpz
    refine⟨.pointer (some ⟨b,off+j.toNat*P.cellsOf e,none⟩),?_,?_⟩
    ·simp[Instr.indexAt,asIntOf,run_underlying hu,hj0,hj1,hpos,Addr.add_lit]
    ·refine .ref _ b _ arr T' fz (vs j.toNat) hsl (fun q hq=>?_) (fun q hq=>hr j.toNat hj q hq);have:=hv j.toNat hj q hq;rw[<-hlen,hsz];exact this
  ·cases h
 ·split at h
  ·rename_i e l k g n kk j hel _ g' T0 es hget;split at h
   ·rename_i hc;cases h;obtain⟨rfl,hj0,hj1,hn,hlen,hpz⟩:=hc;have hu:=CH hel;cases hi;cases hx with
    |vec _ _ _ _ b sz C a hb hle ha=>
     obtain⟨b',sz',C',hb',hle',hlen',_,hrow⟩:=hI.res _ _ _ _ hget
     rw[hb]at hb'
     simp only[bf.injEq,cp.injEq]at hb'
     obtain⟨rfl,rfl,rfl⟩:=hb'
     have hj:j.toNat<es.length:=by omega
     have hgetD:es.getD j.toNat []=es[j.toNat]:=by simp[List.getD,hj]
     rw[hgetD]at hlen
     have hsz:es[j.toNat].length=sz:=hlen' _ (bg hj)
     have:=ha (by omega)
     subst this
     have hpos:=CU (P:=P) (w:=w) hpz
     refine⟨.pointer (some ⟨b,j.toNat*sz+0,none⟩),?_,.eptr _ _ _ _ _ b sz C hb⟩
     simp[Instr.indexAt,asIntOf,run_underlying hu,hj0,hj1,hpos,Addr.add_lit,<-hlen,hsz]
   ·cases h
  ·cases h
 ·rename_i n e cs k j hel;split at h
  ·rename_i hc;cases h;have hu:=I6 hel;cases hi;have hx':=hx;cases hx with
   |ref _ b off _ _ _ _ _ _ _=>exact⟨_,arr _ hu hc.1 hc.2.1 hc.2.2,by rw[Addr.add_lit];exact lS hx'⟩
  ·cases h
 ·rename_i n e l k g o kk j hel;split at h
  ·rename_i hc;cases h;have hu:=I6 hel;cases hi;cases hx with
   |ptr _ _ _ _ b sz C hb=>exact⟨_,arr _ hu hc.1 hc.2.1 hc.2.2,by rw[Addr.add_lit];exact .ptr _ _ _ _ b sz C hb⟩
  ·cases h
 ·rename_i n e l k g i' o kk j hel;split at h
  ·rename_i hc;cases h;have hu:=I6 hel;cases hi;cases hx with
   |eptr _ _ _ _ _ b sz C hb=>exact⟨_,arr _ hu hc.1 hc.2.1 hc.2.2,by rw[Addr.add_lit,Nat.add_assoc];exact .eptr _ _ _ _ _ b sz C hb⟩
  ·cases h
 ·cases h
theorem zD{T:dk}{x i v:V}{y z:dj}(h:GL P T x i=some v)(hx:RepV G x y)(hi:RepV G i z) :
  ∃r,(Instr.index T y z).run P w=.ok r w/\RepV G v r:=by
 unfold GL at h
 split at h
 ·rename_i n e cs k j hel;split at h
  ·rename_i hc;have hu:=I6 hel;cases hi;obtain⟨arr,rfl,hL⟩:=RepL.ofAgg hx;obtain⟨r,hr1,hr2⟩:=lR (w:=w) hL h;refine⟨r,?_,hr2⟩;simp only[cd]at hr1;simp[Instr.index,asIntOf,run_underlying hu,hc.1,hc.2.1,CU (P:=P) (w:=w) hc.2.2,hr1]
  ·cases h
 ·rename_i b k j hel;split at h
  ·rename_i hc;cases hi;cases hx;obtain⟨c,hb,rfl⟩:=bq.1 h;exact⟨.int .u8 c.toNat,by simp[Instr.index,asIntOf,run_underlying (zC hc.1),hc.2,hb],.int _ _⟩
  ·cases h
 ·cases h
theorem zE{T:dk}{f:Nat}{x v:V}{y:dj}(h:JV P T x f=some v)(hx:RepV G x y) :
  ∃r,(Instr.field T y f).run P w=.ok r w/\RepV G v r:=by
 unfold JV at h
 split at h
 ·rename_i cs U off hf;unfold BL at hf;split at hf
  ·rename_i fs hu;simp only[bq,cp.injEq]at hf;obtain⟨fd,hfd,rfl,rfl⟩:=hf;obtain⟨arr,rfl,hL⟩:=RepL.ofAgg hx;obtain⟨r,hr1,hr2⟩:=lR (w:=w) hL h;refine⟨r,?_,hr2⟩;simp only[cd]at hr1;simp[Instr.field,run_underlying hu,hfd,asAgg,hr1]
  ·cases hf
 ·cases h
theorem ASW{op:UnOp}{x v:V}{y:dj}(h:bY op x=some v)(hx:RepV G x y):∃r,(Op.unary op y).run P w=.ok r w/\RepV G v r:=by
 unfold bY at h;split at h
 ·cases h;cases hx;exact⟨_,by simp[Op.unary],.bool _⟩
 ·cases h;cases hx;exact⟨_,by simp[Op.unary,Op.intArith],.int _ _⟩
 ·cases h
theorem AEY{src dst:dk}{x v:V}{y:dj}(h:J9 P src dst x=some v)(hx:RepV G x y):∃r,(convert src dst y).run P w=.ok r w/\RepV G v r:=by
 unfold J9 at h;split at h
 ·rename_i k' n k1 k hs hu;cases h;cases hx;exact⟨.int k (k.wrap n),by simp[convert,run_underlying hs,run_underlying hu,Conv.intToInt],.int _ _⟩
 ·cases h
theorem lT{f:Bool}{es:List (List V)}{a:Option Addr}{n cap:Nat}(h:RepV G (.list f es) (.slice a n cap)){l hi:Nat}(hl:l<=hi)(hh:hi<=es.length){sz:Nat}(hs:∀e∈es,e.length=sz) :
  RepV G (.list false ((es.take hi).drop l)) (.slice (if cap=l then a else a.map (·.add (l*sz))) (hi-l) (cap-l)):=by
 cases h with
 |list _ _ _ _ b off sz' arr T fz vs hcap hfull ha hlen hv hr=>
  have hlength:((es.take hi).drop l).length=hi-l:=by simp;omega
  have key:RepV G (.list false ((es.take hi).drop l)) (.slice (if cap=l then a else a.map (·.add (l*sz))) ((es.take hi).drop l).length (cap-l)):=by
   by_cases hne:es=[]
   ·subst hne;refine .list false _ _ _ 0 0 0 #[] 0 (0,0) (fun _ _=>undef) (by simp) (fun h=>by cases h) (fun h=>absurd (by simp) h) (fun i h=>?_) (fun i h=>?_) (fun i h=>?_);all_goals simp at h
   ·obtain⟨rfl,hsl⟩:=ha hne;have h0:0<es.length:=br.2 hne;have hsz:sz'=sz:=by rw[<-hlen 0 h0];exact hs _ (bg h0)
    subst hsz;refine .list false _ _ _ b (off+l*sz') sz' arr T fz (fun i j=>vs (l+i) j) (by rw[hlength];omega) (fun h=>by cases h) (fun hn=>?_) (fun i h=>?_) (fun i h j hj=>?_) (fun i h j hj=>?_)
    ·have hpos:0<((es.take hi).drop l).length:=br.2 hn;rw[hlength]at hpos;rw[if_neg (by omega)];exact⟨by simp[Addr.add_lit],hsl⟩
    ·rw[hlength]at h;simp only[bc,bx];exact hlen _ _
    ·have h':i<hi-l:=by rw[<-hlength];exact h
     simp only[bc,bx]at hj|-;have:=hv (l+i) (by omega) j hj;exact⟨by rw[<-this.1,Nat.add_mul];congr 1;omega,this.2⟩
    ·have h':i<hi-l:=by rw[<-hlength];exact h
     simp only[bc,bx]at hj|-;exact hr (l+i) (by omega) j hj
  rw[hlength]at key
  exact key
theorem lU{x v:V}{i:Nat}{y:dj}(h:FY x i=some v)(hx:RepV G x y):∃r,(Instr.extract y i).run P w=.ok r w/\RepV G v r:=by
 unfold FY at h;split at h
 ·cases hx with
  |tup cs arr hl hr=>
   obtain⟨hi,rfl⟩:=bw.1 h
   have hi':i<arr.size:=by omega
   exact⟨arr[i],by simp[Instr.extract,hi'],hr i hi hi'⟩
 ·cases h
theorem AKJ{T ty:dk}{x v:V}{y:dj}(h:GV P T x=some v)(hx:RepV G x y):∃r,(Builtin.len_ #[T] ty #[y]).run P w=.ok r w/\RepV G v r:=by
 unfold GV at h;split at h
 ·rename_i e f es hu;cases h;cases hx;exact⟨_,by simp[Builtin.len_,run_underlying hu];rfl,.int _ _⟩
 ·rename_i e l k g n hu;cases h;cases hx;exact⟨_,by simp[Builtin.len_,run_underlying hu];rfl,.int _ _⟩
 ·rename_i e hu;cases h;cases hx;exact⟨.int .i64 0,by simp[Builtin.len_,run_underlying hu,goInt],.int _ _⟩
 ·rename_i n e hu;cases h;exact⟨_,by simp[Builtin.len_,run_underlying hu];rfl,.int _ _⟩
 ·cases h
theorem zF{T:dk}{x v:V}{lo hi mx:Option V}{y:dj}{l' h' m':Option dj}(hI:CE G s w)(h:CG P s T x lo hi mx=some v)(hx:RepV G x y)
  (hl:(lo=none/\l'=none)\/∃a b,lo=some a/\l'=some b/\RepV G a b) (hh:(hi=none/\h'=none)\/∃a b,hi=some a/\h'=some b/\RepV G a b)
  (hm:(mx=none/\m'=none)\/∃a b,mx=some a/\m'=some b/\RepV G a b) :
  ∃r,(Instr.sliceAt T y l' h' m').run P w=.ok r w/\RepV G v r:=by
 have pre:∀{f:Bool} {es:List (List V)} {a:Option Addr} {n cap hi:Nat},RepV G (.list f es) (.slice a n cap)->hi<=es.length->RepV G (.list false (es.take hi)) (.slice (if cap=0 then a else a) hi cap):=by
  intro f es a n cap hi hr hle;cases hr with
  |list _ _ _ _ b off sz arr T fz vs hcap hfull ha hlen hv hr=>
   have hlength:(es.take hi).length=hi:=by simp;omega
   have key:RepV G (.list false (es.take hi)) (.slice a (es.take hi).length cap):=by
    refine .list false _ _ _ b off sz arr T fz vs (by rw[hlength];omega) (fun h=>by cases h) (fun hn=>ha (fun e=>hn (by simp[e]))) (fun i h=>?_) (fun i h j hj=>?_) (fun i h j hj=>?_)
    ·simp only[bx];exact hlen _ _
    ·simp only[bx]at hj|-;exact hv i _ j hj
    ·simp only[bx]at hj|-;exact hr i _ j hj
   rw[hlength]at key
   simpa using key
 have hall:∀{es:List (List V)} {m:Nat},(es.all fun x=>x.length==m)=true->∀e∈es,e.length=m:=by intro es m h e he;have:=List.all_eq_true.1 h e he;simpa using this
 unfold CG at h
 split at h
 ·rename_i e f es k hi hel;have hu:=CH hel;split at h
  ·rename_i hc;cases h;obtain⟨_,rfl⟩:=hl.resolve_right (by rintro ⟨a,b,h1,_⟩;cases h1);obtain⟨_,rfl⟩:=hm.resolve_right (by rintro ⟨a,b,h1,_⟩;cases h1);rcases hh with⟨h1,_⟩|⟨a,b,h1,rfl,hab⟩
   ·cases h1
   ·cases h1;cases hab;have hx':=hx;cases hx with
    |list _ _ a cap b off sz arr T' fz vs hcap hfull ha hlen hv hr=>
     have hp:=pre hx' (hi:=hi.toNat) (by omega)
     refine⟨_,?_,hp⟩
     have h2:hi<=cap:=by omega
     simp[Instr.sliceAt,run_underlying hu,Instr.slice,Instr.sliceBounds,Instr.sliceBound,asIntOf,hc.1,h2,CU (P:=P) (w:=w) hc.2.2]
     cases a<;>simp[Addr.add]
  ·cases h
 ·rename_i e f es k lo hel;have hu:=CH hel;split at h
  ·rename_i hc;cases h;obtain⟨_,rfl⟩:=hh.resolve_right (by rintro ⟨a,b,h1,_⟩;cases h1);obtain⟨_,rfl⟩:=hm.resolve_right (by rintro ⟨a,b,h1,_⟩;cases h1);rcases hl with⟨h1,_⟩|⟨a,b,h1,rfl,hab⟩
   ·cases h1
   ·cases h1;cases hab;have hx':=hx;cases hx with
    |list _ _ a cap b off sz arr T' fz vs hcap hfull ha hlen hv hr=>
     have hp:=lT hx' (l:=lo.toNat) (hi:=es.length) (by omega) (cr _) (hall hc.2.2.2)
     rw[List.take_length]at hp
     refine⟨_,?_,hp⟩
     simp[Instr.sliceAt,run_underlying hu,Instr.slice,Instr.sliceBounds,Instr.sliceBound,asIntOf,hc.1,hc.2.1,CU (P:=P) (w:=w) hc.2.2.1]
  ·cases h
 ·rename_i e f es k lo k' hi hel;have hu:=CH hel;split at h
  ·rename_i hc;cases h;obtain⟨_,rfl⟩:=hm.resolve_right (by rintro ⟨a,b,h1,_⟩;cases h1);rcases hl with⟨h1,_⟩|⟨a,b,h1,rfl,hab⟩
   ·cases h1
   ·cases h1;cases hab;rcases hh with⟨h1,_⟩|⟨a,b,h1,rfl,hab⟩
    ·cases h1
    ·cases h1;cases hab;have hx':=hx;cases hx with
     |list _ _ a cap b off sz arr T' fz vs hcap hfull ha hlen hv hr=>
      have hp:=lT hx' (l:=lo.toNat) (hi:=hi.toNat) (by omega) (by omega) (hall hc.2.2.2.2)
      refine⟨_,?_,hp⟩
      have h2:hi<=cap:=by omega
      have h3:0<=hi:=by omega
      simp[Instr.sliceAt,run_underlying hu,Instr.slice,Instr.sliceBounds,Instr.sliceBound,asIntOf,hc.1,h2,h3,CU (P:=P) (w:=w) hc.2.2.2.1]
      intro hlt
      omega
  ·cases h
 ·rename_i e f es k h k' m hel;have hu:=CH hel;split at h
  ·rename_i hc;cases h;obtain⟨rfl,rfl,hpos⟩:=hc;obtain⟨_,rfl⟩:=hl.resolve_right (by rintro ⟨a,b,h1,_⟩;cases h1);rcases hm with⟨h1,_⟩|⟨a,b,h1,rfl,hab⟩
   ·cases h1
   ·cases h1;cases hab;rcases hh with⟨h1,_⟩|⟨a,b,h1,rfl,hab⟩
    ·cases h1
    ·cases h1;cases hab;cases hx with
     |list _ _ a cap b off sz arr T' fz vs hcap hfull ha hlen hv hr=>
      refine⟨.slice a 0 0,?_,.list true [] a 0 0 0 0 #[] 0 (0,0) (fun _ _=>undef) (cr _) (fun _=>rfl) (fun h=>absurd rfl h) (fun i h=>absurd h (by simp)) (fun i h=>absurd h (by simp)) (fun i h=>absurd h (by simp))⟩
      simp[Instr.sliceAt,run_underlying hu,Instr.slice,Instr.sliceBounds,Instr.sliceBound,asIntOf,CU (P:=P) (w:=w) hpos]
  ·cases h
 ·rename_i e l k g n k' hi hel;have hu:=CH hel;split at h
  ·rename_i hc;cases h;obtain⟨_,rfl⟩:=hl.resolve_right (by rintro ⟨a,b,h1,_⟩;cases h1);obtain⟨_,rfl⟩:=hm.resolve_right (by rintro ⟨a,b,h1,_⟩;cases h1);rcases hh with⟨h1,_⟩|⟨a,b,h1,rfl,hab⟩
   ·cases h1
   ·cases h1;cases hab;cases hx with
    |vec _ _ _ _ b sz C a hb hle ha=>
     refine⟨_,?_,.vec l k g hi.toNat b sz C a hb (by omega) ha⟩
     have h2:hi<=C:=by omega
     simp[Instr.sliceAt,run_underlying hu,Instr.slice,Instr.sliceBounds,Instr.sliceBound,asIntOf,hc.1,h2,CU (P:=P) (w:=w) hc.2.2]
     cases a<;>simp[Addr.add]
  ·cases h
 ·rename_i e l k g n k' i hel;have hu:=CH hel;split at h
  ·rename_i g' T' es hget;split at h
   ·rename_i hc;obtain⟨rfl,hall1,hne,hi0,hin,hpos⟩:=hc;cases h;obtain⟨_,rfl⟩:=hh.resolve_right (by rintro ⟨a,b,h1,_⟩;cases h1);obtain⟨_,rfl⟩:=hm.resolve_right (by rintro ⟨a,b,h1,_⟩;cases h1);rcases hl with⟨h1,_⟩|⟨a,b,h1,rfl,hab⟩
    ·cases h1
    ·cases h1;cases hab;obtain⟨b',sz',C',hb',hC,hlen,_⟩:=hI.res _ _ _ _ hget;cases hx with
     |vec _ _ _ _ b sz C a hb hle ha=>
      rw[hb]at hb'
      simp only[bf.injEq,cp.injEq]at hb'
      obtain⟨rfl,rfl,rfl⟩:=hb'
      have h0:0<es.length:=br.2 hne
      have hsz:sz=P.cellsOf e:=by rw[<-hlen _ (bg h0)];exact hall hall1 _ (bg h0)
      subst hsz
      refine⟨.slice (if C=i.toNat then a else a.map (·.add (i.toNat*P.cellsOf e))) (n-i.toNat) (C-i.toNat),?_,.vtl l k g' i.toNat _ b _ C _ _ hb (by omega) (fun hn=>?_)⟩
      ·simp[Instr.sliceAt,run_underlying hu,Instr.slice,Instr.sliceBounds,Instr.sliceBound,asIntOf,hi0,hin,CU (P:=P) (w:=w) hpos]
      ·rw[if_neg (by omega),ha (by omega)];simp[Addr.add_lit]
   ·cases h
  ·cases h
 ·rename_i n e l k g o hel;have hu:=I6 hel;split at h
  ·rename_i g' cs m hget hm';split at h
   ·rename_i hc;obtain⟨rfl,h1,hle⟩:=hc;cases h;obtain⟨_,rfl⟩:=hl.resolve_right (by rintro ⟨a,b,h1,_⟩;cases h1);obtain⟨_,rfl⟩:=hm.resolve_right (by rintro ⟨a,b,h1,_⟩;cases h1);obtain⟨b,arr,T',hb,_,_⟩:=hI.res _ _ _ _ hget;cases hx with
    |ptr _ _ _ _ b' sz C hb'=>
     rw[hb]at hb'
     simp only[bf.injEq,cp.injEq]at hb'
     obtain⟨rfl,rfl,rfl⟩:=hb'
     rcases hh with⟨rfl,rfl⟩|⟨a,c,rfl,rfl,hab⟩
     ·simp only[hiN,bf.injEq]at hm';subst hm';refine⟨.slice (some (if n=0 then⟨b,o,none⟩ else(⟨b,o,none⟩:Addr).add (0*P.cellsOf e))) n n,?_,.vtl l k g' o n b 1 cs.length n _ hb (by omega) fun hn=>?_⟩
      ·simp[Instr.sliceAt,run_underlying hu,Instr.sureAddr,Instr.sliceBounds,CU (P:=P) (w:=w) (show 0<P.cellsOf e by omega)]
      ·rw[if_neg hn];simp[Addr.add_lit]
     ·cases a with
      |int k2 h=>
       cases hab
       simp only[hiN]at hm'
       split at hm'
       ·rename_i hb2;cases hm';refine⟨.slice (some (if n=0 then⟨b,o,none⟩ else(⟨b,o,none⟩:Addr).add (0*P.cellsOf e))) h.toNat n,?_,.vtl l k g' o h.toNat b 1 cs.length n _ hb (by omega) fun hn=>?_⟩
        ·simp[Instr.sliceAt,run_underlying hu,Instr.sureAddr,Instr.sliceBounds,Instr.sliceBound,asIntOf,hb2.1,hb2.2,CU (P:=P) (w:=w) (show 0<P.cellsOf e by omega)]
        ·rw[if_neg (by omega)];simp[Addr.add_lit]
       ·cases hm'
      |_=>simp[hiN]at hm'
   ·cases h
  ·cases h
 ·cases h
theorem YQ:∀{xs ys:List V} {b:Bool} {as bs:List dj},wH xs ys=some b->DP xs=some as->DP ys=some bs->(b=true↔as=bs)
 |[],[],b,as,bs,h,h1,h2=>by cases h;cases h1;cases h2;simp
 |.int k a::xs,.int j c::ys,b,as,bs,h,h1,h2=>by
  simp only[wH]at h;split at h
  ·rename_i hk;subst hk;split at h
   ·rename_i r hr;cases h;simp only[DP]at h1 h2;split at h1
    ·rename_i l1 e1;split at h2
     ·rename_i l2 e2;cases h1;cases h2;have:=YQ hr e1 e2;simp[this]
     ·cases h2
    ·cases h1
   ·cases h
  ·cases h
 |.bool a::xs,.bool c::ys,b,as,bs,h,h1,h2=>by
  simp only[wH]at h;split at h
  ·rename_i r hr;cases h;simp only[DP]at h1 h2;split at h1
   ·rename_i l1 e1;split at h2
    ·rename_i l2 e2;cases h1;cases h2;have:=YQ hr e1 e2;simp[this]
    ·cases h2
   ·cases h1
  ·cases h
theorem dP{K:dk}{x:V}{ks:List V}{v:dj}(h:P6 P K x=some ks)(hx:RepV G x v):∃as l,DP ks=some as/\v=.agg as.toArray/\keyOf P K v=some l:=by
 unfold P6 at h;split at h
 ·rename_i cs;split at h
  ·rename_i as e;split at h
   ·rename_i hk;cases h;obtain⟨arr,rfl,hL⟩:=RepL.ofAgg hx;have:=J8 hL e;have e2:arr=as.toArray:=by rw[<-this]
    subst e2;obtain⟨l,hl⟩:=Option.isSome_iff_exists.1 hk;exact⟨as,l,e,rfl,hl⟩
   ·cases h
  ·cases h
 ·cases h
theorem AEZ{K:dk}(h:lP P K=true):WideMaps.KeyLaw P K:=by simp only[lP,bp]at h;obtain⟨⟨h1,h2⟩,h3⟩:=h;refine deep_law (m:=16) (by omega) h2 h3 ?_;unfold AEV at h1;split at h1<;>simp_all
theorem YR{K:dk}{ks:List V}{as:List dj}(has:DP ks=some as):∀{es:List (V×V)} {arr:List MapEntry} {i:Nat} {l:List Nat},es.length=arr.length->(∀j (h1:j<es.length) (h2:j<arr.length),RepV G es[j].1 arr[j].key) ->
  H5 P K ks es i=some l->(∀e∈arr,∃q,keyOf P K e.key=some q)/\(∀j,j∈l↔i<=j/\∃e,arr[j-i]? = some e/\e.key=.agg as.toArray)
 |[],[],i,l,_,_,h=>by cases h;simp
 |[],_::_,i,l,hl,_,h=>by simp at hl
 |_::_,[],i,l,hl,_,h=>by simp at hl
 |(k,v)::es,e::arr,i,l,hl,hr,h=>by
  simp only[H5]at h;split at h
  ·rename_i js hjs;split at h
   ·rename_i b l' hb hl';cases h;have h0:=hr 0 (by simp) (by simp);obtain⟨bs,q,hbs,hek,hq⟩:=dP hjs h0;simp only[cq]at hek hq;obtain⟨i1,i2⟩:=YR has (es:=es) (arr:=arr) (i:=i+1) (by simpa using hl) (fun j h1 h2=>hr (j+1) (by simpa using h1) (by simpa using h2)) hl';have hbb:=YQ hb hbs has;refine⟨fun e' he'=>?_,fun j=>?_⟩
    ·rcases List.mem_cons.1 he' with rfl|he'
     ·exact⟨q,hq⟩
     ·exact i1 e' he'
    ·have key:(i+1<=j/\∃e',arr[j-(i+1)]? = some e'/\e'.key=.agg as.toArray)↔(i<j/\∃e',(e::arr)[j-i]? = some e'/\e'.key=.agg as.toArray):=by
      constructor
      ·rintro ⟨h1,e',h2,h3⟩;refine⟨h1,e',?_,h3⟩;rw[show j-i=(j-(i+1))+1 by omega];exact h2
      ·rintro ⟨h1,e',h2,h3⟩;refine⟨h1,e',?_,h3⟩;rw[show j-i=(j-(i+1))+1 by omega]at h2;exact h2
     have hzero:(∃e',(e::arr)[i-i]? = some e'/\e'.key=.agg as.toArray)↔b=true:=by
      rw[hbb];simp only[Nat.sub_self,List.getElem?_cons_zero,bf.injEq];constructor
      ·rintro ⟨e',rfl,h3⟩;rw[hek]at h3;simpa using h3
      ·rintro rfl;exact⟨e,rfl,hek⟩
     cases hbv:b with
     |true=>
      simp only[if_true,List.mem_cons]
      rw[i2,key]
      rw[hbv]at hzero
      constructor
      ·rintro (rfl|⟨h1,h2⟩)
       ·exact⟨cr _,hzero.2 rfl⟩
       ·exact⟨by omega,h2⟩
      ·rintro ⟨h1,h2⟩;by_cases hij:j=i
       ·exact .inl hij
       ·exact .inr ⟨by omega,h2⟩
     |false=>
      simp only[cm,if_false]
      rw[i2,key]
      rw[hbv]at hzero
      constructor
      ·rintro ⟨h1,h2⟩;exact⟨by omega,h2⟩
      ·rintro ⟨h1,h2⟩;refine⟨?_,h2⟩;by_cases hij:j=i
       ·subst hij;have:=hzero.1 h2;cases this
       ·omega
   ·cases h
  ·cases h
theorem SC{K:dk}(hT:lP P K=true){k:V}{ks:List V}{kv:dj}(hk:P6 P K k=some ks)(hkr:RepV G k kv){es:List (V×V)}{arr:Array MapEntry}(hlen:es.length=arr.size)
  (hr:∀j (h1:j<es.length) (h2:j<arr.size),RepV G es[j].1 arr[j].key) {l:List Nat} (hf:H5 P K ks es 0=some l) :
  (∀em,(Instr.checkKey em 10000 K kv).run P w=.ok () w)/\(Instr.keyThatStays kv kv).run P w=.ok kv w /\
  (l=[]->(Instr.findKey K kv arr.toList).run P w=.ok none w) /\
  (∀i,l=[i]->∃e,arr[i]? = some e/\e.key=kv/\(Instr.findKey K kv arr.toList).run P w=.ok (some (i,e.val)) w):=by
 have L:=AEZ hT
 obtain⟨as,q,has,rfl,hq⟩:=dP hk hkr
 obtain⟨h1,h2⟩:=YR (G:=G) has (es:=es) (arr:=arr.toList) (i:=0) (by simpa using hlen) (fun j p1 p2=>by simpa using hr j p1 (by simpa using p2)) hf
 refine⟨fun em=>L.check w em hq,L.stays w hq,fun hl=>?_,fun i hl=>?_⟩
 ·subst hl;rcases L.find w hq arr.toList h1 with⟨h3,_⟩|⟨j,e,h3,h4,h5⟩
  ·exact h3
  ·have:=(h2 j).2 ⟨by omega,e,by simpa using h4,h5⟩;cases this
 ·subst hl;obtain⟨_,e,h6,h7⟩:=(h2 i).1 (by simp);rcases L.find w hq arr.toList h1 with⟨h3,h4⟩|⟨j,e',h3,h4,h5⟩
  ·exact absurd h7 (h4 e (List.mem_of_getElem? h6))
  ·have:=(h2 j).2 ⟨by omega,e',by simpa using h4,h5⟩;have hj:j=i:=by simpa using this
   subst hj;exact⟨e',by simpa using h4,h5,h3⟩
theorem gQ{v:dj}{x:V}(h:CK v=some x):x.isCell=true:=by unfold CK at h;split at h<;>first|(cases h;rfl)|cases h
theorem VF:∀{vs:List dj} {xs:List V},GP vs=some xs->RepL G xs vs
 |[],xs,h=>by simp[GP]at h;subst h;exact .nil G
 |v::vs,xs,h=>by
  unfold GP at h;split at h
  ·rename_i x l hx hl;cases h;exact .cons (gQ hx) (MQ hx) (VF hl)
  ·cases h
theorem rY{T:dk}{z:V}(h:Q4 P T=some z):∃v,(zeroValue T).run P w=.ok v w/\RepV G z v:=by
 unfold Q4 at h;split at h
 ·rename_i arr hv;split at h
  ·rename_i cs hz;cases h;unfold dN at hv;obtain⟨i,hi,hv⟩:=bj.1 hv;exact⟨.agg arr,by simp[zeroValue,typeInfo,hi,hv],by simpa using(VF (G:=G) hz).toAgg⟩
  ·cases h
 ·rename_i v _ hv;unfold dN at hv;obtain⟨i,hi,hv⟩:=bj.1 hv;exact⟨v,by simp[zeroValue,typeInfo,hi,hv],MQ h⟩
 ·cases h
theorem EW{r:Nat}{arr:Array MapEntry}{c:Nat}(h:w.heap[r]? = some (.map arr c)):(getObj r).run P w=.ok (.map arr c) w:=by simp[getObj,Sem.run,h]
theorem rZ{T:dk}{x k v:V}{ok:Bool}{y kv:dj}(hI:CE G s w)(h:CO P s T x k ok=some v)(hx:RepV G x y)(hk:RepV G k kv):∃r,(Instr.lookup T y kv ok).run P w=.ok r w/\RepV G v r:=by
 unfold CO at h;split at h
 ·rename_i K E l q g hm;have hu:P.underlying T=some (.map K E):=by
   unfold rX at hm;split at hm
   ·rename_i e;cases hm;exact e
   ·cases hm
  split at h
  ·rename_i g' es hget;split at h
   ·rename_i hc;obtain⟨rfl,hT⟩:=hc;split at h
    ·rename_i ks hks;obtain⟨b,arr,clock,hb,hh,hlen,hr⟩:=hI.res _ _ _ _ hget;cases hx with
     |mp _ _ _ b' sz C hb'=>
      rw[hb]at hb'
      simp only[bf.injEq,cp.injEq]at hb'
      obtain⟨rfl,rfl,rfl⟩:=hb'
      split at h
      ·rename_i hf;obtain⟨c1,_,c3,_⟩:=SC (P:=P) (w:=w) hT hks hk hlen (fun j p1 p2=>(hr j p1 p2).1) hf;obtain⟨z,hz,rfl⟩:=bq.1 h;obtain⟨zv,hz1,hz2⟩:=rY (G:=G) (w:=w) hz;cases ok with
       | true=>exact⟨.tuple #[zv,.bool false],by simp[Instr.lookup,run_underlying hu,EW hh,c1,c3 rfl,hz1],.tup _ _ rfl (fun i p q=>by
         rcases i with _|_|i
         ·exact hz2
         ·exact .bool _
         ·simp at p; omega)⟩
       |false=>exact⟨zv,by simp[Instr.lookup,run_underlying hu,EW hh,c1,c3 rfl,hz1],hz2⟩
      ·rename_i i hf;obtain⟨c1,_,_,c4⟩:=SC (P:=P) (w:=w) hT hks hk hlen (fun j p1 p2=>(hr j p1 p2).1) hf;obtain⟨e,he,rfl⟩:=bq.1 h;obtain⟨e',he',_,hrun⟩:=c4 i rfl;obtain⟨hi1,rfl⟩:=bw.1 he;obtain⟨hi2,rfl⟩:=bt.1 he';have hv:=(hr i hi1 hi2).2;cases ok with
       | true=>exact⟨.tuple #[arr[i].val,.bool true],by simp[Instr.lookup,run_underlying hu,EW hh,c1,hrun],.tup _ _ rfl (fun i p q=>by
         rcases i with _|_|i
         ·exact hv
         ·exact .bool _
         ·simp at p; omega)⟩
       |false=>exact⟨arr[i].val,by simp[Instr.lookup,run_underlying hu,EW hh,c1,hrun],hv⟩
      ·cases h
    ·cases h
   ·cases h
  ·cases h
 ·cases h
theorem AKK{x v:V}{y:dj}{ρ:dv->dj}{o:Oper}{z:dv}(ho:o.op=.nilCheck z)(hz:ρ z=y)(h:NO x=some v)(hx:RepV G x y) :
  (execOp ρ o).run P w=.ok (.value y) w/\RepV G v y:=by
 unfold NO at h
 split at h<;>cases h<;>refine⟨?_,hx⟩<;>cases hx<;>simp[execOp,ho,hz]
theorem SD{ρ:dv->dj}{r:dv->Option V}(hr:∀x v,r x=some v->RepV G v (ρ x)):∀{xs:List dv} {vs:List V},xs.mapM r=some vs->RepA G vs (xs.map ρ)
 |[],vs,h=>by simp at h;subst h;exact .nil G
 |x::xs,vs,h=>by simp only[List.mapM_cons,Option.bind_eq_bind,bj,Option.pure_def,bf.injEq]at h;obtain⟨v,hv,us,hus,rfl⟩:=h;exact .cons (hr _ _ hv) (SD hr hus)
theorem AKL{a b v:V}{x y:dj}{at':Array dk}{ty:dk}(h:SA a b=some v)(hx:RepV G a x)(hy:RepV G b y):∃r,(Builtin.max_ at' ty #[x,y]).run P w=.ok r w/\RepV G v r:=by
 unfold SA at h;split at h
 ·split at h
  ·cases h;cases hx;cases hy;exact⟨_,by simp[Builtin.max_,Builtin.max2],.int _ _⟩
  ·cases h
 ·cases h
theorem AKM{a b v:V}{x y:dj}{at':Array dk}{ty:dk}(h:SB a b=some v)(hx:RepV G a x)(hy:RepV G b y):∃r,(Builtin.min_ at' ty #[x,y]).run P w=.ok r w/\RepV G v r:=by
 unfold SB at h;split at h
 ·split at h
  ·cases h;cases hx;cases hy;exact⟨_,by simp[Builtin.min_,Builtin.min2],.int _ _⟩
  ·cases h
 ·cases h
theorem AKN{o:Oper}{r:dv->Option V}{ρ:dv->dj}{v:V}(hI:CE G s w)(hr:∀x v,r x=some v->RepV G v (ρ x))(h:JG P o s r=some v) :
  ∃u,(execOp ρ o).run P w=.ok (.value u) w/\RepV G v u:=by
 unfold JG at h
 split at h
 ·rename_i x ho;exact⟨ρ x,by simp[execOp,ho],hr _ _ h⟩
 ·rename_i x ho;exact⟨ρ x,by simp[execOp,ho],hr _ _ h⟩
 ·rename_i x ho;obtain⟨a,ha,h⟩:=bj.1 h;exact⟨ρ x,AKK ho rfl h (hr _ _ ha)⟩
 ·rename_i T x ho;obtain⟨a,ha,h⟩:=bj.1 h;obtain⟨cs,hcs,h⟩:=bj.1 h;obtain⟨b,off,vs,hy,hL,hcell⟩:=lQ hI (hr _ _ ha) hcs;obtain⟨u,hu1,hu2⟩:=dO hL hcell h;exact⟨u,by simp[execOp,ho,hy,hu1],hu2⟩
 ·rename_i op T x y ty ho;obtain⟨a,ha,h⟩:=bj.1 h;obtain⟨b,hb,h⟩:=bj.1 h;obtain⟨u,hu1,hu2⟩:=zA (G:=G) (w:=w) (p:=x) (q:=y) h (hr _ _ ha) (hr _ _ hb);refine⟨u,?_,hu2⟩;simp only[execOp,ho,Sem.run_bind]at hu1|-;rw[hu1];rfl
 ·rename_i op T x ho;obtain⟨a,ha,h⟩:=bj.1 h;obtain⟨u,hu1,hu2⟩:=ASW (P:=P) (w:=w) h (hr _ _ ha);exact⟨u,by simp[execOp,ho,hu1],hu2⟩
 ·rename_i src dst x ho;obtain⟨a,ha,h⟩:=bj.1 h;obtain⟨u,hu1,hu2⟩:=AEY (w:=w) h (hr _ _ ha);exact⟨u,by simp[execOp,ho,hu1],hu2⟩
 ·rename_i T x f ho;obtain⟨a,ha,h⟩:=bj.1 h;obtain⟨u,hu1,hu2⟩:=bZ (w:=w) h (hr _ _ ha);exact⟨u,by simp[execOp,ho,hu1],hu2⟩
 ·rename_i T x f ho;obtain⟨a,ha,h⟩:=bj.1 h;obtain⟨u,hu1,hu2⟩:=zE (w:=w) h (hr _ _ ha);exact⟨u,by simp[execOp,ho,hu1],hu2⟩
 ·rename_i T x i ho;obtain⟨a,ha,h⟩:=bj.1 h;obtain⟨b,hb,h⟩:=bj.1 h;obtain⟨u,hu1,hu2⟩:=cA hI h (hr _ _ ha) (hr _ _ hb);exact⟨u,by simp[execOp,ho,hu1],hu2⟩
 ·rename_i T x i ho;obtain⟨a,ha,h⟩:=bj.1 h;obtain⟨b,hb,h⟩:=bj.1 h;obtain⟨u,hu1,hu2⟩:=zD (w:=w) h (hr _ _ ha) (hr _ _ hb);exact⟨u,by simp[execOp,ho,hu1],hu2⟩
 ·rename_i x i ho;obtain⟨a,ha,h⟩:=bj.1 h;obtain⟨u,hu1,hu2⟩:=lU (P:=P) (w:=w) h (hr _ _ ha);exact⟨u,by simp[execOp,ho,hu1],hu2⟩
 ·rename_i args argTypes ho;split at h
  ·rename_i x T hx hT;obtain⟨a,ha,h⟩:=bj.1 h;obtain⟨u,hu1,hu2⟩:=AKJ (w:=w) (ty:=o.type) h (hr _ _ ha);have e1:args = #[x]:=by simpa using congrArg cg hx
   have e2:argTypes = #[T]:=by simpa using congrArg cg hT
   exact⟨u,by simp[execOp,ho,resolve,invoke,builtin,e1,e2,hu1],hu2⟩
  ·cases h
 ·rename_i args argTypes ho;split at h
  ·rename_i x y hx;obtain⟨a,ha,h⟩:=bj.1 h;obtain⟨b,hb,h⟩:=bj.1 h;have e1:args = #[x,y]:=by simpa using congrArg cg hx
   obtain⟨u,hu1,hu2⟩:=AKL (P:=P) (w:=w) (ty:=o.type) (at':=argTypes) h (hr _ _ ha) (hr _ _ hb);exact⟨u,by simp[execOp,ho,resolve,invoke,builtin,e1,hu1],hu2⟩
  ·cases h
 ·rename_i args argTypes ho;split at h
  ·rename_i x y hx;obtain⟨a,ha,h⟩:=bj.1 h;obtain⟨b,hb,h⟩:=bj.1 h;have e1:args = #[x,y]:=by simpa using congrArg cg hx
   obtain⟨u,hu1,hu2⟩:=AKM (P:=P) (w:=w) (ty:=o.type) (at':=argTypes) h (hr _ _ ha) (hr _ _ hb);exact⟨u,by simp[execOp,ho,resolve,invoke,builtin,e1,hu1],hu2⟩
  ·cases h
 ·rename_i T x lo hi mx ho;obtain⟨a,ha,h⟩:=bj.1 h;obtain⟨l,hl,h⟩:=bj.1 h;obtain⟨hh,hhh,h⟩:=bj.1 h;obtain⟨m,hm,h⟩:=bj.1 h;have aux:∀{q:Option dv} {z:Option V},(match q with|none=>some none|some y=>(r y).map some)=some z ->
    (z=none/\q.map ρ=none)\/∃a b,z=some a/\q.map ρ=some b/\RepV G a b:=by
   intro q z hq
   cases q with
   |none=>simp at hq;exact .inl ⟨hq.symm,rfl⟩
   |some y=>
    simp only[bq]at hq
    obtain⟨a,ha,rfl⟩:=hq
    exact .inr ⟨a,_,rfl,rfl,hr _ _ ha⟩
  obtain⟨u,hu1,hu2⟩:=zF (w:=w) hI h (hr _ _ ha) (aux hl) (aux hhh) (aux hm);exact⟨u,by simp[execOp,ho,hu1],hu2⟩
 ·rename_i T x i ok ho;obtain⟨a,ha,h⟩:=bj.1 h;obtain⟨b,hb,h⟩:=bj.1 h;obtain⟨u,hu1,hu2⟩:=rZ hI h (hr _ _ ha) (hr _ _ hb);exact⟨u,by simp[execOp,ho,hu1],hu2⟩
 ·rename_i f first captured ho;obtain⟨a,ha,h⟩:=bj.1 h;obtain⟨b,hb,h⟩:=bj.1 h;cases h;have h1:=SD hr ha;have h2:=SD hr hb;refine⟨.func (.func f) (first.map ρ) (captured.map ρ),by simp[execOp,ho,Instr.makeFunc],.fn f a b _ _ (by simpa using h1.1) (by simpa using h2.1) (fun i p q=>?_) (fun i p q=>?_)⟩
  ·have:=h1.2 i p (by simpa using q);simpa using this
  ·have:=h2.2 i p (by simpa using q);simpa using this
 ·cases h
end Go.Pg
