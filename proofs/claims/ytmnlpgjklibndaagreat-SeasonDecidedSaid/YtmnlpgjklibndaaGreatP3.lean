/- A function's way in and out: its results, what of its own places stays behind in them. No program in sight. -/
import Derived.Test.YtmnlpgjklibndaaGreatP2
import Derived.Laws.CopyRow
import Derived.Laws.IdiomCopy
import Derived.Scope
open Go renaming Value->dp,World->dr,Oper->dt,Code->fj,Program->fk,TypeId->fq,Operand->fw
open List renaming getElem_map->bj,getElem?_eq_getElem->bw,length_append->bz,getElem?_take_of_lt->bf,eq_nil_of_length_eq_zero->bg,getElem_take->bh,getElem_mem->bn,length_singleton->bt,getElem?_eq_some_iff->cj,getElem?_append_left->ck,toArray->cq,length_drop->cx,length_map->cz,getElem_drop->cd,take_append_drop->cg,replicate->cm,flatten_append->cr,getElem_cons_zero->dk,length_take->dq,all_eq_true->dv,mem_of_mem_take->db,nodup_cons->dc,getElem?_drop->dg,range'->dm,mem_map->dn
open Array renaming getElem?_eq_some_iff->bq,length_toList->bc,getD_eq_getD_getElem?->dj,getElem?_toList->dz
open Option renaming bind_eq_some_iff->bx,some->bp
open Nat renaming mul_le_mul_right->br,le_refl->cp,add_zero->dx,add_mul->df,zero_add->dl
open Bool renaming and_eq_true->dw
open Prod renaming mk->dh
namespace Go.Pg
variable {P:fk}{n N:Nat}{G0 G:Gh}{fr:Fr}{s:St}{a:Act}{w:dr}
theorem OB(s:St):∀(f:Nat) (v:V),v.isCell=true->(DK s f v).isCell=true
 |0,_,h=>h
 |f+1,v,h=>by
  cases v with
  |agg cs=>cases h
  |tup cs=>cases h
  |vec l k g m=>
   simp only[DK]
   split
   ·split
    ·split<;>rfl
    ·rfl
   ·rfl
  |ptr l k g off=>
   simp only[DK]
   split
   ·split
    ·split<;>rfl
    ·rfl
   ·rfl
  |_=>rfl
def TZ(G':Gh)(G:Gh)(s:St)(w:dr):Prop:=∀k g r b,s.loc.get k=some (g,r)->BG G g r=some b->G'.sl b=w.heap[b]?
theorem W6{k:Nat}:s.get s.up.length k=s.loc.get k:=by simp[St.get]
theorem T1{G':Gh}(hI:CE G s w)(hle:G.le G')(hs:TZ G' G s w):∀(f:Nat) (x:V) (v:dp),RepV G x v->RepV G' (DK s f x) v
 |0,x,v,h=>h.mono hle
 |f+1,x,v,h=>by
  have ih:=T1 hI hle hs f;cases x with
  |list fl es=>exact(h.mono hle).unfull
  |vec l k g m=>
   simp only[DK]
   split
   ·rename_i hl;subst hl;split
    ·rename_i g' T es hget;split
     ·rename_i hc;obtain⟨rfl,hm⟩:=hc;have hget':s.get s.up.length k=some (g',.vec T es):=by rw[W6];exact hget
      obtain⟨b,sz,C,hb,hC,hlen,hmax,hrow⟩:=hI.res _ _ _ _ hget';cases h with
      |vec _ _ _ _ b' sz' C' a' hb' hle' ha=>
       rw[hb]at hb'
       simp only[bp.injEq,dh.injEq]at hb'
       obtain⟨rfl,rfl,rfl⟩:=hb'
       have hml:(es.take m).length=m:=by simp;omega
       have key:RepV G' (.list false (es.take m)) (.slice a' (es.take m).length C):=by
        by_cases hC0:C=0
        ·have:es.take m=[]:=bg (by omega);rw[this];exact .list false [] a' C 0 0 0 #[] 0 (0,0) (fun _ _=>undef) (by simp) (fun h=>by cases h) (fun h=>absurd rfl h) (fun i h=>absurd h (by simp)) (fun i h=>absurd h (by simp)) (fun i h=>absurd h (by simp))
        ·obtain⟨arr,hh,hsz,hr⟩:=hrow hC0;have hsl:G'.sl b=some (.cells arr T (0,0)):=by rw[hs k g' _ b hget (by simp[BG,hb,hC0])];exact hh
         have hE:∀i (hi:i<es.length),RepL G es[i] (((arr.toList.take (es.length*sz)).drop (i*sz)).take sz):=fun i hi=>LM hlen hr (bw hi);have hpos:∀i (hi:i<es.length) j (hj:j<es[i].length),(((arr.toList.take (es.length*sz)).drop (i*sz)).take sz)[j]? = arr[i*sz+j]?:=by
          intro i hi j hj;have hj':j<sz:=by rw[<-hlen _ (bn hi)];exact hj
          have hle2:(i+1)*sz<=es.length*sz:=br _ hi;rw[df]at hle2;rw[bf hj',dg,bf (by omega),dz]
         refine .list false _ a' C b 0 sz arr T (0,0) (fun i j=>arr[i*sz+j]?.getD undef) (by omega) (fun h=>by cases h) (fun _=>⟨ha hC0,hsl⟩) (fun i h=>?_) (fun i h j hj=>?_) (fun i h j hj=>?_)
         ·rw[bh];exact hlen _ (bn _)
         ·have hi:i<es.length:=by simp at h;omega
          simp only[bh]at hj|-;have hL:=hE i hi;have hj2:j<(((arr.toList.take (es.length*sz)).drop (i*sz)).take sz).length:=by rw[<-hL.1];exact hj
          have e1:=hpos i hi j hj;rw[bw hj2]at e1;refine⟨?_,(hL.2 j hj hj2).1⟩;rw[dl,<-e1];rfl
         ·have hi:i<es.length:=by simp at h;omega
          simp only[bh]at hj|-;have hL:=hE i hi;have hj2:j<(((arr.toList.take (es.length*sz)).drop (i*sz)).take sz).length:=by rw[<-hL.1];exact hj
          have e1:=hpos i hi j hj;rw[bw hj2]at e1;rw[<-e1];exact(hL.2 j hj hj2).2.mono hle
       rw[hml]at key
       exact key
     ·exact h.mono hle
    ·exact h.mono hle
   ·exact h.mono hle
  |ptr l k g off=>
   simp only[DK]
   split
   ·rename_i hl;subst hl;split
    ·rename_i g' cs hget;split
     ·rename_i hc;subst hc;have hget':s.get s.up.length k=some (g',.box cs):=by rw[W6];exact hget
      obtain⟨b,arr,T,hb,hh,hr⟩:=hI.res _ _ _ _ hget';cases h with
      |ptr _ _ _ _ b' sz C hb'=>
       rw[hb]at hb'
       simp only[bp.injEq,dh.injEq]at hb'
       obtain⟨rfl,rfl,rfl⟩:=hb'
       have hsl:G'.sl b=some (.cells arr T (0,0)):=by rw[hs k g' _ b hget (by simp[BG,hb])];exact hh
       refine .ref _ b off arr T (0,0) (fun j=>arr[off+j]?.getD undef) hsl (fun j hj=>?_) (fun j hj=>?_)
       ·simp only[cx,cz]at hj;have h1:off+j<cs.length:=by omega
        have h2:off+j<arr.toList.length:=by rw[<-hr.1];exact h1
        have h2':off+j<arr.size:=by simpa using h2
        simp only[cd,bj];exact⟨by simp[h2'],OB s f _ (hr.2 _ h1 h2).1⟩
       ·simp only[cx,cz]at hj;have h1:off+j<cs.length:=by omega
        have h2:off+j<arr.toList.length:=by rw[<-hr.1];exact h1
        have h2':off+j<arr.size:=by simpa using h2
        simp only[cd,bj];have:=ih _ _ (hr.2 _ h1 h2).2;simpa [h2']using this
     ·exact h.mono hle
    ·exact h.mono hle
   ·exact h.mono hle
  |agg cs=>
   simp only[DK]
   cases h with
   |agg _ arr hl hc hr=>
    refine .agg _ arr (by simpa using hl) (fun c hc'=>?_) (fun i h1 h2=>?_)
    ·obtain⟨d,hd,rfl⟩:=dn.1 hc';exact OB s f d (hc d hd)
    ·simp only[bj];exact ih _ _ (hr i (by simpa using h1) h2)
  |tup cs=>
   simp only[DK]
   cases h with
   |tup _ arr hl hr=>
    refine .tup _ arr (by simpa using hl) (fun i h1 h2=>?_)
    simp only[bj];exact ih _ _ (hr i (by simpa using h1) h2)
  |fn g xs ys=>
   simp only[DK]
   cases h with
   |fn _ _ _ a1 a2 l1 l2 hx hy=>
    exact .fn g _ _ a1 a2 (by simpa using l1) (by simpa using l2) (fun i p q=>by simp only[bj];exact ih _ _ (hx i (by simpa using p) q)) (fun i p q=>by simp only[bj];exact ih _ _ (hy i (by simpa using p) q))
  |_=>exact h.mono hle
theorem cE(s:St){v:V}(h:v.isCell=true):(FO s v).isCell=true:=by
 unfold FO;split
 ·rfl
 ·exact OB s 4 _ h
theorem MT{G':Gh}(hI:CE G s w)(hle:G.le G')(hs:TZ G' G s w){x:V}{v:dp}(h:RepV G x v):RepV G' (FO s x) v:=by
 unfold FO;split
 ·exact h.mono hle
 ·exact T1 hI hle hs 4 _ v h
theorem Y3{G':Gh}(hI:CE G s w)(hle:G.le G')(hs:TZ G' G s w){cs:List V}{vs:List dp}(h:RepL G cs vs):RepL G' (cs.map (FO s)) vs :=
 ⟨by simpa using h.1,fun i p q=>by
  simp only[bj];have:=h.2 i (by simpa using p) q;exact⟨cE s this.1,MT hI hle hs this.2⟩⟩
theorem QK(s:St):∀(fr:Fr) (k:Nat),Fr.get (fr.map fun x=>(x.1,x.2.1,FO s x.2.2)) k=(fr.get k).map fun x=>(x.1,FO s x.2)
 |[],_=>rfl
 |(j,c,v)::fr,k=>by
  simp only[List.map_cons,Fr.get];split
  ·rfl
  ·exact QK s fr k
theorem gT{G':Gh}(hI:CE G s w)(hle:G.le G')(hs:TZ G' G s w){g:Nat}{r:A6}(h:HJ G g w r):HJ G' g w (HN s r):=by
 cases r with
 |dead=>trivial
 |box cs=>
  obtain⟨b,arr,T,h1,h2,h3⟩:=h
  exact⟨b,arr,T,by simpa using hle.2 _ _ h1,h2,Y3 hI hle hs h3⟩
 |vec T es=>
  obtain⟨b,sz,C,h1,h2,h3,h4,h5⟩:=h
  refine⟨b,sz,C,hle.2 _ _ h1,by simpa using h2,fun e he=>?_,⟨h4.1,fun h=>h4.2 (by simpa using h)⟩,fun hC=>?_⟩
  ·obtain⟨e',he',rfl⟩:=dn.1 he;simpa using h3 e' he'
  ·obtain⟨arr,h6,h7,h8⟩:=h5 hC;refine⟨arr,h6,h7,?_⟩;have:=Y3 hI hle hs h8;rw[List.map_flatten]at this;simpa using this
 |map es=>
  obtain⟨b,arr,clock,h1,h2,h3,h4⟩:=h
  exact⟨b,arr,clock,hle.2 _ _ h1,h2,by simpa using h3,fun i p q=>by
   simp only[bj];have:=h4 i (by simpa using p) q;exact⟨MT hI hle hs this.1,MT hI hle hs this.2⟩⟩
 |loop fr ps asg body N st=>
  obtain⟨b,r,h1,h2,h3,h4⟩:=h
  refine⟨b,r,hle.2 _ _ h1,h2,fun k c v hk=>?_,h4⟩
  have hk':Fr.get (fr.map fun x=>(x.1,x.2.1,FO s x.2.2)) k=some (c,v):=hk
  rw[QK]at hk'
  obtain⟨⟨c',v'⟩,he,hx⟩:=Option.map_eq_some_iff.1 hk'
  cases hx
  obtain⟨x,q1,q2,q3⟩:=h3 k _ _ he
  exact⟨x,q1,fun hc=>MT hI hle hs (q2 hc),q3⟩
theorem Y4(G:Gh)(s:St)(g:Nat)(r:A6):BG G g (HN s r)=BG G g r:=by cases r<;>rfl
theorem LO{G':Gh}(hI:CE G s w)(hle:G.le G'){l k g m:Nat}{T:fq}{es:List (List V)}{v:dp}(hget:s.get l k=some (g,.vec T es))(hm:m<=es.length)(hs:∀b,BG G g (.vec T es)=some b->G'.sl b=w.heap[b]?)(h:RepV G (.vec l k g m) v) :
  RepV G' (.list false (es.take m)) v:=by
 obtain⟨b,sz,C,hb,hC,hlen,hmax,hrow⟩:=hI.res _ _ _ _ hget
 cases h with
 |vec _ _ _ _ b' sz' C' a' hb' hle' ha=>
  rw[hb]at hb'
  simp only[bp.injEq,dh.injEq]at hb'
  obtain⟨rfl,rfl,rfl⟩:=hb'
  have hml:(es.take m).length=m:=by simp;omega
  have key:RepV G' (.list false (es.take m)) (.slice a' (es.take m).length C):=by
   by_cases hC0:C=0
   ·have:es.take m=[]:=bg (by omega);rw[this];exact .list false [] a' C 0 0 0 #[] 0 (0,0) (fun _ _=>undef) (by simp) (fun h=>by cases h) (fun h=>absurd rfl h) (fun i h=>absurd h (by simp)) (fun i h=>absurd h (by simp)) (fun i h=>absurd h (by simp))
   ·obtain⟨arr,hh,hsz,hr⟩:=hrow hC0;have hsl:G'.sl b=some (.cells arr T (0,0)):=by rw[hs b (by simp[BG,hb,hC0])];exact hh
    have hE:∀i (hi:i<es.length),RepL G es[i] (((arr.toList.take (es.length*sz)).drop (i*sz)).take sz):=fun i hi=>LM hlen hr (bw hi);have hpos:∀i (hi:i<es.length) j (hj:j<es[i].length),(((arr.toList.take (es.length*sz)).drop (i*sz)).take sz)[j]? = arr[i*sz+j]?:=by
     intro i hi j hj;have hj':j<sz:=by rw[<-hlen _ (bn hi)];exact hj
     have hle2:(i+1)*sz<=es.length*sz:=br _ hi;rw[df]at hle2;rw[bf hj',dg,bf (by omega),dz]
    refine .list false _ a' C b 0 sz arr T (0,0) (fun i j=>arr[i*sz+j]?.getD undef) (by omega) (fun h=>by cases h) (fun _=>⟨ha hC0,hsl⟩) (fun i h=>?_) (fun i h j hj=>?_) (fun i h j hj=>?_)
    ·rw[bh];exact hlen _ (bn _)
    ·have hi:i<es.length:=by simp at h;omega
     simp only[bh]at hj|-;have hL:=hE i hi;have hj2:j<(((arr.toList.take (es.length*sz)).drop (i*sz)).take sz).length:=by rw[<-hL.1];exact hj
     have e1:=hpos i hi j hj;rw[bw hj2]at e1;refine⟨?_,(hL.2 j hj hj2).1⟩;rw[dl,<-e1];rfl
    ·have hi:i<es.length:=by simp at h;omega
     simp only[bh]at hj|-;have hL:=hE i hi;have hj2:j<(((arr.toList.take (es.length*sz)).drop (i*sz)).take sz).length:=by rw[<-hL.1];exact hj
     have e1:=hpos i hi j hj;rw[bw hj2]at e1;rw[<-e1];exact(hL.2 j hj hj2).2.mono hle
  rw[hml]at key
  exact key
def MU:V->V
 |.mp ..=>.any
 |v=>v
theorem zI{v:V}(h:v.isCell=true):(MU v).isCell=true:=by cases v<;>first|exact h|rfl
theorem AE2{v:V}{x:dp}(h:RepV G v x):RepV G (MU v) x:=by
 cases v with
 |mp l k g=>exact .any x (h.cell rfl)
 |_=>exact h
theorem mA{G':Gh}(hI:CE G s w)(hle:G.le G'){l k g off:Nat}{cs:List V}{v:dp}(hget:s.get l k=some (g,.box cs))(hs:∀b,BG G g (.box cs)=some b->G'.sl b=w.heap[b]?)(h:RepV G (.ptr l k g off) v) :
  RepV G' (.ref ((cs.map MU).drop off)) v:=by
 obtain⟨b,arr,T,hb,hh,hr⟩:=hI.res _ _ _ _ hget
 cases h with
 |ptr _ _ _ _ b' sz C hb'=>
  rw[hb]at hb'
  simp only[bp.injEq,dh.injEq]at hb'
  obtain⟨rfl,rfl,rfl⟩:=hb'
  have hsl:G'.sl b=some (.cells arr T (0,0)):=by rw[hs b (by simp[BG,hb])];exact hh
  refine .ref _ b off arr T (0,0) (fun j=>arr[off+j]?.getD undef) hsl (fun j hj=>?_) (fun j hj=>?_)
  ·simp only[cx,cz]at hj;have h1:off+j<cs.length:=by omega
   have h2:off+j<arr.toList.length:=by rw[<-hr.1];exact h1
   have h2':off+j<arr.size:=by simpa using h2
   simp only[cd,bj];exact⟨by simp[h2'],zI (hr.2 _ h1 h2).1⟩
  ·simp only[cx,cz]at hj;have h1:off+j<cs.length:=by omega
   have h2:off+j<arr.toList.length:=by rw[<-hr.1];exact h1
   have h2':off+j<arr.size:=by simpa using h2
   simp only[cd,bj];have:=AE2 ((hr.2 _ h1 h2).2.mono hle);simpa [h2']using this
theorem CE.lockRow{l k g:Nat}{T:fq}{es:List (List V)}(hI:CE G s w)(hget:s.get l k=some (g,.vec T es)) :
  ∃G',G.le G'/\CE G' (s.put l k g .dead) w/\∀b,BG G g (.vec T es)=some b->G'.sl b=w.heap[b]?:=by
 let G':Gh:={ G with sl:=fun b=>if BG G g (.vec T es)=some b then w.heap[b]? else G.sl b }
 have hle:G.le G':=⟨fun b x h=>by
  show(if BG G g (.vec T es)=some b then w.heap[b]? else G.sl b)=some x;split
  ·rename_i e;rw[(hI.out _ _ _ _ _ hget e).1]at h;cases h
  ·exact h,fun _ _ h=>h,rfl,fun _ _ h=>h⟩
 have hso:∀{g r b},BG G' g r=some b->BG G g r=some b:=by intro g r b h;cases r<;>exact h
 have look:∀{l' k' x},(s.put l k g .dead).get l' k'=some x->x=(g,.dead)\/(¬(l'=l/\k'=k)/\s.get l' k'=some x):=fun {l' k' x} h=>by
  rw[St.get_put s hget]at h;split at h
  ·exact .inl (bp.inj h).symm
  ·rename_i e;exact .inr ⟨e,h⟩
 refine⟨G',hle,⟨fun b o h=>?_,fun l1 k1 g1 r1 h=>?_,fun l1 k1 g1 r1 l2 k2 g2 r2 b h1 h2 h3 h4=>?_,fun l1 k1 g1 r1 b h1 h2=>?_,hI.fresh,hI.env,hI.me.step hle rfl (fun _ _ _=>rfl) (fun l1 k1 g1 r1 b h1 h2=>by
  rcases look h1 with e|⟨_,e⟩
  ·cases e;cases h2
  ·exact .inl ⟨_,_,_,_,e,hso h2⟩) fun b d hb=>(if_neg fun e=>by rw[hI.me.ow _ _ _ _ _ hget e]at hb; cases hb).trans (hI.me.sl b d hb)⟩,fun b hb=>if_pos hb⟩
 ·have h':(if BG G g (.vec T es)=some b then w.heap[b]? else G.sl b)=some o:=h;split at h'
  ·exact h'
  ·exact hI.sl _ _ h'
 ·rcases look h with e|⟨_,e⟩
  ·cases e;trivial
  ·exact(hI.res _ _ _ _ e).keep hle fun _ _=>rfl
 ·rcases look h1 with e|⟨_,e1⟩
  ·cases e;cases h3
  ·rcases look h2 with e|⟨_,e2⟩
   ·cases e;cases h4
   ·exact hI.sep _ _ _ _ _ _ _ _ _ e1 e2 (hso h3) (hso h4)
 ·rcases look h1 with e|⟨hne,e⟩
  ·cases e;cases h2
  ·have h0:=hI.out _ _ _ _ _ e (hso h2);refine⟨?_,h0.2⟩;show(if BG G g (.vec T es)=some b then w.heap[b]? else G.sl b)=none;rw[if_neg fun hb=>hne (hI.sep _ _ _ _ _ _ _ _ _ e hget (hso h2) hb)];exact h0.1
theorem CE.lockBox{l k g:Nat}{cs:List V}(hI:CE G s w)(hget:s.get l k=some (g,.box cs)) :
  ∃G',G.le G'/\CE G' (s.put l k g .dead) w/\∀b,BG G g (.box cs)=some b->G'.sl b=w.heap[b]?:=by
 let G':Gh:={ G with sl:=fun b=>if BG G g (.box cs)=some b then w.heap[b]? else G.sl b }
 have hle:G.le G':=⟨fun b x h=>by
  show(if BG G g (.box cs)=some b then w.heap[b]? else G.sl b)=some x;split
  ·rename_i e;rw[(hI.out _ _ _ _ _ hget e).1]at h;cases h
  ·exact h,fun _ _ h=>h,rfl,fun _ _ h=>h⟩
 have hso:∀{g r b},BG G' g r=some b->BG G g r=some b:=by intro g r b h;cases r<;>exact h
 have look:∀{l' k' x},(s.put l k g .dead).get l' k'=some x->x=(g,.dead)\/(¬(l'=l/\k'=k)/\s.get l' k'=some x):=fun {l' k' x} h=>by
  rw[St.get_put s hget]at h;split at h
  ·exact .inl (bp.inj h).symm
  ·rename_i e;exact .inr ⟨e,h⟩
 refine⟨G',hle,⟨fun b o h=>?_,fun l1 k1 g1 r1 h=>?_,fun l1 k1 g1 r1 l2 k2 g2 r2 b h1 h2 h3 h4=>?_,fun l1 k1 g1 r1 b h1 h2=>?_,hI.fresh,hI.env,hI.me.step hle rfl (fun _ _ _=>rfl) (fun l1 k1 g1 r1 b h1 h2=>by
  rcases look h1 with e|⟨_,e⟩
  ·cases e;cases h2
  ·exact .inl ⟨_,_,_,_,e,hso h2⟩) fun b d hb=>(if_neg fun e=>by rw[hI.me.ow _ _ _ _ _ hget e]at hb; cases hb).trans (hI.me.sl b d hb)⟩,fun b hb=>if_pos hb⟩
 ·have h':(if BG G g (.box cs)=some b then w.heap[b]? else G.sl b)=some o:=h;split at h'
  ·exact h'
  ·exact hI.sl _ _ h'
 ·rcases look h with e|⟨_,e⟩
  ·cases e;trivial
  ·exact(hI.res _ _ _ _ e).keep hle fun _ _=>rfl
 ·rcases look h1 with e|⟨_,e1⟩
  ·cases e;cases h3
  ·rcases look h2 with e|⟨_,e2⟩
   ·cases e;cases h4
   ·exact hI.sep _ _ _ _ _ _ _ _ _ e1 e2 (hso h3) (hso h4)
 ·rcases look h1 with e|⟨hne,e⟩
  ·cases e;cases h2
  ·have h0:=hI.out _ _ _ _ _ e (hso h2);refine⟨?_,h0.2⟩;show(if BG G g (.box cs)=some b then w.heap[b]? else G.sl b)=none;rw[if_neg fun hb=>hne (hI.sep _ _ _ _ _ _ _ _ _ e hget (hso h2) hb)];exact h0.1
theorem CE.leave{up:List AA}{lc:AA}{loc:AA}(hI:CE G ⟨up++[lc],loc⟩ w):∃G',G.le G'/\CE G' ⟨up,lc⟩ w/\TZ G' G ⟨up++[lc],loc⟩ w:=by
 classical
 let own:Nat->Prop:=fun b=>∃k g r,loc.get k=some (g,r)/\BG G g r=some b;let G':Gh:={ G with sl:=fun b=>if own b then w.heap[b]? else G.sl b };have hgl:∀k,(⟨up++[lc],loc⟩:St).get (up++[lc]).length k=loc.get k:=fun k=>by simp[St.get]
 have hgu:∀l k x,(⟨up,lc⟩:St).get l k=some x->l≠(up++[lc]).length/\(⟨up++[lc],loc⟩:St).get l k=some x:=by
  intro l k x hx;unfold St.get at hx;split at hx
  ·rename_i e;subst e;refine⟨by simp,?_⟩;simpa [St.get]using hx
  ·rename_i e;cases hu:up[l]? with
   |none=>simp[hu]at hx
   |some L=>
    have hlt:=(cj.1 hu).1
    refine⟨by simp;omega,?_⟩
    have:¬l=up.length+1:=by omega
    simp only[St.get,bz,bt,if_neg this]
    rw[ck hlt,hu]
    rw[hu]at hx
    exact hx
 have hnown:∀l k g r b,(⟨up,lc⟩:St).get l k=some (g,r)->BG G g r=some b->¬own b:=by rintro l k g r b h1 h2 ⟨k',g',r',h3,h4⟩;obtain⟨hne,h5⟩:=hgu _ _ _ h1;exact hne (hI.sep _ _ _ _ _ _ _ _ _ h5 ((hgl k').trans h3) h2 h4).1
 have hle:G.le G':=⟨fun b o h=>by
  show(if own b then _ else _)=some o;split
  ·rename_i hb;obtain⟨k,g,r,h1,h2⟩:=hb;have:=(hI.out _ _ _ _ _ ((hgl k).trans h1) h2).1;rw[this]at h;cases h
  ·exact h,fun _ _ h=>h,rfl,fun _ _ h=>h⟩
 have hso:∀{g r b},BG G' g r=some b->BG G g r=some b:=by intro g r b h;cases r<;>exact h
 refine⟨G',hle,⟨fun b o h=>?_,fun l k g r h=>(hI.res _ _ _ _ (hgu _ _ _ h).2).keep hle fun _ _=>rfl,fun l k g r l' k' g' r' b h1 h2 h3 h4=>hI.sep _ _ _ _ _ _ _ _ _ (hgu _ _ _ h1).2 (hgu _ _ _ h2).2 (hso h3) (hso h4),fun l k g r b h1 h2=>?_,hI.fresh,hI.env,hI.me.step hle rfl (fun _ _ _=>rfl) (fun l k g r b h1 h2=>.inl ⟨_,_,_,_,(hgu _ _ _ h1).2,hso h2⟩) fun b d hb=>(if_neg (by
  rintro ⟨k,g,r,h1,h2⟩;rw[hI.me.ow _ _ _ _ _ ((hgl k).trans h1) h2]at hb;cases hb)).trans (hI.me.sl b d hb)⟩,fun k g r b h1 h2=>if_pos ⟨k,g,r,h1,h2⟩⟩
 ·have h':(if own b then w.heap[b]? else G.sl b)=some o:=h;split at h'
  ·exact h'
  ·exact hI.sl _ _ h'
 ·have:=hI.out _ _ _ _ _ (hgu _ _ _ h1).2 (hso h2);refine⟨?_,this.2⟩;show(if own b then _ else _)=none;rw[if_neg (hnown _ _ _ _ _ h1 (hso h2))];exact this.1
theorem T2{up:List AA}{lc loc:AA}{l k:Nat}{x:Nat×A6}(hx:(⟨up,lc⟩:St).get l k=some x):l<=up.length/\(⟨up++[lc],loc⟩:St).get l k=some x:=by
 unfold St.get at hx;split at hx
 ·rename_i e;subst e;exact⟨cp _,by simpa [St.get]using hx⟩
 ·rename_i e;cases hu:up[l]? with
  |none=>simp[hu]at hx
  |some L=>
   have hlt:=(cj.1 hu).1
   refine⟨Nat.le_of_lt hlt,?_⟩
   have:¬l=up.length+1:=by omega
   simp only[St.get,bz,bt,if_neg this]
   rw[ck hlt,hu]
   rw[hu]at hx
   exact hx
theorem CE.shut{up:List AA}{lc:AA}{loc:AA}{s2:St}(hI:CE G ⟨up++[lc],loc⟩ w)(hS:zG ⟨up++[lc],loc⟩ ⟨up,lc⟩ s2):∃G',G.le G'/\CE G' s2 w/\TZ G' G ⟨up++[lc],loc⟩ w:=by
 obtain⟨G',hle,hI',hs⟩:=hI.leave;have look:∀{l k g r},s2.get l k=some (g,r)->∃r0,(⟨up,lc⟩:St).get l k=some (g,r0)/\HJ G' g w r/\BG G' g r=BG G' g r0:=by
  intro l k g r h;obtain⟨r0,h0,h1⟩:=hS.2 _ _ _ _ h;rcases h1 with rfl|rfl
  ·exact⟨r,h0,hI'.res _ _ _ _ h0,rfl⟩
  ·exact⟨r0,h0,gT hI hle hs (hI.res _ _ _ _ (T2 h0).2),Y4 _ _ _ _⟩
 refine⟨G',hle,⟨hI'.sl,fun l k g r h=>(by obtain⟨r0,_,h2,_⟩:=look h; exact h2),fun l k g r l' k' g' r' b h1 h2 h3 h4=>?_,fun l k g r b h1 h2=>?_,hI'.fresh,hI'.env,hI'.me.step (Gh.le_refl _) rfl (fun _ _ _=>rfl) (fun l k g r b h1 h2=>by
  obtain⟨r0,e,_,o⟩:=look h1;exact .inl ⟨_,_,_,_,e,o▸h2⟩) fun b d hb=>hI'.me.sl b d hb⟩,hs⟩
 ·rcases look h1 with⟨r1,e1,_,o1⟩;rcases look h2 with⟨r2,e2,_,o2⟩;exact hI'.sep _ _ _ _ _ _ _ _ _ e1 e2 (o1▸h3) (o2▸h4)
 ·rcases look h1 with⟨r1,e1,_,o1⟩;exact hI'.out _ _ _ _ _ e1 (o1▸h2)
theorem CE.hand{up:List AA}{lc:AA}{loc:AA}{k d g:Nat}{r:A6}(hI:CE G ⟨up++[lc],loc⟩ w)(hk:loc.get k=some (g,r)):CE G ((⟨up,lc⟩:St).put up.length d g r) w:=by
 have hown:(⟨up++[lc],loc⟩:St).get (up.length+1) k=some (g,r):=by simpa [St.get]using hk
 have look:∀{l' k' x},((⟨up,lc⟩:St).put up.length d g r).get l' k'=some x->(l'=up.length/\k'=d/\x=(g,r))\/(¬(l'=up.length/\k'=d)/\l'<=up.length/\(⟨up++[lc],loc⟩:St).get l' k'=some x):=by
  intro l' k' x h;rw[St.get_putLoc (⟨up,lc⟩:St) l' k']at h;split at h
  ·rename_i e;exact .inl ⟨e.1,e.2,(bp.inj h).symm⟩
  ·rename_i e;obtain⟨h1,h2⟩:=T2 (loc:=loc) h;exact .inr ⟨e,h1,h2⟩
 refine⟨hI.sl,fun l' k' g' r' h=>?_,fun l1 k1 g1 r1 l2 k2 g2 r2 b h1 h2 h3 h4=>?_,fun l1 k1 g1 r1 b h1 h2=>?_,hI.fresh,hI.env,hI.me.step (Gh.le_refl _) rfl (fun _ _ _=>rfl) (fun l1 k1 g1 r1 b h1 h2=>by
  rcases look h1 with⟨_,_,e⟩|⟨_,_,e⟩
  ·cases e;exact .inl ⟨_,_,_,_,hown,h2⟩
  ·exact .inl ⟨_,_,_,_,e,h2⟩) fun b d hb=>hI.me.sl b d hb⟩
 ·rcases look h with⟨_,_,e⟩|⟨_,_,e⟩
  ·cases e;exact hI.res _ _ _ _ hown
  ·exact hI.res _ _ _ _ e
 ·rcases look h1 with⟨a1,a2,e1⟩|⟨a1,a2,e1⟩<;>rcases look h2 with⟨b1,b2,e2⟩|⟨b1,b2,e2⟩
  ·exact⟨a1.trans b1.symm,a2.trans b2.symm⟩
  ·cases e1;have:=(hI.sep _ _ _ _ _ _ _ _ _ hown e2 h3 h4).1;omega
  ·cases e2;have:=(hI.sep _ _ _ _ _ _ _ _ _ e1 hown h3 h4).1;omega
  ·exact hI.sep _ _ _ _ _ _ _ _ _ e1 e2 h3 h4
 ·rcases look h1 with⟨_,_,e⟩|⟨_,_,e⟩
  ·cases e;exact hI.out _ _ _ _ _ hown h2
  ·exact hI.out _ _ _ _ _ e h2
end Go.Pg
namespace Go.Pg
variable {P:fk}{n N:Nat}{ρ:Option Nat}{G0 G:Gh}{fr:Fr}{s:St}{a:Act}{w:dr}
theorem I4.upd(h:I4 n N G0 G fr s a w){G':Gh}{s':St}{w':dr}(hle:G.le G')(hI:CE G' s' w')(hl:s'.up.length=s.up.length):I4 n N G0 G' fr s' a w' :=
 ⟨Gh.le_trans h.le hle,hI,h.fr.mono hle,h.size,hl.trans h.lvl,let⟨rs,h1,h2,h3⟩:=h.marks;⟨rs,h1,h2,fun r hr=>⟨(h3 r hr).1,hle.1 _ _ (h3 r hr).2⟩⟩⟩
theorem I4.put(h:I4 n N G0 G fr s a w){d:Nat}(hd:d<N){c:Bool}{v:V}{x:dp}(h1:c=true->RepV G v x)(h2:c=false->x=undef):I4 n N G0 G (fr.put d c v) s (a.put (some d) x) w :=
 ⟨h.le,h.inv,h.fr.put (by rw[h.size];exact hd) h1 h2,by simp[Act.put,h.size],h.lvl,h.marks⟩
theorem I4.putD(h:I4 n N G0 G fr s a w){d:Option Tmp}(hd:∀t,d=some t->t<N){c:Bool}{v:V}{x:dp}(h1:c=true->RepV G v x)(h2:c=false->x=undef):I4 n N G0 G (putD fr d c v) s (a.put d x) w:=by
 cases d with
 |none=>exact h
 |some t=>exact h.put (hd t rfl) h1 h2
def JI(P:fk)(n N:Nat)(ρ:Option Nat)(G0 G:Gh)(g:Bool)(o:dt)(a:Act)(w:dr)(k:Fr->St->Prop):Prop :=
 (g=true->∀(next:Act->dr->Prop) (Q:Exit->Act->dr->Prop),(∀G' a' w' fr' s',I4 n N G0 G' fr' s' a' w'->k fr' s'->next a' w')->o.wpIn (wf ρ) 0 P a w next Q) /\
 (g=false->∃fr' s',I4 n N G0 G fr' s' (a.put o.dst undef) w/\k fr' s')
theorem MV{o:dt}{u:dp}{w':dr}{next:Act->dr->Prop}{Q:Exit->Act->dr->Prop}(hd:∀c,o.op≠.defer c)(hrun:(execOp a.eval o).run P w=.ok (.value u) w')(h:next (a.put o.dst u) w'):o.wpIn (wf ρ) 0 P a w next Q:=by refine⟨fun _ _=>trivial,?_⟩;rw[Oper.semAt_eq _ _ _ hd,hrun];exact h
theorem MW{o:dt}{w':dr}{next:Act->dr->Prop}{Q:Exit->Act->dr->Prop}(hd:∀c,o.op≠.defer c)(hrun:(execOp a.eval o).run P w=.ok .skip w')(h:next (a.put o.dst undef) w'):o.wpIn (wf ρ) 0 P a w next Q:=by refine⟨fun _ _=>trivial,?_⟩;rw[Oper.semAt_eq _ _ _ hd,hrun];exact h
theorem JI.value{g:Bool}{o:dt}{k:Fr->St->Prop}{v:V}(hR:I4 n N G0 G fr s a w)(hdst:∀t,o.dst=some t->t<N)(hd:∀c,o.op≠.defer c)(hk:k (putD fr o.dst g v) s)
  (hrun:g=true->∃u w' G',(execOp a.eval o).run P w=.ok (.value u) w'/\G.le G'/\CE G' s w'/\RepV G' v u):JI P n N ρ G0 G g o a w k:=by
 refine⟨fun hg next Q hn=>?_,fun hg=>⟨_,s,hR.putD hdst (fun h=>by rw[hg]at h;cases h) (fun _=>rfl),hk⟩⟩
 obtain⟨u,w',G',h1,h2,h3,h4⟩:=hrun hg
 exact MV hd h1 (hn G' _ w' _ s ((hR.upd h2 h3 rfl).putD hdst (fun _=>h4) (fun h=>by rw[hg]at h;cases h)) hk)
theorem JI.sure{o:dt}{k:Fr->St->Prop}{v:V}{d:Nat}{s':St}(hR:I4 n N G0 G fr s a w)(hdst:∀t,o.dst=some t->t<N)(hd:∀c,o.op≠.defer c)(ho:o.dst=some d)(hl:s'.up.length=s.up.length)
  (hk:k (fr.put d true v) s') {u:dp} {w':dr} {G':Gh} (h1:(execOp a.eval o).run P w=.ok (.value u) w') (h2:G.le G') (h3:CE G' s' w') (h4:RepV G' v u):JI P n N ρ G0 G true o a w k:=by
 refine⟨fun _ next Q hn=>?_,fun hg=>by cases hg⟩
 refine MV hd h1 (hn G' _ w' _ s' ?_ hk)
 rw[ho]
 exact(hR.upd h2 h3 hl).put (hdst d ho) (fun _=>h4) (fun h=>by cases h)
theorem dR{ρ:fw->dp}{r:fw->Option V}(hr:∀x v,r x=some v->RepV G v (ρ x)){xs:Array fw}{vs:List V}(h:xs.toList.mapM r=some vs):RepA G vs (xs.map ρ).toList:=by have:=SD hr h;simpa using this
theorem sB{g:Bool}{o:dt}{c:Call}{f:fw}{k:Fr->St->Prop}{fid:FuncId}{first cap vs:List V}(ho:o.op=.call c)(hc:c.callee=.value f)(hR:I4 n N G0 G fr s a w)(hdst:∀t,o.dst=some t->t<N)
  (hf:DU g fr f=some (.fn fid first cap)) (hvs:c.args.toList.mapM (DU g fr)=some vs) (hk:AOM P g fid ((first++vs++cap).map weakV) s fun r s'=>k (putD fr o.dst g r) s'):JI P n N ρ G0 G g o a w k:=by
 have call:∀{K:V->St->Prop},g=true->EA P fid ((first++vs++cap).map weakV) s K->(∀r s',K r s'->k (putD fr o.dst true r) s') ->
   ∀(next:Act->dr->Prop) (Q:Exit->Act->dr->Prop),(∀G' a' w' fr' s',I4 n N G0 G' fr' s' a' w'->k fr' s'->next a' w')->o.wpIn (wf ρ) 0 P a w next Q:=by
  intro K hg hA hK next Q hn
  subst hg
  have hfr:∀x v,DU true fr x=some v->RepV G v (a.eval x):=fun x v h=>R9 hR.fr h
  have hfv:=hfr _ _ hf
  have hav:=dR hfr hvs
  generalize he:a.eval f=fv at hfv
  cases hfv with
  |fn _ _ _ a1 a2 l1 l2 hx hy=>
   have hres:(execOp a.eval o).run P w=.ok (.enter fid (a1++c.args.map a.eval++a2)) w:=by simp only[execOp,ho,resolve,hc,he,Deferred.ofValue,Sem.run_bind,Sem.run_pure,Result.andThen_ok,invoke];exact hA.1 _ _
   have hargs:RepA G ((first++vs++cap).map weakV) (a1++c.args.map a.eval++a2).toList:=by refine RepA.weak ?_;have q1:RepA G first a1.toList:=⟨by simpa using l1,fun i p q=>by simpa using hx i p (by simpa using q)⟩;have q2:RepA G cap a2.toList:=⟨by simpa using l2,fun i p q=>by simpa using hy i p (by simpa using q)⟩;have:=(q1.append hav).append q2;simpa using this
   refine⟨fun _ _=>trivial,?_⟩
   rw[Oper.semAt_eq _ _ _ (by rw[ho];intro c h;cases h),hres]
   refine⟨fun h=>absurd h (by simp[wf,Fence.wide]),?_⟩
   refine hA.2 G _ w _ hR.inv hargs fun G' r v w' s' h1 h2 h3 h4 h5=>?_
   exact hn G' _ w' _ s' ((hR.upd h1 h2 h4).putD hdst (fun _=>h3) (fun h=>by cases h)) (hK r s' h5)
 rcases hk with⟨hg,hA⟩|⟨r,hA,hk⟩
 ·subst hg;exact⟨fun _=>call rfl hA fun _ _ h=>h,fun h=>by cases h⟩
 ·refine⟨fun hg=>?_,fun hg=>⟨_,s,hR.putD hdst (fun h=>by rw[hg]at h;cases h) (fun _=>rfl),hk⟩⟩;subst hg;exact call rfl (hA rfl) fun r' s' ⟨e1,e2⟩=>by subst e1;subst e2;exact hk
theorem mB{x:V}{v:dp}(h:V6 x=true)(hv:RepV G x v):RepV G (.list true []) v:=by
 unfold V6 at h;split at h
 ·cases hv;exact RepV.list true [] none 0 0 0 0 #[] 0 (0,0) (fun _ _=>undef) (cp _) (fun _=>rfl) (fun h=>absurd rfl h) (fun i h=>absurd h (by simp)) (fun i h=>absurd h (by simp)) (fun i h=>absurd h (by simp))
 ·exact hv
 ·cases h
theorem AE3{x:V}{v:dp}{es ys:List (List V)}(h:JH x ys=some es)(hv:RepV G x v):RepV G (.list true es) v/\(es=[]\/ys≠[]):=by
 unfold JH at h;split at h
 ·cases h;exact⟨mB (x:=.nil) rfl hv,.inl rfl⟩
 ·cases h;exact⟨hv,.inl rfl⟩
 ·cases h;exact⟨hv,.inr (by simp)⟩
 ·cases h
theorem CE.upd(hI:CE G s w){T:fq}{m i v:V}{mv iv vv:dp}{l q γ:Nat}{es:List (V×V)}(h:I5 P s T m i v=some (l,q,γ,es))(hm:RepV G m mv)(hi:RepV G i iv)(hv:RepV G v vv) :
  ∃w',(Instr.mapUpdate T mv iv vv).run P w=.ok () w'/\CE G (s.put l q γ (.map es)) w':=by
 unfold I5 at h
 split at h
 ·rename_i K E l' q' g hmt;have hu:P.underlying T=some (.map K E):=by
   unfold rX at hmt;split at hmt
   ·rename_i e;cases hmt;exact e
   ·cases hmt
  split at h
  ·rename_i g' es0 hget;split at h
   ·rename_i hc;obtain⟨rfl,hT⟩:=hc;split at h
    ·rename_i ks hks;obtain⟨b,arr,clock,hb,hh,hlen,hr⟩:=hI.res _ _ _ _ hget;have hlt:b<w.heap.size:=(bq.1 hh).1;have fin:∀(arr':Array MapEntry) (c':Nat) (es':List (V×V)),es'.length=arr'.size->(∀j (h1:j<es'.length) (h2:j<arr'.size),RepV G es'[j].1 arr'[j].key/\RepV G es'[j].2 arr'[j].val) ->
       CE G (s.put l' q' g' (.map es')) (w.putObj b (.map arr' c')):=fun arr' c' es' h1 h2=>
      hI.turn hget (by simp[BG,hb]) (by simp[BG,hb]) (fun b' h=>World.putObj_heap_other h) World.putObj_size ⟨rfl,rfl⟩ ⟨b,arr',c',hb,World.putObj_heap_same hlt,h1,h2⟩ (YS hlt)
     have hset:∀o,(setObj b o).run P w=.ok () (w.putObj b o):=fun o=>by simp[setObj,Sem.run,hh,World.putObj]
     cases hm with
     |mp _ _ _ b' sz C hb'=>
      rw[hb]at hb'
      simp only[bp.injEq,dh.injEq]at hb'
      obtain⟨rfl,rfl,rfl⟩:=hb'
      split at h
      ·rename_i hf;obtain⟨c1,_,c3,_⟩:=SC (P:=P) (w:=w) hT hks hi hlen (fun j p1 p2=>(hr j p1 p2).1) hf;cases h;refine⟨_,by simp[Instr.mapUpdate,run_underlying hu,EW hh,c1,c3 rfl,hset];rfl,fin _ _ _ (by simp[hlen]) fun j p1 p2=>?_⟩;by_cases hj:j<es0.length
       ·rw[List.getElem_append_left hj];have hj':j<arr.size:=by omega
        rw[Array.getElem_push_lt hj'];exact hr j hj hj'
       ·have:j=es0.length:=by simp at p1;omega
        subst this;simp only[List.getElem_append_right (cp _),Nat.sub_self,dk];have e2:es0.length=arr.size:=hlen;simp only[e2,Array.getElem_push_eq];exact⟨hi,hv⟩
      ·rename_i i0 hf;obtain⟨c1,c2,_,c4⟩:=SC (P:=P) (w:=w) hT hks hi hlen (fun j p1 p2=>(hr j p1 p2).1) hf;cases h;obtain⟨e',he',hek,hrun⟩:=c4 i0 rfl;obtain⟨hi2,rfl⟩:=bq.1 he';refine⟨_,by simp[Instr.mapUpdate,run_underlying hu,EW hh,c1,hrun,hi2,hek,c2,hset];rfl,fin _ _ _ (by simp[hlen]) fun j p1 p2=>?_⟩;by_cases hj:i0=j
       ·subst hj;simp only[List.getElem_set_self,Array.getElem_modify_self];exact⟨hi,hv⟩
       ·rw[List.getElem_set_ne hj,Array.getElem_modify_of_ne hj];exact hr j (by simpa using p1) (by simpa using p2)
      ·cases h
    ·cases h
   ·cases h
  ·cases h
 ·cases h
theorem SI{es:List (List V)}{sz:Nat}(h:∀e∈es,e.length=sz){i:Nat}(hi:i<=es.length):(es.take i).flatten=es.flatten.take (i*sz)/\(es.drop i).flatten=es.flatten.drop (i*sz):=by
 have e:es.flatten=(es.take i).flatten++(es.drop i).flatten:=by rw[<-cr,cg]
 have hl:(es.take i).flatten.length=i*sz:=by rw[YY fun x hx=>h x (db hx),dq,Nat.min_eq_left hi]
 constructor
 ·rw[e,List.take_left' hl]
 ·rw[e,List.drop_left' hl]
theorem mC{es:List (List V)}{sz:Nat}{i n:Nat}{zs:List (List V)}(h:∀e∈es,e.length=sz)(hi:i<=es.length)(hn:i+n<=es.length):(es.take i++zs++es.drop (i+n)).flatten=es.flatten.take (i*sz)++zs.flatten++es.flatten.drop (i*sz+n*sz):=by rw[cr,cr,(SI h hi).1,(SI h hn).2,df]
theorem mD{α:Type}{L us:List α}{n m:Nat}(hn:n<=L.length)(hm:m+us.length<=n):(L.take n).take m++us++(L.take n).drop (m+us.length)=(L.take m++us++L.drop (m+us.length)).take n:=by rw[List.take_take,Nat.min_eq_left (by omega),List.take_append,List.take_of_length_le (l:=L.take m++us) (by simp;omega),List.drop_take];congr 2;simp;omega
theorem CE.clear(hI:CE G s w){T e ty:fq}{l q γ i n:Nat}{es:List (List V)}{z:List V}{xv:dp}(hel:BR P T=some (none,e))(hget:s.get l q=some (γ,.vec e es))(hz:B8 P e=some z)(hx:RepV G (.vtl l q γ i n) xv)(hle:i+n<=es.length)
  (hall:es.all (fun y=>y.length==z.length)=true):∃w' u,(Builtin.clear_ #[T] ty #[xv]).run P w=.ok u w'/\CE G (s.put l q γ (.vec e (es.take i++cm n z++es.drop (i+n)))) w':=by
 have hu:=CH hel
 obtain⟨zv,hzr,hzl,_⟩:=J4 (G:=G) (w:=w) hz
 have hes:∀e'∈es,e'.length=z.length:=fun e' he'=>by simpa using dv.1 hall e' he'
 cases hx with
 |vtl _ _ _ _ _ b sz C cap a hb hlen ha=>
  by_cases hn:n=0
  ·subst hn;refine⟨w,.tuple #[],?_,hI.congr' fun l' k' x hx=>?_⟩
   ·cases a<;>simp[Builtin.clear_,run_underlying hu]
   ·rw[St.get_put s hget]at hx;split at hx
    ·rename_i e0;obtain⟨rfl,rfl⟩:=e0;simp only[List.replicate_zero,List.append_nil,dx,cg]at hx;rw[hget];exact hx
    ·exact hx
  ·have ha:=ha hn;subst ha;obtain⟨b',sz',C',hb',hC,hl,hmax,hrow⟩:=hI.res _ _ _ _ hget;rw[hb]at hb';simp only[bp.injEq,dh.injEq]at hb';obtain⟨rfl,rfl,rfl⟩:=hb';obtain⟨arr,hh,hsz,hL⟩:=hrow (by omega);have h0:0<es.length:=by omega
   have hszz:sz=z.length:=by rw[<-hl _ (bn h0)];exact hes _ (bn h0)
   have hzc:zv.cells.toList.length=z.length:=hzl.1.symm;have hzs:(Builtin.zeroCells zv.cells n).toList=(cm n zv.cells.toList).flatten:=by rw[KA];simp[Builtin.zeroCells];intro a _;rw[getElem!_def];cases zv.cells[a % zv.cells.size]?<;>rfl
   have hZ:RepL G (cm n z).flatten (Builtin.zeroCells zv.cells n).toList:=by rw[hzs];exact rep_repl hzl n
   have hZl:(Builtin.zeroCells zv.cells n).toList.length=n*sz:=by rw[bc,MS,<-bc,hzc,hszz]
   have hcap:es.length*sz<=arr.size:=by rw[hsz];exact br _ hC
   have hin:(i+n)*sz<=es.length*sz:=br _ hle;rw[df]at hin;have hst:=run_storeCells_at P b (i*sz) e (Builtin.zeroCells zv.cells n).toList 0 arr w hh (by rw[hZl];omega) hZ.one;simp only[dx]at hst;clear hzs;generalize hZZ:(Builtin.zeroCells zv.cells n).toList=Z at hst hZ hZl;obtain⟨m,rfl⟩:∃m,n=m+1:=⟨n-1,by omega⟩;have hown:BG G γ (.vec e es)=some b:=by simp[BG,hb];omega
   have hlen2:(es.take i++cm (m+1) z++es.drop (i+(m+1))).length=es.length:=by simp;omega
   refine⟨_,.tuple #[],by simp[Builtin.clear_,run_underlying hu,hzr,hZZ,hst];rfl,hI.write hget hown (by simp[BG,hb];omega) _ ⟨b,sz,C,hb,by rw[hlen2];exact hC,fun e' he'=>?_,⟨hmax.1,fun h=>?_⟩,fun _=>⟨_,setRow_heap w b arr _ e _ hh,?_,?_⟩⟩ ⟨_,_,hh⟩⟩
   ·rcases List.mem_append.1 he' with he'|he'
    ·rcases List.mem_append.1 he' with he'|he'
     ·exact hl _ (db he')
     ·rw[List.eq_of_mem_replicate he',hszz]
    ·exact hl _ (List.mem_of_mem_drop he')
   ·rw[h]at hlen2;simp at hlen2;omega
   ·rw[List.size_toArray,bz,bz,dq,cx,bc,hZl];omega
   ·rw[hlen2,mC hl (by omega) hle];have hA:=IF hL hZ (i*sz);have hzz:(cm (m+1) z).flatten.length=(m+1)*sz:=by rw[hZ.1,hZl]
    unfold A8 at hA;rw[mD (by rw[bc];exact hcap) (by rw[hZl];omega),hzz]at hA;simpa using hA
theorem mE:∀{ys:List (List V)},(∀e∈ys,e.length=1)->∀n,(ys.take n).flatten=ys.flatten.take n
 |[],_,n=>by simp
 |z::zs,h,0=>by simp
 |z::zs,h,n+1=>by
  have hz:=h z (by simp);match z,hz with
  |[v],_=>
   have ih:=mE (ys:=zs) (fun e he=>h e (List.mem_cons_of_mem _ he)) n
   simp[ih]
theorem CE.copy(hI:CE G s w){T U e ty:fq}{l q γ i n:Nat}{cs:List V}{ys:List (List V)}{y:V}{xv yv:dp}(hel:BR P T=some (none,e))(h1:P.cellsOf e=1)(hget:s.get l q=some (γ,.box cs))(hx:RepV G (.vtl l q γ i n) xv)(hy:RepV G y yv)(hys:elemsOf s y=some ys)
  (hall:ys.all (fun y=>y.length==1)=true) (hle:i+n<=cs.length):∃w',(Builtin.copy_ #[T,U] ty #[xv,yv]).run P w=.ok (.int .i64 ((min ys.length n:Nat):Int)) w'/\CE G (s.put l q γ (.box (A8 cs i (ys.take n).flatten))) w':=by
 have hu:=CH hel
 have hs1:(P.info? e).map (·.size)=some 1:=by
  unfold Program.cellsOf at h1;cases hq:P.info? e with
  |none=>simp[hq]at h1
  |some i=>simpa [hq]using h1
 have hall':∀e∈ys,e.length=1:=fun e he=>by simpa using dv.1 hall e he
 obtain⟨a,cap,vs,rfl,hV,hvl,hc⟩:=OA hI hy hys hall'
 obtain⟨b,arr,T',hb,hh,hr⟩:=hI.res _ _ _ _ hget
 have hown:BG G γ (.box cs)=some b:=by simp[BG,hb]
 cases hx with
 |vtl _ _ _ _ _ b' sz C cap' a' hb' hlen ha=>
  rw[hb]at hb'
  simp only[bp.injEq,dh.injEq]at hb'
  obtain⟨rfl,rfl,rfl⟩:=hb'
  have hfl:=mE hall' n
  have hfl2:ys.flatten.length=ys.length:=by rw[hV.1,hvl];simp
  by_cases hm:min ys.length n=0
  ·refine⟨w,?_,hI.congr' fun l' k' x hx=>?_⟩
   ·rw[run_copy_none (P:=P) w T U ty e a' a n cap' ys.length cap hu hs1 (by rw[Nat.min_def]at hm;simpa [Nat.min_def]using hm),hm];rfl
   ·rw[St.get_put s hget]at hx;split at hx
    ·rename_i e0;obtain⟨rfl,rfl⟩:=e0;have:(ys.take n).flatten=[]:=by
      rcases Nat.min_eq_zero_iff.1 hm with h|h
      ·rw[bg h];simp
      ·subst h;simp
     rw[this]at hx;simp only[A8,List.append_nil,List.length_nil,dx,cg]at hx;rw[hget];exact hx
    ·exact hx
  ·have hn0:n≠0:=by intro h;subst h;simp at hm
   have hy0:ys≠[]:=by intro h;subst h;simp at hm
   have ha:=ha hn0;subst ha;obtain⟨ad,rfl,hcell⟩:=hc hy0;have hcl:(vs.take n).length=min ys.length n:=by rw[dq,hvl,Nat.mul_one,Nat.min_comm]
   have hL:RepL G (ys.take n).flatten (vs.take n):=by rw[hfl];exact hV.take n
   have hsz:cs.length=arr.size:=by simpa using hr.1
   have hrun:=run_copy_row (P:=P) w T U ty e b (i*1) n cap' ad ys.length cap arr T' (vs.take n) hu hs1 hh hcl (fun j v hj=>hcell j v (by
    rw[List.getElem?_take]at hj;split at hj
    ·exact hj
    ·cases hj)) (by rw[hcl]; omega) hL.one
   refine⟨_,by rw[hrun,hcl];rfl,hI.write hget hown (by simp[BG,hb]) _ ⟨b,_,T',?_,setRow_heap w b arr _ T' _ hh,?_⟩ ⟨_,_,hh⟩⟩
   ·rw[hb,GC (by rw[hL.1,hcl];omega)]
   ·have:=IF hr hL i;unfold A8 at this|-;rw[List.toList_toArray,Nat.mul_one,<-hcl];exact this
theorem dS:∀{ps:List Tmp} {vs:List V} {us:List dp} {fr:Fr} {tmps:Array dp},vs.length=ps.length->HI G fr tmps->RepA G vs us->ps.all (fun p=>Nat.blt p tmps.size)=true ->
  HI G (HM fr ps vs) ((ps.zip us).foldl (fun tmps (p:Nat×dp)=>tmps.setIfInBounds p.1 p.2) tmps)
 |[],[],us,fr,tmps,_,hF,_,_=>by simpa [HM]using hF
 |[],_::_,us,fr,tmps,h,_,_,_=>by simp at h
 |_::_,[],us,fr,tmps,h,_,_,_=>by simp at h
 |p::ps,v::vs,[],fr,tmps,_,_,hA,_=>absurd hA.1 (by simp)
 |p::ps,v::vs,u::us,fr,tmps,hl,hF,hA,hp=>by simp only[List.all_cons,dw,Nat.blt_eq]at hp;have h0:=hA.2 0 (by simp) (by simp);simp only[HM,List.zip_cons_cons,List.foldl_cons];refine dS (by simpa using hl) ?_ ⟨by simpa using hA.1,fun i a b=>hA.2 (i+1) (by simpa using a) (by simpa using b)⟩ (by simpa using hp.2);exact HI.put (a:={ tmps:=tmps,defers:=[] }) hF hp.1 (fun _=>h0) (fun h=>by cases h)
theorem OC:∀(l:List (Nat×dp)) (tmps:Array dp),(l.foldl (fun tmps (p:Nat×dp)=>tmps.setIfInBounds p.1 p.2) tmps).size=tmps.size
 |[],_=>rfl
 |x::l,tmps=>by simp[OC l]
theorem CE.push(hI:CE G s w):CE G ⟨s.up++[s.loc],[]⟩ w:=by
 refine hI.congr' fun l k x hx=>?_;unfold St.get at hx|-;split at hx
 ·simp at hx
 ·rename_i e;simp only[bz,bt]at e;by_cases hl:l=s.up.length
  ·subst hl;simp at hx|-;exact hx
  ·rw[if_neg hl];cases hu:(s.up++[s.loc])[l]? with
   |none=>rw[hu]at hx;cases hx
   |some L=>
    have hlt:=(cj.1 hu).1
    simp only[bz,bt]at hlt
    rw[ck (by omega)]at hx
    exact hx
theorem sC{o:dt}{c:Call}{f:fw}{l q γ N0:Nat}{fr0:Fr}{ps:List Tmp}{asg body:fj}{vs:List V}{k:Fr->St->Prop}{next:Act->dr->Prop}{Q:Exit->Act->dr->Prop}(ho:o.op=.call c)(hc:c.callee=.value f)(hR:I4 n N G0 G fr s a w)(hdst:∀t,o.dst=some t->t<N)
  (hf:RepV G (.yld l q γ) (a.eval f)) (hv:RepA G vs (c.args.map a.eval).toList) (hget:s.get l q=some (γ,.loop fr0 ps asg body N0 .ready)) (h:YU P l q γ fr0 ps asg body N0 vs s fun r s'=>k (putD fr o.dst true r) s')
  (hn:∀G' a' w' fr' s',I4 n N G0 G' fr' s' a' w'->k fr' s'->next a' w'):o.wpIn (wf ρ) 0 P a w next Q:=by
 obtain⟨hlen,hps,hcode⟩:=h
 generalize he:a.eval f=fv at hf
 cases hf with
 |yld _ _ _ b sz C hb=>
  obtain⟨b',r,hb',hh,hF,hN,hpr,hasg,hbody,hst⟩:=hR.inv.res _ _ _ _ hget
  rw[hb]at hb'
  simp only[bp.injEq,dh.injEq]at hb'
  obtain⟨rfl,rfl,rfl⟩:=hb'
  refine⟨fun _ _=>trivial,?_⟩
  rw[Oper.semAt_eq _ _ _ (by rw[ho];intro c h;cases h)]
  have hargs:(c.args.map a.eval).size=r.params.size:=by
   have h1:=hv.1;simp only[bc]at h1;have h2:r.params.toList.length=ps.length:=by rw[hpr]
   simp only[bc]at h2;omega
  have hres:(execOp a.eval o).run P w=(Instr.yield b (c.args.map a.eval)).run P w:=by simp[execOp,ho,resolve,hc,he,Deferred.ofValue,invoke]
  rw[hres,run_yield hh hargs]
  refine⟨fun h=>absurd h (by simp[wf,Fence.wide]),roundIn_of_wpIn trivial ?_⟩
  have hfold:(r.params.zip (c.args.map a.eval)).foldl (fun tmps (x:Nat×dp)=>tmps.setIfInBounds x.1 x.2) r.tmps=(ps.zip (c.args.map a.eval).toList).foldl (fun tmps (x:Nat×dp)=>tmps.setIfInBounds x.1 x.2) r.tmps:=by rw[<-Array.foldl_toList,Array.toList_zip,hpr]
  rw[hfold]
  have hRel:I4 (s.up.length+1) N0 G G (HM fr0 ps vs) ⟨s.up++[s.loc],[]⟩ { tmps:=(ps.zip (c.args.map a.eval).toList).foldl (fun tmps (x:Nat×dp)=>tmps.setIfInBounds x.1 x.2) r.tmps,defers:=[] } w :=
   ⟨Gh.le_refl G,hR.inv.push,dS hlen hF hv (by rw[hN];exact hps),by rw[OC];exact hN,by simp,[],rfl,by simp,by simp⟩
  have h1:=hcode (some b) G G _ w hRel
  have hwf:(wf ρ).inRound b=wf (some b):=rfl
  rw[hwf]
  rw[hasg]
  refine wpIn_mono h1 fun e a1 w1 hq=>?_
  obtain⟨G1,fr1,s1,hR1,rfl,fr0',ps',asg',body',N',hget1,hcode2⟩:=hq
  obtain⟨b1,r1,hb1,hh1,hF1,hN1,hpr1,hasg1,hbody1,hst1⟩:=hR1.inv.res _ _ _ _ hget1
  have hb1':=hR1.le.2 _ _ hb
  rw[hb1']at hb1
  simp only[bp.injEq,dh.injEq,and_true]at hb1
  obtain rfl:=hb1
  have hlt1:b<w1.heap.size:=(bq.1 hh1).1
  refine⟨_,run_beginRound hh1 hst1.1,?_⟩
  rw[hbody]
  have hI2:CE G1 (s1.put l q γ (.loop fr0' ps' asg' body' N' .busy)) (w1.putObj b (.loop { r1 with state:=.busy })) :=
   hR1.inv.turn hget1 (by simp[BG,hb1']) (by simp[BG,hb1']) (fun b' h=>World.putObj_heap_other h) World.putObj_size ⟨rfl,rfl⟩ ⟨b,{ r1 with state:=.busy },hb1',World.putObj_heap_same hlt1,hF1,hN1,hpr1,hasg1,hbody1,rfl,hst1.2⟩ (YS hlt1)
  have hRel2:I4 (s.up.length+1) N0 G G1 fr1 (s1.put l q γ (.loop fr0' ps' asg' body' N' .busy)) a1 (w1.putObj b (.loop { r1 with state:=.busy })) :=
   ⟨hR1.le,hI2,hR1.fr,hR1.size,(St.put_len _ _ _ _ _).trans hR1.lvl,hR1.marks⟩
  refine wpIn_mono (hcode2 G G1 _ _ hRel2) fun e a2 w2 hq=>?_
  obtain⟨G2,fr2,s2,hR2,up,lc,s3,frZ,psZ,asgZ,bodyZ,NZ,hup,hul,hll,hgetB,hS,⟨rB,hgetS⟩,hk⟩:=hq
  obtain⟨up2,loc2⟩:=s2
  simp only at hup
  subst hup
  obtain⟨G3,hle3,hI3,hs3⟩:=hR2.inv.shut hS
  obtain⟨b2,r2,hb2,hh2,hF2,hN2,hpr2,hasg2,hbody2,hst2⟩:=hR2.inv.res _ _ _ _ hgetB
  have hb2':=hR2.le.2 _ _ hb
  rw[hb2']at hb2
  simp only[bp.injEq,dh.injEq,and_true]at hb2
  obtain rfl:=hb2
  have hb3:=hle3.2 _ _ hb2'
  have hlt2:b<w2.heap.size:=(bq.1 hh2).1
  have hoB:BG G3 γ rB=some b:=by
   obtain⟨r0,h0,h1⟩:=hS.2 _ _ _ _ hgetS;have h2:=(T2 (loc:=loc2) h0).2;rw[hgetB]at h2;cases h2;rcases h1 with rfl|rfl
   ·simp[BG,hb3]
   ·rw[Y4];simp[BG,hb3]
  have fin:∀(jump:Option fj) (st:LS),(∀r:Loop,st.is { r with state:=if jump.isNone then .ready else .done,pending:=jump })->k (putD fr o.dst true (.bool jump.isNone)) (s3.put l q γ (.loop frZ psZ asgZ bodyZ NZ st)) ->
    ∃v w',(Instr.endRound b jump).run P w2=.ok v w'/\next (a.put o.dst v) w':=by
   intro jump st hst' hk
   refine⟨_,_,run_endRound jump hh2,?_⟩
   have hI4:CE G3 (s3.put l q γ (.loop frZ psZ asgZ bodyZ NZ st)) (w2.putObj b (.loop { r2 with state:=if jump.isNone then .ready else .done,pending:=jump })) :=
    hI3.turn hgetS hoB (by simp[BG,hb3]) (fun b' h=>World.putObj_heap_other h) World.putObj_size ⟨rfl,rfl⟩ ⟨b,_,hb3,World.putObj_heap_same hlt2,hF2.mono hle3,hN2,hpr2,hasg2,hbody2,hst' r2⟩ (YS hlt2)
   have hl3:(s3.put l q γ (.loop frZ psZ asgZ bodyZ NZ st)).up.length=s.up.length:=by rw[St.put_len,hS.1];simp only;omega
   have hG:G.le G3:=Gh.le_trans hR2.le hle3
   exact hn G3 _ _ _ _ ((hR.upd hG hI4 hl3).putD hdst (fun _=>.bool _) (fun h=>by cases h)) hk
  cases e with
  |normal=>exact fin none .ready (fun r=>⟨rfl,rfl⟩) hk
  |ret=>exact fin (some .ret) (.left .ret) (fun r=>⟨rfl,rfl⟩) hk
  |exit id=>exact fin (some (.exit id)) (.left (.exit id)) (fun r=>⟨rfl,rfl⟩) hk
  |goto t=>exact hk.elim
  |panic ch=>exact hk.elim
  |outgrown=>exact hk.elim
theorem mF{T ty:fq}{x y v:V}{xv yv:dp}(hI:CE G s w)(h:N9 P T x y=some v)(hx:RepV G x xv)(hy:RepV G y yv) :
  ∃u w' G',(Builtin.append_ #[T,T] ty #[xv,yv]).run P w=.ok u w'/\G.le G'/\CE G' s w'/\RepV G' v u:=by
 unfold N9 at h
 split at h
 ·rename_i e ys hel hys;split at h
  ·rename_i hc;obtain⟨hz,hall,h63,hby⟩:=hc;cases h;have hel2:elemsOf s y=some ys:=by
    cases y with
    |list b es=>exact hys
    |nil=>exact hys
    |_=>cases hys
   obtain⟨d,hd⟩:∃d,s.loc.get d=none:=(AA.free s.loc).imp fun d h=>h d (cp d);obtain⟨u,w',γ,G',h1,h2,h3,h4,_⟩:=Y2 (ty:=ty) (d:=d) hI hel hx hy hel2 hz hall h63 hby;have hget:(s.put s.up.length d γ (.vec e ys)).get s.up.length d=some (γ,.vec e ys):=by rw[St.get_putLoc,if_pos ⟨rfl,rfl⟩]
   obtain⟨G2,hle2,hI2,hs2⟩:=h3.lockRow hget;refine⟨u,w',G2,h1,Gh.le_trans h2 hle2,hI2.congr' fun l k z hz=>?_,?_⟩
   ·have hne:¬(l=s.up.length/\k=d):=by rintro ⟨rfl,rfl⟩;unfold St.get at hz;rw[if_pos rfl,hd]at hz;cases hz
    have hlen:(s.put s.up.length d γ (.vec e ys)).up.length=s.up.length:=St.put_len _ _ _ _ _;rw[St.get_put _ hget,if_neg hne,St.get_putLoc,if_neg hne];exact hz
   ·have:=LO h3 hle2 hget (cp _) hs2 h4;rwa [List.take_length]at this
  ·cases h
 ·cases h
theorem Y5{g:Bool}{o:dt}{k:Fr->St->Prop}(hR:I4 n N G0 G fr s a w)(hdst:∀t,o.dst=some t->t<N)(h:EF P g o fr s k):JI P n N ρ G0 G g o a w k:=by
 have hrd:g=true->∀x v,DU g fr x=some v->RepV G v (a.eval x):=fun hg x v hx=>R9 hR.fr (by rw[hg]at hx;exact hx);have hpl:∀g r l' k' d,(s.put s.up.length d g r).get l' k'=if l'=s.up.length/\k'=d then some (g,r) else s.get l' k':=fun g r l' k' d=>St.get_putLoc s l' k'
 unfold EF at h;split at h
 ·rename_i T ho;split at h
  ·rename_i d cs hd hz;obtain⟨rfl,hk⟩:=h;obtain⟨z,hz1,hz2,_⟩:=J4 (G:=G) (w:=w) hz;obtain⟨γ,G',h1,h2,h3,_⟩:=hR.inv.new (.cells z.cells T) (1,cs.length) (.box cs) s.up.length d (fun g l' k'=>hpl g _ l' k' d) (fun G' g hle hb=>⟨_,_,T,hb,heap_alloc_new w _,hz2.mono hle⟩);exact .sure hR hdst (by rw[ho];intro c h;cases h) hd (St.put_len _ _ _ _ _) (hk γ) (u:=.pointer (some ⟨w.heap.size,0,none⟩)) (by simp[execOp,ho,Instr.alloc,hz1,newVar,newRow]) h1 h2 (.ptr _ _ _ _ _ _ _ h3)
  ·cases h
 ·rename_i T x ho;split at h
  ·rename_i d v hd hv;obtain⟨rfl,hf,hk⟩:=h;have hrep:=PG hf (hrd rfl _ _ hv);obtain⟨γ,G',h1,h2,h3,_⟩:=hR.inv.new (.cells (a.eval x).cells T) (1,(BA v).length) (.box (BA v)) s.up.length d (fun g l' k'=>hpl g _ l' k' d) (fun G' g hle hb=>⟨_,_,T,hb,heap_alloc_new w _,hrep.mono hle⟩);exact .sure hR hdst (by rw[ho];intro c h;cases h) hd (St.put_len _ _ _ _ _) (hk γ) (u:=.pointer (some ⟨w.heap.size,0,none⟩)) (by simp[execOp,ho,Instr.box,newVar,newRow]) h1 h2 (.ptr _ _ _ _ _ _ _ h3)
  ·cases h
 ·rename_i T r ho;split at h
  ·rename_i d hd;obtain⟨rfl,hk⟩:=h;obtain⟨γ,G',h1,h2,h3,_⟩:=hR.inv.new (.map #[] 0) (1,1) (.map []) s.up.length d (fun g l' k'=>hpl g _ l' k' d) (fun G' g hle hb=>⟨_,#[],0,hb,heap_alloc_new w _,rfl,fun i p=>absurd p (by simp)⟩);exact .sure hR hdst (by rw[ho];intro c h;cases h) hd (St.put_len _ _ _ _ _) (hk γ) (u:=.map (some w.heap.size)) (by simp[execOp,ho,Instr.makeMap,newObj];rfl) h1 h2 (.mp _ _ _ _ _ _ h3)
  ·cases h
 ·rename_i T x y ho;split at h
  ·rename_i d k1 n1 k2 m1 e hd hx hy hel;split at h
   ·rename_i z hz;obtain⟨rfl,h0,rfl,hzl,hby,h63,hk⟩:=h;obtain⟨u,w',γ,G',h1,h2,h3,h4⟩:=cD (k1:=k1) (k2:=k2) (n:=m1.toNat) (d:=d) hR.inv hel hz hzl hby h63;have ex:=hrd rfl _ _ hx;have ey:=hrd rfl _ _ hy;generalize he1:a.eval x=xv at ex;generalize he2:a.eval y=yv at ey;cases ex;cases ey;have hn:((m1.toNat:Nat):Int)=m1:=Int.toNat_of_nonneg h0;rw[hn]at h1;exact .sure hR hdst (by rw[ho];intro c h;cases h) hd (St.put_len _ _ _ _ _) (hk γ) (by simp[execOp,ho,he1,he2,h1]) h2 h3 h4
   ·cases h
  ·cases h
 ·rename_i T x y ho;split at h
  ·rename_i l q γ off v hx hy;split at h
   ·rename_i γ' cs hget;obtain⟨rfl,rfl,hf,hp,hs,hl,hdn,hk⟩:=h;obtain⟨w',h1,h2⟩:=hR.inv.storeBox hget (hrd rfl _ _ hx) (hrd rfl _ _ hy) hf hp hs hl;refine⟨fun _ next Q hn=>MW (by rw[ho];intro c h;cases h) (w':=w') (by simp[execOp,ho,h1]) (hn G _ w' fr _ ?_ hk),fun h=>by cases h⟩;rw[hdn];exact hR.upd (Gh.le_refl G) h2 (St.put_len _ _ _ _ _)
   ·cases h
  ·rename_i l q γ i off v hx hy;split at h
   ·rename_i γ' U es hget;obtain⟨rfl,rfl,hf,hp,hs,hi,hl,hdn,hk⟩:=h;obtain⟨w',h1,h2⟩:=hR.inv.storeVec hget (hrd rfl _ _ hx) (hrd rfl _ _ hy) hf hp hs hi hl;refine⟨fun _ next Q hn=>MW (by rw[ho];intro c h;cases h) (w':=w') (by simp[execOp,ho,h1]) (hn G _ w' fr _ ?_ hk),fun h=>by cases h⟩;rw[hdn];exact hR.upd (Gh.le_refl G) h2 (St.put_len _ _ _ _ _)
   ·cases h
  ·cases h
 ·rename_i c x y ho;split at h
  ·rename_i c' ca va cb vb hc hx hy;obtain⟨h1,h2,hk⟩:=h;refine .value hR hdst (by rw[ho];intro c h;cases h) hk fun hg=>?_;have q1:=hrd hg _ _ hc;generalize he:a.eval c=cv at q1;cases q1;cases c'
   ·have:=rW hR.fr hy (h2 hg rfl);exact⟨a.eval y,w,G,by simp[execOp,ho,he,asBool],Gh.le_refl G,hR.inv,by simpa using this⟩
   ·have:=rW hR.fr hx (h1 hg rfl);exact⟨a.eval x,w,G,by simp[execOp,ho,he,asBool],Gh.le_refl G,hR.inv,by simpa using this⟩
  ·cases h
 ·rename_i T parts ho;split at h
  ·rename_i ps hps;split at h
   ·rename_i v hv;refine .value hR hdst (by rw[ho]; intro c h; cases h) h fun hg=>?_;obtain⟨us,e1,e2,e3⟩:=MR (hrd hg) hps;obtain⟨u,h1,h2⟩:=zH (w:=w) (vals:=parts.map fun (i,x)=>(i,a.eval x)) hv (by rw[e2,e1]; simp) (fun i p q=>by
     have:=e3 i p (by rw[e2]at p; exact p);subst e1;simpa using this)
    exact⟨u,w,G,by simp[execOp,ho,h1],Gh.le_refl G,hR.inv,h2⟩
   ·cases h
  ·cases h
 ·rename_i T len parts ho;split at h
  ·rename_i ps hps;split at h
   ·rename_i v hv;refine .value hR hdst (by rw[ho]; intro c h; cases h) h fun hg=>?_;obtain⟨us,e1,e2,e3⟩:=MR (hrd hg) hps;obtain⟨u,w',G',h1,h2,h3,h4⟩:=YX (w:=w) (vals:=parts.map fun (i,x)=>(i,a.eval x)) hR.inv hv (by rw[e2,e1]; simp) (fun i p q=>by
     have:=e3 i p (by rw[e2]at p; exact p);subst e1;simpa using this)
    exact⟨u,w',G',by simp[execOp,ho,h1],h2,h3,h4⟩
   ·cases h
  ·cases h
 ·rename_i T x i y ho;split at h
  ·rename_i m i' v hm hi hv;split at h
   ·rename_i l q γ es hu;obtain⟨rfl,hdn,hk⟩:=h;obtain⟨w',h1,h2⟩:=hR.inv.upd hu (hrd rfl _ _ hm) (hrd rfl _ _ hi) (hrd rfl _ _ hv);refine⟨fun _ next Q hn=>MW (by rw[ho];intro c h;cases h) (w':=w') (by simp[execOp,ho,h1]) (hn G _ w' fr _ ?_ hk),fun h=>by cases h⟩;rw[hdn];exact hR.upd (Gh.le_refl G) h2 (St.put_len _ _ _ _ _)
   ·cases h
  ·cases h
 ·rename_i T x i y ho;split at h
  ·rename_i m i' v hm hi hv;split at h
   ·rename_i l q γ es hu;obtain⟨rfl,hdn,hk⟩:=h;obtain⟨w',h1,h2⟩:=hR.inv.upd hu (hrd rfl _ _ hm) (hrd rfl _ _ hi) (hrd rfl _ _ hv);refine⟨fun _ next Q hn=>MW (by rw[ho];intro c h;cases h) (w':=w') (by simp[execOp,ho,h1]) (hn G _ w' fr _ ?_ hk),fun h=>by cases h⟩;rw[hdn];exact hR.upd (Gh.le_refl G) h2 (St.put_len _ _ _ _ _)
   ·cases h
  ·cases h
 ·rename_i args argTypes ho;split at h
  ·rename_i x T hx hT hd;have e1:args = #[x]:=by simpa using congrArg cq hx
   have e2:argTypes = #[T]:=by simpa using congrArg cq hT
   split at h
   ·rename_i e l q γ i n hel hxr;split at h
    ·rename_i γ' U es z hget hz;obtain⟨rfl,rfl,rfl,hle,hall,hk⟩:=h;obtain⟨w',u,h1,h2⟩:=hR.inv.clear (ty:=o.type) hel hget hz (hrd rfl _ _ hxr) hle hall;refine⟨fun _ next Q hn=>MV (by rw[ho];intro c h;cases h) (w':=w') (u:=u) (by simp[execOp,ho,resolve,invoke,builtin,e1,e2,h1]) (hn G _ w' fr _ ?_ hk),fun h=>by cases h⟩;rw[hd];exact hR.upd (Gh.le_refl G) h2 (St.put_len _ _ _ _ _)
    ·cases h
   ·cases h
  ·cases h
 ·rename_i args argTypes ho;split at h
  ·rename_i x y T U hx hT;have e1:args = #[x,y]:=by simpa using congrArg cq hx
   have e2:argTypes = #[T,U]:=by simpa using congrArg cq hT
   split at h
   ·rename_i e l q γ i n ys hel hxr hyr;split at h
    ·rename_i γ' cs hget;obtain⟨rfl,rfl,h1c,hall,hle,hk⟩:=h;obtain⟨yv,hyv,hys⟩:=bx.1 hyr;obtain⟨w',h1,h2⟩:=hR.inv.copy (U:=U) (ty:=o.type) hel h1c hget (hrd rfl _ _ hxr) (hrd rfl _ _ hyv) hys hall hle;refine⟨fun _ next Q hn=>MV (by rw[ho];intro c h;cases h) (w':=w') (u:=.int .i64 ((min ys.length n:Nat):Int)) (by simp[execOp,ho,resolve,invoke,builtin,e1,e2,h1]) (hn G _ w' _ _ ?_ hk),fun h=>by cases h⟩;exact(hR.upd (Gh.le_refl G) h2 (St.put_len _ _ _ _ _)).putD hdst (fun _=>.int _ _) (fun h=>by cases h)
    ·cases h
   ·cases h
  ·cases h
 ·rename_i args argTypes ho;rcases h with⟨v,hv,hk⟩|h
  ·refine .value hR hdst (by rw[ho];intro c h;cases h) hk fun hg=>?_;unfold appS at hv;split at hv
   ·rename_i x y T U hx hT;have e1:args = #[x,y]:=by simpa using congrArg cq hx
    have e2:argTypes = #[T,U]:=by simpa using congrArg cq hT
    split at hv
    ·rename_i hc;obtain⟨rfl,_,rfl⟩:=hc;obtain⟨xv,hxr,hv⟩:=bx.1 hv;obtain⟨yv,hyr,hv⟩:=bx.1 hv;obtain⟨u,w',G',h1,h2,h3,h4⟩:=mF (ty:=o.type) hR.inv hv (hrd rfl _ _ hxr) (hrd rfl _ _ hyr);exact⟨u,w',G',by simp[execOp,ho,resolve,invoke,builtin,e1,e2,h1],h2,h3,h4⟩
    ·cases hv
   ·cases hv
  split at h
  ·rename_i x y T U d hx hT hd;obtain⟨rfl,h⟩:=h;have e1:args = #[x,y]:=by simpa using congrArg cq hx
   have e2:argTypes = #[T,T]:=by simpa using congrArg cq hT
   split at h
   ·rename_i e xv ys hel hxr hyr;split at h
    ·rename_i es hnew;obtain⟨rfl,hpos,hz,halle,hall,h63,hby,hk⟩:=h;obtain⟨yv,hyv,hys⟩:=bx.1 hyr;obtain⟨hnx,hne⟩:=AE3 hnew (hrd rfl _ _ hxr);obtain⟨u,w',γ,G',h1,h2,h3,h4,_⟩:=lZ (ty:=o.type) hR.inv hel hnx (hrd rfl _ _ hyv) hys hz halle hall h63 hby hne;exact .sure hR hdst (by rw[ho];intro c h;cases h) hd (St.put_len _ _ _ _ _) (hk γ) (by simp[execOp,ho,resolve,invoke,builtin,e1,e2,h1]) h2 h3 h4
    ·split at h
     ·rename_i l q γ n' hnn;split at h
      ·rename_i γ' U' es hget;obtain⟨rfl,rfl,rfl,rfl,hpos,hz,halle,hall,h63,hby,hk⟩:=h;obtain⟨yv,hyv,hys⟩:=bx.1 hyr;obtain⟨u,w',γ2,G',h1,h2,h3,h4,_⟩:=sA (ty:=o.type) hR.inv hel hget (hrd rfl _ _ hxr) (hrd rfl _ _ hyv) hys hz halle hall h63 hby;exact .sure hR hdst (by rw[ho];intro c h;cases h) hd (St.put_len _ _ _ _ _) (hk γ2) (by simp[execOp,ho,resolve,invoke,builtin,e1,e2,h1]) h2 h3 h4
      ·cases h
     ·cases h
   ·cases h
  ·cases h
 ·rename_i f args argTypes ho;split at h
  ·rename_i fid first cap vs hf hvs;exact sB ho rfl hR hdst hf hvs h
  ·rename_i l q γ vs hf hvs;split at h
   ·rename_i γ' fr0 ps asg body N0 hget;obtain⟨rfl,rfl,hY⟩:=h;refine⟨fun _ next Q hn=>?_,fun h=>by cases h⟩;exact sC ho rfl hR hdst (hrd rfl _ _ hf) (dR (hrd rfl) hvs) hget hY hn
   ·cases h
  ·cases h
 ·split at h
  ·rename_i v hv;have hnd:∀c,o.op≠.defer c:=by intro c hc;rw[JG,hc]at hv;cases hv
   refine .value hR hdst hnd h fun hg=>?_;obtain⟨u,h1,h2⟩:=AKN (ρ:=a.eval) hR.inv (hrd hg) hv;exact⟨u,w,G,h1,Gh.le_refl G,hR.inv,h2⟩
  ·cases h
theorem AKO{fr:Fr}{s:St}{t l q γ m:Nat}{T:fq}{es:List (List V)}(ht:fr.get t=some (true,.vec l q γ m))(hget:s.get l q=some (γ,.vec T es))(hm:m<=es.length):FB fr s (fr.put t true (.list false (es.take m))) (s.put l q γ .dead):=by
 intro n N G0 G a w hR;obtain⟨G',hle,hI',hs⟩:=hR.inv.lockRow hget;obtain⟨x,hx1,hx2,_⟩:=hR.fr t _ _ ht;have hv:=LO hR.inv hle hget hm hs (hx2 rfl);have hR':I4 n N G0 G' (fr.put t true (.list false (es.take m))) (s.put l q γ .dead) a w:=by
  refine⟨Gh.le_trans hR.le hle,hI',fun k c v hk=>?_,hR.size,by rw[St.put_len];exact hR.lvl,?_⟩
  ·rw[Fr.get_put]at hk;split at hk
   ·rename_i e;cases hk;subst e;exact⟨x,hx1,fun _=>hv,fun h=>by cases h⟩
   ·obtain⟨y,h1,h2,h3⟩:=hR.fr k c v hk;exact⟨y,h1,fun hc=>(h2 hc).mono hle,h3⟩
  ·obtain⟨rs,h1,h2,h3⟩:=hR.marks;exact⟨rs,h1,h2,fun r hr=>⟨(h3 r hr).1,hle.a _ _ (h3 r hr).2⟩⟩
 exact⟨G',hR'⟩
theorem VK{g:Bool}{o:dt}{k:Fr->St->Prop}(hR:I4 n N G0 G fr s a w)(hdst:∀t,o.dst=some t->t<N)(h:SE P g o fr s k):JI P n N ρ G0 G g o a w k:=by
 rcases h with h|⟨rfl,v,hk⟩|⟨T,len,parts,d,e,es,ps,ho,rfl,hd,hel,hps,hev,hne,hmx,hk⟩|⟨rfl,fr1,s1,hgh,h⟩
 ·exact Y5 hR hdst h
 ·exact⟨fun h=>(by cases h),fun _=>⟨_,s,hR.putD hdst (fun h=>(by cases h)) (fun _=>rfl),hk⟩⟩
 ·obtain⟨us,e1,e2,e3⟩:=MR (fun x v hx=>R9 hR.fr hx) hps;obtain⟨u,w',γ,G',h1,h2,h3,h4⟩:=Y0 (w:=w) (d:=d) (vals:=parts.map fun (i,x)=>(i,a.eval x)) hR.inv hev (by rw[e2,e1]; simp) (fun i p q=>by
   have:=e3 i p (by rw[e2]at p; exact p);subst e1;simpa using this) hne hmx hel
  exact .sure hR hdst (by rw[ho];intro c h;cases h) hd (St.put_len _ _ _ _ _) (hk γ) (by simp[execOp,ho,h1]) h2 h3 h4
 ·obtain⟨G',hR'⟩:=hgh _ _ _ _ _ _ hR;obtain⟨h1,_⟩:=Y5 (ρ:=ρ) hR' hdst h;exact⟨h1,fun h=>by cases h⟩
end Go.Pg
namespace Go.Pg
variable {P:fk}{n N:Nat}{ρ:Option Nat}{G0 G:Gh}{fr:Fr}{s:St}{a:Act}{w:dr}
def LP(N:Nat)(ops:List dt):Bool:=ops.all fun o=>match o.dst with
 |some d=>Nat.blt d N
 |none=>true
theorem Y6{ops:List dt}(h:LP N ops=true){o:dt}(ho:o∈ops):∀t,o.dst=some t->t<N:=by intro t ht;have:=dv.1 h o ho;rw[ht]at this;simpa [Nat.blt_eq]using this
theorem OD{ops:Array dt}(hN:LP N ops.toList=true){K:Exit->Fr->St->Prop}:∀(rest:List dt) (gs:List (Option (Tmp×Bool))) (i:Nat) (G:Gh) (fr:Fr) (s:St) (a:Act) (w:dr),(∀j (h:j<rest.length),ops[i+j]? = some rest[j])->JW ops.toList gs rest=true ->
  I4 n N G0 G fr s a w->VH P gs rest fr s (K .normal)->wpOpsIn (wf ρ) 0 P ops (K7 n N G0 K) (dm i rest.length) a w
 |[],gs,i,G,fr,s,a,w,_,_,hR,h=>⟨G,fr,s,hR,by cases gs<;>exact h⟩
 |o::rest,gs,i,G,fr,s,a,w,hal,hgs,hR,h=>by
  have ho:ops[i]? = some o:=by have h0:=hal 0 (by simp);simpa only[dx,dk]using h0
  have hal':∀j (h:j<rest.length),ops[i+1+j]? = some rest[j]:=fun j hj=>by have:=hal (j+1) (by simpa using hj);simpa [Nat.add_assoc,Nat.add_comm 1 j]using this
  have hm:o∈ops.toList:=by have:=Array.mem_of_getElem? ho;simpa using this
  have hlen:dm i (o::rest).length=i::dm (i+1) rest.length:=by simp[List.range'_succ]
  have main:∀(gd:Option (Tmp×Bool)) (gs':List (Option (Tmp×Bool))) (g:Bool),HL ops.toList o gd=true->JW ops.toList gs' rest=true->NW fr gd=some g->SE P g o fr s (fun fr s=>VH P gs' rest fr s (K .normal)) ->
    wpOpsIn (wf ρ) 0 P ops (K7 n N G0 K) (dm i (o::rest).length) a w:=by
   intro gd gs' g hg1 hg2 hg hst
   have hw:=YO hR.fr hg1 hg
   obtain⟨h1,h2⟩:=VK (ρ:=ρ) hR (Y6 hN hm) hst
   rw[hlen]
   unfold wpOpsIn
   rw[ho]
   simp only[hw]
   cases g with
   |true=>exact h1 rfl _ _ fun G' a' w' fr' s' hR' hk=>OD hN rest gs' (i+1) G' fr' s' a' w' hal' hg2 hR' hk
   |false=>
    obtain⟨fr',s',hR',hk⟩:=h2 rfl
    exact⟨fun _ _=>trivial,OD hN rest gs' (i+1) G fr' s' _ w hal' hg2 hR' hk⟩
  cases gs with
  |nil=>
   simp only[JW,dw]at hgs
   exact main none [] true hgs.1 hgs.2 rfl h
  |cons gd gs=>
   simp only[JW,dw]at hgs
   unfold VH at h
   split at h
   ·rename_i g hg;exact main gd gs g hgs.1 hgs.2 hg h
   ·cases h
def A5J(k:Fr->St->Prop)(K:Exit->Fr->St->Prop):Exit->Fr->St->Prop
 |.normal=>k
 |e=>K e
def BGD(id:Nat)(K:Exit->Fr->St->Prop):Exit->Fr->St->Prop
 |.exit i=>if i=id then K .normal else K (.exit i)
 |e=>K e
theorem VL{id:Nat}{l:List dt}{K:Exit->Fr->St->Prop}(gs:List (Option (Tmp×Bool)))(hN:LP N l=true)(hg:JW l gs l=true)(h:VH P gs l fr s (K .normal)):BH P n N ρ (.region id l.toArray false) K fr s:=by intro _ _ _ _ hR;have:=OD (ρ:=ρ) (ops:=l.toArray) (by simpa using hN) l gs 0 _ _ _ _ _ (fun j h=>by simp) (by simpa using hg) hR h;refine wpIn_region ?_;simpa [List.range_eq_range']using this
theorem mG{x y:fj}{K:Exit->Fr->St->Prop}(h:BH P n N ρ x (A5J (BH P n N ρ y K) K) fr s):BH P n N ρ (.seq x y) K fr s:=by
 intro G0 G a w hR;refine wpIn_seq (wpIn_mono (h G0 G a w hR) fun e a w hq=>?_);obtain⟨G',fr',s',hR',hk⟩:=hq;cases e with
 |normal=>exact hk G0 G' a w hR'
 |exit id=>exact⟨G',fr',s',hR',hk⟩
 |goto l=>exact⟨G',fr',s',hR',hk⟩
 |ret=>exact⟨G',fr',s',hR',hk⟩
 |panic ch=>exact⟨G',fr',s',hR',hk⟩
 |outgrown=>exact⟨G',fr',s',hR',hk⟩
theorem Q7{id:Nat}{c:fj}{K:Exit->Fr->St->Prop}(h:BH P n N ρ c (BGD id K) fr s):BH P n N ρ (.block id c) K fr s:=by
 intro G0 G a w hR;refine wpIn_block (wpIn_mono (h G0 G a w hR) fun e a w hq=>?_);obtain⟨G',fr',s',hR',hk⟩:=hq;cases e with
 |exit i=>
  have hk':(if i=id then K .normal else K (.exit i)) fr' s':=hk
  show if i=id then _ else _
  split
  ·rename_i e;rw[if_pos e]at hk';exact⟨G',fr',s',hR',hk'⟩
  ·rename_i e;rw[if_neg e]at hk';exact⟨G',fr',s',hR',hk'⟩
 |normal=>exact⟨G',fr',s',hR',hk⟩
 |goto l=>exact⟨G',fr',s',hR',hk⟩
 |ret=>exact⟨G',fr',s',hR',hk⟩
 |panic ch=>exact⟨G',fr',s',hR',hk⟩
 |outgrown=>exact⟨G',fr',s',hR',hk⟩
theorem dT{c:fw}{x y:fj}{K:Exit->Fr->St->Prop}{b:Bool}(hc:DU true fr c=some (.bool b))(h1:b=true->BH P n N ρ x K fr s)(h2:b=false->BH P n N ρ y K fr s):BH P n N ρ (.cond c x y) K fr s:=by
 intro G0 G a w hR;have:=R9 hR.fr hc;generalize he:a.eval c=v at this;cases this;cases b
 ·exact wpIn_cond_false he (h2 rfl G0 G a w hR)
 ·exact wpIn_cond_true he (h1 rfl G0 G a w hR)
theorem zJ{K:Exit->Fr->St->Prop}(h:K .normal fr s):BH P n N ρ .skip K fr s:=fun _ G _ _ hR=>wpIn_skip ⟨G,fr,s,hR,h⟩
theorem sD{l:Nat}{K:Exit->Fr->St->Prop}(h:K .normal fr s):BH P n N ρ (.label l) K fr s:=fun _ G _ _ hR=>wpIn_label ⟨G,fr,s,hR,h⟩
theorem zK{id:Nat}{K:Exit->Fr->St->Prop}(h:K (.exit id) fr s):BH P n N ρ (.exit id) K fr s:=fun _ G _ _ hR=>wpIn_exit ⟨G,fr,s,hR,h⟩
theorem AE4{K:Exit->Fr->St->Prop}(h:K .ret fr s):BH P n N ρ .ret K fr s:=fun _ G _ _ hR=>wpIn_ret ⟨G,fr,s,hR,h⟩
theorem sE{c:fj}{K:Exit->Fr->St->Prop}(hK:∀l fr s,¬K (.goto l) fr s)(h:BH P n N none c K fr s):BH P n N none (.scope c) K fr s:=by
 intro G0 G a w hR;have h1:c.wp P (K7 n N G0 K) a w:=wpIn_wide.1 (h G0 G a w hR);refine wpIn_wide.2 (wp_scope_straight (wp_mono h1 fun e a w hq=>?_));cases e with
 |goto l=>obtain⟨G',fr',s',_,hk⟩:=hq;exact absurd hk (hK _ _ _)
 |_=>exact hq
theorem zL{c:fj}{K K':Exit->Fr->St->Prop}(h:BH P n N ρ c K fr s)(hk:∀e fr s,K e fr s->K' e fr s):BH P n N ρ c K' fr s :=
 fun G0 G a w hR=>wpIn_mono (h G0 G a w hR) fun e _ _ ⟨G',fr',s',hR',h'⟩=>⟨G',fr',s',hR',hk e fr' s' h'⟩
theorem dU{c:fj}{K:Exit->Fr->St->Prop}(I:Nat->Fr->St->Prop)(m:Nat)(h0:I m fr s)
  (round:∀m fr s,I m fr s->BH P n N ρ c (A5J (fun fr' s'=>∃m',m'<m/\I m' fr' s') K) fr s):BH P n N ρ (.loop c) K fr s:=by
 intro G0 G a w hR
 intro b k cs hro hb hr
 have key:∀j G fr s a w,I4 n N G0 G fr s a w->I j fr s ->
   ∃e a' w',K7 n N G0 K e a' w'/\ArrivesIn (Machine.fenced P (wf ρ)) P (lone (b.atR a (.code c::.inLoop c::k)) cs w) b k cs e a' w':=by
  intro j
  induction j using Nat.strongRecOn with
  |_ j ih=>
   intro G fr s a w hR hI
   obtain⟨e,a₁,w₁,hq,harr⟩:=round j fr s hI G0 G a w hR b (.inLoop c::k) cs hro hb hr
   obtain⟨G',fr',s',hR',hk⟩:=hq
   cases e with
   |normal=>
    obtain⟨m',hlt,hI'⟩:=hk
    obtain⟨e₂,a₂,w₂,hq₂,harr₂⟩:=ih m' hlt G' fr' s' a₁ w₁ hR' hI'
    exact⟨e₂,a₂,w₂,hq₂,.of_steps (StepsIn.trans harr (.one (fenced_calm hb hr rfl) stepR_inLoop)) harr₂⟩
   |exit id=>exact⟨_,a₁,w₁,⟨G',fr',s',hR',hk⟩,.pass (x:=.inLoop c) rfl (fun _ _=>.inl (by simp)) harr⟩
   |goto l=>exact⟨_,a₁,w₁,⟨G',fr',s',hR',hk⟩,.pass (x:=.inLoop c) rfl (fun _ _=>.inl (by simp)) harr⟩
   |ret=>exact⟨_,a₁,w₁,⟨G',fr',s',hR',hk⟩,.pass (x:=.inLoop c) rfl (fun _ _=>.inl (by simp)) harr⟩
   |panic ch=>exact⟨_,a₁,w₁,⟨G',fr',s',hR',hk⟩,.pass (x:=.inLoop c) rfl (fun _ _=>.inl (by simp)) harr⟩
   |outgrown=>exact⟨_,a₁,w₁,⟨G',fr',s',hR',hk⟩,.pass (x:=.inLoop c) rfl (fun _ _=>.inl (by simp)) harr⟩
 obtain⟨e,a',w',hq,harr⟩:=key m G fr s a w hR h0
 exact⟨e,a',w',hq,.of_steps (.one (fenced_calm hb hr rfl) stepR_loop) harr⟩
def AE5(n d γ:Nat)(fr:Fr)(K:Exit->Fr->St->Prop)(s':St):Prop:=∃fr' ps asg body N' st,s'.get n d=some (γ,.loop fr' ps asg body N' st)/\match st with
 |.ready=>K .normal fr (s'.put n d γ .dead)
 |.left .ret=>K .ret fr (s'.put n d γ .dead)
 |.left (.exit id)=>K (.exit id) fr (s'.put n d γ .dead)
 |_=>False
theorem Y7{g:fw}{ps:Array Tmp}{asg body:fj}{K:Exit->Fr->St->Prop}{f:FuncId}{first cap:List V}(d:Nat)(hg:DU true fr g=some (.fn f first cap))
  (h:∀γ,EA P f ((first++[V.yld s.up.length d γ]++cap).map weakV) (s.put s.up.length d γ (.loop fr ps.toList asg body N .ready)) fun _ s'=>AE5 s.up.length d γ fr K s'):BH P n N none (.rangeFunc g ps asg body) K fr s:=by
 intro G0 G a w hR
 refine wpIn_rangeFunc fun fn _=>?_
 obtain⟨G1,hle1,hI1,hsl1,_⟩:=hR.inv.lock (.deferred (some []))
 have hF1:=hR.fr.mono hle1
 have hfv:=R9 hF1 hg
 obtain⟨γ,G2,hle2,hI2,hb2,hs2⟩:=hI1.new (.loop { state:=.ready,pending:=none,fn:=fn,tmps:=a.tmps,params:=ps,assign:=asg,body:=body,defers:=w.heap.size }) (1,1) (.loop fr ps.toList asg body N .ready) s.up.length d
  (fun g l' k'=>St.get_putLoc s l' k') fun G' g hle hb=>⟨_,_,hb,heap_alloc_new _ _,hF1.mono hle,hR.size,rfl,rfl,rfl,rfl,rfl⟩
 have hA:=h γ
 generalize he:a.eval g=fv at hfv
 cases hfv with
 |fn _ _ _ a1 a2 l1 l2 hx hy=>
  have hargs:RepA G2 ((first++[V.yld s.up.length d γ]++cap).map weakV) (a1 ++ #[Value.func (.yield (w.heap.size+1)) #[] #[]]++a2).toList:=by
   refine RepA.weak ?_;have q1:RepA G2 first a1.toList:=⟨by simpa using l1,fun i p q=>by simpa using(hx i p (by simpa using q)).mono hle2⟩;have q2:RepA G2 cap a2.toList:=⟨by simpa using l2,fun i p q=>by simpa using(hy i p (by simpa using q)).mono hle2⟩;have q3:RepA G2 [V.yld s.up.length d γ] [Value.func (.yield (w.heap.size+1)) #[] #[]]:=.cons (by
    have:=RepV.yld (G:=G2) s.up.length d γ _ _ _ hb2;rwa [World.size_alloc]at this) (.nil G2)
   have:=(q1.append q3).append q2;simpa using this
  have hle:=Gh.le_trans hle1 hle2
  have hw0:G.sl w.heap.size=none:=by
   cases hs:G.sl w.heap.size with
   |none=>rfl
   |some x=>have:=(bq.1 (hR.inv.sl _ _ hs)).1;omega
  refine⟨w.heap.size+1,[AKI w.heap.size],(w.alloc (.deferred (some []))).alloc (.loop { state:=.ready,pending:=none,fn:=fn,tmps:=a.tmps,params:=ps,assign:=asg,body:=body,defers:=w.heap.size }),{ target:=.fn (.func f) a2,args:=a1 ++ #[.func (.yield (w.heap.size+1)) #[] #[]] },
   (w.alloc (.deferred (some []))).alloc (.loop { state:=.ready,pending:=none,fn:=fn,tmps:=a.tmps,params:=ps,assign:=asg,body:=body,defers:=w.heap.size }),f,(a1 ++ #[.func (.yield (w.heap.size+1)) #[] #[]])++a2,
   (w.alloc (.deferred (some []))).alloc (.loop { state:=.ready,pending:=none,fn:=fn,tmps:=a.tmps,params:=ps,assign:=asg,body:=body,defers:=w.heap.size }),run_enterLoop_outer fn a.tmps ps asg body,?_,fun _ _=>trivial,?_,fun h=>absurd h (by simp[wf,Fence.wide]),?_⟩
  ·show Sem.run P (Deferred.ofValue (a.eval g) (#[Operand.const (.func (.yield _) #[] #[])].map a.eval)) _=_;rw[he];simp[Deferred.ofValue,Act.eval]
  ·exact hA.1 _ _
  ·refine hA.2 G2 _ _ _ hI2 (by simpa [Array.append_assoc]using hargs) fun G3 r v w3 s3 hle3 hI3 _ hlen3 hK=>?_;obtain⟨fr',ps',asg',body',N',st,hget,hK⟩:=hK;obtain⟨b3,r3,hb3,hh3,_,_,_,_,_,hst⟩:=hI3.res _ _ _ _ hget;have hb3':=hle3.2 _ _ hb2;rw[hb3']at hb3;simp only[bp.injEq,dh.injEq,and_true]at hb3;rw[World.size_alloc]at hb3;obtain rfl:=hb3;have hs3:G3.sl w.heap.size=some (.deferred (some [])):=hle3.1 _ _ (by rw[hs2];exact hsl1);have hnb:r3.state≠.busy:=by
    cases st with
    |ready=>rw[hst.1];intro h;cases h
    |busy=>exact hK.elim
    |left c=>rw[hst.1];intro h;cases h
   have hI4:CE G3 (s3.put s.up.length d γ .dead) (w3.putObj (w.heap.size+1) (.loop { r3 with state:=.exhausted })) :=
    hI3.lose hget (b:=w.heap.size+1) (by simp[BG,hb3',World.size_alloc]) (fun b' h=>World.putObj_heap_other h) World.putObj_size ⟨rfl,rfl⟩ (YS (bq.1 hh3).1)
   have hRel:I4 n N G0 G3 fr (s3.put s.up.length d γ .dead) { a with defers:=[AKI w.heap.size]++a.defers } (w3.putObj (w.heap.size+1) (.loop { r3 with state:=.exhausted })):=by
    refine⟨Gh.le_trans hR.le (Gh.le_trans hle hle3),hI4,hF1.mono (Gh.le_trans hle2 hle3),hR.size,?_,?_⟩
    ·rw[St.put_len,hlen3,St.put_len];exact hR.lvl
    ·obtain⟨rs,hd,hnd,hrs⟩:=hR.marks;refine⟨w.heap.size::rs,by simp[hd],dc.2 ⟨fun hm=>?_,hnd⟩,fun q hq=>?_⟩
     ·have:=(hrs _ hm).2;rw[hw0]at this;cases this
     ·rcases List.mem_cons.1 hq with rfl|hq
      ·refine⟨?_,hs3⟩;cases h0:G0.sl w.heap.size with
       |none=>rfl
       |some o=>have:=hR.le.1 _ _ h0;rw[hw0]at this;cases this
      ·exact⟨(hrs q hq).1,(Gh.le_trans hle hle3).1 _ _ (hrs q hq).2⟩
   have hend:=run_endLoop (P:=P) hh3 hnb;generalize w3.putObj (w.heap.size+1) (.loop { r3 with state:=.exhausted })=W at hRel hend;refine⟨r3.pending,W,hend,?_⟩;cases st with
   |ready=>rw[hst.2];exact⟨G3,fr,_,hRel,hK⟩
   |busy=>exact hK.elim
   |left c=>
    rw[hst.2]
    cases c with
    |ret=>exact wpIn_ret ⟨G3,fr,_,hRel,hK⟩
    |exit id=>exact wpIn_exit ⟨G3,fr,_,hRel,hK⟩
    |_=>exact hK.elim
theorem zM{c:fj}{K:Exit->Fr->St->Prop}{fr':Fr}{loc':AA}(hf:∀k x,fr'.get k=some x->fr.get k=some x)(hl:∀k x,loc'.get k=some x->s.loc.get k=some x)
  (h:BH P n N ρ c K fr' { s with loc:=loc' }):BH P n N ρ c K fr s:=by
 intro G0 G a w hR
 have hg:∀l k x,({ s with loc:=loc' }:St).get l k=some x->s.get l k=some x:=by
  intro l k x hx;unfold St.get at hx|-;split at hx
  ·rename_i e;rw[if_pos e];exact hl k x hx
  ·rename_i e;rw[if_neg e];exact hx
 refine h G0 G a w ⟨hR.le,⟨hR.inv.sl,fun l k g r e=>hR.inv.res l k g r (hg _ _ _ e),fun l k g r l' k' g' r' b e1 e2=>hR.inv.sep l k g r l' k' g' r' b (hg _ _ _ e1) (hg _ _ _ e2),fun l k g r b e=>hR.inv.out l k g r b (hg _ _ _ e),hR.inv.fresh,hR.inv.env,hR.inv.me.step (Gh.le_refl _) rfl (fun _ _ _=>rfl) (fun l k g r b e1 e2=>.inl ⟨l,k,g,r,hg _ _ _ e1,e2⟩) fun b d hb=>hR.inv.me.sl b d hb⟩,
  fun k c v e=>hR.fr k c v (hf k _ e),hR.size,hR.lvl,hR.marks⟩
end Go.Pg
namespace Go.Pg
variable {P:fk}{n N:Nat}{G0 G:Gh}{fr:Fr}{s:St}{a:Act}{w:dr}
structure Gh.lec(G G':Gh):Prop where
 a:∀b c T fz,G.sl b=some (.cells c T fz)->G'.sl b=some (.cells c T fz)
 b:∀g x,G.be g=some x->G'.be g=some x
 m:∀b d,G.mm b=some d->G'.mm b=some d
theorem RepV.monoC{G G':Gh}(hle:G.lec G'){x:V}{v:dp}(h:RepV G x v):RepV G' x v:=by
 induction h with
 |int k n=>exact .int k n
 |bool b=>exact .bool b
 |raw v h=>exact .raw v h
 |agg cs arr hl hc _ ih=>exact .agg cs arr hl hc ih
 |tup cs arr hl _ ih=>exact .tup cs arr hl ih
 |list full es a cap b off sz arr T fz vs hcap hfull ha hl hv _ ih=>
  exact .list full es a cap b off sz arr T fz vs hcap hfull (fun h=>⟨(ha h).1,hle.1 _ _ _ _ (ha h).2⟩) hl hv ih
 |ref cs b off arr T fz vs ha hv _ ih=>exact .ref cs b off arr T fz vs (hle.1 _ _ _ _ ha) hv ih
 |ptr l k g off b sz C h=>exact .ptr l k g off b sz C (hle.2 _ _ h)
 |eptr l k g i off b sz C h=>exact .eptr l k g i off b sz C (hle.2 _ _ h)
 |vec l k g len b sz C a h hlen ha=>exact .vec l k g len b sz C a (hle.2 _ _ h) hlen ha
 |mp l k g b sz C h=>exact .mp l k g b sz C (hle.2 _ _ h)
 |fn f xs ys a1 a2 h1 h2 _ _ ihx ihy=>exact .fn f xs ys a1 a2 h1 h2 ihx ihy
 |yld l k g b sz C h=>exact .yld l k g b sz C (hle.2 _ _ h)
 |nil=>exact .nil
 |vtl l k g i n b sz C cap a h hlen ha=>exact .vtl l k g i n b sz C cap a (hle.2 _ _ h) hlen ha
 |any v h=>exact .any v h
 |memo d b h=>exact .memo d b (hle.m _ _ h)
theorem RepL.monoC{G G':Gh}(hle:G.lec G'){cs:List V}{vs:List dp}(h:RepL G cs vs):RepL G' cs vs :=
 ⟨h.1,fun i h1 h2=>⟨(h.2 i h1 h2).1,(h.2 i h1 h2).2.monoC hle⟩⟩
theorem HJ.keepC{G G':Gh}{g:Nat}{w w':dr}{r:A6}(h:HJ G g w r)(hle:G.lec G')(hw:∀b,BG G g r=some b->w'.heap[b]? = w.heap[b]?):HJ G' g w' r:=by
 cases r with
 |dead=>trivial
 |box cs=>
  obtain⟨b,arr,T,h1,h2,h3⟩:=h
  exact⟨b,arr,T,hle.2 _ _ h1,(hw b (by simp[BG,h1])).trans h2,h3.monoC hle⟩
 |vec T es=>
  obtain⟨b,sz,C,h1,h2,h3,h4,h5⟩:=h
  refine⟨b,sz,C,hle.2 _ _ h1,h2,h3,h4,fun hC=>?_⟩
  obtain⟨arr,h6,h7,h8⟩:=h5 hC
  exact⟨arr,(hw b (by simp[BG,h1,hC])).trans h6,h7,h8.monoC hle⟩
 |map es=>
  obtain⟨b,arr,clock,h1,h2,h3,h4⟩:=h
  exact⟨b,arr,clock,hle.2 _ _ h1,(hw b (by simp[BG,h1])).trans h2,h3,fun i p q=>⟨(h4 i p q).1.monoC hle,(h4 i p q).2.monoC hle⟩⟩
 |loop fr ps asg body N st=>
  obtain⟨b,r,h1,h2,h3,h4⟩:=h
  refine⟨b,r,hle.2 _ _ h1,(hw b (by simp[BG,h1])).trans h2,fun k c v hk=>?_,h4⟩
  obtain⟨x,q1,q2,q3⟩:=h3 k c v hk
  exact⟨x,q1,fun hc=>(q2 hc).monoC hle,q3⟩
theorem CE.unmark(hI:CE G s w){r:Nat}(hr:G.sl r=some (.deferred (some [])))(o:Obj)(ho:dM o:=by intro _ _ _ h;cases h) :
  let G1:Gh:={ G with sl:=fun b=>if b=r then none else G.sl b }
  CE G1 s (w.putObj r o)/\G.lec G1:=by
 intro G1
 have hlec:G.lec G1:=⟨fun b c T fz h=>by
  show(if b=r then none else G.sl b)=_;rw[if_neg (by intro e; subst e; rw[hr]at h; cases h)]; exact h,fun _ _ h=>h,fun _ _ h=>h⟩
 have hne:∀{l k g x b},s.get l k=some (g,x)->BG G g x=some b->b≠r:=by intro l k g x b h1 h2 e;subst e;have:=(hI.out _ _ _ _ _ h1 h2).1;rw[hr]at this;cases this
 have hso:∀{g x b},BG G1 g x=some b->BG G g x=some b:=by intro g x b h;cases x<;>exact h
 refine⟨⟨fun b x h=>?_,fun l k g x h=>(hI.res _ _ _ _ h).keepC hlec fun b hb=>World.putObj_heap_other (hne h hb),fun l k g x l' k' g' x' b h1 h2 h3 h4=>hI.sep _ _ _ _ _ _ _ _ _ h1 h2 (hso h3) (hso h4),fun l k g x b h1 h2=>?_,hI.fresh,(hI.env.turn (b:=r) (fun b' h=>World.putObj_heap_other h) World.putObj_size ⟨rfl,rfl⟩ (YS (bq.1 (hI.sl _ _ hr)).1 ho):QI G1 _),hI.me.stepR (fun _ _ h=>h.monoC hlec) rfl (fun b d hb=>World.putObj_heap_other fun e=>by
  subst e;rw[hI.me.sl _ _ hb]at hr;cases hr) (fun l k g x b h1 h2=>.inl ⟨_,_,_,_,h1,hso h2⟩) fun b d hb=>by
  show(if b=r then none else G.sl b)=none;split
  ·rfl
  ·exact hI.me.sl b d hb⟩,hlec⟩
 ·have h':(if b=r then none else G.sl b)=some x:=h;split at h'
  ·cases h'
  ·rename_i hb;rw[World.putObj_heap_other hb];exact hI.sl _ _ h'
 ·have:=hI.out _ _ _ _ _ h1 (hso h2);refine⟨?_,by rw[World.putObj_size];exact this.2⟩;show(if b=r then none else G.sl b)=none;split
  ·rfl
  ·exact this.1
theorem VM{fn:Func}{tmps:Array dp}{R:Ending->dr->Prop}{ρ:Option Nat}:∀(rs:List Nat) (G:Gh) (w:dr),CE G s w->HI G fr tmps->rs.Nodup->G0.le G->(∀r∈rs,G0.sl r=none/\G.sl r=some (.deferred (some []))) ->
  (∀G' w',CE G' s w'->HI G' fr tmps->G0.le G'->∃v,(results fn tmps).run P w'=.ok v w'/\R (.returned v) w')->LeavesInM (wf ρ) 0 P fn tmps R (rs.map AKI) .returning w
 |[],G,w,hI,hF,_,hle,_,h=>h G w hI hF hle
 |r::rs,G,w,hI,hF,hnd,hle,hm,h=>by
  obtain⟨h1,h2⟩:=hm r (by simp);obtain⟨hI1,hlec⟩:=hI.unmark h2 (.deferred none);refine⟨by simp,.inl ⟨r,_,rfl,run_takeDeferred (hI.sl _ _ h2),?_⟩⟩;refine VM rs _ _ hI1 (fun k c v e=>?_) (dc.1 hnd).2 ⟨fun b o hb=>?_,fun g x hg=>hle.2 _ _ hg,hle.e,hle.m⟩ (fun q hq=>⟨(hm q (by simp[hq])).1,?_⟩) h
  ·obtain⟨x,e1,e2,e3⟩:=hF k c v e;exact⟨x,e1,fun hc=>(e2 hc).monoC hlec,e3⟩
  ·show(if b=r then none else G.sl b)=some o;rw[if_neg (by intro e;subst e;rw[h1]at hb;cases hb)];exact hle.1 _ _ hb
  ·show(if q=r then none else G.sl q)=_;rw[if_neg (by intro e;subst e;exact(dc.1 hnd).1 hq)];exact(hm q (by simp[hq])).2
def DR(P:fk)(fr:Fr)(s:St):ResultVar->Option V
 |.tmp t=>match fr.get t with
  |some (true,v)=>some v
  |_=>none
 |.cell ad T=>match fr.get ad with
  |some (true,p)=>(BF s p).bind (BT P T)
  |_=>none
def F5(P:fk)(rs:List ResultVar)(fr:Fr)(s:St):Option V:=match rs.mapM (DR P fr s)with
 |some [v]=>some v
 |some vs=>some (.tup vs)
 |none=>none
def T4(tmps:Array dp):ResultVar->Sem dp
 |.tmp t=>pure (tmps.getD t undef)
 |.cell a t=>do loadVar t (<-asAddr (tmps.getD a undef))
theorem sF(fn:Func)(tmps:Array dp):results fn tmps=(fn.results.mapM (T4 tmps)) >>= fun vs=>pure (if h:vs.size=1 then vs[0] else .tuple vs):=by
 have:(fun x:ResultVar=>(match x with|.tmp t=>pure (tmps.getD t undef)|.cell a t=>do loadVar t (<-asAddr (tmps.getD a undef)):Sem dp))=T4 tmps:=by funext rv;cases rv<;>rfl
 exact congrArg (fun F=>(fn.results.mapM F) >>= fun vs=>pure (if h:vs.size=1 then vs[0] else .tuple vs)) this
theorem sG{rv:ResultVar}{v:V}{tmps:Array dp}(hI:CE G s w)(hF:HI G fr tmps)(h:DR P fr s rv=some v) :
  ∃u,(T4 tmps rv).run P w=.ok u w/\RepV G v u:=by
 cases rv with
 |tmp t=>
  simp only[DR]at h
  split at h
  ·rename_i x hx;cases h;obtain⟨y,h1,h2,_⟩:=hF _ _ _ hx;exact⟨y,by simp[T4,dj,h1],h2 rfl⟩
  ·cases h
 |cell ad T=>
  simp only[DR]at h
  split at h
  ·rename_i p hx;obtain⟨cs,hcs,h⟩:=bx.1 h;obtain⟨y,h1,h2,_⟩:=hF _ _ _ hx;obtain⟨b,off,vs,rfl,hL,hcell⟩:=lQ hI (h2 rfl) hcs;obtain⟨u,hu1,hu2⟩:=dO hL hcell h;refine⟨u,?_,hu2⟩;simp only[Instr.loadAt,Instr.sureAddr,Sem.run_bind,Sem.run_pure,Result.andThen_ok]at hu1;simp[T4,dj,h1,asAddr,hu1]
  ·cases h
theorem AE6{fn:Func}{v:V}{tmps:Array dp}(hI:CE G s w)(hF:HI G fr tmps)(h:F5 P fn.results.toList fr s=some v):∃u,(results fn tmps).run P w=.ok u w/\RepV G v u:=by
 have all:∀(l:List ResultVar) (vs:List V),l.mapM (DR P fr s)=some vs->∃us:List dp,(l.mapM (T4 tmps)).run P w=.ok us w/\RepA G vs us:=by
  intro l;induction l with
  |nil=>intro vs h;simp at h;subst h;exact⟨[],rfl,.nil G⟩
  |cons rv l ih=>
   intro vs h
   simp only[List.mapM_cons,Option.bind_eq_bind,bx,Option.pure_def,bp.injEq]at h
   obtain⟨v,hv,us,hus,rfl⟩:=h
   obtain⟨u,h1,h2⟩:=sG hI hF hv
   obtain⟨us',h3,h4⟩:=ih _ hus
   refine⟨u::us',?_,.cons h2 h4⟩
   rw[List.mapM_cons,Sem.run_bind,h1]
   simp only[Result.andThen_ok,Sem.run_bind]
   rw[h3];rfl
 unfold F5 at h;have key:∀vs,fn.results.toList.mapM (DR P fr s)=some vs->∃us:List dp,(results fn tmps).run P w=.ok (if h:us.toArray.size=1 then us.toArray[0] else .tuple us.toArray) w/\RepA G vs us:=by intro vs hvs;obtain⟨us,h1,h2⟩:=all _ _ hvs;refine⟨us,?_,h2⟩;rw[sF,Sem.run_bind,Array.mapM_eq_mapM_toList,Sem.run_map,h1];rfl
 split at h
 ·rename_i x hx;cases h;obtain⟨us,h1,h2⟩:=key _ hx;obtain⟨u,rfl⟩:∃u,us=[u]:=by
   have:=h2.1;match us,this with
   |[u],_=>exact⟨u,rfl⟩
  exact⟨u,by simpa using h1,h2.2 0 (by simp) (by simp)⟩
 ·rename_i vs hne hvs;cases h;obtain⟨us,h1,h2⟩:=key _ hvs;have hl:us.toArray.size≠1:=by
   intro e;have e':vs.length=1:=by rw[h2.1];simpa using e
   match vs,e' with
   |[x],_=>exact hne x rfl
  rw[dif_neg hl]at h1;exact⟨_,h1,.tup vs _ (by simpa using h2.1) (fun i p q=>by simpa using h2.2 i p (by simpa using q))⟩
 ·cases h
def Wk(x y:V):Prop:=∀G v,RepV G x v->RepV G y v
theorem Wk.refl(x:V):Wk x x:=fun _ _ h=>h
def zN(n k L d:Nat):Nat->V->V
 |0=>fun v=>v
 |f+1=>fun v=>match v with
  |.vec l k' γ m=>if l=n/\k'=k then .vec L d γ m else .vec l k' γ m
  |.agg cs=>.agg (cs.map (zN n k L d f))
  |.tup cs=>.tup (cs.map (zN n k L d f))
  |.list b es=>.list b (es.map (List.map (zN n k L d f)))
  |v=>v
theorem mH{n k L d:Nat}(f:Nat){v:V}(h:v.isCell=true):(zN n k L d f v).isCell=true:=by
 cases f with
 |zero=>exact h
 |succ f=>
  cases v<;>first|exact h|skip
  simp only[zN]
  split<;>rfl
theorem W7{n k L d:Nat}:∀(f:Nat) {v:V} {u:dp},RepV G v u->RepV G (zN n k L d f v) u
 |0,_,_,h=>h
 |f+1,v,u,h=>by
  have h0:=h;cases h with
  |vec l k' g m b sz C a hb hle ha=>
   simp only[zN]
   split
   ·exact .vec _ _ _ _ b sz C a hb hle ha
   ·exact .vec _ _ _ _ b sz C a hb hle ha
  |agg cs arr hl hc h=>
   refine .agg _ arr (by simpa using hl) (fun c hc'=>?_) fun i p q=>?_
   ·obtain⟨c',h1,rfl⟩:=dn.1 hc';exact mH f (hc c' h1)
   ·simp only[bj];exact W7 f (h i (by simpa using p) q)
  |tup cs arr hl h=>
   refine .tup _ arr (by simpa using hl) fun i p q=>?_
   simp only[bj]
   exact W7 f (h i (by simpa using p) q)
  |list b es a cap bl off sz arr T fz vs hcap hfull ha hl hv hr=>
   have e:es.length=(es.map (List.map (zN n k L d f))).length:=by simp
   rw[e]at hcap hfull|-
   refine .list b _ a cap bl off sz arr T fz vs hcap hfull (fun hne=>ha (by intro e;subst e;exact hne rfl)) (fun i hi=>?_) (fun i hi j hj=>?_) fun i hi j hj=>?_
   ·simp only[bj,cz];exact hl i (by simpa using hi)
   ·have:=hv i (by simpa using hi) j (by simpa using hj);simp only[bj];exact⟨this.1,mH f this.2⟩
   ·simp only[bj];exact W7 f (hr i (by simpa using hi) j (by simpa using hj))
  |_=>exact h0
def ASY(P:fk)(rs:List ResultVar)(n:Nat)(K:V->St->Prop)(e:Exit)(fr:Fr)(s:St):Prop:=match e with
  |.normal|.ret=>∃up lc r0,s.up=up++[lc]/\up.length+1=n/\F5 P rs fr s=some r0 /\
      ((∃r s2,Wk (DK s 4 r0) r/\zG s ⟨up,lc⟩ s2/\K r s2) \/
       (∃k γ T es d,s.loc.get k=some (γ,.vec T es)/\K (zN n k up.length d 4 r0) ((⟨up,lc⟩:St).put up.length d γ (.vec T es))) \/
       (∃d T,V6 r0=true/\∀γ,K (.vec up.length d γ 0) ((⟨up,lc⟩:St).put up.length d γ (.vec T []))))
  |_=>False
def AJ:Nat->List V->Fr
 |_,[]=>[]
 |i,v::vs=>(i,true,v)::AJ (i+1) vs
theorem dV{tmps:Array dp}:∀{vs:List V} {us:List dp} (i:Nat),RepA G vs us->(∀j (h:j<us.length),tmps[i+j]? = some us[j])->HI G (AJ i vs) tmps
 |[],_,_,_,_=>fun k c v h=>by simp[AJ,Fr.get]at h
 |v::vs,us,i,h,ht=>by
  cases us with
  |nil=>exact absurd h.1 (by simp)
  |cons u us=>
   have ih:=dV (vs:=vs) (us:=us) (i+1) ⟨by simpa using h.1,fun j p q=>h.2 (j+1) (by simpa using p) (by simpa using q)⟩ (fun j hj=>by
    have:=ht (j+1) (by simpa using hj);simpa [Nat.add_assoc,Nat.add_comm 1 j]using this)
   intro k c x hk
   simp only[AJ,Fr.get]at hk
   split at hk
   ·rename_i e;subst e;simp only[bp.injEq,dh.injEq]at hk;obtain⟨rfl,rfl⟩:=hk;have h0:=ht 0 (by simp);exact⟨u,by simpa using h0,fun _=>h.2 0 (by simp) (by simp),fun h=>by cases h⟩
   ·exact ih k c x hk
theorem A5K{f:FuncId}{fn:Func}{c:fj}{args:List V}{K:V->St->Prop}(hf:P.funcs[f]? = some fn)(hb:fn.body=some c)(hc:YT P f)(hsz:args.length<=fn.ntmps)
    (h:BH P (s.up.length+1) fn.ntmps none c (ASY P fn.results.toList (s.up.length+1) K) (AJ 0 args) ⟨s.up++[s.loc],[]⟩):EA P f args s K:=by
  refine⟨hc,fun G vals w R hI hA hR=>?_⟩
  refine callsIn_of_wp_marks hf hb trivial ?_ rfl
  have hvl:vals.size<=fn.ntmps:=by have:=hA.1;simp at this;omega
  have hI0:CE G ⟨s.up++[s.loc],[]⟩ w:=hI.push
  have hRel:I4 (s.up.length+1) fn.ntmps G G (AJ 0 args) ⟨s.up++[s.loc],[]⟩ { tmps:=vals++Array.replicate (fn.ntmps-vals.size) undef,defers:=[] } w :=
    ⟨Gh.le_refl G,hI0,dV 0 hA fun j hj=>by
      have hj':j<vals.size:=by simpa using hj
      rw[dl,Array.getElem?_append_left hj',Array.getElem?_eq_getElem hj']; simp,by simp; omega,by simp,[],rfl,by simp,by simp⟩
  refine wpIn_mono (h G G _ w hRel) fun e a' w' hq=>?_
  obtain⟨G',fr',s',hR',hk⟩:=hq
  have fin:(∃up lc r0,s'.up=up++[lc]/\up.length+1=s.up.length+1/\F5 P fn.results.toList fr' s'=some r0 /\
      ((∃r s2,Wk (DK s' 4 r0) r/\zG s' ⟨up,lc⟩ s2/\K r s2) \/
       (∃k γ T es d,s'.loc.get k=some (γ,.vec T es)/\K (zN (s.up.length+1) k up.length d 4 r0) ((⟨up,lc⟩:St).put up.length d γ (.vec T es))) \/
       (∃d T,V6 r0=true/\∀γ,K (.vec up.length d γ 0) ((⟨up,lc⟩:St).put up.length d γ (.vec T [])))))->LeavesInM (wf none) 0 P fn a'.tmps R a'.defers .returning w':=by
    rintro ⟨up,lc,r0,hup,hlen,hres,hK⟩
    obtain⟨rs,hd,hnd,hrs⟩:=hR'.marks
    rw[hd]
    refine VM (G0:=G) rs G' w' hR'.inv hR'.fr hnd hR'.le hrs fun G1 w1 hI1 hF1 hle1=>?_
    obtain⟨u,hu1,hu2⟩:=AE6 hI1 hF1 hres
    obtain⟨upX,loc'⟩:=s'
    simp only at hup
    subst hup
    rcases hK with⟨r,s2,hw,hS,hK⟩|⟨k,γ,T,es,d,hget,hK⟩|⟨d,T,hn,hK⟩
    · obtain⟨G2,hle2,hI2,hs2⟩:=hI1.shut hS
      exact⟨u,hu1,hR G2 _ u w1 s2 (Gh.le_trans hle1 hle2) hI2 (hw _ _ (T1 hI1 hle2 hs2 4 r0 u hu2)) (by rw[hS.1];simpa using hlen) hK⟩
    · exact⟨u,hu1,hR G1 _ u w1 _ hle1 (hI1.hand hget) (W7 4 hu2) (by rw[St.put_len];simpa using hlen) hK⟩
    · obtain⟨G2,hle2,hI2,hs2⟩:=hI1.leave
      obtain⟨γ,G3,hle3,hI3,hb3,_⟩:=hI2.newNil T 0 up.length d (fun g l' k'=>St.get_putLoc _ l' k')
      refine⟨u,hu1,hR G3 _ u w1 _ (Gh.le_trans hle1 (Gh.le_trans hle2 hle3)) hI3 ?_ (by rw[St.put_len];simpa using hlen) (hK γ)⟩
      have hnil:=mB hn hu2
      cases hnil with
      |list _ _ a cap b off sz arr T' fz vs hcap hfull ha hl hv hr=>
        have:=hfull rfl
        subst this
        exact .vec _ _ _ _ 0 0 0 a hb3 (cp _) (fun h=>absurd rfl h)
  cases e with
  |normal=>exact fin hk
  |ret=>exact fin hk
  |exit id=>exact hk.elim
  |goto l=>exact hk.elim
  |panic ch=>exact hk.elim
  |outgrown=>exact hk.elim
end Go.Pg
namespace Go.Pg
variable {P:fk}{n N:Nat}{ρ:Option Nat}{fr:Fr}{s:St}{K:Exit->Fr->St->Prop}
theorem mI {f : FuncId} {fn : Func} {c : fj} (hf : P.funcs[f]? = some fn) (hb : fn.body = some c) (hn : (fn.name == "runtime.NumGoroutine") = false) : YT P f := by
 intro args w
 simp only[callFunc,Sem.run_bind,run_program,Result.andThen_ok,hf,hn,Bool.false_eq_true,if_false,hb,Option.isNone_some]
 rfl
def OE(ks:List Nat)(fr:Fr):Fr:=match ks with
 |[]=>[]
 |k::r=>match fr.get k with
  |some (c,v)=>(k,c,v)::OE r fr
  |none=>OE r fr
def I7(ks:List Nat)(L:AA):AA:=match ks with
 |[]=>[]
 |k::r=>match L.get k with
  |some (g,v)=>(k,g,v)::I7 r L
  |none=>I7 r L
theorem T5:∀{ks:List Nat} {k:Nat} {x:Bool×V},(OE ks fr).get k=some x->fr.get k=some x
 |[],k,x,h=>by simp[OE,Fr.get]at h
 |j::ks,k,x,h=>by
  unfold OE at h;split at h
  ·rename_i c v hj;simp only[Fr.get]at h;split at h
   ·rename_i e;subst e;rw[hj];exact h
   ·exact T5 h
  ·exact T5 h
theorem PH{L:AA}:∀{ks:List Nat} {k:Nat} {x:Nat×A6},(I7 ks L).get k=some x->L.get k=some x
 |[],k,x,h=>by simp[I7]at h
 |j::ks,k,x,h=>by
  unfold I7 at h;split at h
  ·rename_i c v hj;simp only[AA.get]at h;split at h
   ·rename_i e;subst e;rw[hj];exact h
   ·exact PH h
  ·exact PH h
theorem zO{c:fj}(ks ls:List Nat)(h:BH P n N ρ c K (OE ks fr) ⟨s.up,I7 ls s.loc⟩):BH P n N ρ c K fr s :=
 zM (loc':=I7 ls s.loc) (fun _ _ h=>T5 h) (fun _ _ h=>PH h) h
end Go.Pg
