/- What the owned places become: a new variable, a store, a slice that grows. No program in sight. -/
import Derived.Test.YtmnlpgjklibndaaGreatP1
open Go renaming Value->fj,TypeId->fk,Program->fq,World->fw,Operand->fx
open Option renaming some->bj,map_eq_some_iff->cx,isSome_iff_exists->dv,bind_eq_some_iff->db,isSome_none->dn,map_some->dr
open Nat renaming add_mul->bq,mul_le_mul_right->bx,le_refl->br,zero_add->cr,min_eq_left->dx
open List renaming eq_nil_of_length_eq_zero->bw,take_append_drop->bc,getElem_mem->bf,replicate->bg,length_append->bh,all_eq_true->bn,flatten_cons->bp,take_left'->bt,flatten_append->cj,size_toArray->ck,mem_of_mem_take->cz,length_drop->cd,length_take->cg,replicate_succ->cm,length_pos_iff->cp,getElem?_take->dj,getElem?_eq_getElem->dk,take_of_length_le->dq,take_length->dw,length_map->dc,map_congr_left->dg
open Array renaming getElem?_eq_some_iff->bz,size_append->dz,getElem?_toList->df,length_toList->dh,toList_range->dm,toList_map->dp,range->dt
open Prod renaming mk->cq
namespace Go.Pg
variable {P:fq}{G:Gh}{s:St}{w:fw}
theorem QI.alloc(h:QI G w){o:Obj}(ho:dM o):QI G (w.alloc o):=by
 refine⟨h.1,h.2.1,by rw[World.size_alloc];exact Nat.le_succ_of_le h.2.2.1,fun b c T fz hb hc=>?_⟩;by_cases e:b=w.heap.size
 ·subst e;rw[heap_alloc_new w o]at hc;exact ho _ _ _ (bj.inj hc)
 ·rcases Nat.lt_or_ge b w.heap.size with h1|h1
  ·rw[heap_alloc_old w o b h1]at hc;exact h.2.2.2 _ _ _ _ hb hc
  ·have:(w.alloc o).heap.size=w.heap.size+1:=World.size_alloc ..;have:=(bz.1 hc).1;omega
theorem QI.turn(h:QI G w){w':fw}{b:Nat}(hsame:∀b',b'≠b->w'.heap[b']? = w.heap[b']?)(hsz:w'.heap.size=w.heap.size)(henv:w'.os=w.os/\w'.output=w.output)(hb:∀c T fz,w'.heap[b]? = some (.cells c T fz)->fz=(0,0)):QI G w':=by
 refine⟨henv.1.trans h.1,henv.2.trans h.2.1,by rw[hsz];exact h.2.2.1,fun b' c T fz h1 h2=>?_⟩;by_cases e:b'=b
 ·subst e;exact hb _ _ _ h2
 ·rw[hsame b' e]at h2;exact h.2.2.2 _ _ _ _ h1 h2
theorem CE.new(hI:CE G s w)(o:Obj)(info:Nat×Nat)(r:A6)(l k:Nat)
  (hp:∀g l' k',(s.put l k g r).get l' k'=if l'=l/\k'=k then some (g,r) else s.get l' k')
  (hr:∀(G':Gh) g,G.le G'->G'.be g=some (w.heap.size,info.1,info.2)->HJ G' g (w.alloc o) r) (ho:dM o:=by intro _ _ _ h;cases h<;>rfl) :
  ∃g G',G.le G'/\CE G' (s.put l k g r) (w.alloc o)/\G'.be g=some (w.heap.size,info.1,info.2)/\G'.sl=G.sl:=by
 obtain⟨N,hN⟩:=hI.fresh
 let G':Gh:={ G with be:=fun x=>if x=N then some (w.heap.size,info.1,info.2) else G.be x }
 have hle:G.le G':=⟨fun _ _ h=>h,fun g x h=>by
  show(if g=N then _ else G.be g)=some x;split
  ·rename_i e;rw[e,hN N (br _)]at h;cases h
  ·exact h,rfl,fun _ _ h=>h⟩
 have hbe:G'.be N=some (w.heap.size,info.1,info.2):=if_pos rfl
 have hblk:∀b x,w.heap[b]? = some x->(w.alloc o).heap[b]? = some x:=fun b x h=>by rw[heap_alloc_old w o b (bz.1 h).1];exact h
 have hown:∀{b:Nat} {r':A6},BG G' N r'=some b->b=w.heap.size:=by
  intro b r' h;cases r'<;>simp only[BG,hbe,dr]at h
  ·exact(bj.inj h).symm
  ·split at h
   ·cases h
   ·exact(bj.inj h).symm
  ·exact(bj.inj h).symm
  ·exact(bj.inj h).symm
  ·cases h
 have hold:∀{l' k' g' r' b},s.get l' k'=some (g',r')->BG G' g' r'=some b->BG G g' r'=some b/\b<w.heap.size:=by intro l' k' g' r' b h1 h2;have:=(hI.res _ _ _ _ h1).owned hle h2;exact⟨this,(hI.out _ _ _ _ _ h1 this).2⟩
 have hme:J7 G' (s.put l k N r) (w.alloc o):=hI.me.step hle rfl (fun b d hb=>heap_alloc_old w o b (hI.me.lt b d hb)) (fun l1 k1 g1 r1 b h1 h2=>by
  rw[hp]at h1;split at h1
  ·simp only[bj.injEq,cq.injEq]at h1;obtain⟨rfl,rfl⟩:=h1;exact .inr (Nat.le_of_eq (hown h2).symm)
  ·exact .inl ⟨_,_,_,_,h1,(hold h1 h2).1⟩) fun b d hb=>hI.me.sl b d hb
 refine⟨N,G',hle,⟨fun b o' h=>hblk b o' (hI.sl b o' h),fun l1 k' g' r' h=>?_,fun l1 k1 g1 r1 l2 k2 g2 r2 b h1 h2 h3 h4=>?_,fun l1 k1 g1 r1 b h1 h2=>?_,⟨N+1,fun g hg=>?_⟩,(hI.env.alloc ho:QI G' _),hme⟩,hbe,rfl⟩
 ·rw[hp]at h;split at h
  ·simp only[bj.injEq,cq.injEq]at h;obtain⟨rfl,rfl⟩:=h;exact hr G' _ hle hbe
  ·exact(hI.res _ _ _ _ h).keep hle fun b hb=>heap_alloc_old w o b (hI.out _ _ _ _ _ h hb).2
 ·rw[hp]at h1 h2;split at h1<;>split at h2
  ·rename_i e1 e2;exact⟨e1.1.trans e2.1.symm,e1.2.trans e2.2.symm⟩
  ·simp only[bj.injEq,cq.injEq]at h1;obtain⟨rfl,rfl⟩:=h1;have:=hown h3;have:=(hold h2 h4).2;omega
  ·simp only[bj.injEq,cq.injEq]at h2;obtain⟨rfl,rfl⟩:=h2;have:=hown h4;have:=(hold h1 h3).2;omega
  ·exact hI.sep _ _ _ _ _ _ _ _ _ h1 h2 (hold h1 h3).1 (hold h2 h4).1
 ·rw[hp]at h1;split at h1
  ·simp only[bj.injEq,cq.injEq]at h1;obtain⟨rfl,rfl⟩:=h1;have hb:=hown h2;subst hb;refine⟨?_,by rw[World.size_alloc];omega⟩;cases hs:G.sl w.heap.size with
   |none=>rfl
   |some x=>have:=(bz.1 (hI.sl _ _ hs)).1;omega
  ·obtain⟨h3,h4⟩:=hold h1 h2;exact⟨(hI.out _ _ _ _ _ h1 h3).1,by rw[World.size_alloc];omega⟩
 ·show(if g=N then _ else G.be g)=none;rw[if_neg (by omega)];exact hN g (by omega)
theorem CE.rename(hI:CE G s w){l k g:Nat}{r:A6}{b sz C:Nat}(hget:s.get l k=some (g,r))(hb:G.be g=some (b,sz,C)) :
  ∃g' G',G.le G'/\CE G' (s.put l k g' r) w/\G'.be g'=some (b,sz,C)/\G'.sl=G.sl:=by
 obtain⟨N,hN⟩:=hI.fresh
 let G':Gh:={ G with be:=fun x=>if x=N then some (b,sz,C) else G.be x }
 have hle:G.le G':=⟨fun _ _ h=>h,fun g x h=>by
  show(if g=N then _ else G.be g)=some x;split
  ·rename_i e;rw[e,hN N (br _)]at h;cases h
  ·exact h,rfl,fun _ _ h=>h⟩
 have hbe:G'.be N=some (b,sz,C):=if_pos rfl
 have hbg:G'.be g=some (b,sz,C):=hle.2 _ _ hb
 have hownN:∀r',BG G' N r'=BG G' g r':=by intro r';cases r'<;>simp only[BG,hbe,hbg]
 have hold:∀{l' k' g' r' b'},s.get l' k'=some (g',r')->BG G' g' r'=some b'->BG G g' r'=some b':=fun h1 h2=>(hI.res _ _ _ _ h1).owned hle h2
 have hrr:HJ G' N w r:=by
  have h:=(hI.res _ _ _ _ hget).keep (w':=w) hle fun _ _=>rfl;cases r with
  |dead=>trivial
  |box cs=>obtain⟨b',arr,T,h1,h2⟩:=h;rw[hbg]at h1;exact⟨b',arr,T,hbe.trans h1,h2⟩
  |vec T es=>obtain⟨b',sz',C',h1,h2⟩:=h;rw[hbg]at h1;exact⟨b',sz',C',hbe.trans h1,h2⟩
  |map es=>obtain⟨b',arr,cl,h1,h2⟩:=h;rw[hbg]at h1;exact⟨b',arr,cl,hbe.trans h1,h2⟩
  |loop fr ps asg body N st=>obtain⟨b',r,h1,h2⟩:=h;rw[hbg]at h1;exact⟨b',r,hbe.trans h1,h2⟩
 have hme:J7 G' (s.put l k N r) w:=hI.me.step hle rfl (fun _ _ _=>rfl) (fun l1 k1 g1 r1 b h1 h2=>by
  rw[St.get_put s hget]at h1;split at h1
  ·simp only[bj.injEq,cq.injEq]at h1;obtain⟨rfl,rfl⟩:=h1;rw[hownN]at h2;exact .inl ⟨_,_,_,_,hget,hold hget h2⟩
  ·exact .inl ⟨_,_,_,_,h1,hold h1 h2⟩) fun b d hb=>hI.me.sl b d hb
 refine⟨N,G',hle,⟨hI.sl,fun l1 k' g' r' h=>?_,fun l1 k1 g1 r1 l2 k2 g2 r2 b' h1 h2 h3 h4=>?_,fun l1 k1 g1 r1 b' h1 h2=>?_,⟨N+1,fun g hg=>?_⟩,hI.env,hme⟩,hbe,rfl⟩
 ·rw[St.get_put s hget]at h;split at h
  ·simp only[bj.injEq,cq.injEq]at h;obtain⟨rfl,rfl⟩:=h;exact hrr
  ·exact(hI.res _ _ _ _ h).keep hle fun _ _=>rfl
 ·rw[St.get_put s hget]at h1 h2;split at h1<;>split at h2
  ·rename_i e1 e2;exact⟨e1.1.trans e2.1.symm,e1.2.trans e2.2.symm⟩
  ·rename_i e1 e2;simp only[bj.injEq,cq.injEq]at h1;obtain⟨rfl,rfl⟩:=h1;rw[hownN]at h3;obtain⟨a1,a2⟩:=hI.sep _ _ _ _ _ _ _ _ _ hget h2 (hold hget h3) (hold h2 h4);exact absurd ⟨a1.symm,a2.symm⟩ e2
  ·rename_i e1 e2;simp only[bj.injEq,cq.injEq]at h2;obtain⟨rfl,rfl⟩:=h2;rw[hownN]at h4;obtain⟨a1,a2⟩:=hI.sep _ _ _ _ _ _ _ _ _ h1 hget (hold h1 h3) (hold hget h4);exact absurd ⟨a1,a2⟩ e1
  ·exact hI.sep _ _ _ _ _ _ _ _ _ h1 h2 (hold h1 h3) (hold h2 h4)
 ·rw[St.get_put s hget]at h1;split at h1
  ·simp only[bj.injEq,cq.injEq]at h1;obtain⟨rfl,rfl⟩:=h1;rw[hownN]at h2;exact hI.out _ _ _ _ _ hget (hold hget h2)
  ·exact hI.out _ _ _ _ _ h1 (hold h1 h2)
 ·show(if g=N then _ else G.be g)=none;rw[if_neg (by omega)];exact hN g (by omega)
theorem CE.turn(hI:CE G s w){w':fw}{l k g:Nat}{r r':A6}{b:Nat}(hget:s.get l k=some (g,r))(hown:BG G g r=some b)(hown':BG G g r'=some b)
  (hsame:∀b',b'≠b->w'.heap[b']? = w.heap[b']?) (hsz:w'.heap.size=w.heap.size) (henv:w'.os=w.os/\w'.output=w.output)
  (hr:HJ G g w' r') (hfz:∀c T fz,w'.heap[b]? = some (.cells c T fz)->fz=(0,0)):CE G (s.put l k g r') w':=by
 have hne:∀{l' k' g' r'' b'},s.get l' k'=some (g',r'')->BG G g' r''=some b'->¬(l'=l/\k'=k)->b'≠b:=by intro l' k' g' r'' b' h1 h2 h3 e;subst e;obtain⟨e1,e2⟩:=hI.sep _ _ _ _ _ _ _ _ _ h1 hget h2 hown;exact h3 ⟨e1,e2⟩
 have hme:J7 G (s.put l k g r') w':=hI.me.step (Gh.le_refl G) rfl (fun b0 d hb=>hsame b0 fun e=>by
  subst e;rw[hI.me.ow _ _ _ _ _ hget hown]at hb;cases hb) (fun l1 k1 g1 r1 b0 h1 h2=>by
  rw[St.get_put s hget]at h1;split at h1
  ·simp only[bj.injEq,cq.injEq]at h1;obtain⟨rfl,rfl⟩:=h1;rw[hown']at h2;exact .inl ⟨_,_,_,_,hget,hown.trans h2⟩
  ·exact .inl ⟨_,_,_,_,h1,h2⟩) fun b d hb=>hI.me.sl b d hb
 refine⟨fun b' o h=>?_,fun l' k' g' r'' h=>?_,fun l1 k1 g1 r1 l2 k2 g2 r2 b' h1 h2 h3 h4=>?_,fun l1 k1 g1 r1 b' h1 h2=>?_,hI.fresh,hI.env.turn hsame hsz henv hfz,hme⟩
 ·have:b'≠b:=by intro e;subst e;rw[(hI.out _ _ _ _ _ hget hown).1]at h;cases h
  rw[hsame b' this];exact hI.sl _ _ h
 ·rw[St.get_put s hget]at h;split at h
  ·simp only[bj.injEq,cq.injEq]at h;obtain⟨rfl,rfl⟩:=h;exact hr
  ·rename_i hx;exact(hI.res _ _ _ _ h).keep (Gh.le_refl G) fun b' hb'=>hsame b' (hne h hb' hx)
 ·rw[St.get_put s hget]at h1 h2;split at h1<;>split at h2
  ·rename_i e1 e2;exact⟨e1.1.trans e2.1.symm,e1.2.trans e2.2.symm⟩
  ·rename_i e1 e2;simp only[bj.injEq,cq.injEq]at h1;obtain⟨rfl,rfl⟩:=h1;have:b'=b:=by rw[hown']at h3;exact(bj.inj h3).symm
   exact absurd this (hne h2 h4 e2)
  ·rename_i e1 e2;simp only[bj.injEq,cq.injEq]at h2;obtain⟨rfl,rfl⟩:=h2;have:b'=b:=by rw[hown']at h4;exact(bj.inj h4).symm
   exact absurd this (hne h1 h3 e1)
  ·exact hI.sep _ _ _ _ _ _ _ _ _ h1 h2 h3 h4
 ·rw[St.get_put s hget]at h1;rw[hsz];split at h1
  ·simp only[bj.injEq,cq.injEq]at h1;obtain⟨rfl,rfl⟩:=h1;rw[hown']at h2;cases h2;exact hI.out _ _ _ _ _ hget hown
  ·exact hI.out _ _ _ _ _ h1 h2
theorem CE.write(hI:CE G s w){l k g:Nat}{r r':A6}{b:Nat}(hget:s.get l k=some (g,r))(hown:BG G g r=some b)(hown':BG G g r'=some b)(cells:Array fj)
  (hr:HJ G g (w.setRow b cells) r') (hh:∃arr T,w.heap[b]? = some (.cells arr T (0,0))):CE G (s.put l k g r') (w.setRow b cells) :=
 hI.turn hget hown hown' (fun b' h=>setRow_other w b b' cells h) (by simp[World.setRow]) ⟨rfl,rfl⟩ hr fun c T fz h=>by obtain⟨arr,T',hh⟩:=hh;rw[setRow_heap w b arr _ T' _ hh]at h;cases h;rfl
theorem YS{b:Nat}{o:Obj}(hlt:b<w.heap.size)(ho:dM o:=by intro _ _ _ h;cases h):∀c T fz,(w.putObj b o).heap[b]? = some (.cells c T fz)->fz=(0,0):=fun c T fz h=>by rw[World.putObj_heap_same hlt]at h;exact ho _ _ _ (bj.inj h)
theorem CE.congr{s':St}(hI:CE G s w)(h:∀l k,s'.get l k=s.get l k):CE G s' w :=
  ⟨hI.sl,fun l k g r e=>hI.res l k g r (by rw[<- h]; exact e),fun l k g r l' k' g' r' b e1 e2=>hI.sep l k g r l' k' g' r' b (by rw[<- h]; exact e1) (by rw[<- h]; exact e2),
   fun l k g r b e=>hI.out l k g r b (by rw[<- h]; exact e),hI.fresh,hI.env,hI.me.step (Gh.le_refl G) rfl (fun _ _ _=>rfl) (fun l k g r _ e1 e2=>.inl ⟨l,k,g,r,by rw[<- h]; exact e1,e2⟩) fun b d hb=>hI.me.sl b d hb⟩
theorem CE.congr'{s':St}(hI:CE G s w)(h:∀l k x,s'.get l k=some x->s.get l k=some x):CE G s' w :=
  ⟨hI.sl,fun l k g r e=>hI.res l k g r (h _ _ _ e),fun l k g r l' k' g' r' b e1 e2=>hI.sep l k g r l' k' g' r' b (h _ _ _ e1) (h _ _ _ e2),
   fun l k g r b e=>hI.out l k g r b (h _ _ _ e),hI.fresh,hI.env,hI.me.step (Gh.le_refl G) rfl (fun _ _ _=>rfl) (fun l k g r _ e1 e2=>.inl ⟨l,k,g,r,h _ _ _ e1,e2⟩) fun b d hb=>hI.me.sl b d hb⟩
theorem CE.drop(hI:CE G s w){l k g g':Nat}{r:A6}(hget:s.get l k=some (g,r)):CE G (s.put l k g' .dead) w:=by
 have hme:J7 G (s.put l k g' .dead) w:=hI.me.step (Gh.le_refl G) rfl (fun _ _ _=>rfl) (fun l1 k1 g1 r1 b h1 h2=>by
  rw[St.get_put s hget]at h1;split at h1
  ·cases h1;cases h2
  ·exact .inl ⟨_,_,_,_,h1,h2⟩) fun b d hb=>hI.me.sl b d hb
 refine⟨hI.sl,fun l' k' g'' r'' h=>?_,fun l1 k1 g1 r1 l2 k2 g2 r2 b' h1 h2 h3 h4=>?_,fun l1 k1 g1 r1 b' h1 h2=>?_,hI.fresh,hI.env,hme⟩
 ·rw[St.get_put s hget]at h;split at h
  ·cases h;trivial
  ·exact hI.res _ _ _ _ h
 ·rw[St.get_put s hget]at h1 h2;split at h1
  ·cases h1;cases h3
  ·split at h2
   ·cases h2;cases h4
   ·exact hI.sep _ _ _ _ _ _ _ _ _ h1 h2 h3 h4
 ·rw[St.get_put s hget]at h1;split at h1
  ·cases h1;cases h2
  ·exact hI.out _ _ _ _ _ h1 h2
theorem CE.lose(hI:CE G s w){w':fw}{l k g g':Nat}{r:A6}{b:Nat}(hget:s.get l k=some (g,r))(hown:BG G g r=some b)
  (hsame:∀b',b'≠b->w'.heap[b']? = w.heap[b']?) (hsz:w'.heap.size=w.heap.size) (henv:w'.os=w.os/\w'.output=w.output) (hfz:∀c T fz,w'.heap[b]? = some (.cells c T fz)->fz=(0,0)):CE G (s.put l k g' .dead) w':=by
 have hD:=hI.drop (g':=g') hget
 have hne:∀{l' k' g'' r'' b'},(s.put l k g' .dead).get l' k'=some (g'',r'')->BG G g'' r''=some b'->b'≠b:=by
  intro l' k' g'' r'' b' h1 h2 e;subst e;rw[St.get_put s hget]at h1;split at h1
  ·cases h1;cases h2
  ·rename_i h3;obtain⟨e1,e2⟩:=hI.sep _ _ _ _ _ _ _ _ _ h1 hget h2 hown;exact h3 ⟨e1,e2⟩
 refine⟨fun b' o h=>?_,fun l' k' g'' r'' h=>(hD.res _ _ _ _ h).keep (Gh.le_refl G) fun b' hb'=>hsame b' (hne h hb'),hD.sep,fun l' k' g'' r'' b' h1 h2=>?_,hI.fresh,hI.env.turn hsame hsz henv hfz,hD.me.step (Gh.le_refl G) rfl (fun b0 d hb=>hsame b0 fun e=>by
  subst e;rw[hI.me.ow _ _ _ _ _ hget hown]at hb;cases hb) (fun l k g r b h1 h2=>.inl ⟨l,k,g,r,h1,h2⟩) fun b d hb=>hI.me.sl b d hb⟩
 ·have:b'≠b:=by intro e;subst e;rw[(hI.out _ _ _ _ _ hget hown).1]at h;cases h
  rw[hsame b' this];exact hI.sl _ _ h
 ·rw[hsz];exact hD.out _ _ _ _ _ h1 h2
theorem CE.grow(hI:CE G s w)(o:Obj)(ho:dM o:=by intro _ _ _ h;cases h<;>rfl):CE G s (w.alloc o) :=
  ⟨fun b x h=>by rw[heap_alloc_old w o b (bz.1 (hI.sl b x h)).1]; exact hI.sl b x h,
   fun l k g r h=>(hI.res _ _ _ _ h).keep (Gh.le_refl G) fun b hb=>heap_alloc_old w o b (hI.out _ _ _ _ _ h hb).2,
   hI.sep,fun l k g r b h1 h2=>⟨(hI.out _ _ _ _ _ h1 h2).1,by have:=(hI.out _ _ _ _ _ h1 h2).2; rw[World.size_alloc]; omega⟩,hI.fresh,hI.env.alloc ho,hI.me.step (Gh.le_refl G) rfl (fun b d hb=>heap_alloc_old w o b (hI.me.lt b d hb)) (fun l k g r b h1 h2=>.inl ⟨l,k,g,r,h1,h2⟩) fun b d hb=>hI.me.sl b d hb⟩
theorem CE.drawn(hI:CE G s w)(n:Nat):CE G s { w with drawn:=n } :=
 ⟨hI.sl,fun _ _ _ _ h=>(hI.res _ _ _ _ h).keep (Gh.le_refl G) fun _ _=>rfl,hI.sep,hI.out,hI.fresh,hI.env,hI.me.step (Gh.le_refl G) rfl (fun _ _ _=>rfl) (fun l k g r _ h1 h2=>.inl ⟨l,k,g,r,h1,h2⟩) fun b d hb=>hI.me.sl b d hb⟩
theorem CE.lock(hI:CE G s w)(o:Obj)(ho:dM o:=by intro _ _ _ h;cases h<;>rfl):∃G',G.le G'/\CE G' s (w.alloc o)/\G'.sl w.heap.size=some o/\(∀b,b≠w.heap.size->G'.sl b=G.sl b):=by
 let G':Gh:={ G with sl:=fun b=>if b=w.heap.size then some o else G.sl b };have hnone:G.sl w.heap.size=none:=by
  cases hs:G.sl w.heap.size with
  |none=>rfl
  |some x=>have:=(bz.1 (hI.sl _ _ hs)).1;omega
 have hle:G.le G':=⟨fun b x h=>by
  show(if b=_ then _ else G.sl b)=some x;split
  ·rename_i e;rw[e,hnone]at h;cases h
  ·exact h,fun _ _ h=>h,rfl,fun _ _ h=>h⟩
 refine⟨G',hle,⟨fun b x h=>?_,fun l k g r h=>(hI.res _ _ _ _ h).keep hle fun b hb=>heap_alloc_old w o b (hI.out _ _ _ _ _ h hb).2,hI.sep,fun l k g r b h1 h2=>?_,hI.fresh,(hI.env.alloc ho:QI G' _),hI.me.step hle rfl (fun b d hb=>heap_alloc_old w o b (hI.me.lt b d hb)) (fun l k g r b h1 h2=>.inl ⟨l,k,g,r,h1,h2⟩) fun b d hb=>(if_neg (by have:=hI.me.lt b d hb;omega)).trans (hI.me.sl b d hb)⟩,if_pos rfl,fun b hb=>if_neg hb⟩
 ·have h':(if b=w.heap.size then some o else G.sl b)=some x:=h;split at h'
  ·rename_i e;subst e;cases h';exact heap_alloc_new w _
  ·rw[heap_alloc_old w o b (bz.1 (hI.sl b x h')).1];exact hI.sl b x h'
 ·have:=hI.out l k g r b h1 h2;refine⟨?_,by rw[World.size_alloc];omega⟩;show(if b=_ then _ else G.sl b)=none;rw[if_neg (by omega)];exact this.1
end Go.Pg
namespace Go.Pg
def putD(fr:Fr)(d:Option Tmp)(c:Bool)(v:V):Fr:=match d with
 |some d=>fr.put d c v
 |none=>fr
def A8{α:Type}(cs:List α)(off:Nat)(ds:List α):List α:=cs.take off++ds++cs.drop (off+ds.length)
def C4(place:Nat->Option (Nat×Nat))(cs:List V):List (Nat×V)->Option (List V)
 |[]=>some cs
 |(i,v)::rest=>match place i with
  |none=>none
  |some (off,size)=>if (BA v).length=size/\off+(BA v).length<=cs.length then C4 place (A8 cs off (BA v)) rest else none
def BD:V->Bool
 |.tup _=>false
 |_=>true
def CP(P:fq)(T:fk)(parts:List (Nat×V)):Option V:=match B8 P T,P.underlying T with
 |some z,some (.struct fs)=>if (parts.all fun p=>BD p.2)/\(fs.all fun f=>(P.info? f.type).isSome) then(C4 (fun i=>(fs[i]?).map fun f=>(f.offset,P.cellsOf f.type)) z parts).map .agg else none
 |some z,some (.array _ e)=>if (parts.all fun p=>BD p.2)/\(P.info? e).isSome then(C4 (fun i=>some (i*P.cellsOf e,P.cellsOf e)) z parts).map .agg else none
 |_,_=>none
def cB(P:fq)(e:fk):Bool:=match B8 P e with
 |some z=>z.length==P.cellsOf e
 |none=>false
def CL(size:Nat)(cs:List V):Nat->List (List V)
 |0=>[]
 |n+1=>cs.take size::CL size (cs.drop size) n
def B9(P:fq)(T:fk)(len:Nat)(parts:List (Nat×V)):Option V:=match BR P T with
 |some (none,e)=>match B8 P e with
  |some z=>if (parts.all fun p=>BD p.2)/\z.length=P.cellsOf e/\0<P.cellsOf e/\len*P.cellsOf e<=2 ^ 24 then
    (C4 (fun i=>some (i*P.cellsOf e,P.cellsOf e)) (bg len z).flatten parts).map fun cs=>.list true (CL (P.cellsOf e) cs len) else none
  |none=>none
 |_=>none
def DA(r:fx->Option V):List (Nat×fx)->Option (List (Nat×V))
 |[]=>some []
 |(i,x)::rest=>match r x,DA r rest with
  |some v,some l=>some ((i,v)::l)
  |_,_=>none
def elemsOf(s:St):V->Option (List (List V))
 |.list _ es=>some es
 |.nil=>some []
 |.vec l k g n=>match s.get l k with
  |some (g',.vec _ es)=>if g'=g/\n<=es.length then some (es.take n) else none
  |_=>none
 |.vtl l k g i n=>match s.get l k with
  |some (g',.box cs)=>if g'=g/\i+n<=cs.length then some (((cs.drop i).take n).map fun c=>[c]) else none
  |_=>none
 |.raw (.slice _ 0 _)=>some []
 |_=>none
theorem VG(s s':St)(v:fj):elemsOf s (.raw v)=elemsOf s' (.raw v):=by
 cases v with
 |slice a n c=>cases n<;>rfl
 |_=>rfl
def YT(P:fq)(f:FuncId):Prop:=∀(args:Array fj) (w:fw),(callFunc f args).run P w=.ok (.enter f args) w
def EA(P:fq)(f:FuncId)(args:List V)(s:St)(K:V->St->Prop):Prop :=
 YT P f/\∀(G:Gh) (vals:Array fj) (w:fw) (R:Ending->fw->Prop),CE G s w->RepA G args vals.toList ->
  (∀G' r v w' s',G.le G'->CE G' s' w'->RepV G' r v->s'.up.length=s.up.length->K r s'->R (.returned v) w')->CallsIn Fence.wide 0 P f vals w R
def AOM(P:fq)(g:Bool)(f:FuncId)(args:List V)(s:St)(K:V->St->Prop):Prop :=
 (g=true/\EA P f args s K)\/∃r,(g=true->EA P f args s fun r' s'=>r'=r/\s'=s)/\K r s
def BH(P:fq)(n N:Nat)(ρ:Option Nat)(c:Code)(K:Exit->Fr->St->Prop)(fr:Fr)(s:St):Prop :=
 ∀(G0 G:Gh) (a:Act) (w:fw),I4 n N G0 G fr s a w->c.wpIn (wf ρ) 0 P (K7 n N G0 K) a w
def HM:Fr->List Tmp->List V->Fr
 |fr,p::ps,v::vs=>HM (fr.put p true v) ps vs
 |fr,_,_=>fr
def DK(s:St):Nat->V->V
 |0,v=>v
 |f+1,v=>match v with
  |.list _ es=>.list false es
  | .vec l k g m=>if l=s.up.length then(match s.loc.get k with
    |some (g',.vec _ es)=>if g'=g/\m<=es.length then .list false (es.take m) else v
    | _=>v) else v
  | .ptr l k g off=>if l=s.up.length then(match s.loc.get k with
    |some (g',.box cs)=>if g'=g then .ref ((cs.map (DK s f)).drop off) else v
    | _=>v) else v
  |.agg cs=>.agg (cs.map (DK s f))
  |.tup cs=>.tup (cs.map (DK s f))
  |.fn g xs ys=>.fn g (xs.map (DK s f)) (ys.map (DK s f))
  |v=>v
def FO(s:St)(v:V):V:=match v with
 |.list f es=>.list f es
 |v=>DK s 4 v
def HN(s:St):A6->A6
 |.box cs=>.box (cs.map (FO s))
 |.vec T es=>.vec T (es.map (List.map (FO s)))
 |.map es=>.map (es.map fun e=>(FO s e.1,FO s e.2))
 |.loop fr ps asg body N st=>.loop (fr.map fun x=>(x.1,x.2.1,FO s x.2.2)) ps asg body N st
 |.dead=>.dead
def zG(s s0 s2:St):Prop:=s2.up.length=s0.up.length/\∀l k g r,s2.get l k=some (g,r)->∃r0,s0.get l k=some (g,r0)/\(r=r0\/r=HN s r0)
def gR(n l q γ:Nat)(k:V->St->Prop)(e:Exit)(_:Fr)(s:St):Prop:=∃up lc s2 fr0 ps asg body N,s.up=up++[lc]/\up.length+1=n/\l<=up.length/\s.get l q=some (γ,.loop fr0 ps asg body N .busy)/\zG s ⟨up,lc⟩ s2/\(∃r',s2.get l q=some (γ,r'))/\match e with
 |.normal=>k (.bool true) (s2.put l q γ (.loop fr0 ps asg body N .ready))
 |.ret=>k (.bool false) (s2.put l q γ (.loop fr0 ps asg body N (.left .ret)))
 |.exit id=>k (.bool false) (s2.put l q γ (.loop fr0 ps asg body N (.left (.exit id))))
 |_=>False
def YU(P:fq)(l q γ:Nat)(fr0:Fr)(ps:List Tmp)(asg body:Code)(N:Nat)(vs:List V)(s:St)(k:V->St->Prop):Prop :=
 vs.length=ps.length/\ps.all (fun p=>Nat.blt p N)=true/\∀ρ:Option Nat,BH P (s.up.length+1) N ρ asg (fun e fr1 s1=>e=.normal/\∃fr' ps' asg' body' N',s1.get l q=some (γ,.loop fr' ps' asg' body' N' .ready) /\
  BH P (s.up.length+1) N ρ body (gR (s.up.length+1) l q γ k) fr1 (s1.put l q γ (.loop fr' ps' asg' body' N' .busy))) (HM fr0 ps vs) ⟨s.up++[s.loc],[]⟩
def V6:V->Bool
 |.nil=>true
 |.list true []=>true
 |_=>false
def JH:V->List (List V)->Option (List (List V))
 |.nil,_=>some []
 |.list true [],_=>some []
 |.list true (e::es),_::_=>some (e::es)
 |_,_=>none
def gS(n:Nat)(ys es:List (List V)):List (List V):=match ys with
 |[]=>es
 |y::_=>if es.all (fun x=>x.length==y.length)=true then es.take n else es
def Q5(n:Nat)(ys:List (List V))(o:Option (Nat×A6)):Option (Nat×A6):=match o with
 |some (γ,.vec U es)=>some (γ,.vec U (gS n ys es))
 |o=>o
theorem TX(n:Nat)(ys es:List (List V)):gS n ys es=es\/(gS n ys es=es.take n/\∃y∈ys,∀x∈es,x.length=y.length):=by
 cases ys with
 |nil=>exact .inl rfl
 |cons y ys=>
  by_cases h:es.all (fun x=>x.length==y.length)=true
  ·exact .inr ⟨if_pos h,y,by simp,fun x hx=>by simpa using bn.1 h x hx⟩
  ·exact .inl (if_neg h)
theorem LN{n:Nat}{ys es:List (List V)}(h:n=es.length):gS n ys es=es:=by
 rcases TX n ys es with h1|h1
 ·exact h1
 ·rw[h1.1,h,dw]
theorem PF{n γ:Nat}{ys es:List (List V)}{U:fk}{o:Option (Nat×A6)}(h:Q5 n ys o=some (γ,.vec U es)):∃es0,o=some (γ,.vec U es0)/\es=gS n ys es0:=by
 cases o with
 |none=>cases h
 |some x=>
  obtain⟨g,r⟩:=x
  cases r with
  |vec U' es0=>cases h;exact⟨es0,rfl,rfl⟩
  |_=>cases h
def ASX:List Nat:=[]
def sealD:Option Tmp->Bool
 |some d=>ASX.contains d
 |none=>false
def AON:V->Option (List (List V))
 |.list _ es=>some es
 |.nil=>some []
 |_=>none
def N9(P:fq)(T:fk)(xv yv:V):Option V:=match BR P T,xv,AON yv with
 |some (none,e),.list true [],some ys=>if cB P e=true/\ys.all (fun y=>y.length==P.cellsOf e)=true/\ys.length<=maxLen/\ys.length*P.bytesOf e<=140737488355328 then some (.list false ys) else none
 |_,_,_=>none
def appS(P:fq)(g:Bool)(o:Oper)(args:Array fx)(Ts:Array fk)(fr:Fr):Option V:=match args.toList,Ts.toList with
 |[x,y],[T,U]=>if g=true/\sealD o.dst=true/\T=U then(DU g fr x).bind fun xv=>(DU g fr y).bind fun yv=>N9 P T xv yv else none
 |_,_=>none
def EF(P:fq)(g:Bool)(o:Oper)(fr:Fr)(s:St)(k:Fr->St->Prop):Prop :=
 match o.op with
 |.alloc T=>match o.dst,B8 P T with
  |some d,some cs=>g=true/\∀γ,k (fr.put d true (.ptr s.up.length d γ 0)) (s.put s.up.length d γ (.box cs))
  |_,_=>False
 |.box _ x=>match o.dst,DU g fr x with
  |some d,some v=>g=true/\BD v=true/\∀γ,k (fr.put d true (.ptr s.up.length d γ 0)) (s.put s.up.length d γ (.box (BA v)))
  |_,_=>False
 |.makeMap _ r=>match o.dst,r with
  |some d,none=>g=true/\∀γ,k (fr.put d true (.mp s.up.length d γ)) (s.put s.up.length d γ (.map []))
  |_,_=>False
 |.makeSlice T x y=>match o.dst,DU g fr x,DU g fr y,BR P T with
  |some d,some (.int _ n),some (.int _ m),some (none,e)=>match B8 P e with
   |some z=>g=true/\0<=n/\m=n/\z.length=P.cellsOf e/\n.toNat*P.bytesOf e<=140737488355328/\n.toNat<=maxLen /\
     ∀γ,k (fr.put d true (.vec s.up.length d γ n.toNat)) (s.put s.up.length d γ (.vec e (bg n.toNat z)))
   |none=>False
  |_,_,_,_=>False
 |.store T x y=>match DU g fr x,DU g fr y with
  |some (.ptr l q γ off),some v=>match s.get l q with
   |some (γ',.box cs)=>g=true/\γ'=γ/\BD v=true/\0<P.cellsOf T/\(BA v).length=P.cellsOf T/\off+P.cellsOf T<=cs.length/\o.dst=none/\k fr (s.put l q γ (.box (A8 cs off (BA v))))
   |_=>False
  |some (.eptr l q γ i off),some v=>match s.get l q with
   |some (γ',.vec U es)=>g=true/\γ'=γ/\BD v=true/\0<P.cellsOf T/\(BA v).length=P.cellsOf T/\i<es.length/\off+P.cellsOf T<=(es.getD i []).length/\o.dst=none /\
     k fr (s.put l q γ (.vec U (es.set i (A8 (es.getD i []) off (BA v)))))
   |_=>False
  |_,_=>False
 |.pick c a b=>match DU g fr c,rd fr a,rd fr b with
  |some (.bool c),some (ca,.bool a),some (cb,.bool b)=>(g=true->c=true->ca=true)/\(g=true->c=false->cb=true)/\k (putD fr o.dst g (.bool (if c then a else b))) s
  |_,_,_=>False
 |.build T parts=>match DA (DU g fr) parts.toList with
  |some ps=>match CP P T ps with
   |some v=>k (putD fr o.dst g v) s
   |none=>False
  |none=>False
 |.buildSlice T len parts=>match DA (DU g fr) parts.toList with
  |some ps=>match B9 P T len ps with
   |some v=>k (putD fr o.dst g v) s
   |none=>False
  |none=>False
 |.mapUpdate T x i y|.insert T x i y=>match DU g fr x,DU g fr i,DU g fr y with
  |some m,some i,some v=>match I5 P s T m i v with
   |some (l,q,γ,es)=>g=true/\o.dst=none/\k fr (s.put l q γ (.map es))
   |none=>False
  |_,_,_=>False
 |.call { callee:=.builtin .clear,args,argTypes }=>match args.toList,argTypes.toList,o.dst with
  |[x],[T],none=>match BR P T,DU g fr x with
   |some (none,e),some (.vtl l q γ i n)=>match s.get l q,B8 P e with
    |some (γ',.vec U es),some z=>g=true/\γ'=γ/\U=e/\i+n<=es.length/\es.all (fun y=>y.length==z.length)=true/\k fr (s.put l q γ (.vec U (es.take i++bg n z++es.drop (i+n))))
    |_,_=>False
   |_,_=>False
  |_,_,_=>False
 |.call { callee:=.builtin .copy,args,argTypes }=>match args.toList,argTypes.toList with
  |[x,y],[T,_]=>match BR P T,DU g fr x,(DU g fr y).bind (elemsOf s)with
   |some (none,e),some (.vtl l q γ i n),some ys=>match s.get l q with
    |some (γ',.box cs)=>g=true/\γ'=γ/\P.cellsOf e=1/\ys.all (fun y=>y.length==1)=true/\i+n<=cs.length/\k (putD fr o.dst true (.int .i64 ((min ys.length n:Nat):Int))) (s.put l q γ (.box (A8 cs i (ys.take n).flatten)))
    |_=>False
   |_,_,_=>False
  |_,_=>False
 |.call { callee:=.builtin .append,args,argTypes }=>(∃v,appS P g o args argTypes fr=some v/\k (putD fr o.dst g v) s)\/match args.toList,argTypes.toList,o.dst with
  |[x,y],[T,U],some d=>T=U/\match BR P T,DU g fr x,(DU g fr y).bind (elemsOf s)with
   |some (none,e),some xv,some ys=>match JH xv ys with
    |some es=>g=true/\0<P.cellsOf e/\cB P e=true/\es.all (fun y=>y.length==P.cellsOf e)=true/\ys.all (fun y=>y.length==P.cellsOf e)=true/\es.length+ys.length<=maxLen/\(es.length+ys.length)*P.bytesOf e<=140737488355328 /\
     ∀γ,k (fr.put d true (.vec s.up.length d γ (es++ys).length)) (s.put s.up.length d γ (.vec e (es++ys)))
    |none=>match xv with
    |.vec l q γ n=>match Q5 n ys (s.get l q)with
     |some (γ',.vec U es)=>g=true/\γ'=γ/\U=e/\n=es.length/\0<P.cellsOf e/\cB P e=true/\es.all (fun y=>y.length==P.cellsOf e)=true/\ys.all (fun y=>y.length==P.cellsOf e)=true /\
      es.length+ys.length<=maxLen/\(es.length+ys.length)*P.bytesOf e<=140737488355328 /\
      ∀γ',k (fr.put d true (.vec l q γ' (es.length+ys.length))) (s.put l q γ' (.vec e (es++ys)))
     |_=>False
    |_=>False
   |_,_,_=>False
  |_,_,_=>False
 |.call { callee:=.value f,args,.. }=>match DU g fr f,args.toList.mapM (DU g fr)with
  |some (.fn fid first cap),some vs=>AOM P g fid ((first++vs++cap).map weakV) s fun r s'=>k (putD fr o.dst g r) s'
  |some (.yld l q γ),some vs=>match s.get l q with
   |some (γ',.loop fr0 ps asg body N .ready)=>g=true/\γ'=γ/\YU P l q γ fr0 ps asg body N vs s fun r s'=>k (putD fr o.dst true r) s'
   |_=>False
  |_,_=>False
 |_=>match JG P o s (DU g fr)with
  |some v=>k (putD fr o.dst g v) s
  |none=>False
def A5I(P:fq)(g:Bool)(o:Oper)(fr:Fr)(s:St)(k:Fr->St->Prop):Prop:=∃T len parts d e es ps,o.op=.buildSlice T len parts/\g=true/\o.dst=some d/\BR P T=some (none,e)/\DA (DU true fr) parts.toList=some ps /\
 B9 P T len ps=some (.list true es)/\es≠[]/\es.length<=maxLen/\∀γ,k (fr.put d true (.vec s.up.length d γ es.length)) (s.put s.up.length d γ (.vec e es))
def FB(fr:Fr)(s:St)(fr1:Fr)(s1:St):Prop:=∀(n N:Nat) (G0 G:Gh) (a:Act) (w:fw),I4 n N G0 G fr s a w->∃G',I4 n N G0 G' fr1 s1 a w
def AE0(P:fq)(g:Bool)(o:Oper)(fr:Fr)(s:St)(k:Fr->St->Prop):Prop:=g=true/\∃fr1 s1,FB fr s fr1 s1/\EF P true o fr1 s1 k
def SE(P:fq)(g:Bool)(o:Oper)(fr:Fr)(s:St)(k:Fr->St->Prop):Prop:=EF P g o fr s k\/(g=false/\∃v,k (putD fr o.dst false v) s)\/A5I P g o fr s k\/AE0 P g o fr s k
def VH(P:fq):List (Option (Tmp×Bool))->List Oper->Fr->St->(Fr->St->Prop)->Prop
 |_,[],fr,s,K=>K fr s
 |[],o::rest,fr,s,K=>SE P true o fr s fun fr s=>VH P [] rest fr s K
 |gd::gs,o::rest,fr,s,K=>match NW fr gd with
  |some g=>SE P g o fr s fun fr s=>VH P gs rest fr s K
  |none=>False
def JW(all:List Oper):List (Option (Tmp×Bool))->List Oper->Bool
 |_,[]=>true
 |[],o::rest=>HL all o none&&JW all [] rest
 |gd::gs,o::rest=>HL all o gd&&JW all gs rest
variable {P:fq}{G:Gh}{s:St}{w:fw}
theorem PG{x:V}{v:fj}(hf:BD x=true)(h:RepV G x v):RepL G (BA x) v.cells.toList:=by
 cases x with
 |agg cs=>obtain⟨arr,rfl,hL⟩:=RepL.ofAgg h;exact hL
 |tup vs=>cases hf
 |_=>
  have hc:RepL G [_] [v]:=RepL.cons rfl h (.nil G)
  have:v.cells = #[v]:=by have h1:=h.cell rfl;cases v<;>first|rfl|cases h1
  rw[this];exact hc
theorem lV{v:fj}{x:V}(h:CK v=some x):x.isCell=true:=by unfold CK at h;split at h<;>first|(cases h;rfl)|cases h
theorem YV:∀{vs:List fj} {xs:List V},GP vs=some xs->RepL G xs vs
 |[],xs,h=>by simp[GP]at h;subst h;exact .nil G
 |v::vs,xs,h=>by
  unfold GP at h;split at h
  ·rename_i x l hx hl;cases h;exact .cons (lV hx) (MQ hx) (YV hl)
  ·cases h
theorem J4{T:fk}{cs:List V}(h:B8 P T=some cs):∃z,(zeroValue T).run P w=.ok z w/\RepL G cs z.cells.toList/\∃i,P.info? T=some i/\i.zero=some z:=by
 unfold B8 at h;split at h
 ·rename_i z hz;unfold dN at hz;obtain⟨i,hi,hz⟩:=db.1 hz;exact⟨z,by simp[zeroValue,typeInfo,hi,hz],YV h,i,hi,hz⟩
 ·cases h
theorem IF{cs ds:List V}{vs us:List fj}(h:RepL G cs vs)(h':RepL G ds us)(off:Nat):RepL G (A8 cs off ds) (A8 vs off us):=by unfold A8;rw[h'.1];exact((h.take off).append h').append (h.drop _)
theorem GC{α:Type}{cs ds:List α}{off:Nat}(h:off+ds.length<=cs.length):(A8 cs off ds).length=cs.length:=by simp[A8];omega
theorem dQ{T:fk}{b off:Nat}{arr:Array fj}{T':fk}{v:fj}{us:List fj}(hg:w.heap[b]? = some (.cells arr T' (0,0)))(hu:v.cells.toList=us)(h1:∀u∈us,u.oneCell'=true)
  (hs:us.length=P.cellsOf T) (hp:0<P.cellsOf T) (hl:off+us.length<=arr.size) :
  (Instr.storeAt T (.pointer (some ⟨b,off,none⟩)) v).run P w=.ok () (w.setRow b (A8 arr.toList off us).toArray):=by
 have hst:=run_storeCells_at P b off T' us 0 arr w hg (by omega) h1
 have hz:v.cells.size=P.cellsOf T:=by rw[<-hs,<-hu];simp
 simp only[Nat.add_zero]at hst
 simp[Instr.storeAt,Instr.sureAddr,storeVar,CU (P:=P) (w:=w) hp,hz,hu,hst,A8]
theorem CE.storeBox(hI:CE G s w){l q g off:Nat}{cs:List V}{T:fk}{y:V}{a v:fj}(hget:s.get l q=some (g,.box cs))(ha:RepV G (.ptr l q g off) a)(hy:RepV G y v)(hf:BD y=true)
  (hp:0<P.cellsOf T) (hs:(BA y).length=P.cellsOf T) (hl:off+P.cellsOf T<=cs.length) :
  ∃w',(Instr.storeAt T a v).run P w=.ok () w'/\CE G (s.put l q g (.box (A8 cs off (BA y)))) w':=by
 have hb0:=hI.res _ _ _ _ hget
 obtain⟨b,arr,T',hb,hh,hr⟩:=hb0
 cases ha with
 |ptr _ _ _ _ b' sz C hb'=>
  rw[hb]at hb'
  simp only[bj.injEq,cq.injEq]at hb'
  obtain⟨rfl,rfl,rfl⟩:=hb'
  have hL:=PG hf hy
  have hlen:v.cells.toList.length=P.cellsOf T:=by rw[<-hL.1,hs]
  have hal:arr.toList.length=cs.length:=hr.1.symm
  have hrun:=dQ (P:=P) (w:=w) (T:=T) (off:=off) hh rfl hL.one hlen hp (by rw[hlen];simpa [<-hal]using hl)
  have hown:BG G g (.box cs)=some b:=by simp[BG,hb]
  have hsp:(A8 cs off (BA y)).length=cs.length:=GC (by rw[hs];exact hl)
  refine⟨_,hrun,hI.write hget hown (by simp[BG,hb]) _ ⟨b,_,T',?_,setRow_heap w b arr _ T' _ hh,by simpa using IF hr hL off⟩ ⟨_,_,hh⟩⟩
  rw[hsp];exact hb
theorem lW{es:List (List V)}{i:Nat}{e:List V}{sz:Nat}(hl:∀e∈es,e.length=sz)(he:e.length=sz)(hi:i<es.length):(es.set i e).flatten=A8 es.flatten (i*sz) e:=by
 induction es generalizing i with
 |nil=>simp at hi
 |cons e0 es ih=>
  have h0:e0.length=sz:=hl e0 (by simp)
  have hl':∀e∈es,e.length=sz:=fun e he=>hl e (by simp[he])
  cases i with
  |zero=>simp[A8,he,<-h0]
  |succ i=>
   simp only[List.set_cons_succ,bp]
   rw[ih hl' (by simpa using hi)]
   unfold A8
   rw[show(i+1)*sz=e0.length+i*sz by rw[h0,bq];omega]
   simp only[List.take_append,List.drop_append,Nat.add_assoc,List.append_assoc]
   rw[dq (l:=e0) (by omega),List.drop_eq_nil_of_le (as:=e0) (by omega)]
   simp
theorem Q6{α:Type}(A B C ds:List α){n:Nat}(hn:A.length=n)(h:B.length=ds.length):A8 (A++(B++C)) n ds=A++(ds++C):=by subst hn;simp[A8,<-h]
theorem lX{α:Type}{L us:List α}{n m sz off:Nat}(hn:n<=L.length)(hm:m+sz<=n)(hu:off+us.length<=sz) :
  A8 (L.take n) m (A8 (((L.take n).drop m).take sz) off us)=(A8 L (m+off) us).take n:=by
 obtain⟨A,L1,rfl,hA⟩:∃A L1,L=A++L1/\A.length=m:=⟨L.take m,L.drop m,(bc m L).symm,by simp;omega⟩
 subst hA
 obtain⟨B1,L2,rfl,hB1⟩:∃A L2,L1=A++L2/\A.length=off:=⟨L1.take off,L1.drop off,(bc _ _).symm,by simp at hn|-;omega⟩
 subst hB1
 obtain⟨B2,L3,rfl,hB2⟩:∃A L3,L2=A++L3/\A.length=us.length:=⟨L2.take us.length,L2.drop us.length,(bc _ _).symm,by simp at hn|-;omega⟩
 obtain⟨B3,L4,rfl,hB3⟩:∃A L4,L3=A++L4/\A.length=sz-(B1.length+us.length):=⟨L3.take (sz-(B1.length+us.length)),L3.drop (sz-(B1.length+us.length)),(bc _ _).symm,by simp at hn|-;omega⟩
 obtain⟨C1,C2,rfl,hC1⟩:∃X Y,L4=X++Y/\X.length=n-(A.length+sz):=by have hn':=hn;simp at hn';exact⟨L4.take (n-(A.length+sz)),L4.drop (n-(A.length+sz)),(bc _ _).symm,by simp;omega⟩
 have e1:(A++(B1++(B2++(B3++(C1++C2))))).take n=A++(B1++(B2++(B3++C1))):=by
  have:A++(B1++(B2++(B3++(C1++C2))))=(A++(B1++(B2++(B3++C1))))++C2:=by simp
  rw[this];exact bt (by simp;omega)
 have e2:((A++(B1++(B2++(B3++C1)))).drop A.length).take sz=B1++(B2++B3):=by
  rw[List.drop_left];have:B1++(B2++(B3++C1))=(B1++(B2++B3))++C1:=by simp
  rw[this];exact bt (by simp;omega)
 rw[e1,e2,Q6 B1 B2 B3 us rfl hB2]
 have e3:A++(B1++(B2++(B3++C1)))=A++((B1++(B2++B3))++C1):=by simp
 rw[e3,Q6 A (B1++(B2++B3)) C1 _ rfl (by simp[hB2])]
 have e4:A++(B1++(B2++(B3++(C1++C2))))=(A++B1)++(B2++(B3++(C1++C2))):=by simp
 rw[e4,Q6 (A++B1) B2 _ us (by simp) hB2]
 have e5:(A++B1)++(us++(B3++(C1++C2)))=(A++((B1++(us++B3))++C1))++C2:=by simp
 rw[e5]
 exact(bt (by simp;omega)).symm
theorem CE.storeVec(hI:CE G s w){l q g i off:Nat}{es:List (List V)}{T U:fk}{y:V}{a v:fj}(hget:s.get l q=some (g,.vec U es))(ha:RepV G (.eptr l q g i off) a)(hy:RepV G y v)(hf:BD y=true)
  (hp:0<P.cellsOf T) (hs:(BA y).length=P.cellsOf T) (hi:i<es.length) (hl:off+P.cellsOf T<=(es.getD i []).length) :
  ∃w',(Instr.storeAt T a v).run P w=.ok () w'/\CE G (s.put l q g (.vec U (es.set i (A8 (es.getD i []) off (BA y))))) w':=by
 have hb0:=hI.res _ _ _ _ hget
 obtain⟨b,sz,C,hb,hC,hlen,hmax,hrow⟩:=hb0
 obtain⟨arr,hh,hsz,hr⟩:=hrow (by omega)
 have hgetD:es.getD i []=es[i]:=by simp[List.getD,hi]
 rw[hgetD]at hl|-
 have hes:es[i].length=sz:=hlen _ (bf hi)
 cases ha with
 |eptr _ _ _ _ _ b' sz' C' hb'=>
  rw[hb]at hb'
  simp only[bj.injEq,cq.injEq]at hb'
  obtain⟨rfl,rfl,rfl⟩:=hb'
  have hL:=PG hf hy
  have hvl:v.cells.toList.length=P.cellsOf T:=by rw[<-hL.1,hs]
  have hfl:i*sz+sz<=es.length*sz:=by have:(i+1)*sz<=es.length*sz:=bx _ hi;rw[bq]at this;omega
  have hcap:es.length*sz<=arr.size:=by rw[hsz];exact bx _ hC
  have hrun:=dQ (P:=P) (w:=w) (T:=T) (off:=i*sz+off) hh rfl hL.one hvl hp (by rw[hvl];omega)
  have hown:BG G g (.vec U es)=some b:=by simp[BG,hb];omega
  have hesz:(A8 es[i] off (BA y)).length=sz:=by rw[GC (by rw[hs];exact hl),hes]
  refine⟨_,hrun,hI.write hget hown (by simp[BG,hb];omega) _ ⟨b,sz,C,hb,by simpa using hC,fun e he=>?_,⟨hmax.1,fun h=>by simp at h;subst h;simp at hi⟩,fun _=>⟨_,setRow_heap w b arr _ U _ hh,?_,?_⟩⟩ ⟨_,_,hh⟩⟩
  ·rcases List.mem_or_eq_of_mem_set he with h|h
   ·exact hlen e h
   ·rw[h];exact hesz
  ·rw[ck,GC (by rw[hvl];simp;omega)];simpa using hsz
  ·rw[lW hlen hesz hi,List.length_set];have hfull:RepL G es.flatten (arr.toList.take (es.length*sz)):=hr;have hE:RepL G es[i] ((arr.toList.take (es.length*sz)).drop (i*sz) |>.take sz):=LM hlen hr (dk hi);have hA:=IF hE hL off;have hB:=IF hfull hA (i*sz);have e1:A8 (arr.toList.take (es.length*sz)) (i*sz) (A8 (((arr.toList.take (es.length*sz)).drop (i*sz)).take sz) off v.cells.toList)=((A8 arr.toList (i*sz+off) v.cells.toList).toArray.toList).take (es.length*sz):=by exact lX (by simpa using hcap) hfl (by rw[hvl];omega)
   rw[<-e1];exact hB
end Go.Pg
namespace Go.Pg
variable {P:fq}{G:Gh}{s:St}{w:fw}
theorem lY(off:Nat):∀(vs:List fj) (i:Nat) (cs:Array fj),off+i+vs.length<=cs.size ->
  ((vs.zipIdx i).foldl (fun cs (c,j)=>cs.setIfInBounds (off+j) c) cs).toList=A8 cs.toList (off+i) vs
 |[],i,cs,_=>by simp[A8]
 |v::vs,i,cs,h=>by have ih:=lY off vs (i+1) (cs.setIfInBounds (off+i) v) (by simp at h|-;omega);simp only[List.zipIdx_cons,List.foldl_cons];rw[ih];unfold A8;have e:=list_seg_step cs.toList (off+i) v vs (by simp at h|-;omega);simpa [Array.toList_setIfInBounds,Nat.add_assoc]using e
theorem SF{place:Nat->Option (Nat×Nat)}:∀{parts:List (Nat×V)} {vals:List (Nat×fj)} {cs out:List V} {arr:Array fj},
  RepL G cs arr.toList->parts.length=vals.length->(∀i (h1:i<parts.length) (h2:i<vals.length),parts[i].1=vals[i].1/\BD parts[i].2=true/\RepV G parts[i].2 vals[i].2)->C4 place cs parts=some out ->
  ∃arr',Instr.fill place arr vals=some arr'/\RepL G out arr'.toList
 |[],vals,cs,out,arr,hL,hl,_,h=>by have:vals=[]:=bw hl.symm;subst this;simp only[C4,bj.injEq]at h;subst h;exact⟨arr,rfl,hL⟩
 |(i,v)::parts,vals,cs,out,arr,hL,hl,hp,h=>by
  cases vals with
  |nil=>simp at hl
  |cons x vals=>
   obtain⟨j,u⟩:=x
   obtain⟨e1,hf,hv⟩:=hp 0 (by simp) (by simp)
   simp only[List.getElem_cons_zero]at e1 hf hv
   subst e1
   have hc:=PG hf hv
   have hlen:(BA v).length=u.cells.size:=by rw[hc.1];simp
   have hsz:cs.length=arr.size:=by rw[hL.1];simp
   unfold C4 at h
   cases hpl:place i with
   |none=>rw[hpl]at h;cases h
   |some os=>
    obtain⟨off,size⟩:=os
    rw[hpl]at h
    simp only at h
    split at h
    ·rename_i hcond;have hspl:=IF hL hc off;have hfold:=lY off u.cells.toList 0 arr (by simp; omega);simp only[Nat.add_zero]at hfold;obtain⟨arr',h1,h2⟩:=SF (arr:=(u.cells.zipIdx.foldl (fun cs (c,j)=>cs.setIfInBounds (off+j) c) arr)) (by
      rw[<- Array.foldl_toList];simp only[Array.toList_zipIdx];rw[hfold]; exact hspl) (by simpa using hl) (fun k h1 h2=>hp (k+1) (by simpa using h1) (by simpa using h2)) h
     refine⟨arr',?_,h2⟩;unfold Instr.fill;rw[hpl];simp only;rw[if_neg (by simp;omega)];exact h1
    ·cases h
theorem MR{ρ:fx->fj}{r:fx->Option V}(hr:∀x v,r x=some v->RepV G v (ρ x)):∀{ps:List (Nat×fx)} {vs:List (Nat×V)},DA r ps=some vs ->
  ∃us:List (Nat×fj),us=(ps.map fun (i,x)=>(i,ρ x))/\vs.length=us.length/\∀i (h1:i<vs.length) (h2:i<us.length),vs[i].1=us[i].1/\RepV G vs[i].2 us[i].2
 |[],vs,h=>by simp only[DA,bj.injEq]at h;subst h;exact⟨[],rfl,rfl,fun i h=>absurd h (by simp)⟩
 |(i,x)::ps,vs,h=>by
  unfold DA at h;split at h
  ·rename_i v l hv hl;cases h;obtain⟨us,h0,h1,h2⟩:=MR hr hl;refine⟨(i,ρ x)::us,by rw[h0];rfl,by simpa using h1,fun k p q=>?_⟩;cases k with
   |zero=>exact⟨rfl,hr _ _ hv⟩
   |succ k=>exact h2 k (by simpa using p) (by simpa using q)
  ·cases h
theorem VI{α β:Type}(F:α->Sem β)(g:α->β):∀(l:List α) (w:fw),(∀x∈l,∀w,(F x).run P w=.ok (g x) w)->(l.mapM F).run P w=.ok (l.map g) w
 |[],w,_=>rfl
 |x::l,w,h=>by rw[List.mapM_cons,Sem.run_bind,h x (by simp) w];simp only[Result.andThen_ok,Sem.run_bind];rw[VI F g l w (fun y hy=>h y (by simp[hy]))];rfl
theorem zH{T:fk}{ps:List (Nat×V)}{v:V}{vals:Array (Nat×fj)}(h:CP P T ps=some v)(hl:ps.length=vals.toList.length)
  (hp:∀i (h1:i<ps.length) (h2:i<vals.toList.length),ps[i].1=vals.toList[i].1/\RepV G ps[i].2 vals.toList[i].2):∃u,(Instr.build T vals).run P w=.ok u w/\RepV G v u:=by
 have fl:∀{ps:List (Nat×V)},(ps.all fun p=>BD p.2)=true->∀i (h:i<ps.length),BD ps[i].2=true:=by intro ps h i hi;exact bn.1 h _ (bf hi)
 unfold CP at h
 split at h
 ·rename_i z fs hz hu;obtain⟨zv,hz1,hz2,_⟩:=J4 (G:=G) (w:=w) hz;split at h
  ·rename_i hc;obtain⟨out,hout,rfl⟩:=cx.1 h;obtain⟨arr',h1,h2⟩:=SF hz2 hl (fun i p q=>⟨(hp i p q).1,fl hc.1 i p,(hp i p q).2⟩) hout;have hpl:∀w:fw,(Array.mapM (fun f:Field=>do pure (f.offset,<-sizeOf f.type)) fs:Sem (Array (Nat×Nat))).run P w=.ok (fs.map fun f=>(f.offset,P.cellsOf f.type)) w:=by
    intro w;rw[Array.mapM_eq_mapM_toList,Sem.run_map,VI _ (fun f:Field=>(f.offset,P.cellsOf f.type)) fs.toList w (fun f hf w=>by
     have:=Array.all_eq_true_iff_forall_mem.1 hc.2 f (by simpa using hf);obtain⟨i,hi⟩:=dv.1 this;simp[sizeOf,typeInfo,hi,Program.cellsOf])]
    simp only[Result.andThen_ok];congr 1;apply Array.ext';simp
   refine⟨.agg arr',?_,?_⟩
   ·simp only[Instr.build,Sem.run_bind,hz1,Result.andThen_ok,run_underlying hu,hpl];have e:(fun x:Nat=>(fs.map fun f:Field=>(f.offset,P.cellsOf f.type))[x]?)=fun i:Nat=>(fs[i]?).map fun f:Field=>(f.offset,P.cellsOf f.type):=by funext i;simp
    rw[e,h1];rfl
   ·have:=h2.toAgg;simpa using this
  ·cases h
 ·rename_i z n e hz hu;obtain⟨zv,hz1,hz2,_⟩:=J4 (G:=G) (w:=w) hz;split at h
  ·rename_i hc;obtain⟨out,hout,rfl⟩:=cx.1 h;obtain⟨arr',h1,h2⟩:=SF hz2 hl (fun i p q=>⟨(hp i p q).1,fl hc.1 i p,(hp i p q).2⟩) hout;obtain⟨i,hi⟩:=dv.1 hc.2;refine⟨.agg arr',?_,by simpa using h2.toAgg⟩;have hsz:(sizeOf e).run P w=.ok (P.cellsOf e) w:=by simp[sizeOf,typeInfo,hi,Program.cellsOf]
   simp only[Instr.build,Sem.run_bind,hz1,Result.andThen_ok,run_underlying hu,hsz];rw[h1];rfl
  ·cases h
 ·cases h
theorem YW{size:Nat}:∀{n:Nat} {cs:List V},cs.length=n*size->(CL size cs n).length=n/\∀i (h:i<(CL size cs n).length),(CL size cs n)[i]=(cs.drop (i*size)).take size
 |0,cs,_=>⟨rfl,fun i h=>absurd h (by simp[CL])⟩
 |n+1,cs,h=>by
  have hd:(cs.drop size).length=n*size:=by rw[cd,h,bq];omega
  obtain⟨h1,h2⟩:=YW hd;refine⟨by simp[CL,h1],fun i hi=>?_⟩;cases i with
  |zero=>simp[CL]
  |succ i=>
   simp only[CL,List.getElem_cons_succ]
   rw[h2 i (by simpa [CL]using hi),List.drop_drop]
   congr 2
   rw[bq];omega
theorem cC{G:Gh}{b:Nat}{arr:Array fj}{T:fk}{cs:List V}{size n:Nat}(hs:G.sl b=some (.cells arr T (0,0)))(hL:RepL G cs arr.toList)(hlen:cs.length=n*size) :
  RepV G (.list true (CL size cs n)) (.slice (some ⟨b,0,none⟩) n n):=by
 obtain⟨hc,hg⟩:=YW hlen
 have hcl:∀i (h:i<(CL size cs n).length),(CL size cs n)[i].length=size:=by intro i h;rw[hg i h,cg,cd,hlen];have:(i+1)*size<=n*size:=bx _ (by omega);rw[bq]at this;omega
 have key:∀i (h:i<(CL size cs n).length) j (hj:j<(CL size cs n)[i].length),∃(h1:i*size+j<cs.length) (h2:i*size+j<arr.toList.length),(CL size cs n)[i][j]=cs[i*size+j]:=by
  intro i h j hj;have hj':=hj;rw[hcl i h]at hj';have:(i+1)*size<=n*size:=bx _ (by omega);rw[bq]at this;have h1:i*size+j<cs.length:=by omega
  refine⟨h1,by rw[<-hL.1];exact h1,?_⟩;simp[hg i h]
 have hr:=RepV.list (G:=G) true (CL size cs n) (some ⟨b,0,none⟩) n b 0 size arr T (0,0) (fun i j=>arr.toList.getD (i*size+j) undef) (by rw[hc];exact br _) (fun _=>hc.symm)
  (fun _=>⟨rfl,hs⟩) hcl (fun i h j hj=>by
   obtain⟨h1,h2,e⟩:=key i h j hj;refine⟨?_,?_⟩
   ·have h2':i*size+j<arr.size:=by simpa using h2
    simp[h2',List.getD]
   ·rw[e]; exact(hL.2 _ h1 h2).1) (fun i h j hj=>by
   obtain⟨h1,h2,e⟩:=key i h j hj;have h2':i*size+j<arr.size:=by simpa using h2
   rw[e];have:=(hL.2 _ h1 h2).2;simpa [List.getD,h2']using this)
 rw[hc]at hr
 exact hr
theorem KA{α:Type}(z:List α)[Inhabited α](n:Nat):(bg n z).flatten=(List.range (n*z.length)).map fun i=>z[i % z.length]!:=by
 induction n with
 |zero=>simp
 |succ n ih=>
  rw[List.replicate_succ',cj,ih]
  simp only[bp,List.flatten_nil,List.append_nil]
  rw[bq,Nat.one_mul,List.range_add,List.map_append,List.map_map]
  congr 1
  apply List.ext_getElem
  ·simp
  ·intro i h1 h2;simp[Nat.mod_eq_of_lt h1,h1]
theorem rep_repl{z:List V}{vs:List fj}(h:RepL G z vs):∀n,RepL G (bg n z).flatten (bg n vs).flatten
 |0=>.nil G
 |n+1=>by rw[cm,cm,bp,bp];exact h.append (rep_repl h n)
theorem SG{place:Nat->Option (Nat×Nat)}:∀{parts:List (Nat×V)} {cs out:List V},C4 place cs parts=some out->out.length=cs.length
 |[],cs,out,h=>by simp only[C4,bj.injEq]at h;rw[h]
 |(i,v)::parts,cs,out,h=>by
  unfold C4 at h;split at h
  ·cases h
  ·split at h
   ·rename_i hc;rw[SG h,GC hc.2]
   ·cases h
theorem NP{T:fk}{len:Nat}{ps:List (Nat×V)}{v:V}{vals:Array (Nat×fj)}(h:B9 P T len ps=some v)(hl:ps.length=vals.toList.length)
  (hp:∀i (h1:i<ps.length) (h2:i<vals.toList.length),ps[i].1=vals.toList[i].1/\RepV G ps[i].2 vals.toList[i].2) :
  ∃e cs arr,BR P T=some (none,e)/\v=.list true (CL (P.cellsOf e) cs len)/\cs.length=len*P.cellsOf e/\RepL G cs arr.toList /\
   (Instr.buildSlice T len vals).run P w=.ok (.slice (some ⟨w.heap.size,0,none⟩) len len) (w.alloc (.cells arr e)):=by
 have fl:∀{ps:List (Nat×V)},(ps.all fun p=>BD p.2)=true->∀i (h:i<ps.length),BD ps[i].2=true:=by intro ps h i hi;exact bn.1 h _ (bf hi)
 unfold B9 at h
 split at h
 ·rename_i e hel;have hu:=CH hel;split at h
  ·rename_i z hz;obtain⟨zv,hz1,hz2,_⟩:=J4 (G:=G) (w:=w) hz;split at h
   ·rename_i hc;obtain⟨out,hout,rfl⟩:=cx.1 h;obtain⟨hc1,hc2,hc3,hc4⟩:=hc;have hzl:zv.cells.size=P.cellsOf e:=by rw[<-hc2,hz2.1];simp
    have hrep:RepL G (bg len z).flatten ((dt (len*P.cellsOf e)).map (zv.cells[· % zv.cells.size]!)).toList:=by
     have e1:((dt (len*P.cellsOf e)).map (zv.cells[· % zv.cells.size]!)).toList=(bg len zv.cells.toList).flatten:=by
      rw[KA zv.cells.toList len];simp only[dp,dm,dh,hzl];apply dg;intro a _;have hm:a % P.cellsOf e<zv.cells.size:=by rw[hzl];exact Nat.mod_lt _ hc3
      simp[hm]
     rw[e1];exact rep_repl hz2 len
    obtain⟨arr',h1,h2⟩:=SF hrep hl (fun i p q=>⟨(hp i p q).1,fl hc1 i p,(hp i p q).2⟩) hout;have hout':out.length=len*P.cellsOf e:=by rw[SG hout];simp[hc2]
    refine⟨e,out,arr',hel,rfl,hout',h2,?_⟩;have hbig:¬(len*P.cellsOf e>2 ^ 24):=by omega
    simp only[Instr.buildSlice,Sem.run_bind,run_underlying hu,Result.andThen_ok,CU (P:=P) (w:=w) hc3,if_neg hbig];by_cases h0:len*P.cellsOf e=0
    ·have hlen:len=0:=by
      rcases Nat.mul_eq_zero.1 h0 with h|h
      ·exact h
      ·omega
     subst hlen;have ea:∀f:Nat->fj,(dt (0*P.cellsOf e)).map f = #[]:=by intro f;simp
     rw[ea]at h1;simp only[if_pos h0,Sem.run_bind,Sem.run_pure,Result.andThen_ok];rw[ea,h1];simp[newRow]
    ·simp only[if_neg h0,Sem.run_bind,hz1,Result.andThen_ok,Sem.run_pure];rw[h1];simp[newRow]
   ·cases h
  ·cases h
 ·cases h
theorem YX{T:fk}{len:Nat}{ps:List (Nat×V)}{v:V}{vals:Array (Nat×fj)}(hI:CE G s w)(h:B9 P T len ps=some v)(hl:ps.length=vals.toList.length)
  (hp:∀i (h1:i<ps.length) (h2:i<vals.toList.length),ps[i].1=vals.toList[i].1/\RepV G ps[i].2 vals.toList[i].2) :
  ∃u w' G',(Instr.buildSlice T len vals).run P w=.ok u w'/\G.le G'/\CE G' s w'/\RepV G' v u:=by
 obtain⟨e,cs,arr,hel,rfl,hcl,hL,hrun⟩:=NP (w:=w) h hl hp
 obtain⟨G',hle,hI',hsl,_⟩:=hI.lock (.cells arr e)
 exact⟨_,_,G',hrun,hle,hI',cC hsl (hL.mono hle) hcl⟩
theorem VJ(sz:Nat):∀(n:Nat) (cs:List V),cs.length=n*sz->(CL sz cs n).flatten=cs/\(CL sz cs n).length=n/\∀x∈CL sz cs n,x.length=sz
 |0,cs,h=>by have:cs=[]:=bw (by simpa using h);subst this;simp[CL]
 |n+1,cs,h=>by
  have h1:(cs.drop sz).length=n*sz:=by rw[cd,h,bq];omega
  obtain⟨q1,q2,q3⟩:=VJ sz n (cs.drop sz) h1;refine⟨?_,?_,?_⟩
  ·simp[CL,q1]
  ·simp[CL,q2]
  ·intro x hx;simp only[CL,List.mem_cons]at hx;rcases hx with rfl|hx
   ·rw[cg,h,bq];omega
   ·exact q3 x hx
end Go.Pg
namespace Go.Pg
variable {P:fq}{G:Gh}{s:St}{w:fw}
theorem OA{x:V}{y:fj}{es:List (List V)}{sz:Nat}(hI:CE G s w)(h:RepV G x y)(he:elemsOf s x=some es)(hs:∀e∈es,e.length=sz) :
  ∃a cap vs,y=.slice a es.length cap/\RepL G es.flatten vs/\vs.length=es.length*sz/\(es≠[]->∃ad,a=some ad/\∀j u,vs[j]? = some u->w.cell? (ad.add j)=some u):=by
 have hfl:∀{es:List (List V)},(∀e∈es,e.length=sz)->es.flatten.length=es.length*sz:=by
  intro es;induction es with
  |nil=>intro _;simp
  |cons e es ih=>
   intro h
   rw[bp,bh,ih (fun x hx=>h x (by simp[hx])),h e (by simp),List.length_cons,bq]
   omega
 unfold elemsOf at he
 split at he
 ·cases he;cases h with
  |list _ _ a cap b off sz' arr T fz vs hcap hfull ha hl hv hr=>
   by_cases hne:es=[]
   ·subst hne;exact⟨a,cap,[],rfl,.nil G,by simp,fun h=>absurd rfl h⟩
   ·obtain⟨rfl,hsl⟩:=ha hne;have h0:0<es.length:=cp.2 hne;have hsz:sz'=sz:=by rw[<-hl 0 h0];exact hs _ (bf h0)
    subst hsz;have main:∀(k:Nat) (fs:List (List V)),es=es.take k++fs->k<=es.length->∃us:List fj,RepL G fs.flatten us/\us.length=fs.length*sz'/\∀j u,us[j]? = some u->w.cell? (Addr.add ⟨b,off+k*sz',none⟩ j)=some u:=by
     intro k fs;induction fs generalizing k with
     |nil=>intro _ _;exact⟨[],.nil G,by simp,fun j u h=>by simp at h⟩
     |cons f fs ih=>
      intro hk hle
      have hkl:k<es.length:=by have:=congrArg List.length hk;simp at this;omega
      have hf:es[k]? = some f:=by rw[hk,List.getElem?_append_right (by simp;omega)];simp[dx hle]
      have hfe:es[k]=f:=by have:=dk hkl;rw[hf]at this;exact(bj.inj this).symm
      obtain⟨us,h1,h2,h3⟩:=ih (k+1) (by rw[List.take_add_one,hf];simpa using hk) hkl
      have hfl':f.length=sz':=by rw[<-hfe];exact hl k hkl
      refine⟨(List.range sz').map (vs k)++us,?_,by simp[h2,bq];omega,fun j u hj=>?_⟩
      ·rw[bp];refine RepL.append ⟨by simp[hfl'],fun i p q=>?_⟩ h1;simp only[List.getElem_map,List.getElem_range];have p':i<es[k].length:=by rw[hfe];exact p
       have e1:f[i]=es[k][i]:=by simp[hfe]
       rw[e1];exact⟨(hv k hkl i p').2,hr k hkl i p'⟩
      ·rw[List.getElem?_append]at hj;split at hj
       ·rename_i hjl;have hjl':j<sz':=by simpa using hjl
        simp only[List.getElem?_map,List.getElem?_range hjl',dr,bj.injEq]at hj;subst hj;rw[Addr.add_lit];have:=(hv k hkl j (by rw[hfe,hfl'];exact hjl')).1;simp[World.cell?,hI.sl _ _ hsl,this]
       ·rename_i hjl;have hjl':¬j<sz':=by simpa using hjl
        have:=h3 _ _ hj;rw[Addr.add_lit]at this|-;simp only[dc,List.length_range]at this;rw[<-this];congr 2;rw[bq];omega
    obtain⟨us,h1,h2,h3⟩:=main 0 es (by simp) (by omega);exact⟨_,cap,us,rfl,h1,h2,fun _=>⟨⟨b,off,none⟩,rfl,by simpa using h3⟩⟩
 ·cases he;cases h;exact⟨none,0,[],rfl,.nil G,by simp,fun h=>absurd rfl h⟩
 ·split at he
  ·rename_i l k g n _ g' T0 fs hget;split at he
   ·rename_i hc;obtain⟨rfl,hn⟩:=hc;cases he;cases h with
    |vec _ _ _ _ b sz' C a hb hle ha=>
     have hlen:(fs.take n).length=n:=by simp;omega
     obtain⟨b',sz'',C',hb',hle',hlen',hmax,hrow⟩:=hI.res _ _ _ _ hget
     rw[hb]at hb'
     simp only[bj.injEq,cq.injEq]at hb'
     obtain⟨rfl,rfl,rfl⟩:=hb'
     rw[hlen]
     by_cases hC:C=0
     ·have hn0:n=0:=by omega
      subst hn0;exact⟨a,C,[],rfl,by simpa using RepL.nil G,by simp,fun h=>absurd (by simp) h⟩
     ·obtain⟨arr,hh,hsz,hr⟩:=hrow hC;have:=ha hC;subst this;by_cases hn0:n=0
      ·subst hn0;exact⟨_,C,[],rfl,by simpa using RepL.nil G,by simp,fun h=>absurd (by simp) h⟩
      ·have hszz:sz'=sz:=by
        have h0:0<(fs.take n).length:=by omega
        have q1:=hs _ (bf h0);have q2:=hlen' _ (cz (bf h0));omega
       subst hszz;have hL:RepL G (fs.take n).flatten (arr.toList.take (n*sz')):=by
        have:=hr.take (n*sz');rw[List.take_take]at this;have e1:min (n*sz') (fs.length*sz')=n*sz':=dx (bx _ hn);rw[e1]at this;have e2:fs.flatten.take (n*sz')=(fs.take n).flatten:=by
         have:fs.flatten=(fs.take n).flatten++(fs.drop n).flatten:=by rw[<-cj,bc]
         rw[this];exact bt (by rw[hfl (fun e he=>hlen' e (cz he)),hlen])
        rw[e2]at this;exact this
       refine⟨_,C,_,rfl,hL,by rw[<-hL.1,hfl hs,hlen],fun _=>⟨⟨b,0,none⟩,rfl,fun j u hj=>?_⟩⟩;rw[Addr.add_lit];rw[dj]at hj;split at hj
       ·simp only[World.cell?,hh,dn,Bool.false_eq_true,if_false,cr];rw[<-df];exact hj
       ·cases hj
   ·cases he
  ·cases he
 ·split at he
  ·rename_i l k g i n _ g' cs hget;split at he
   ·rename_i hc;obtain⟨rfl,hn⟩:=hc;cases he;obtain⟨b,arr,T0,hb,hh,hr⟩:=hI.res _ _ _ _ hget;cases h with
    |vtl _ _ _ _ _ b' sz' C cap a hb' hle ha=>
     rw[hb]at hb'
     simp only[bj.injEq,cq.injEq]at hb'
     obtain⟨rfl,rfl,rfl⟩:=hb'
     have hlen:((cs.drop i).take n).length=n:=by simp;omega
     have hf:(((cs.drop i).take n).map fun c=>[c]).flatten=(cs.drop i).take n:=by
      generalize (cs.drop i).take n=l;induction l with
      |nil=>rfl
      |cons x l ih=>simp[ih]
     have hL:RepL G ((cs.drop i).take n) ((arr.toList.drop i).take n):=(hr.drop i).take n
     refine⟨a,cap,(arr.toList.drop i).take n,by rw[dc,hlen],by rw[hf];exact hL,?_,fun hne=>?_⟩
     ·rw[<-hL.1,hlen,dc,hlen];by_cases hn0:n=0
      ·subst hn0;simp
      ·have:sz=1:=by
        have h0:0<((cs.drop i).take n).length:=by omega
        have:=hs _ (List.mem_map_of_mem (bf h0));simpa using this.symm
       rw[this,Nat.mul_one]
     ·have hn0:n≠0:=by intro h;subst h;simp at hne
      rw[ha hn0];refine⟨_,rfl,fun j u hj=>?_⟩;rw[Addr.add_lit];rw[dj]at hj;split at hj
      ·rw[List.getElem?_drop]at hj;simp only[World.cell?,hh];simpa using hj
      ·cases hj
   ·cases he
  ·cases he
 ·cases he;cases h;exact⟨_,_,[],rfl,.nil G,by simp,fun h=>absurd rfl h⟩
 ·cases he
theorem YY{es:List (List V)}{sz:Nat}(h:∀e∈es,e.length=sz):es.flatten.length=es.length*sz:=by
 induction es with
 |nil=>simp
 |cons e es ih=>
  rw[bp,bh,ih (fun x hx=>h x (by simp[hx])),h e (by simp),List.length_cons,bq]
  omega
theorem YZ{T e ty:fk}{i:TypeInfo}{z:fj}{a a1:Option Addr}{n m C c1:Nat}{olds news:List fj}(hu:P.underlying T=some (.slice e))(hi:P.info? e=some i)(hz:i.zero=some z)
  (hnC:n<=C) (hlo:olds.length=n*i.size) (hln:news.length=m*i.size)
  (ha:C≠0->∃b arr,a=some ⟨b,0,none⟩/\w.heap[b]? = some (.cells arr e (0,0))/\arr.size=C*i.size/\arr.toList.take (n*i.size)=olds)
  (hnew:m≠0->∃ad,a1=some ad/\∀j u,news[j]? = some u->w.cell? (ad.add j)=some u) (h1:∀u∈news,u.oneCell'=true)
  (h63:n+m<=maxLen) (hby:(n+m)*i.bytes<=140737488355328) :
  (m=0/\(Builtin.append_ #[T,T] ty #[.slice a n C,.slice a1 m c1]).run P w=.ok (.slice a n C) w) \/
  (m≠0/\n+m<=C/\∃b arr,a=some ⟨b,0,none⟩/\w.heap[b]? = some (.cells arr e (0,0))/\(Builtin.append_ #[T,T] ty #[.slice a n C,.slice a1 m c1]).run P w=.ok (.slice a (n+m) C) (w.setRow b (arr.toList.take (n*i.size)++news++arr.toList.drop (n*i.size+news.length)).toArray)) \/
  (m≠0/\C<n+m/\∃C',n+m<=C'/\C'<=maxLen/\(Builtin.append_ #[T,T] ty #[.slice a n C,.slice a1 m c1]).run P w =
   .ok (.slice (some ⟨w.heap.size,0,none⟩) (n+m) C') (w.drew.alloc (.cells (olds.toArray++news.toArray++Builtin.zeroCells z.cells (C'-(n+m))) e))):=by
 by_cases hm:m=0
 ·subst hm;refine .inl ⟨rfl,?_⟩;have:(Builtin.firstCells i.size 0 (.slice a1 0 c1)).run P w=.ok #[] w:=by cases a1<;>simp[Builtin.firstCells,loadCells,loadCellsFrom]
  cases a<;>simp[Builtin.append_,run_underlying hu,sizeOf,typeInfo,hi,Builtin.lenOf,hnC,this,storeCells]
 ·obtain⟨ad,rfl,hcell⟩:=hnew hm;by_cases hfit:n+m<=C
  ·obtain⟨b,arr,rfl,hh,hsz,ht⟩:=ha (by omega);refine .inr (.inl ⟨hm,hfit,b,arr,rfl,hh,?_⟩);exact run_append_room (P:=P) w T ty e i hu hi b n C arr hh ad m c1 news hln hcell h1 hfit (by rw[hln,hsz,<-bq];exact bx _ hfit)
  ·refine .inr (.inr ⟨hm,by omega,grownCap w (n+m) C e,grownCap_ge w _ _ _,grownCap_le_maxLen w _ _ _ h63,?_⟩);have h63':((n+m:Nat):Int)<=9223372036854775807:=by simp only[maxLen]at h63;omega
   by_cases hC:C=0
   ·subst hC;have hn0:n=0:=by omega
    subst hn0;have ho:olds=[]:=bw (by simpa using hlo);subst ho;cases a with
    |none=>
     have:=run_append_nil (P:=P) w T ty e i z hu hi hz ad m c1 news hln hcell (by omega) (by simpa using h63') (by simp only[cr]at hby;omega)
     simpa using this
    |some b0=>
     exact run_append_grow (P:=P) w T ty e i z hu hi hz b0 0 0 [] (by simp) (by simp) ad m c1 news hln hcell (by omega) h63' (growslice_fits (by omega) hby)
   ·obtain⟨b,arr,rfl,hh,hsz,ht⟩:=ha hC;exact run_append_grow (P:=P) w T ty e i z hu hi hz ⟨b,0,none⟩ n C olds hlo (fun j v hj=>by
     rw[Addr.add_lit];rw[<-ht,dj]at hj;split at hj
     ·simp only[World.cell?,hh,dn,Bool.false_eq_true,if_false,cr];rw[<-df];exact hj
     ·cases hj) ad m c1 news hln hcell (by omega) h63' (growslice_fits (by omega) hby)
end Go.Pg
namespace Go.Pg
variable {P:fq}{G:Gh}{s:St}{w:fw}
theorem CE.newNil(hI:CE G s w)(T:fk)(sz l k:Nat)(hp:∀g l' k',(s.put l k g (.vec T [])).get l' k'=if l'=l/\k'=k then some (g,.vec T []) else s.get l' k') :
  ∃g G',G.le G'/\CE G' (s.put l k g (.vec T [])) w/\G'.be g=some (0,sz,0)/\G'.sl=G.sl:=by
 obtain⟨N,hN⟩:=hI.fresh
 let G':Gh:={ G with be:=fun x=>if x=N then some (0,sz,0) else G.be x }
 have hle:G.le G':=⟨fun _ _ h=>h,fun g x h=>by
  show(if g=N then _ else G.be g)=some x;split
  ·rename_i e;rw[e,hN N (br _)]at h;cases h
  ·exact h,rfl,fun _ _ h=>h⟩
 have hbe:G'.be N=some (0,sz,0):=if_pos rfl
 have hold:∀{l' k' g' r' b'},s.get l' k'=some (g',r')->BG G' g' r'=some b'->BG G g' r'=some b':=fun h1 h2=>(hI.res _ _ _ _ h1).owned hle h2
 have hnone:BG G' N (.vec T [])=none:=by simp[BG,hbe]
 refine⟨N,G',hle,⟨hI.sl,fun l1 k' g' r' h=>?_,fun l1 k1 g1 r1 l2 k2 g2 r2 b' h1 h2 h3 h4=>?_,fun l1 k1 g1 r1 b' h1 h2=>?_,⟨N+1,fun g hg=>?_⟩,hI.env,hI.me.step hle rfl (fun _ _ _=>rfl) (fun l1 k1 g1 r1 b h1 h2=>by
  rw[hp]at h1;split at h1
  ·simp only[bj.injEq,cq.injEq]at h1;obtain⟨rfl,rfl⟩:=h1;rw[hnone]at h2;cases h2
  ·exact .inl ⟨_,_,_,_,h1,hold h1 h2⟩) fun b d hb=>hI.me.sl b d hb⟩,hbe,rfl⟩
 ·rw[hp]at h;split at h
  ·simp only[bj.injEq,cq.injEq]at h;obtain⟨rfl,rfl⟩:=h;exact⟨0,sz,0,hbe,by simp,by simp,⟨by unfold maxLen;omega,fun _=>rfl⟩,fun h=>absurd rfl h⟩
  ·exact(hI.res _ _ _ _ h).keep hle fun _ _=>rfl
 ·rw[hp]at h1 h2;split at h1
  ·simp only[bj.injEq,cq.injEq]at h1;obtain⟨rfl,rfl⟩:=h1;rw[hnone]at h3;cases h3
  ·split at h2
   ·simp only[bj.injEq,cq.injEq]at h2;obtain⟨rfl,rfl⟩:=h2;rw[hnone]at h4;cases h4
   ·exact hI.sep _ _ _ _ _ _ _ _ _ h1 h2 (hold h1 h3) (hold h2 h4)
 ·rw[hp]at h1;split at h1
  ·simp only[bj.injEq,cq.injEq]at h1;obtain⟨rfl,rfl⟩:=h1;rw[hnone]at h2;cases h2
  ·exact hI.out _ _ _ _ _ h1 (hold h1 h2)
 ·show(if g=N then _ else G.be g)=none;rw[if_neg (by omega)];exact hN g (by omega)
theorem MS(z:Array fj)(n:Nat):(Builtin.zeroCells z n).size=n*z.size:=by simp[Builtin.zeroCells]
theorem CE.newVec(hI:CE G s w)(e:fk)(es:List (List V))(sz C l k:Nat)(arr:Array fj)(hp:∀g r l' k',(s.put l k g r).get l' k'=if l'=l/\k'=k then some (g,r) else s.get l' k')
  (hC:es.length<=C) (hmax:C<=maxLen) (hne:es≠[]) (hes:∀x∈es,x.length=sz) (hsz:arr.size=C*sz) (hL:RepL G es.flatten (arr.toList.take (es.length*sz))) :
  ∃g G',G.le G'/\CE G' (s.put l k g (.vec e es)) (w.alloc (.cells arr e))/\G'.be g=some (w.heap.size,sz,C)/\G'.sl=G.sl :=
 hI.new (.cells arr e) (sz,C) (.vec e es) l k (fun g=>hp g _) fun _ _ hle hbe=>⟨_,_,_,hbe,hC,hes,⟨hmax,fun h=>absurd h hne⟩,fun _=>⟨arr,heap_alloc_new w _,hsz,hL.mono hle⟩⟩
theorem Y0{T:fk}{len:Nat}{ps:List (Nat×V)}{es:List (List V)}{vals:Array (Nat×fj)}{d:Nat}(hI:CE G s w)(h:B9 P T len ps=some (.list true es))(hl:ps.length=vals.toList.length)
  (hp:∀i (h1:i<ps.length) (h2:i<vals.toList.length),ps[i].1=vals.toList[i].1/\RepV G ps[i].2 vals.toList[i].2) (hne:es≠[]) (hmax:es.length<=maxLen) {e:fk} (hel:BR P T=some (none,e)) :
  ∃u w' γ G',(Instr.buildSlice T len vals).run P w=.ok u w'/\G.le G'/\CE G' (s.put s.up.length d γ (.vec e es)) w'/\RepV G' (.vec s.up.length d γ es.length) u:=by
 obtain⟨e',cs,arr,hel',he,hcl,hL,hrun⟩:=NP (w:=w) h hl hp
 obtain rfl:e'=e:=by rw[hel]at hel';cases hel';rfl
 cases he
 obtain⟨q1,q2,q3⟩:=VJ (P.cellsOf e') len cs hcl
 obtain⟨γ,G',hle,hI',hbe,_⟩:=hI.newVec e' (CL (P.cellsOf e') cs len) (P.cellsOf e') len s.up.length d arr (hp:=fun g r l' k'=>St.get_putLoc s l' k') (by omega) (by omega) hne q3 (by rw[<-hcl,hL.1];simp)
  (by rw[q1,q2,<-hcl,hL.1,dw];exact hL)
 refine⟨_,_,γ,G',hrun,hle,hI',?_⟩
 rw[q2]
 exact .vec _ _ _ _ _ _ len _ hbe (br _) (fun _=>rfl)
theorem TY{os ns:List V}{olds news:List fj}(z:Array fj)(k n:Nat)(ho:RepL G os olds)(hn:RepL G ns news)(hl:olds.length+news.length=n) :
  RepL G (os++ns) ((olds.toArray++news.toArray++Builtin.zeroCells z k).toList.take n):=by
 have:(olds.toArray++news.toArray++Builtin.zeroCells z k).toList.take n=olds++news:=by simp only[Array.toList_append];rw[bt (by simpa using hl)]
 rw[this]
 exact ho.append hn
theorem AE1{es:List (List V)}{sz:Nat}{vs:List fj}(hes:∀e∈es,e.length=sz)(h:RepL G es.flatten vs):vs.length=es.length*sz:=by rw[<-h.1,YY hes]
theorem SH{e:fk}{i:TypeInfo}(hi:P.info? e=some i):P.bytesOf e=i.bytes/\P.cellsOf e=i.size:=by simp[Program.bytesOf,Program.cellsOf,hi]
theorem Y1{e:fk}(h:cB P e=true):∃z i,P.info? e=some i/\i.zero=some z/\z.cells.size=P.cellsOf e:=by
 unfold cB at h;split at h
 ·rename_i z hz;have hrep:∀{vs:List fj} {xs:List V},GP vs=some xs->xs.length=vs.length:=by
   intro vs;induction vs with
   |nil=>intro xs h;simp[GP]at h;subst h;rfl
   |cons v vs ih=>
    intro xs h
    unfold GP at h
    split at h
    ·rename_i x l hx hl;cases h;simp[ih hl]
    ·cases h
  unfold B8 at hz;split at hz
  ·rename_i zv hzv;unfold dN at hzv;obtain⟨i,hi,hiz⟩:=db.1 hzv;refine⟨zv,i,hi,hiz,?_⟩;have:=hrep hz;simp at h this;omega
  ·cases hz
 ·cases h
theorem Y2{T e ty:fk}{y:V}{xv yv:fj}{ys:List (List V)}{d:Nat}(hI:CE G s w)(hel:BR P T=some (none,e))(hx:RepV G (.list true []) xv)(hy:RepV G y yv)(hys:elemsOf s y=some ys)
  (hz:cB P e=true) (hall:ys.all (fun y=>y.length==P.cellsOf e)=true) (h63:ys.length<=maxLen) (hby:ys.length*P.bytesOf e<=140737488355328) :
  ∃u w' γ G',(Builtin.append_ #[T,T] ty #[xv,yv]).run P w=.ok u w'/\G.le G'/\CE G' (s.put s.up.length d γ (.vec e ys)) w'/\RepV G' (.vec s.up.length d γ ys.length) u/\G'.sl=G.sl:=by
 have hu:=CH hel
 obtain⟨zv,i,hi,hiz,hzl⟩:=Y1 hz
 obtain⟨hb1,hb2⟩:=SH hi
 have hes:∀e'∈ys,e'.length=P.cellsOf e:=fun e' he'=>by simpa using bn.1 hall e' he'
 obtain⟨a1,c1,news,rfl,hL,hnl,hcell⟩:=OA hI hy hys hes
 cases hx with
 |list _ _ a cap b off sz arr T' fz vs hcap hfull ha hl hv hr=>
  have hc0:cap=0:=hfull rfl
  subst hc0
  have hp:∀g r l' k',(s.put s.up.length d g r).get l' k'=if l'=s.up.length/\k'=d then some (g,r) else s.get l' k':=fun g r l' k'=>St.get_putLoc s l' k'
  have hrun:=YZ (P:=P) (w:=w) (T:=T) (ty:=ty) (a:=a) (a1:=a1) (n:=0) (m:=ys.length) (C:=0) (c1:=c1) (olds:=[]) (news:=news) hu hi hiz (br _) (by simp) (by rw[hnl,hb2])
   (fun h=>absurd rfl h) (fun h=>hcell (by intro e;exact h (by simp[e]))) hL.one (by simpa using h63) (by rw[hb1]at hby;simpa using hby)
  rcases hrun with⟨hm,hrun⟩|⟨hm,hfit,_⟩|⟨hm,hlt,C',hC',hCm,hrun⟩
  ·have hy0:ys=[]:=bw hm;subst hy0;obtain⟨γ,G',hle,hI',hbe,hsl⟩:=hI.newNil e (P.cellsOf e) s.up.length d (fun g=>hp g _);exact⟨_,_,γ,G',hrun,hle,hI',.vec _ _ _ _ 0 _ 0 a hbe (br _) (fun h=>absurd rfl h),hsl⟩
  ·omega
  ·simp only[cr]at hrun hC';obtain⟨γ,G',hle,hI',hbe,hsl⟩:=(hI.drawn (w.drawn+1)).newVec e ys (P.cellsOf e) C' s.up.length d (hp:=hp) hC' hCm (by intro h;exact hm (by simp[h])) hes (arr:=([]:List fj).toArray++news.toArray++Builtin.zeroCells zv.cells (C'-ys.length))
    (by simp only[dz,ck,MS,hnl,hzl,List.length_nil,cr,<-bq];congr 1;omega)
    (by have:=TY zv.cells (C'-ys.length) (ys.length*P.cellsOf e) (RepL.nil G) hL (by simp[hnl]);simpa using this)
   exact⟨_,_,γ,G',hrun,hle,hI',.vec _ _ _ _ _ _ C' _ hbe hC' (fun _=>rfl),hsl⟩
theorem lZ{T e ty:fk}{y:V}{xv yv:fj}{es ys:List (List V)}{d:Nat}(hI:CE G s w)(hel:BR P T=some (none,e))(hx:RepV G (.list true es) xv)(hy:RepV G y yv)(hys:elemsOf s y=some ys)
  (hz:cB P e=true) (halle:es.all (fun y=>y.length==P.cellsOf e)=true) (hall:ys.all (fun y=>y.length==P.cellsOf e)=true) (h63:es.length+ys.length<=maxLen) (hby:(es.length+ys.length)*P.bytesOf e<=140737488355328) (hne:es=[]\/ys≠[]) :
  ∃u w' γ G',(Builtin.append_ #[T,T] ty #[xv,yv]).run P w=.ok u w'/\G.le G'/\CE G' (s.put s.up.length d γ (.vec e (es++ys))) w'/\RepV G' (.vec s.up.length d γ (es++ys).length) u/\G'.sl=G.sl:=by
 by_cases h0:es=[]
 ·subst h0;exact Y2 hI hel hx hy hys hz hall (by simpa using h63) (by simpa using hby)
 have hy0:ys≠[]:=hne.resolve_left h0
 have hu:=CH hel
 obtain⟨zv,i,hi,hiz,hzl⟩:=Y1 hz
 obtain⟨hb1,hb2⟩:=SH hi
 have hes:∀e'∈es,e'.length=P.cellsOf e:=fun e' he'=>by simpa using bn.1 halle e' he'
 have hysl:∀e'∈ys,e'.length=P.cellsOf e:=fun e' he'=>by simpa using bn.1 hall e' he'
 obtain⟨a,c,olds,e1,hLo,hol,hoc⟩:=OA hI hx (show elemsOf s (.list true es)=some es from rfl) hes
 obtain⟨a1,c1,news,rfl,hL,hnl,hcell⟩:=OA hI hy hys hysl
 have hc:c=es.length:=by
  subst e1;cases hx with
  |list _ _ _ _ _ _ _ _ _ _ _ _ hfull=>exact hfull rfl
 subst hc
 obtain⟨ad,rfl,hocell⟩:=hoc h0
 obtain⟨ad1,rfl,hncell⟩:=hcell hy0
 subst e1
 have hm:0<ys.length:=cp.2 hy0
 have hp:∀g r l' k',(s.put s.up.length d g r).get l' k'=if l'=s.up.length/\k'=d then some (g,r) else s.get l' k':=fun g r l' k'=>St.get_putLoc s l' k'
 have h63':((es.length+ys.length:Nat):Int)<=9223372036854775807:=by simp only[maxLen]at h63;omega
 have hrun:=run_append_grow (P:=P) w T ty e i zv hu hi hiz ad es.length es.length olds (by rw[hol,hb2]) hocell ad1 ys.length c1 news (by rw[hnl,hb2]) hncell (by omega) h63' (growslice_fits (by omega) (by rw[hb1]at hby;exact hby))
 have hC':=grownCap_ge w (es.length+ys.length) es.length e
 have hCm:=grownCap_le_maxLen w (es.length+ys.length) es.length e h63
 generalize grownCap w (es.length+ys.length) es.length e=C' at *
 have hall':∀e'∈es++ys,e'.length=P.cellsOf e:=fun e' he'=>by
  rcases List.mem_append.1 he' with h|h
  ·exact hes e' h
  ·exact hysl e' h
 obtain⟨γ,G',hle,hI',hbe,hsl⟩:=(hI.drawn (w.drawn+1)).newVec e (es++ys) (P.cellsOf e) C' s.up.length d (hp:=hp) (by simpa using hC') hCm (by intro h;simp at h;exact absurd h.1 h0) hall' (arr:=olds.toArray++news.toArray++Builtin.zeroCells zv.cells (C'-(es.length+ys.length)))
  (by simp only[dz,ck,MS,hnl,hzl,hol,<-bq];congr 1;omega)
  (by rw[cj];have:=TY zv.cells (C'-(es.length+ys.length)) ((es.length+ys.length)*P.cellsOf e) hLo hL (by rw[hol,hnl,bq]);simpa using this)
 refine⟨_,_,γ,G',hrun,hle,hI',?_,hsl⟩
 rw[<-bh]
 exact .vec _ _ _ _ _ _ C' _ hbe (by simpa using hC') (fun _=>rfl)
theorem sA{T e ty:fk}{y:V}{xv yv:fj}{es ys:List (List V)}{l q γ:Nat}(hI:CE G s w)(hel:BR P T=some (none,e))(hcut:Q5 es.length ys (s.get l q)=some (γ,.vec e es))(hx:RepV G (.vec l q γ es.length) xv)
  (hy:RepV G y yv) (hys:elemsOf s y=some ys) (hz:cB P e=true) (halle:es.all (fun y=>y.length==P.cellsOf e)=true) (hall:ys.all (fun y=>y.length==P.cellsOf e)=true)
  (h63:es.length+ys.length<=maxLen) (hby:(es.length+ys.length)*P.bytesOf e<=140737488355328) :
  ∃u w' γ' G',(Builtin.append_ #[T,T] ty #[xv,yv]).run P w=.ok u w'/\G.le G'/\CE G' (s.put l q γ' (.vec e (es++ys))) w'/\RepV G' (.vec l q γ' (es.length+ys.length)) u/\G'.sl=G.sl:=by
 have hu:=CH hel
 obtain⟨zv,i,hi,hiz,hzl⟩:=Y1 hz
 obtain⟨hb1,hb2⟩:=SH hi
 have hes:∀e'∈es,e'.length=P.cellsOf e:=fun e' he'=>by simpa using bn.1 halle e' he'
 have hysl:∀e'∈ys,e'.length=P.cellsOf e:=fun e' he'=>by simpa using bn.1 hall e' he'
 obtain⟨a1,c1,news,rfl,hL,hnl,hcell⟩:=OA hI hy hys hysl
 obtain⟨es0,hget,hes0⟩:=PF hcut
 obtain⟨b,sz,C,hb,hC1,hlen0,hmax,hrow⟩:=hI.res _ _ _ _ hget
 have hcs:=TX es.length ys es0
 rw[<-hes0]at hcs
 have hle0:es.length<=es0.length:=by
  rcases hcs with h|h
  ·rw[h];exact br _
  ·have:=congrArg List.length h.1;rw[cg]at this;omega
 have htk:es=es0.take es.length:=by
  rcases hcs with h|h
  ·rw[h,dw]
  ·exact h.1
 have hC:es.length<=C:=Nat.le_trans hle0 hC1
 have hlen':∀x∈es,x.length=sz:=fun x hx=>hlen0 x (by rw[htk]at hx;exact cz hx)
 cases hx with
 |vec _ _ _ _ b' sz' C' a hb' hle' ha=>
  rw[hb]at hb'
  simp only[bj.injEq,cq.injEq]at hb'
  obtain⟨rfl,rfl,rfl⟩:=hb'
  have hp:∀g r l' k',(s.put l q g r).get l' k'=if l'=l/\k'=q then some (g,r) else s.get l' k':=fun g r l' k'=>St.get_put s hget l' k'
  obtain⟨olds,ho1,ho2,hza⟩:∃olds,RepL G es.flatten olds/\olds.length=es.length*i.size /\
    (C≠0->∃b' arr,a=some ⟨b',0,none⟩/\w.heap[b']? = some (.cells arr e (0,0))/\arr.size=C*i.size/\arr.toList.take (es.length*i.size)=olds/\b'=b/\sz=P.cellsOf e):=by
   by_cases hC0:C=0
   ·have:es=[]:=bw (by omega);subst this;exact⟨[],.nil G,by simp,fun h=>absurd hC0 h⟩
   ·have hne:es0≠[]:=fun h=>hC0 (hmax.2 h);have h0:0<es0.length:=cp.2 hne;have hsz:sz=P.cellsOf e:=by
     rw[<-hlen0 _ (bf h0)];rcases hcs with h|⟨_,y,hy1,h⟩
     ·exact hes _ (by rw[h];exact bf h0)
     ·rw[h _ (bf h0)];exact hysl y hy1
    obtain⟨arr,hh,hsz2,hr0⟩:=hrow hC0;have hr:RepL G es.flatten (arr.toList.take (es.length*sz)):=by
     have h1:=hr0.take (es.length*sz);rw[List.take_take,dx (bx _ hle0)]at h1;have e3:es0.flatten.take (es.length*sz)=es.flatten:=by
      have e4:es0.flatten=es.flatten++(es0.drop es.length).flatten:=by
       rw[<-cj];conv=>rhs;arg 1;arg 1;rw[htk]
       rw[bc]
      rw[e4];exact bt (YY hlen')
     rw[e3]at h1;exact h1
    refine⟨arr.toList.take (es.length*sz),hr,?_,fun _=>⟨b,arr,ha hC0,hh,by rw[hsz2,hsz,hb2],by rw[hsz,hb2],rfl,hsz⟩⟩;rw[AE1 hlen' hr,hsz,hb2]
  have hrun:=YZ (P:=P) (w:=w) (T:=T) (ty:=ty) (a:=a) (a1:=a1) (n:=es.length) (m:=ys.length) (C:=C) (c1:=c1) (olds:=olds) (news:=news) hu hi hiz hC ho2 (by rw[hnl,hb2])
   (fun h=>by obtain⟨b',arr,h1,h2,h3,h4,_⟩:=hza h;exact⟨b',arr,h1,h2,h3,h4⟩) (fun h=>hcell (by intro e;exact h (by simp[e]))) hL.one h63 (by rw[hb1]at hby;exact hby)
  have hall':∀e'∈es++ys,e'.length=P.cellsOf e:=fun e' he'=>by
   rcases List.mem_append.1 he' with h|h
   ·exact hes e' h
   ·exact hysl e' h
  have hflat:(es++ys).flatten=es.flatten++ys.flatten:=cj
  rcases hrun with⟨hm,hrun⟩|⟨hm,hfit,b',arr,rfl,hh,hrun⟩|⟨hm,hlt,C',hC',hCm,hrun⟩
  ·have hy0:ys=[]:=bw hm;subst hy0;have e5:es=es0:=hes0;subst e5;obtain⟨γ',G',hle,hI',hbe,hsl⟩:=hI.rename hget hb;refine⟨_,_,γ',G',hrun,hle,by simpa using hI',?_,hsl⟩;simpa using RepV.vec (G:=G') l q γ' es.length b sz C a hbe hC ha
  ·have hC0:C≠0:=by omega
   obtain⟨b'',arr',e1,h2,h3,h4,rfl,hsz⟩:=hza hC0;simp only[bj.injEq,Addr.mk.injEq,and_true]at e1;subst e1;rw[hh]at h2;cases h2;have hown:BG G γ (.vec e es0)=some b':=by simp[BG,hb,hC0]
   have hfit':es.length*i.size+news.length<=arr.toList.length:=by rw[hnl,hb2,<-bq];simp[h3];exact bx _ hfit
   have hrr:HJ G γ (w.setRow b' (arr.toList.take (es.length*i.size)++news++arr.toList.drop (es.length*i.size+news.length)).toArray) (.vec e (es++ys)):=by
    refine⟨b',sz,C,hb,by simpa using hfit,fun x hx=>by rw[hsz];exact hall' x hx,⟨hmax.1,fun h=>by simp at h;exact absurd (by simp[h.2]) hm⟩,fun _=>⟨_,setRow_heap w b' arr _ e _ hh,?_,?_⟩⟩
    ·rw[hsz,hb2];simp only[ck,bh,cg,cd];simp at hfit';rw[<-h3];simp;omega
    ·rw[hflat,h4];have e2:(olds++news++arr.toList.drop (es.length*i.size+news.length)).take ((es++ys).length*sz)=olds++news:=by refine bt ?_;rw[bh,ho2,hnl,bh,hsz,hb2,bq]
     show RepL G _ ((olds++news++arr.toList.drop (es.length*i.size+news.length)).take ((es++ys).length*sz));rw[e2];exact ho1.append hL
   have hI1:=hI.write hget hown (r':=.vec e (es++ys)) (by simp[BG,hb,hC0]) _ hrr ⟨_,_,hh⟩;have hget':(s.put l q γ (.vec e (es++ys))).get l q=some (γ,.vec e (es++ys)):=by rw[hp];simp
   obtain⟨γ',G',hle,hI',hbe,hsl⟩:=hI1.rename hget' hb;refine⟨_,_,γ',G',hrun,hle,hI'.congr fun l' k'=>?_,.vec _ _ _ _ b' sz C _ hbe hfit (fun _=>rfl),hsl⟩;rw[St.get_put _ hget',hp,hp];split<;>rfl
  ·obtain⟨γ',G',hle,hI',hbe,hsl⟩:=(hI.drawn (w.drawn+1)).newVec e (es++ys) (P.cellsOf e) C' l q (hp:=hp) (by simpa using hC') hCm (by intro h;simp at h;exact hm (by simp[h.2])) hall' (arr:=olds.toArray++news.toArray++Builtin.zeroCells zv.cells (C'-(es.length+ys.length)))
    (by simp only[dz,ck,MS,hnl,hzl,ho2,<-hb2,<-bq];congr 1;omega)
    (by rw[hflat];have:=TY zv.cells (C'-(es.length+ys.length)) ((es++ys).length*P.cellsOf e) ho1 hL (by rw[ho2,hnl,hb2,bh,bq]);exact this)
   exact⟨_,_,γ',G',hrun,hle,hI',.vec _ _ _ _ _ _ C' _ hbe hC' (fun _=>rfl),hsl⟩
theorem cD{T e:fk}{k1 k2:IntKind}{n d:Nat}{z:List V}(hI:CE G s w)(hel:BR P T=some (none,e))(hz:B8 P e=some z)(hzl:z.length=P.cellsOf e)
  (hby:n*P.bytesOf e<=140737488355328) (h63:n<=maxLen) :
  ∃u w' γ G',(Instr.makeSlice T (.int k1 n) (.int k2 n)).run P w=.ok u w'/\G.le G'/\CE G' (s.put s.up.length d γ (.vec e (bg n z))) w'/\RepV G' (.vec s.up.length d γ n) u:=by
 have hu:=CH hel
 obtain⟨zv,_,hrep,i,hi,hiz⟩:=J4 (G:=G) (w:=w) hz
 obtain⟨hb1,hb2⟩:=SH hi
 have hp:∀g r l' k',(s.put s.up.length d g r).get l' k'=if l'=s.up.length/\k'=d then some (g,r) else s.get l' k':=fun g r l' k'=>St.get_putLoc s l' k'
 have hzs:zv.cells.size=P.cellsOf e:=by have:=hrep.1;rw[hzl]at this;simpa using this.symm
 have hb3:(i.bytes:Int)*(n:Int)<=281474976710656:=by
  rw[hb1]at hby;have e:(i.bytes:Int)*n=((n*i.bytes:Nat):Int):=by rw[Int.mul_comm];rfl
  rw[e];omega
 have hrun:=run_make w T e i zv hu hi hiz k1 k2 (n:Int) (n:Int) (by omega) (by omega) hb3 (by unfold maxLen at h63;omega)
 simp only[Int.toNat_natCast]at hrun
 have e1:(madeCells zv.cells (n*i.size)).toList=(bg n zv.cells.toList).flatten:=by
  rw[KA zv.cells.toList n];by_cases h0:P.cellsOf e=0
  ·simp[madeCells,hzs,<-hb2,h0]
  ·simp only[madeCells,dp,dm,dh,hzs,<-hb2];apply dg;intro a _;have hm:a % P.cellsOf e<zv.cells.size:=by rw[hzs];exact Nat.mod_lt _ (by omega)
   simp[hm]
 by_cases hn:n=0
 ·subst hn;obtain⟨γ,G',hle,hI',hbe,_⟩:=(hI.grow (.cells (madeCells zv.cells (0*i.size)) e)).newNil e (P.cellsOf e) s.up.length d (fun g=>hp g _);exact⟨_,_,γ,G',hrun,hle,hI',.vec _ _ _ _ 0 _ 0 _ hbe (br _) (fun h=>absurd rfl h)⟩
 ·obtain⟨γ,G',hle,hI',hbe,_⟩:=hI.newVec e (bg n z) (P.cellsOf e) n s.up.length d (madeCells zv.cells (n*i.size)) hp (by simp) h63 (by cases n with|zero=>exact absurd rfl hn|succ m=>simp[cm]) (fun x hx=>by rw[(List.mem_replicate.1 hx).2];exact hzl)
   (by rw[size_madeCells,hb2]) (by
    rw[e1,List.length_replicate];have hl:((bg n zv.cells.toList).flatten).length=n*P.cellsOf e:=by simp[hzs]
    rw[dq (by rw[hl]; exact br _)];exact rep_repl hrep n)
  exact⟨_,_,γ,G',hrun,hle,hI',.vec _ _ _ _ _ _ n _ hbe (br _) (fun _=>rfl)⟩
end Go.Pg
