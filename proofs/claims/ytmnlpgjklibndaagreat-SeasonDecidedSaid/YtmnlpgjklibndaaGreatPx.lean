/- Running a Go function upon abstract values, by computing: values, appends, calls, a region's operations one after another. No program in sight. -/
import Derived.Test.YtmnlpgjklibndaaGreatQ1
noncomputable section
open Go renaming Oper->fx,Program->fc,Operand->ff,FuncId->fg,TypeId->fh
open Nat renaming eq_of_beq_eq_true->bj,beq->bf,le_refl->bt,lt_succ_self->cq,le_trans->dv,ble_eq->dc,le_succ->dm,blt->dr,blt_eq->dt,ble->fk
open List renaming all_eq_true->bq,map_congr_left->bw,map_append->bx,replicate->bh,length_replicate->bn,length_map->bp,map->br,map_take->cj,length_append->ck,map_inj_left->cx,map_id->cz,length_singleton->cd,eq_nil_of_length_eq_zero->cg,getElem?_append_right->cp,getElem?_append_left->cr,append_cancel_left->dj,map_flatten->dk,append_inj'->dq,map_cons->dw,mem_append_right->dx,getElem?_eq_none->dz,eq_nil_or_concat->db,mem_append->df,mem_append_left->dg,length->dh,mem_of_getElem?->dl,mem_map->dn,map_nil->dp,all_map->fj,map_map->fq
open Option renaming map_some->bz,bind_some->bg,some->cm
open Bool renaming and_eq_true->bc
open Prod renaming mk->fw
namespace Go.Pg
variable {P:fc}{σ σ':Nat->Nat}{δ:Nat}{pre:List AA}{s:St}{fr:Fr}{g:Bool}
def rdC(fr:Fr)(x:ff):Option (Bool×V):=match x with
 |.tmp t=>FD fr t
 |.const v=>match CK v with
  |some x=>some (true,x)
  |none=>none
 |.func f=>some (true,.fn f [] [])
 |.global _=>none
theorem AS1(x:ff):rdC fr x=rd fr x:=by
 cases x with
 |tmp t=>exact GM fr t
 |const v=>simp only[rdC,rd];cases CK v<;>rfl
 |func f=>rfl
 |global g=>rfl
def wK(fr:Fr)(c a b:ff):Option V:=match B5 fr c,rdC fr a,rdC fr b with
 |some (.bool c),some (ca,.bool a),some (cb,.bool b)=>Bool.rec (Bool.rec none (some (.bool b)) cb) (Bool.rec none (some (.bool a)) ca) c
 |_,_,_=>none
def ON(P:fc)(fr:Fr)(s:St)(T:fh)(x:ff):Option V:=match B5 fr x with
 |some p=>match BF s p with
  |some cs=>BT P T cs
  |none=>none
 |none=>none
def xFA(P:fc)(fr:Fr)(T:fh)(x:ff)(f:Nat):Option V:=match B5 fr x with
 |some p=>C8 P T p f
 |none=>none
def AAF(P:fc)(fr:Fr)(op:BinOp)(T:fh)(x y:ff):Option V:=match B5 fr x,B5 fr y with
 |some a,some b=>F3 P op T a b
 |_,_=>none
def UD(P:fc)(fr:Fr)(T:fh)(ps:List (Nat×ff)):Option V:=match DA (B5 fr) ps with
 |some l=>CP P T l
 |none=>none
def PM(P:fc)(fr:Fr)(T:fh)(n:Nat)(ps:List (Nat×ff)):Option V:=match DA (B5 fr) ps with
 |some l=>B9 P T n l
 |none=>none
def AAG(P:fc)(o:fx)(fr:Fr)(s:St):Option V:=match o.op with
 |.move x=>B5 fr x
 |.assign x=>B5 fr x
 |.load T x=>ON P fr s T x
 |.fieldAddr T x f=>xFA P fr T x f
 |.binOp op T x y _=>AAF P fr op T x y
 |.pick c a b=>wK fr c a b
 |.build T ps=>UD P fr T ps.toList
 |.buildSlice T n ps=>PM P fr T n ps.toList
 |.call { callee:=.builtin .append,args,argTypes }=>appS P true o args argTypes fr
 |_=>JG P o s (B5 fr)
theorem PN{o:fx}{v:V}(h:AAG P o fr s=some v):FP P true o fr s=some v:=by
 unfold AAG at h;unfold FP;split at h<;>rename_i ho
 ·simp only[ho,JG,<-FI];exact h
 ·simp only[ho,JG,<-FI];exact h
 ·unfold ON at h;split at h
  ·rename_i p e1;split at h
   ·rename_i cs e2;simp only[ho,JG,<-FI,e1,e2,bg];exact h
   ·cases h
  ·cases h
 ·unfold xFA at h;split at h
  ·rename_i p e1;simp only[ho,JG,<-FI,e1,bg];exact h
  ·cases h
 ·unfold AAF at h;split at h
  ·rename_i a b e1 e2;simp only[ho,JG,<-FI,e1,e2,bg];exact h
  ·cases h
 ·unfold wK at h;simp only[AS1]at h;split at h
  ·rename_i c ca a cb b e1 e2 e3;rw[DT]at e1;simp only[ho,e1,e2,e3];cases c with
   |true=>
    cases ca with
    |false=>cases h
    |true=>cases h;simp
   |false=>
    cases cb with
    |false=>cases h
    |true=>cases h;simp
  ·cases h
 ·unfold UD at h;split at h
  ·rename_i l e1;simp only[ho,<-FI,e1,bg];exact h
  ·cases h
 ·unfold PM at h;split at h
  ·rename_i l e1;simp only[ho,<-FI,e1,bg];exact h
  ·cases h
 ·simp only[ho];exact h
 ·rw[FI]at h;split
  ·rename_i ho';rw[JG,ho']at h;cases h
  ·rename_i ho';rw[JG,ho']at h;cases h
  ·rename_i ho';rw[JG,ho']at h;cases h
  ·rename_i ho';rw[JG,ho']at h;cases h
  ·exact h
theorem IH{α:Type}{b:Bool}{x y:α}(h:(Bool.rec none (some x) b:Option α)=some y):b=true/\x=y:=by
 cases b with
 |false=>cases h
 |true=>exact⟨rfl,cm.inj h⟩
theorem EC{α:Type}{b:Bool}{x:Option α}{y:α}(h:(Bool.rec none x b:Option α)=some y):b=true/\x=some y:=by
 cases b with
 |false=>cases h
 |true=>exact⟨rfl,h⟩
theorem SV{st:XS}(h:Bd st){v:V}{ys:List (List V)}(hv:TO st.c v)(he:elemsOf st.s v=some ys)(σ σ':Nat->Nat)(δ:Nat)(ha:AS st.c σ σ'):ys.map (br (V.ren σ δ))=ys.map (br (V.ren σ' δ)):=by have h1:=GZ (σ:=σ) (pre:=bh δ []) he;have h2:=GZ (σ:=σ') (pre:=bh δ []) he;rw[h.s σ σ' _ ha,hv σ σ' _ ha,h2]at h1;have:=cm.inj h1;rw[bn]at this;exact this.symm
theorem FQ(ys:List (List V))(m:Nat):(ys.map (br (V.ren σ δ))).all (fun y=>y.length==m)=ys.all (fun y=>y.length==m):=by rw[fj];congr 1;funext y;simp
def nD(P:fc)(d:Tmp)(e:fh)(ys:List (List V))(st:XS)(xv:V):Option (XS×Nat×Nat):=match xv with
 |.vec l q γ n=>match Q5 n ys (st.s.get l q)with
  |some (γ',.vec W es)=>Bool.rec none (some (⟨st.c+1,(d,true,.vec l q st.c (es++ys).length)::st.fr,st.s.put l q st.c (.vec e (es++ys))⟩,l,q))
    (bf γ' γ&&bf W e&&bf n es.length&&es.all (fun y=>y.length==P.cellsOf e)&&CD P e es.length ys)
  |_=>none
 |_=>none
def xAppG(el:St->V->Option (List (List V)))(P:fc)(d:Option Tmp)(args:List ff)(Ts:List fh)(st:XS):Option (XS×Nat×Nat):=match args,Ts,d with
 | [x,y],[T,U],some d=>Bool.rec none (match BR P T with
  |some (none,e)=>match B5 st.fr x,B5 st.fr y with
   |some xv,some yv=>match el st.s yv with
    |some ys=>match JH xv ys with
     |some es=>Bool.rec none (some (⟨st.c+1,(d,true,.vec st.s.up.length d st.c (es++ys).length)::st.fr,st.s.put st.s.up.length d st.c (.vec e (es++ys))⟩,st.s.up.length,d)) (es.all (fun y=>y.length==P.cellsOf e)&&CD P e es.length ys)
     |none=>nD P d e ys st xv
    |none=>none
   |_,_=>none
  | _=>none) (bf T U)
 |_,_,_=>none
theorem AFH(v:V):V6 (v.ren σ δ)=V6 v:=by
 cases v with
 |list f es=>cases f<;>cases es<;>simp[V6]
 |_=>simp[V6]
theorem nE(v:V)(ys:List (List V)):JH (v.ren σ δ) (ys.map (br (V.ren σ δ)))=(JH v ys).map (br (br (V.ren σ δ))):=by
 cases v with
 |list f es=>cases f<;>cases es<;>cases ys<;>simp[JH]
 |_=>simp[JH]
theorem sR{v:V}{es ys:List (List V)}(h:JH v ys=some es):elemsOf s v=some es:=by unfold JH at h;split at h<;>cases h<;>rfl
theorem dZ{e:fh}{n:Nat}(ys:List (List V)):CD P e n (ys.map (br (V.ren σ δ)))=CD P e n ys:=by unfold CD;rw[FQ,bp]
theorem AFI{n:Nat}(ys es:List (List V)):gS n (ys.map (br (V.ren σ δ))) (es.map (br (V.ren σ δ)))=(gS n ys es).map (br (V.ren σ δ)):=by
 cases ys with
 |nil=>rfl
 |cons y ys=>
  show(if _ then _ else _)=(if _ then _ else _:List (List V)).map _
  have e:(es.map (br (V.ren σ δ))).all (fun x=>x.length==(y.map (V.ren σ δ)).length)=es.all (fun x=>x.length==y.length):=by rw[fj,bp];congr 1;funext x;simp
  rw[e]
  split
  ·rw[cj]
  ·rfl
theorem nF{n γ:Nat}{ys es:List (List V)}{U:fh}{o:Option (Nat×A6)}(h:Q5 n ys o=some (γ,.vec U es)):Q5 n (ys.map (br (V.ren σ δ))) (o.map fun p=>(σ p.1,p.2.ren σ δ))=some (σ γ,.vec U (es.map (br (V.ren σ δ)))):=by obtain⟨es0,rfl,rfl⟩:=PF h;show some (σ γ,A6.vec U (gS n _ _))=_;rw[AFI]
theorem ZS{el:St->V->Option (List (List V))}(hel0:∀s v es,el s v=some es->elemsOf s v=some es){o:fx}{args:Array ff}{Ts:Array fh}{st st':XS}{l q:Nat}(h:Bd st)(ho:o.op=.call { callee:=.builtin .append,args:=args,argTypes:=Ts })
  (hx:xAppG el P o.dst args.toList Ts.toList st=some (st',l,q)):∃d r,o.dst=some d/\plR r=true/\st'=⟨st.c+1,(d,true,G9 r l q st.c)::st.fr,st.s.put l q st.c r⟩/\(∀σ σ' δ,AS st.c σ σ'->r.ren σ δ=r.ren σ' δ) /\
   (∀(σ:Nat->Nat) (pre:List AA) (k:Fr->St->Prop),(∀γ,k ((st.fr.ren σ pre.length).put d true (G9 (r.ren σ pre.length) (l+pre.length) q γ)) ((st.s.emb σ pre).put (l+pre.length) q γ (r.ren σ pre.length)))->EF P true o (st.fr.ren σ pre.length) (st.s.emb σ pre) k) /\
   (∀(W:AN) (σ:Nat->Nat) (pre:List AA),sealD o.dst=false->(∀p∈IL (B5 st.fr) args.toList,p∉W)->V8 P o (st.fr.ren σ pre.length) ((st.s.emb σ pre).hide (XD pre.length W)) (st.s.emb σ pre)=some (l+pre.length,q,r.ren σ pre.length)):=by
 unfold xAppG at hx
 split at hx
 ·rename_i x y T U d ha hT hd;obtain⟨hTU,hx2⟩:=EC hx;clear hx;have hTU:=bj hTU;subst hTU;have hx:=hx2;clear hx2;split at hx
  ·rename_i e hel;split at hx
   ·rename_i xv yv h1 h2;split at hx
    ·rename_i ys hys0;have hys:=hel0 _ _ _ hys0;have hyb:=SV h (h.rd h2) hys;have r1:=h1;have r2:=h2;rw[DT]at r1 r2;have hys2:∀(W:AN) (σ:Nat->Nat) (pre:List AA),(∀p∈IL (B5 st.fr) args.toList,p∉W)->elemsOf ((st.s.emb σ pre).hide (XD pre.length W)) (yv.ren σ pre.length)=some (ys.map (br (V.ren σ pre.length))):=fun W σ pre hW=>by refine iK (GZ hys) ?_;rw[ha]at hW;simp only[IL,h2]at hW;have:=nT (δ:=pre.length) hW;rw[<-NC (σ:=σ)]at this;exact this
     cases hn:JH xv ys with
     |some es=>
      rw[hn]at hx
      obtain⟨hc,he⟩:=IH hx
      simp only[fw.injEq]at he
      obtain⟨rfl,rfl,rfl⟩:=he
      simp only[bc]at hc
      obtain⟨hce,hc⟩:=hc
      have heb:=SV h (h.rd h1) (sR hn)
      refine⟨d,.vec e (es++ys),hd,rfl,rfl,fun σ σ' δ hag=>by simp only[A6.ren,bx,hyb σ σ' δ hag,heb σ σ' δ hag],fun σ pre k hk=>?_,fun W σ pre hsd hW=>?_⟩
      ·have hc':=hc;simp only[CD,bc,dt,dc]at hc;obtain⟨⟨⟨⟨c1,c2⟩,c3⟩,c4⟩,c5⟩:=hc;unfold EF;simp only[ho,ha,hT,hd,hel,C6,r1,r2,bz,bg,GZ hys,nE,hn,true_and];refine .inr ⟨c1,c2,by rw[FQ];exact hce,by rw[FQ];exact c3,by simpa using c4,by simpa using c5,fun γ=>?_⟩;have:=hk γ;simp only[G9,A6.ren]at this;rw[C5,<-bx];exact this
      ·unfold V8;simp only[ho,ha,hT,hd,hel,C6,r1,r2,bz,bg,hys2 _ _ _ hW,nE,hn,hd▸hsd,and_self,if_true,C5,A6.ren];rw[if_pos ⟨by rw[FQ];exact hce,by rw[dZ,bp];exact hc⟩,bx]
     |none=>
      rw[hn]at hx
      replace hx:nD P d e ys st xv=some (st',l,q):=hx
      unfold nD at hx
      split at hx
      ·rename_i l0 q0 γ0 n';split at hx
       ·rename_i γ' W es hg;obtain⟨hc,he⟩:=IH hx;simp only[fw.injEq]at he;obtain⟨rfl,rfl,rfl⟩:=he;simp only[bc]at hc;obtain⟨⟨⟨⟨c1,c2⟩,c3⟩,c6⟩,c7⟩:=hc;have c1:=bj c1;have c2:=bj c2;have c3:=bj c3;subst c1;subst c2;subst c3;have heb:∀σ σ' δ,AS st.c σ σ'->es.map (br (V.ren σ δ))=es.map (br (V.ren σ' δ)):=fun σ σ' δ ha=>by
         obtain⟨es0,hg0,e0⟩:=PF hg;have:=NA h hg0 σ σ' δ ha;have e1:es0.map (br (V.ren σ δ))=es0.map (br (V.ren σ' δ)):=by simpa [A6.ren]using this
         rcases TX es.length ys es0 with e2|⟨e2,_⟩
         ·rw[e0,e2,e1]
         ·rw[e0,e2,cj,cj,e1]
        refine⟨d,.vec W (es++ys),hd,rfl,rfl,fun σ σ' δ hag=>by simp only[A6.ren,bx,hyb σ σ' δ hag,heb σ σ' δ hag],fun σ pre k hk=>?_,fun W σ pre hsd hW=>?_⟩
        ·simp only[CD,bc,dt,dc]at c7;obtain⟨⟨⟨⟨d1,d2⟩,d3⟩,d4⟩,d5⟩:=c7;have hnn:JH (V.vec (l0+pre.length) q0 (σ γ') es.length) (ys.map (br (V.ren σ pre.length)))=none:=rfl;unfold EF;simp only[ho,ha,hT,hd,hel,C6,r1,r2,bz,bg,GZ hys,HT,BZ,nF hg,true_and,hnn];refine .inr ⟨by simp,d1,d2,by rw[FQ];exact c6,by rw[FQ];exact d3,by simpa using d4,by simpa using d5,fun γ=>?_⟩;have:=hk γ;simp only[G9,A6.ren,bx,ck,bp]at this|-;exact this
        ·have hnn:JH (V.vec (l0+pre.length) q0 (σ γ') es.length) (ys.map (br (V.ren σ pre.length)))=none:=rfl;unfold V8;simp only[ho,ha,hT,hd,hel,C6,r1,r2,bz,bg,hys2 _ _ _ hW,HT,BZ,nF hg,hnn,hd▸hsd,and_self,if_true];rw[if_pos ⟨trivial,trivial,by simp,by rw[FQ];exact c6,by rw[dZ,bp];exact c7⟩];simp only[A6.ren,bx]
       ·cases hx
      ·cases hx
    ·cases hx
   ·cases hx
  ·cases hx
 ·cases hx
theorem ZT{st:XS}(h:Bd st){d l q:Nat}{r:A6}(hp:plR r=true)(hr:∀σ σ' δ,AS st.c σ σ'->r.ren σ δ=r.ren σ' δ):IX st ⟨st.c+1,(d,true,G9 r l q st.c)::st.fr,st.s.put l q st.c r⟩:=by
 have hb:∀σ σ',AS (st.c+1) σ σ'->AS st.c σ σ':=fun σ σ' ha=>ha.mono (dm _);refine⟨dm _,⟨fun σ σ' δ ha=>?_,fun σ σ' pre ha=>?_,h.lp.put (UL hp)⟩,St.put_len _ _ _ _ _⟩
 ·show((st.fr.put d true (G9 r l q st.c)).ren σ δ)=((st.fr.put d true (G9 r l q st.c)).ren σ' δ);have e:∀σ:Nat->Nat,(G9 r l q st.c).ren σ δ=G9 (r.ren σ δ) (l+δ) q (σ st.c):=fun σ=>by cases r<;>simp[G9,A6.ren]
  simp only[HX,e];rw[h.f σ σ' δ (hb _ _ ha),ha st.c (cq _),hr σ σ' δ (hb _ _ ha)]
 ·simp only[CN];rw[h.s σ σ' pre (hb _ _ ha),hr σ σ' _ (hb _ _ ha),ha st.c (cq _)]
theorem nG(r:A6)(l q γ:Nat):(G9 r l q γ).ren σ δ=G9 (r.ren σ δ) (l+δ) q (σ γ):=by cases r<;>simp[G9,A6.ren]
theorem sS{st:XS}(h:Bd st){d l q:Nat}{r:A6}(hr:∀σ σ' δ,AS st.c σ σ'->r.ren σ δ=r.ren σ' δ){σ:Nat->Nat}{pre:List AA}{k:Fr->St->Prop}
  (hk:∀σ',AS st.c σ σ'->k (Fr.ren σ' pre.length ((d,true,G9 r l q st.c)::st.fr)) ((st.s.put l q st.c r).emb σ' pre)) (γ:Nat):k ((st.fr.ren σ pre.length).put d true (G9 (r.ren σ pre.length) (l+pre.length) q γ)) ((st.s.emb σ pre).put (l+pre.length) q γ (r.ren σ pre.length)):=by
 have:=hk (fun i=>if i=st.c then γ else σ i) (AS.upd _ _ _)
 have hag:=AS.upd st.c γ σ
 change k ((st.fr.put d true _).ren _ _) _ at this
 simp only[HX,nG,if_true,CN]at this
 rw[<-h.f _ _ _ hag,<-h.s _ _ _ hag,<-hr _ _ _ hag]at this
 exact this
theorem wL(r:Mk)(l k γ:Nat):(r.val l k γ).ren σ δ=Mk.val ⟨r.res.ren σ δ,r.t⟩ (l+δ) k (σ γ):=by
 obtain⟨r,t⟩:=r;cases t with
 |none=>exact nG _ _ _ _
 |some t=>exact M5 t
theorem AAH{st:XS}(h:Bd st){d l q:Nat}{r:Mk}(hp:plR r.res=true)(hr:∀σ σ' δ,AS st.c σ σ'->r.res.ren σ δ=r.res.ren σ' δ):IX st ⟨st.c+1,(d,true,r.val l q st.c)::st.fr,st.s.put l q st.c r.res⟩:=by
 have hb:∀σ σ',AS (st.c+1) σ σ'->AS st.c σ σ':=fun σ σ' ha=>ha.mono (dm _);refine⟨dm _,⟨fun σ σ' δ ha=>?_,fun σ σ' pre ha=>?_,h.lp.put (UL hp)⟩,St.put_len _ _ _ _ _⟩
 ·show((st.fr.put d true (r.val l q st.c)).ren σ δ)=((st.fr.put d true (r.val l q st.c)).ren σ' δ);simp only[HX,wL];rw[h.f σ σ' δ (hb _ _ ha),ha st.c (cq _),hr σ σ' δ (hb _ _ ha)]
 ·simp only[CN];rw[h.s σ σ' pre (hb _ _ ha),hr σ σ' _ (hb _ _ ha),ha st.c (cq _)]
theorem AKY{st:XS}(h:Bd st){d l q:Nat}{r:Mk}(hr:∀σ δ,r.res.ren σ δ=r.res){σ:Nat->Nat}{pre:List AA}{k:Fr->St->Prop}
  (hk:∀σ',AS st.c σ σ'->k (Fr.ren σ' pre.length ((d,true,r.val l q st.c)::st.fr)) ((st.s.put l q st.c r.res).emb σ' pre)) (γ:Nat):k ((st.fr.ren σ pre.length).put d true (r.val (l+pre.length) q γ)) ((st.s.emb σ pre).put (l+pre.length) q γ r.res):=by
 have:=hk (fun i=>if i=st.c then γ else σ i) (AS.upd _ _ _)
 have hag:=AS.upd st.c γ σ
 change k ((st.fr.put d true _).ren _ _) _ at this
 simp only[HX,wL,if_true,CN,hr]at this
 rw[<-h.f _ _ _ hag,<-h.s _ _ _ hag]at this
 exact this
def xAppend(P:fc)(d:Option Tmp)(args:List ff)(Ts:List fh)(st:XS):Option XS:=match xAppG elemsOf P d args Ts st with
 |some (st',_,_)=>some st'
 |none=>none
theorem sT{o:fx}{args:Array ff}{Ts:Array fh}{st st':XS}(h:Bd st)(ho:o.op=.call { callee:=.builtin .append,args:=args,argTypes:=Ts })(hx:xAppend P o.dst args.toList Ts.toList st=some st'):StepX P o st st':=by
 unfold xAppend at hx;split at hx
 ·rename_i st1 l q e1;cases hx;obtain⟨d,r,hd,hp,rfl,hr,hs,_⟩:=ZS (fun _ _ _ h=>h) h ho e1;exact⟨ZT h hp hr,fun σ pre k hk=>hs σ pre k fun γ=>sS h hr hk γ⟩
 ·cases hx
def wM(P:fc)(d:Option Tmp)(args:List ff)(Ts:List fh)(st:XS):Option XS:=match args,Ts with
 |[x,y],[T,_]=>match BR P T,B5 st.fr x,B5 st.fr y with
  |some (none,e),some (.vtl l q γ i n),some yv=>match st.s.get l q,elemsOf st.s yv with
   |some (γ',.box cs),some ys=>Bool.rec none (some { st with fr:=putD st.fr d true (.int .i64 ((min ys.length n:Nat):Int)),s:=st.s.put l q γ (.box (A8 cs i (ys.take n).flatten)) }) (bf γ' γ&&bf (P.cellsOf e) 1&&ys.all (fun y=>y.length==1)&&fk (i+n) cs.length&&dr γ st.c)
   |_,_=>none
  |_,_,_=>none
 |_,_=>none
theorem AFJ{o:fx}{args:Array ff}{Ts:Array fh}{st st':XS}(h:Bd st)(ho:o.op=.call { callee:=.builtin .copy,args:=args,argTypes:=Ts })(hx:wM P o.dst args.toList Ts.toList st=some st'):StepX P o st st':=by
 unfold wM at hx;split at hx
 ·rename_i x y T U ha hT;split at hx
  ·rename_i e l q γ i n yv hel h1 h2;split at hx
   ·rename_i γ' cs ys hg hys;cases hb:(bf γ' γ&&bf (P.cellsOf e) 1&&ys.all (fun y=>y.length==1)&&fk (i+n) cs.length&&dr γ st.c)with
    |false=>rw[hb]at hx;cases hx
    |true=>
     rw[hb]at hx
     cases hx
     simp only[bc,dt,dc]at hb
     obtain⟨⟨⟨⟨c1,c2⟩,c3⟩,c4⟩,c5⟩:=hb
     have c1:=bj c1
     have c2:=bj c2
     subst c1
     have hB:Bd { st with s:=st.s.put l q γ' (.box (A8 cs i (ys.take n).flatten)) }:=h.putS c5 fun σ σ' δ ha=>by have hr:=NA h hg σ σ' δ ha;have he:=SV h (h.rd h2) hys σ σ' δ ha;simp only[A6.ren,A6.box.injEq]at hr|-;rw[<-C9,<-C9,hr,dk,dk,cj,cj,he]
     refine⟨⟨bt _,hB.putF (fun _ _ _ _=>rfl),St.put_len _ _ _ _ _⟩,fun σ pre k hk=>?_⟩
     have:=hk σ (AS.refl _ _)
     rw[DT]at h1 h2
     unfold EF
     simp only[ho,ha,hT,hel,C6,h1,h2,bz,XA,bg,GZ hys,BZ,hg,A6.ren]
     refine⟨trivial,trivial,c2,?_,by simpa using c4,?_⟩
     ·rw[fj];exact c3▸(by congr 1;funext x;simp)
     ·simp only[E6,EE,CN,A6.ren,<-C9,dk,cj]at this;simpa only[bp]using this
   ·cases hx
  ·cases hx
 ·cases hx
end Go.Pg
namespace Go.Pg
variable {P:fc}{Ω:HO P}{σ σ':Nat->Nat}{δ:Nat}{pre:List AA}{s:St}{fr:Fr}{g:Bool}
def EL{α β:Type}(f:α->Option β):List α->Option (List β)
 |[]=>some []
 |x::l=>match f x with
  |some y=>match EL f l with
   |some r=>some (y::r)
   |none=>none
  |none=>none
theorem KW{α β:Type}(f:α->Option β):∀(l:List α),EL f l=l.mapM f
 |[]=>rfl
 |x::l=>by
  simp only[EL,List.mapM_cons,<-KW f l];cases f x with
  |none=>rfl
  |some y=>cases EL f l<;>rfl
abbrev CF:=fg->List V->XS->Option (V×XS)
abbrev CY:=Nat->Nat->Nat->List V->XS->Option (V×XS)
abbrev CF0:=fg->List V->Option V
abbrev wN:=fg->List V->Tmp->Option Mk
structure XE where
 cf:CF
 cy:CY
 c0:CF0
 co:wN
 lit:Tmp->Bool
def eA(P:fc)(cf:CF):Prop:=∀f args st r st',cf f args st=some (r,st')->Bd st->(∀v∈args,TO st.c v)->IX st st'/\TO st'.c r/\st'.fr=st.fr /\
 ∀(σ:Nat->Nat) (pre:List AA) (K:V->St->Prop),(∀σ',AS st.c σ σ'->K (r.ren σ' pre.length) (st'.s.emb σ' pre))->EA P f (args.map (V.ren σ pre.length)) (st.s.emb σ pre) K
def AS2(P:fc)(cy:CY):Prop:=∀l q γ vs st r st',cy l q γ vs st=some (r,st')->Bd st->(∀v∈vs,TO st.c v)->IX st st'/\TO st'.c r/\st'.fr=st.fr /\
 ∃fr0 ps asg body N,st.s.get l q=some (γ,.loop fr0 ps asg body N .ready)/\∀(σ:Nat->Nat) (pre:List AA) (k:V->St->Prop),(∀σ',AS st.c σ σ'->k (r.ren σ' pre.length) (st'.s.emb σ' pre)) ->
  YU P (l+pre.length) q (σ γ) (Fr.ren σ pre.length fr0) ps asg body N (vs.map (V.ren σ pre.length)) (st.s.emb σ pre) k
def EX(P:fc)(cf:CF0):Prop:=∀f args r,cf f args=some r->(∀s,EA P f args s fun r' s'=>r'=r/\s'=s)/\(∀v∈args,∀σ δ,v.ren σ δ=v)/\(∀σ δ,r.ren σ δ=r)
def sU(P:fc)(co:wN):Prop:=∀f args d r,co f args d=some r->(∀(s:St),EA P f args s fun v s'=>∃γ,v=r.val s.up.length d γ/\s'=s.put s.up.length d γ r.res) /\
 (∀v∈args,∀σ δ,v.ren σ δ=v)/\(∀σ δ,r.res.ren σ δ=r.res)/\plR r.res=true
structure KD(P:fc)(E:XE):Prop where
 cf:eA P E.cf
 cy:AS2 P E.cy
 c0:EX P E.c0
 co:sU P E.co
def KD.tab{E:XE}(h:KD P E)(own:fx->Bool):HO P:=⟨own,E.co,fun f args d r hc=>(h.co f args d r hc).1⟩
def sV(cy:CY)(d:Option Tmp)(l q γ:Nat)(args:List ff)(st:XS):Option XS:=match EL (B5 st.fr) args with
 |some vs=>match cy l q γ vs st with
  |some (r,st')=>some { st' with fr:=putD st'.fr d true r }
  |none=>none
 |none=>none
def SW(cf:CF)(cy:CY)(d:Option Tmp)(f:ff)(args:List ff)(st:XS):Option XS:=match B5 st.fr f with
 |some (.fn fid first cap)=>match EL (B5 st.fr) args with
  |some vs=>match cf fid ((first++vs++cap).map weakV) st with
   |some (r,st')=>some { st' with fr:=putD st'.fr d true r }
   |none=>none
  |none=>none
 |some (.yld l q γ)=>sV cy d l q γ args st
 |_=>none
def E3(co:wN)(d:Option Tmp)(f:ff)(args:List ff)(st:XS):Option XS:=match d,B5 st.fr f with
 |some d,some (.fn fid first cap)=>match EL (B5 st.fr) args with
  |some vs=>match co fid ((first++vs++cap).map weakV) d with
   |some r=>some ⟨st.c+1,(d,true,r.val st.s.up.length d st.c)::st.fr,st.s.put st.s.up.length d st.c r.res⟩
   |none=>none
  |none=>none
 |_,_=>none
def xVal(P:fc)(o:fx)(st:XS):Option XS:=match AAG P o st.fr st.s with
 |some v=>some { st with fr:=putD st.fr o.dst true v }
 |none=>none
def QM(E:XE)(own:Bool)(d:Option Tmp)(f:ff)(args:List ff)(st:XS):Option XS:=Bool.rec (SW E.cf E.cy d f args st) (match E3 E.co d f args st with
 |some st'=>some st'
 | none=>SW E.cf E.cy d f args st) own
def A5M(P:fc)(E:XE)(own:fx->Bool)(o:fx)(c:Call)(st:XS):Option XS:=match c.callee with
 |.value f=>QM E (own o) o.dst f c.args.toList st
 |.builtin .append=>Bool.rec (xAppend P o.dst c.args.toList c.argTypes.toList st) (xVal P o st) (sealD o.dst)
 |.builtin .clear=>UM P o.dst c.args.toList c.argTypes.toList st
 |.builtin .copy=>wM P o.dst c.args.toList c.argTypes.toList st
 |_=>xVal P o st
def QN(P:fc)(E:XE)(own:fx->Bool)(o:fx)(st:XS):Option XS:=match o.op with
 |.alloc T=>OS P o.dst T st
 |.box _ x=>nQ o.dst x st
 |.makeMap _ r=>AAN o.dst r st
 |.makeSlice T x y=>VT P o.dst T x y st
 |.store T x y=>JM P o.dst T x y st
 |.mapUpdate T x i y=>AAO P o.dst T x i y st
 |.call c=>A5M P E own o c st
 |_=>xVal P o st
theorem hO{o:fx}{st st':XS}(h:Bd st)(hx:xVal P o st=some st'):StepX P o st st':=by
 unfold xVal at hx;split at hx
 ·rename_i v hv;cases hx;exact AAM h (PN hv)
 ·cases hx
theorem XB{st:XS}(h:Bd st):∀{args:List ff} {vs:List V},EL (B5 st.fr) args=some vs->∀v∈vs,TO st.c v
 |[],vs,e,v,hv=>by cases e;cases hv
 |x::l,vs,e,v,hv=>by
  simp only[EL]at e;split at e
  ·rename_i y hy;split at e
   ·rename_i r hr;cases e;rcases List.mem_cons.1 hv with rfl|hv
    ·exact h.rd hy
    ·exact XB h hr v hv
   ·cases e
  ·cases e
theorem hQ{c:Nat}{v:V}(h:TO c v):TO c (weakV v):=fun σ σ' δ ha=>by rw[<-T8,<-T8,h σ σ' δ ha]
theorem AFK{c:Nat}{f:fg}{xs ys:List V}(h:TO c (.fn f xs ys)):(∀v∈xs,TO c v)/\(∀v∈ys,TO c v):=by
 refine⟨fun v hv σ σ' δ ha=>?_,fun v hv σ σ' δ ha=>?_⟩
 ·have:=h σ σ' δ ha;simp only[M4,V.fn.injEq]at this;exact cx.1 this.2.1 v hv
 ·have:=h σ σ' δ ha;simp only[M4,V.fn.injEq]at this;exact cx.1 this.2.2 v hv
theorem HV(l:List V):(l.map weakV).map (V.ren σ δ)=(l.map (V.ren σ δ)).map weakV:=by simp only[fq];congr 1;funext v;exact(T8 v).symm
theorem eB{E:XE}(hE:KD P E){own:fx->Bool}{o:fx}(hown:own o=true){f:ff}{args:Array ff}{Ts:Array fh}{st st':XS}(h:Bd st)(ho:o.op=.call { callee:=.value f,args:=args,argTypes:=Ts })(hx:E3 E.co o.dst f args.toList st=some st'):iJ P (hE.tab own) o st st':=by
 unfold E3 at hx;split at hx
 ·rename_i d fid first cap hd hf;split at hx
  ·rename_i vs hvs;split at hx
   ·rename_i r hc;cases hx;obtain⟨_,hcl,hr,hpl⟩:=hE.co _ _ _ _ hc;refine⟨AAH h hpl (fun σ σ' δ _=>by rw[hr,hr]),d,hd,fun σ pre k hk=>⟨r,?_,fun γ=>?_⟩⟩
    ·have hcd:H6 true o (st.fr.ren σ pre.length)=some (fid,(first++vs++cap).map weakV):=by
      rw[KW,FI]at hvs;rw[DT]at hf;simp only[H6,ho,IW,hf,bz,M4,HU hvs,cm.injEq,fw.injEq,true_and];have e:((first++vs++cap).map weakV).map (V.ren σ pre.length)=(first++vs++cap).map weakV:=by
       conv=>rhs;rw[<-cz ((first++vs++cap).map weakV)]
       exact bw fun v hv=>hcl v hv σ _
      rw[HV]at e;simpa only[bx]using e
     simp only[P7,ho,KD.tab,hown,if_true,hcd,hd,hc]
    ·have:=AKY h (d:=d) hr hk γ;rw[<-C5]at this;exact this
   ·cases hx
  ·cases hx
 ·cases hx
theorem nH{cf:CF}{cy:CY}(hcf:eA P cf)(hcy:AS2 P cy){o:fx}{f:ff}{args:Array ff}{Ts:Array fh}{st st':XS}(h:Bd st)(ho:o.op=.call { callee:=.value f,args:=args,argTypes:=Ts })(hx:SW cf cy o.dst f args.toList st=some st'):StepX P o st st':=by
 unfold SW at hx;split at hx
 ·rename_i fid first cap hf;split at hx
  ·rename_i vs hvs;split at hx
   ·rename_i r st1 hr;cases hx;have b1:=AFK (h.rd hf);have b2:=XB h hvs;obtain⟨hE,hrb,hfr,hA⟩:=hcf _ _ _ _ _ hr h (fun v hv=>by
     obtain⟨u,hu,rfl⟩:=dn.1 hv;refine hQ ?_;rcases df.1 hu with hu|hu
     ·rcases df.1 hu with hu|hu
      ·exact b1.1 u hu
      ·exact b2 u hu
     ·exact b1.2 u hu)
    refine⟨⟨hE.c,hE.bd.putF hrb,hE.n⟩,fun σ pre k hk=>?_⟩;rw[KW,FI]at hvs;rw[DT]at hf;unfold EF;simp only[ho,IW,hf,bz,M4,HU hvs];refine .inl ⟨rfl,?_⟩;have:=hA σ pre (fun r s'=>k (putD (st.fr.ren σ pre.length) o.dst true r) s') fun σ' ha=>?_
    ·rw[HV]at this;simpa only[bx]using this
    ·have h1:=hk σ' ha;rw[E6,hfr,<-h.f σ σ' _ ha]at h1;exact h1
   ·cases hx
  ·cases hx
 ·rename_i l q γ hf;unfold sV at hx;split at hx
  ·rename_i vs hvs;split at hx
   ·rename_i r st1 hr;cases hx;obtain⟨hE,hrb,hfr,fr0,ps,asg,body,N,hget,hA⟩:=hcy _ _ _ _ _ _ _ hr h (XB h hvs);refine⟨⟨hE.c,hE.bd.putF hrb,hE.n⟩,fun σ pre k hk=>?_⟩;rw[KW,FI]at hvs;rw[DT]at hf;unfold EF;simp only[ho,IW,hf,bz,gZ,HU hvs,BZ,hget,A6.ren];refine⟨trivial,trivial,?_⟩;refine hA σ pre (fun r s'=>k (putD (st.fr.ren σ pre.length) o.dst true r) s') fun σ' ha=>?_;have h1:=hk σ' ha;rw[E6,hfr,<-h.f σ σ' _ ha]at h1;exact h1
   ·cases hx
  ·cases hx
 ·cases hx
theorem nI{E:XE}(hE:KD P E){own:fx->Bool}{o:fx}{st st':XS}(h:Bd st)(hx:QN P E own o st=some st'):StepX P o st st':=by
 unfold QN at hx;split at hx
 ·rename_i T ho;exact(eK (Ω:=HO.nothing P) h ho hx).step
 ·rename_i T x ho;exact(wQ (Ω:=HO.nothing P) h ho hx).step
 ·rename_i T r ho;exact(wR (Ω:=HO.nothing P) h ho hx).step
 ·rename_i T x y ho;exact(nR (Ω:=HO.nothing P) h ho hx).step
 ·rename_i T x y ho;exact eL h ho hx
 ·rename_i T x i y ho;exact AK6 h ho hx
 ·rename_i c ho;obtain⟨callee,args,Ts⟩:=c;unfold A5M at hx;split at hx
  ·rename_i f hc;have hc:callee=.value f:=hc;subst hc;unfold QM at hx;cases hown:own o with
   |false=>rw[hown]at hx;exact nH hE.cf hE.cy h ho hx
   |true=>
    rw[hown]at hx
    have hx:(match E3 E.co o.dst f args.toList st with
     |some st'=>some st'
     | none=>SW E.cf E.cy o.dst f args.toList st)=some st':=hx
    split at hx
    ·rename_i st1 h1;cases hx;exact(eB hE hown h ho h1).step
    ·exact nH hE.cf hE.cy h ho hx
  ·rename_i hc;have hc:callee=.builtin .append:=hc;subst hc;cases hsd:sealD o.dst with
   |false=>rw[hsd]at hx;exact sT h ho hx
   |true=>rw[hsd]at hx;exact hO h hx
  ·rename_i hc;have hc:callee=.builtin .clear:=hc;subst hc;exact AAP h ho hx
  ·rename_i hc;have hc:callee=.builtin .copy:=hc;subst hc;exact AFJ h ho hx
  ·exact hO h hx
 ·exact hO h hx
def gdX(fr:Fr)(gd:Option (Tmp×Bool)):Option Bool:=match gd with
 |none=>some true
 |some (d,want)=>match FD fr d with
  |some (c,.bool b)=>some (c&&(b==want))
  |_=>none
theorem sW(gd:Option (Tmp×Bool)):gdX fr gd=NW fr gd:=by
 cases gd with
 |none=>rfl
 |some p=>simp only[gdX,NW,GM];rfl
theorem M8{gd:Option (Tmp×Bool)}(h:NW fr gd=some g):NW (fr.ren σ δ) gd=some g:=by
 cases gd with
 |none=>exact h
 |some p=>
  simp only[NW]at h|-
  split at h
  ·rename_i c b e;simp only[Fr.get_ren,e,bz,LQ];exact h
  ·cases h
def H7(d:Option Tmp)(st:XS):XS:={ st with fr:=putD st.fr d false (.bool false) }
def AFL(P:fc)(lit:Tmp->Bool)(o:fx)(st:XS):Option XS:=match o.op,o.dst with
 | .buildSlice T _ _,some d=>Bool.rec none (match BR P T,AAG P o st.fr st.s with
  |some (none,e),some (.list true (x::es))=>Bool.rec none (some ⟨st.c+1,(d,true,G9 (.vec e (x::es)) st.s.up.length d st.c)::st.fr,st.s.put st.s.up.length d st.c (.vec e (x::es))⟩) (fk (x::es).length maxLen)
  | _,_=>none) (lit d)
 |_,_=>none
theorem AK0{lit:Tmp->Bool}{o:fx}{st st':XS}(h:Bd st)(hx:AFL P lit o st=some st'):IX st st' /\
  ∀(σ:Nat->Nat) (pre:List AA) (k:Fr->St->Prop),(∀σ',AS st.c σ σ'->k (st'.fr.ren σ' pre.length) (st'.s.emb σ' pre))->A5I P true o (st.fr.ren σ pre.length) (st.s.emb σ pre) k:=by
 unfold AFL at hx
 split at hx
 ·rename_i T len parts d ho hd;obtain⟨_,hx⟩:=EC hx;split at hx
  ·rename_i e x es hel hv;obtain⟨hc,he⟩:=IH hx;cases he;have hv:=PN hv;have hb:=SV h (h.val hv) (ys:=x::es) rfl;refine⟨ZT h rfl fun σ σ' δ ha=>by simp only[A6.ren,hb σ σ' δ ha],fun σ pre k hk=>?_⟩;have hv':=JA (σ:=σ) (pre:=pre) hv;unfold FP at hv';simp only[ho]at hv';obtain⟨ps,h1,h2⟩:=Option.bind_eq_some_iff.1 hv';rw[EB]at h2;refine⟨T,len,parts,d,e,_,ps,ho,rfl,hd,hel,h1,h2,by simp,by simpa [dc]using hc,fun γ=>?_⟩;have:=sS h (d:=d) (r:=.vec e (x::es)) (fun σ σ' δ ha=>by simp only[A6.ren,hb σ σ' δ ha]) hk γ;rw[C5];simpa only[G9,A6.ren]using this
  ·cases hx
 ·cases hx
def AK1(all:List fx)(t:Tmp):Bool:=all.any fun p=>match p.op,p.dst with
 |.call { callee:=.builtin .append,.. },some d=>bf d t
 |_,_=>false
def OO(all:List fx)(st:XS):List ff->Option XS
 |[]=>none
 |x::r=>match x with
  | .tmp t=>Bool.rec (OO all st r) (match FD st.fr t with
   |some (true,.vec l q γ n)=>match st.s.get l q with
    |some (γ',.vec _ es)=>Bool.rec none (some ⟨st.c,(t,true,.list false (es.take n))::st.fr,st.s.put l q γ .dead⟩) (bf γ' γ&&fk n es.length&&dr γ st.c)
    |_=>none
   | _=>none) (AK1 all t)
  |_=>OO all st r
def WC(all:List fx):List ff->Option Tmp
 |[]=>none
 |x::r=>match x with
  |.tmp t=>cond (AK1 all t) (some t) (WC all r)
  |_=>WC all r
def BGK(all:List fx)(t:Tmp):Bool:=all.any fun p=>match p.op,p.dst with
 |.makeMap ..,some d=>bf d t
 |_,_=>false
def A5N(all:List fx)(t:Tmp):Bool:=all.any fun p=>match p.op,p.dst with
 | .build _ parts,some d=>bf d t&&(bf parts.size 2&&parts.toList.any fun z=>match z.2 with
  |.tmp m=>BGK all m
  | _=>false)
 |_,_=>false
def BGL(all:List fx)(t:Tmp):Bool:=all.any fun p=>match p.op,p.dst with
 |.box _ x,some d=>bf d t&&match x with
  |.tmp b=>A5N all b
  |_=>false
 |_,_=>false
def cI(all:List fx):List ff->Option Tmp
 |[]=>none
 |x::r=>match x with
  |.tmp t=>cond (BGL all t) (some t) (cI all r)
  |_=>cI all r
def wO(all:List fx)(o:fx)(st:XS):Option XS:=match o.op with
 |.call c=>match c.callee with
  |.value _=>match WC all c.args.toList with
   |some _=>OO all st c.args.toList
   |none=>match cI all c.args.toList with
    |some t=>some (LY t st)
    |none=>none
  |_=>none
 |_=>none
theorem UE{all:List fx}{st st1:XS}(h:Bd st):∀{xs:List ff},OO all st xs=some st1->IX st st1 /\
  ∀(o:fx) (σ:Nat->Nat) (pre:List AA) (k:Fr->St->Prop),EF P true o (st1.fr.ren σ pre.length) (st1.s.emb σ pre) k->AE0 P true o (st.fr.ren σ pre.length) (st.s.emb σ pre) k
 |[],hx=>by cases hx
 |x::r,hx=>by
  unfold OO at hx;split at hx
  ·rename_i t;cases hA:AK1 all t with
   |false=>rw[hA]at hx;exact UE h hx
   |true=>
    rw[hA]at hx
    have hx:(match FD st.fr t with
     |some (true,.vec l q γ n)=>match st.s.get l q with
      |some (γ',.vec _ es)=>Bool.rec none (some ⟨st.c,(t,true,.list false (es.take n))::st.fr,st.s.put l q γ .dead⟩) (bf γ' γ&&fk n es.length&&dr γ st.c)
      |_=>none
     | _=>none)=some st1:=hx
    split at hx
    ·rename_i l q γ n hg;split at hx
     ·rename_i γ' T es hs;obtain⟨hc,he⟩:=IH hx;simp only[bc]at hc;obtain⟨⟨h1,h2⟩,h3⟩:=hc;have h1:=bj h1;have h2:n<=es.length:=by simpa [dc]using h2
      have h3:γ<st.c:=by simpa [dt]using h3
      subst h1;cases he;rw[GM]at hg;have hb:∀σ σ' δ,AS st.c σ σ'->es.map (br (V.ren σ δ))=es.map (br (V.ren σ' δ)):=fun σ σ' δ ha=>by have:=NA h hs σ σ' δ ha;simpa [A6.ren]using this
      have hv:TO st.c (.list false (es.take n)):=fun σ σ' δ ha=>by simp only[EB,cj,hb σ σ' δ ha]
      have hbd:Bd ⟨st.c,(t,true,.list false (es.take n))::st.fr,st.s.put l q γ' .dead⟩:=(h.putS (l:=l) (k:=q) (r:=.dead) h3 (fun _ _ _ _=>rfl)).putF (d:=some t) (c:=true) hv;refine⟨⟨bt _,hbd,St.put_len _ _ _ _ _⟩,fun o σ pre k hk=>⟨rfl,_,_,AKO (t:=t) (l:=l+pre.length) (q:=q) (γ:=σ γ') (m:=n) (T:=T) (es:=es.map (br (V.ren σ pre.length))) ?_ ?_ (by simpa using h2),?_⟩⟩
      ·rw[Fr.get_ren,hg];simp
      ·rw[BZ,hs];simp[A6.ren]
      ·change EF P true o ((st.fr.put t true _).ren _ _) _ k at hk;simp only[HX,EB,CN,A6.ren,cj]at hk;exact hk
     ·cases hx
    ·cases hx
  ·exact UE h hx
theorem AFM{all:List fx}{o:fx}{st st1:XS}(h:Bd st)(hx:wO all o st=some st1):IX st st1 /\
  ∀(σ:Nat->Nat) (pre:List AA) (k:Fr->St->Prop),EF P true o (st1.fr.ren σ pre.length) (st1.s.emb σ pre) k->AE0 P true o (st.fr.ren σ pre.length) (st.s.emb σ pre) k:=by
 unfold wO at hx
 split at hx
 ·split at hx
  ·split at hx
   ·obtain⟨h1,h2⟩:=UE (P:=P) h hx;exact⟨h1,fun σ pre k=>h2 o σ pre k⟩
   ·split at hx
    ·cases hx;obtain⟨h1,h2⟩:=AF9 h;exact⟨h1,fun σ pre k hk=>⟨rfl,_,_,h2 σ pre,hk⟩⟩
    ·cases hx
  ·cases hx
 ·cases hx
def opX(P:fc)(E:XE)(all:List fx)(o:fx)(st:XS):Option XS:=match gdX st.fr (LA all o)with
 |some true=>match AFL P E.lit o st with
  |some st'=>some st'
  |none=>match wO all o st with
   |some st1=>QN P E (DH all) o st1
   |none=>QN P E (DH all) o st
 |some false=>some (H7 o.dst st)
 |none=>none
theorem eC{d:Option Tmp}{st:XS}(h:Bd st):IX st (H7 d st):=⟨bt _,h.putF (fun σ σ' δ _=>by simp),rfl⟩
theorem AFN{E:XE}(hE:KD P E){all:List fx}{o:fx}{st st':XS}(h:Bd st)(hx:opX P E all o st=some st'):IX st st'/\∃g,(∀σ δ,NW (st.fr.ren σ δ) (LA all o)=some g) /\
  ∀(σ:Nat->Nat) (pre:List AA) (k:Fr->St->Prop),(∀σ',AS st.c σ σ'->k (st'.fr.ren σ' pre.length) (st'.s.emb σ' pre))->SE P g o (st.fr.ren σ pre.length) (st.s.emb σ pre) k:=by
 unfold opX at hx
 rw[sW]at hx
 split at hx
 ·rename_i hg;split at hx
  ·rename_i st1 hl;cases hx;obtain⟨h1,h2⟩:=AK0 h hl;exact⟨h1,true,fun σ δ=>M8 hg,fun σ pre k hk=>.inr (.inr (.inl (h2 σ pre k hk)))⟩
  ·split at hx
   ·rename_i st1 ht;obtain⟨hE1,hs1⟩:=AFM (P:=P) h ht;obtain⟨h1,h2⟩:=nI hE hE1.bd hx;exact⟨⟨dv hE1.c h1.c,h1.bd,h1.n.trans hE1.n⟩,true,fun σ δ=>M8 hg,fun σ pre k hk=>.inr (.inr (.inr (hs1 σ pre k (h2 σ pre k fun σ' ha=>hk σ' (ha.mono hE1.c)))))⟩
   ·obtain⟨h1,h2⟩:=nI hE h hx;exact⟨h1,true,fun σ δ=>M8 hg,fun σ pre k hk=>.inl (h2 σ pre k hk)⟩
 ·rename_i hg;cases hx;refine⟨eC h,false,fun σ δ=>M8 hg,fun σ pre k hk=>.inr (.inl ⟨rfl,.bool false,?_⟩)⟩;have:=hk σ (AS.refl _ _);simpa only[H7,E6,LQ]using this
 ·cases hx
def hU(P:fc)(E:XE)(all:List fx):List fx->XS->Option XS
 |[],st=>some st
 |o::r,st=>match opX P E all o st with
  |some st'=>hU P E all r st'
  |none=>none
theorem iA{E:XE}(hEE:KD P E){all:List fx}:∀{l:List fx} {st st':XS},Bd st->hU P E all l st=some st'->IX st st' /\
  ∀(σ:Nat->Nat) (pre:List AA) (K:Fr->St->Prop),(∀σ',AS st.c σ σ'->K (st'.fr.ren σ' pre.length) (st'.s.emb σ' pre))->VH P (l.map (LA all)) l (st.fr.ren σ pre.length) (st.s.emb σ pre) K
 |[],st,st',h,hx=>by cases hx;exact⟨⟨bt _,h,rfl⟩,fun σ pre K hk=>hk σ (AS.refl _ _)⟩
 |o::l,st,st',h,hx=>by
  simp only[hU]at hx;split at hx
  ·rename_i st1 h1;obtain⟨hE,g,hg,hs⟩:=AFN hEE h h1;obtain⟨hE',hs'⟩:=iA hEE hE.bd hx;refine⟨⟨dv hE.c hE'.c,hE'.bd,hE'.n.trans hE.n⟩,fun σ pre K hk=>?_⟩;simp only[dw,VH,hg];exact hs σ pre _ fun σ' ha=>hs' σ' pre K fun σ'' ha'=>hk σ'' (ha.trans ha' hE.c)
  ·cases hx
def FR(cf:CF0)(d:Option Tmp)(f:ff)(args:List ff)(st:XS):Option XS:=match B5 st.fr f with
 |some (.fn fid first cap)=>match EL (B5 st.fr) args with
  |some vs=>match cf fid ((first++vs++cap).map weakV)with
   |some r=>some { st with fr:=putD st.fr d true r }
   |none=>none
  |none=>none
 |_=>none
def AFO(co:wN)(d:Tmp)(f:fg)(γ n:Nat):Option (Nat×A6)->Option V
 | some (γ',.vec _ es)=>Bool.rec none (match co f [.list false (es.take n)] d with
  |some ⟨.vec _ es',none⟩=>Bool.rec none (some (.list false es')) (es'.all (·.all eP))
  | _=>none) (bf γ' γ&&(fk n es.length&&(es.take n).all (·.all (FT 8))))
 |_=>none
def iB(co:wN)(d:Option Tmp)(f:fg)(γ n:Nat)(o:Option (Nat×A6))(st:XS):Option XS:=match d with
 |some dd=>match AFO co dd f γ n o with
  |some v=>some { st with fr:=putD st.fr d true v }
  |none=>none
 |none=>none
def OP(c0:CF0)(co:wN)(d:Option Tmp)(f:ff)(args:List ff)(st:XS):Option XS:=match f,args with
 |.func fid,[x]=>match B5 st.fr x with
  |some (.vec l q γ n)=>iB co d fid γ n (st.s.get l q) st
  |_=>FR c0 d f args st
 |_,_=>FR c0 d f args st
def noW(r:Option XS):Option (XS×AN):=match r with
 |some st=>some (st,[])
 |none=>none
def xAppD(P:fc)(d:Option Tmp)(args:List ff)(Ts:List fh)(st:XS):Option (XS×AN):=match xAppG elemsOf P d args Ts st with
 |some (st',l,q)=>some (st',[(l,q),(l,q+P8)])
 |none=>none
def AOU(P:fc)(E:XE)(own:fx->Bool)(o:fx)(c:Call)(st:XS):Option (XS×AN):=match c.callee with
 |.value f=>Bool.rec (noW (cond (F7 f) (OP E.c0 E.co o.dst f c.args.toList st) (FR E.c0 o.dst f c.args.toList st))) (noW (E3 E.co o.dst f c.args.toList st)) (own o)
 |.builtin .append=>Bool.rec (xAppD P o.dst c.args.toList c.argTypes.toList st) (noW (xVal P o st)) (sealD o.dst)
 |_=>noW (xVal P o st)
def AFP(P:fc)(d:Option Tmp)(T:fh)(x y:ff)(st:XS):Option (XS×AN):=match JM P d T x y st with
 |some st'=>some (st',IJ (bf (P.cellsOf T) 1) (B5 st.fr x))
 |none=>none
def iC(P:fc)(E:XE)(own:fx->Bool)(o:fx)(st:XS):Option (XS×AN):=match o.op with
 |.alloc T=>noW (OS P o.dst T st)
 |.box _ x=>noW (nQ o.dst x st)
 |.makeMap _ r=>noW (AAN o.dst r st)
 |.makeSlice T x y=>noW (VT P o.dst T x y st)
 |.store T x y=>AFP P o.dst T x y st
 |.call c=>AOU P E own o c st
 |_=>noW (xVal P o st)
def sX(P:fc)(E:XE)(all:List fx)(o:fx)(st:XS):Option (XS×AN):=match gdX st.fr (LA all o)with
 |some true=>iC P E (DH all) o st
 |some false=>Bool.rec (some (H7 o.dst st,[])) none (kW o||kP o)
 |none=>none
theorem GG{r:Option XS}{st':XS}{wr:AN}(h:noW r=some (st',wr)):r=some st'/\wr=[]:=by
 unfold noW at h;split at h
 ·cases h;exact⟨rfl,rfl⟩
 ·cases h
theorem AAI{co:wN}{d:Option Tmp}{f:fg}{γ n:Nat}{x:Option (Nat×A6)}{st st':XS}(h:iB co d f γ n x st=some st'):∃dd v,d=some dd/\AFO co dd f γ n x=some v/\st'={ st with fr:=putD st.fr d true v }:=by
 unfold iB at h;split at h
 ·split at h
  ·rename_i dd _ v hv;cases h;exact⟨dd,v,rfl,hv,rfl⟩
  ·cases h
 ·cases h
theorem nJ{c0:CF0}{co:wN}{d:Option Tmp}{f:ff}{args:List ff}{st st':XS}(h:OP c0 co d f args st=some st'):FR c0 d f args st=some st'\/∃fid x l q γ n,f=.func fid/\args=[x]/\B5 st.fr x=some (.vec l q γ n)/\iB co d fid γ n (st.s.get l q) st=some st':=by
 unfold OP at h;split at h
 ·split at h
  ·rename_i x l q γ n hx;exact .inr ⟨_,_,l,q,γ,n,rfl,rfl,hx,h⟩
  ·exact .inl h
 ·exact .inl h
theorem AAJ{co:wN}{d:Tmp}{f:fg}{γ n:Nat}{x:Option (Nat×A6)}{v:V}(h:AFO co d f γ n x=some v):∃T0 es T es',x=some (γ,.vec T0 es)/\n<=es.length/\(es.take n).all (·.all (FT 8))=true/\co f [.list false (es.take n)] d=some ⟨.vec T es',none⟩/\es'.all (·.all eP)=true/\v=.list false es':=by
 unfold AFO at h;split at h
 ·rename_i γ' T0 es;obtain⟨hc,h⟩:=EC h;simp only[bc]at hc;split at h
  ·rename_i T es' hco;obtain⟨hc2,h⟩:=IH h;cases h;exact⟨T0,es,T,es',by rw[bj hc.1],Nat.le_of_ble_eq_true hc.2.1,hc.2.2,hco,hc2,rfl⟩
  ·cases h
 ·cases h
theorem sY{es:List (List V)}(h:es.all (·.all eP)=true):FT 9 (.list false es)=true:=bq.2 fun e he=>bq.2 fun v hv=>by have:=bq.1 (bq.1 h e he) v hv;cases v<;>first|rfl|cases this
def AK2(P:fc)(Ω:HO P)(all:List fx)(o:fx)(st st':XS)(wr:AN):Prop:=IX st st' /\
  ∀(W:AN) (σ:Nat->Nat) (pre:List AA) (k:Fr->St->Prop),(∀p∈D9 P o (B5 st.fr),p∉W)->(∀p∈wr,p∈W)->(∀σ',AS st.c σ σ'->k (st'.fr.ren σ' pre.length) (st'.s.emb σ' pre))->I9 P Ω (XD pre.length W) o (LA all o) (st.fr.ren σ pre.length) (st.s.emb σ pre) k
theorem AK3{E:XE}(hE:KD P E){all:List fx}{o:fx}{st st':XS}{wr:AN}(h:Bd st)(hx:sX P E all o st=some (st',wr)):AK2 P (hE.tab (DH all)) all o st st' wr:=by
 have val:∀{st'},(∀σ δ,NW (st.fr.ren σ δ) (LA all o)=some true)->xVal P o st=some st'->AK2 P (hE.tab (DH all)) all o st st' wr:=by
  intro st' hg hx;unfold xVal at hx;split at hx
  ·rename_i v hv;cases hx;have hv:=PN hv;refine⟨⟨bt _,h.putF (h.val hv),rfl⟩,fun W σ pre k hr _ hk=>.inl ⟨true,v.ren σ pre.length,⟨hg _ _,?_⟩,?_⟩⟩
   ·have hrd:∀p∈D9 P o (DU true (st.fr.ren σ pre.length)),p∉XD pre.length W:=by rw[IW,tJ,<-FI];exact nT hr
    cases hi:nS P o (DU true (st.fr.ren σ pre.length))with
    |true=>exact .inr (.inr (.inl (AS9 (JA hv) hi hrd)))
    |false=>exact .inl ⟨_,NB _,AAQ (JA hv) hi hrd⟩
   ·have:=hk σ (AS.refl _ _);rwa [E6]at this
  ·cases hx
 have new:∀{st'},(∀σ δ,NW (st.fr.ren σ δ) (LA all o)=some true)->iJ P (hE.tab (DH all)) o st st'->AK2 P (hE.tab (DH all)) all o st st' wr:=by intro st' hg hn;obtain⟨h1,d,hd,h2⟩:=hn;refine⟨h1,fun W σ pre k _ _ hk=>?_⟩;obtain⟨r,hr,h3⟩:=h2 σ pre k hk;exact .inr (.inl ⟨r,d,⟨hg _ _,hd,hr⟩,h3⟩)
 unfold sX at hx;rw[sW]at hx;split at hx
 ·rename_i hg;have hg':∀σ δ,NW (st.fr.ren σ δ) (LA all o)=some true:=fun σ δ=>M8 hg;unfold iC at hx;split at hx
  ·rename_i T ho;exact new hg' (eK h ho (GG hx).1)
  ·rename_i T x ho;exact new hg' (wQ h ho (GG hx).1)
  ·rename_i T r ho;exact new hg' (wR h ho (GG hx).1)
  ·rename_i T x y ho;exact new hg' (nR h ho (GG hx).1)
  ·rename_i T x y ho;unfold AFP at hx;split at hx
   ·rename_i st1 hx1;cases hx;obtain⟨hE1,_⟩:=eL h ho hx1;obtain⟨l,q,γ,r,hD,rfl⟩:=AFX ho hx1;refine⟨hE1,fun W σ pre k _ hw hk=>.inr (.inr (.inl ⟨_,_,_,_,⟨hg' _ _,?_,tE hD⟩,?_⟩))⟩
    ·have hp:=Y9 hD;unfold sH at hp;simp only[ho]at hp;have main:∀off,(DU true st.fr x=some (.ptr l q γ off)\/∃i,DU true st.fr x=some (.eptr l q γ i off))->WOK P (XD pre.length W) o (st.fr.ren σ pre.length) (l+pre.length) q:=by
      intro off hx;have hC:JL P o (st.fr.ren σ pre.length)=some (off,P.cellsOf T):=by unfold JL;rcases hx with hx|⟨i,hx⟩<;>simp only[ho,C6,hx,bz,HS,OK]
      cases hb:bf (P.cellsOf T) 1 with
      |true=>
       have h1:=bj hb
       have hpl:IJ (bf (P.cellsOf T) 1) (B5 st.fr x)=[(l,q),(l,NX q off)]:=by rw[DT,hb];rcases hx with hx|⟨i,hx⟩<;>rw[hx]<;>rfl
       rw[hpl]at hw
       refine⟨KY.2 (hw _ (by simp)),.inr fun off' n' e c h2 h3=>?_⟩
       rw[hC]at e
       cases e
       obtain rfl:c=off:=by omega
       exact KY.2 (hw _ (by simp))
      |false=>
       have hpl:IJ (bf (P.cellsOf T) 1) (B5 st.fr x)=[(l,q),(l,q+SK)]:=by rw[DT,hb];rcases hx with hx|⟨i,hx⟩<;>rw[hx]<;>rfl
       rw[hpl]at hw
       exact⟨KY.2 (hw _ (by simp)),.inl (KY.2 (hw _ (by simp)))⟩
     split at hp
     ·rename_i l1 q1 γ1 off e;cases hp;exact main off (.inl e)
     ·rename_i l1 q1 γ1 i off e;cases hp;exact main off (.inr ⟨i,e⟩)
     ·cases hp
    ·have:=hk σ (AS.refl _ _);simp only[CN]at this;exact this
   ·cases hx
  ·rename_i c ho;obtain⟨callee,args,Ts⟩:=c;unfold AOU at hx;split at hx
   ·rename_i f hc;have hc:callee=.value f:=hc;subst hc;cases hown:DH all o with
    |true=>
     rw[hown]at hx
     exact new hg' (eB hE hown h ho (GG hx).1)
    |false=>
     rw[hown]at hx
     have hx:=(GG hx).1
     have plain:∀{st'},FR E.c0 o.dst f args.toList st=some st'->AK2 P (hE.tab (DH all)) all o st st' wr:=by
      intro st' hx;unfold FR at hx;split at hx
      ·rename_i fid first cap hf;split at hx
       ·rename_i vs hvs;split at hx
        ·rename_i r hr;cases hx;obtain⟨hA,hcl,hrc⟩:=hE.c0 _ _ _ hr;refine⟨⟨bt _,h.putF (fun σ σ' δ _=>by rw[hrc,hrc]),rfl⟩,fun W σ pre k _ _ hk=>.inl ⟨true,r,⟨hg' _ _,.inr (.inl ⟨fid,(first++vs++cap).map weakV,?_,hown,_,NB _,fun _ s _=>hA s⟩)⟩,?_⟩⟩
         ·rw[KW,FI]at hvs;rw[DT]at hf;simp only[H6,ho,IW,hf,bz,M4,HU hvs,cm.injEq,fw.injEq,true_and];have e:((first++vs++cap).map weakV).map (V.ren σ pre.length)=(first++vs++cap).map weakV:=by
           conv=>rhs;rw[<-cz ((first++vs++cap).map weakV)]
           exact bw fun v hv=>hcl v hv σ _
          rw[HV]at e;simpa only[bx]using e
         ·have:=hk σ (AS.refl _ _);rwa [E6,hrc]at this
        ·cases hx
       ·cases hx
      ·cases hx
     cases hrow:F7 f with
     |false=>rw[hrow]at hx;exact plain hx
     |true=>
      rw[hrow]at hx
      have hx:OP E.c0 E.co o.dst f args.toList st=some st':=hx
      rcases nJ hx with hx|⟨fid,x,l,q,γ,n,rfl,e2,hxv,hx⟩
      ·exact plain hx
      ·obtain⟨dd,v,hd,hv,rfl⟩:=AAI hx;obtain⟨T0,es,T,es',hget,hn,hpu,hco,hce,rfl⟩:=AAJ hv;obtain⟨hA,hcl,_,_⟩:=hE.co _ _ _ _ hco;have hren:∀σ δ,(V.list false es').ren σ δ=.list false es':=fun σ δ=>B7 9 _ (E1 9 _ (sY hce));have hesr:∀σ δ,((es.map (br (V.ren σ δ))).take n)=es.take n:=fun σ δ=>by
        rw[<-cj];conv=>rhs;rw[<-cz (es.take n)]
        refine bw fun e he=>?_;conv=>rhs;rw[id_eq,<-cz e]
        exact bw fun v hv=>B7 8 v (E1 8 v (bq.1 (bq.1 hpu e he) v hv))
       refine⟨⟨bt _,h.putF (fun σ σ' δ _=>by rw[hren,hren]),rfl⟩,fun W σ pre k hrd _ hk=>.inl ⟨true,.list false es',⟨hg' _ _,.inr (.inl ⟨fid,[.vec (l+pre.length) q (σ γ) n],?_,hown,_,NB _,fun _ s hs=>?_⟩)⟩,?_⟩⟩
       ·have hxv':B5 st.fr x=some (.vec l q γ n):=hxv;rw[DT]at hxv';have hvs:[x].mapM (DU true st.fr)=some [.vec l q γ n]:=by rw[List.mapM_cons,hxv'];rfl
        have hf:DU true st.fr (.func fid)=some (.fn fid [] []):=rfl;simp only[H6,ho,e2,IW,hf,bz,M4,HU hvs,cm.injEq,fw.injEq,true_and];rfl
       ·have hrr:D9 P o (B5 st.fr)=[(l,q)]:=by simp only[D9,ho,hrow,e2,cond_true,RF,hxv,EN]
        have hnW:(l+pre.length,q)∉XD pre.length W:=fun hc=>hrd (l,q) (by rw[hrr]; simp) (KY.1 hc);have hg2:s.get (l+pre.length) q=some (σ γ,.vec T0 (es.map (br (V.ren σ pre.length)))):=hs _ _ _ (by
         rw[St.get_hide hnW,BZ,hget];rfl)
        exact AGB hpu hce hA hg2 (hesr _ _) (by simpa using hn)
       ·have:=hk σ (AS.refl _ _);rwa [E6,hren]at this
   ·rename_i hc;have hc:callee=.builtin .append:=hc;subst hc;cases hsd:sealD o.dst with
    |true=>
     rw[hsd]at hx
     exact val hg' (GG hx).1
    |false=>
    rw[hsd]at hx;replace hx:xAppD P o.dst args.toList Ts.toList st=some (st',wr):=hx;unfold xAppD at hx;split at hx
    ·rename_i st1 l q e1;cases hx;obtain⟨d,r,hd,hp,rfl,hr,_,hs⟩:=ZS (fun _ _ _ h=>h) h ho e1;have hra:D9 P o (B5 st.fr)=IL (B5 st.fr) args.toList:=by simp only[D9,ho]
     refine⟨ZT h hp hr,fun W σ pre k hrd hw hk=>.inr (.inr (.inr ⟨l+pre.length,q,r.ren σ pre.length,d,⟨hg' _ _,⟨KY.2 (hw _ (by simp)),KY.2 (hw _ (by simp))⟩,hd,_,NB _,hs W σ pre hsd (by rw[<-hra];exact hrd)⟩,fun γ=>sS h hr hk γ⟩))⟩
    ·cases hx
   ·exact val hg' (GG hx).1
  ·exact val hg' (GG hx).1
 ·rename_i hg;cases hk:(kW o||kP o)with
  |true=>rw[hk]at hx;cases hx
  |false=>
   rw[hk]at hx
   cases hx
   rw[Bool.or_eq_false_iff]at hk
   refine⟨eC h,fun W σ pre k _ _ hk'=>.inl ⟨false,.bool false,⟨M8 hg,.inr (.inr (.inr ⟨rfl,rfl,hk.1,hk.2⟩))⟩,?_⟩⟩
   have:=hk' σ (AS.refl _ _)
   simpa only[H7,E6,LQ]using this
 ·cases hx
def phX(P:fc)(E:XE)(l:List fx):List Nat->XS->AN->AN->Option (XS×AN×AN)
 |[],st,rd,wr=>some (st,rd,wr)
 |i::r,st,rd,wr=>match l[i]? with
  |some o=>match sX P E l o st with
   |some (st',w)=>phX P E l r st' (cond (zB l o) [] (D9 P o (B5 st.fr))++rd) (w++wr)
   |none=>none
  |none=>none
def sqX(P:fc)(E:XE)(l:List fx):List Nat->XS->Option XS
 |[],st=>some st
 |i::r,st=>match l[i]? with
  |some o=>match opX P E l o st with
   |some st'=>sqX P E l r st'
   |none=>none
  |none=>none
def AAK(P:fc)(E:XE)(l:List fx):V9->XS->Option XS
 |[],st=>some st
 | p :: S,st=>Bool.rec none (match phX P E l p.1 st [] []with
  | some (st1,rd,wr)=>Bool.rec none (match sqX P E l p.2 st1 with
   |some HB=>AAK P E l S HB
   | none=>none) (wr.all fun p=>!(rd.contains p))
  | none=>none) (ZL (DH l) l p.1 st.s.loc)
theorem XC{l:List fx}{i:Nat}{o:fx}(h:l[i]? = some o):bS (l.map (LA l)) i=LA l o:=by simp[bS,h]
theorem AK4{E:XE}{all:List fx}{o:fx}{st st':XS}{wr:AN}(ho:∃T x,o.op=.load T x)(hx:sX P E all o st=some (st',wr)):wr=[]:=by
 obtain⟨T,x,ho⟩:=ho;unfold sX at hx;split at hx
 ·unfold iC at hx;rw[ho]at hx;exact(GG hx).2
 ·cases hk:(kW o||kP o)with
  |true=>rw[hk]at hx;cases hx
  |false=>rw[hk]at hx;exact(fw.inj (cm.inj hx)).2.symm
 ·cases hx
theorem AFQ{E:XE}(hEE:KD P E){l:List fx}:∀{R:List Nat} {st st':XS} {rd wr rd' wr':AN},Bd st->phX P E l R st rd wr=some (st',rd',wr')->IX st st'/\(∀p∈rd,p∈rd')/\(∀p∈wr,p∈wr') /\
  ∀(W:AN) (σ:Nat->Nat) (pre:List AA) (K:Fr->St->Prop),(∀p∈rd',p∉W)->(∀p∈wr',p∈W)->(∀σ',AS st.c σ σ'->K (st'.fr.ren σ' pre.length) (st'.s.emb σ' pre))->QL P (hEE.tab (DH l)) (XD pre.length W) l (l.map (LA l)) R (st.fr.ren σ pre.length) (st.s.emb σ pre) K
 |[],st,st',rd,wr,rd',wr',h,hx=>by cases hx;exact⟨⟨bt _,h,rfl⟩,fun _ h=>h,fun _ h=>h,fun W σ pre K _ _ hk=>hk σ (AS.refl _ _)⟩
 |i::r,st,st',rd,wr,rd',wr',h,hx=>by
  simp only[phX]at hx;split at hx
  ·rename_i o ho;split at hx
   ·rename_i st1 w1 h1;obtain⟨hE,hs⟩:=AK3 hEE h h1;obtain⟨hE',hr,hw,hs'⟩:=AFQ hEE hE.bd hx;refine⟨⟨dv hE.c hE'.c,hE'.bd,hE'.n.trans hE.n⟩,fun p hp=>hr p (dx _ hp),fun p hp=>hw p (dx _ hp),fun W σ pre K hrd hwr hk=>?_⟩;simp only[QL,NQ,ho,XC ho];cases hz:zB l o with
    |true=>
     have hw0:w1=[]:=AK4 (AOQ hz) h1
     subst hw0
     unfold wz
     rw[hz]
     exact hs [] σ pre _ (fun p _=>by simp) (fun p hp=>hp) fun σ' ha=>hs' W σ' pre K hrd hwr fun σ'' ha'=>hk σ'' (ha.trans ha' hE.c)
    |false=>
    rw[hz]at hr;unfold wz;rw[hz];exact hs W σ pre _ (fun p hp=>hrd p (hr p (dg _ hp))) (fun p hp=>hwr p (hw p (dg _ hp))) fun σ' ha=>hs' W σ' pre K hrd hwr fun σ'' ha'=>hk σ'' (ha.trans ha' hE.c)
   ·cases hx
  ·cases hx
theorem AFR{E:XE}(hEE:KD P E){l:List fx}:∀{R:List Nat} {st st':XS},Bd st->sqX P E l R st=some st'->IX st st' /\
  ∀(σ:Nat->Nat) (pre:List AA) (K:Fr->St->Prop),(∀σ',AS st.c σ σ'->K (st'.fr.ren σ' pre.length) (st'.s.emb σ' pre))->zW P l (l.map (LA l)) R (st.fr.ren σ pre.length) (st.s.emb σ pre) K
 |[],st,st',h,hx=>by cases hx;exact⟨⟨bt _,h,rfl⟩,fun σ pre K hk=>hk σ (AS.refl _ _)⟩
 |i::r,st,st',h,hx=>by
  simp only[sqX]at hx;split at hx
  ·rename_i o ho;split at hx
   ·rename_i st1 h1;obtain⟨hE,g,hg,hs⟩:=AFN hEE h h1;obtain⟨hE',hs'⟩:=AFR hEE hE.bd hx;refine⟨⟨dv hE.c hE'.c,hE'.bd,hE'.n.trans hE.n⟩,fun σ pre K hk=>?_⟩;simp only[zW,ho,XC ho,hg];exact hs σ pre _ fun σ' ha=>hs' σ' pre K fun σ'' ha'=>hk σ'' (ha.trans ha' hE.c)
   ·cases hx
  ·cases hx
end Go.Pg
namespace Go.Pg
variable {P:fc}{σ σ':Nat->Nat}{δ:Nat}{pre:List AA}{s:St}{fr:Fr}{g:Bool}
def QO(ks:List Nat)(fr:Fr):Fr:=List.rec (motive:=fun _=>Fr) [] (fun k _ ih=>match FD fr k with
 |some (c,v)=>(k,c,v)::ih
 | none=>ih) ks
theorem ZU(fr:Fr):∀(ks:List Nat),QO ks fr=OE ks fr
 |[]=>rfl
 |k::r=>by have:=ZU fr r;show(match FD fr k with|some (c,v)=>(k,c,v)::QO r fr|none=>QO r fr)=OE (k::r) fr;rw[this,GM];rfl
theorem UF:∀(ks:List Nat),OE ks (fr.ren σ δ)=(OE ks fr).ren σ δ
 |[]=>rfl
 |k::r=>by
  simp only[OE,Fr.get_ren,UF r];cases fr.get k with
  |none=>rfl
  |some p=>rfl
theorem UG{L:AA}:∀(ks:List Nat),I7 ks (L.ren σ δ)=(I7 ks L).ren σ δ
 |[]=>rfl
 |k::r=>by
  simp only[I7,AA.get_ren,UG r];cases L.get k with
  |none=>rfl
  |some p=>rfl
def SY:List Nat->List Nat->List Nat
 |acc,[]=>acc
 |acc,k::r=>SY (cond (acc.any (bf k)) acc (k::acc)) r
def RE(ks ls:List Nat)(st:XS):XS:=⟨st.c,QO ks st.fr,⟨st.s.up,I7 ls st.s.loc⟩⟩
theorem AFS{ks ls:List Nat}{st:XS}{l k:Nat}{x:Nat×A6}(h:(RE ks ls st).s.get l k=some x):st.s.get l k=some x:=by
 unfold St.get RE at h;unfold St.get;simp only at h;split at h
 ·rename_i e;rw[if_pos e];exact PH h
 ·rename_i e;rw[if_neg e];exact h
theorem SZ{ks ls:List Nat}{st:XS}(h:Bd st):IX st (RE ks ls st):=by
 refine⟨bt _,⟨fun σ σ' δ ha=>?_,fun σ σ' pre ha=>?_,fun l k γ fr ps asg body N ls hg=>h.lp l k γ fr ps asg body N ls (AFS hg)⟩,rfl⟩
 ·simp only[RE,ZU,<-UF];rw[h.f σ σ' δ ha]
 ·have:=h.s σ σ' pre ha;simp only[St.emb,St.mk.injEq]at this;simp only[RE,St.emb,St.mk.injEq,<-UG];exact⟨this.1,by rw[this.2]⟩
theorem UH{n N:Nat}{ρ:Option Nat}{c:Code}{K:Exit->Fr->St->Prop}{ks ls:List Nat}{st:XS}(h:BH P n N ρ c K ((RE ks ls st).fr.ren σ pre.length) ((RE ks ls st).s.emb σ pre)):BH P n N ρ c K (st.fr.ren σ pre.length) (st.s.emb σ pre):=by
 refine zO ks ls ?_;have e2:(⟨(st.s.emb σ pre).up,I7 ls (st.s.emb σ pre).loc⟩:St)=(RE ks ls st).s.emb σ pre:=by simp only[RE,St.emb,UG]
 rw[UF,e2,<-ZU];exact h
abbrev VQ:=Code->XS->Option (Exit×XS)
def OQ(P:fc)(E:XE)(l:List fx)(st:XS):Option XS:=AAK P E l (WD l) st
def A5O(P:fc)(E:XE)(l:List fx)(draw:Bool)(st:XS):Option XS:=Bool.rec (hU P E l l st)
 (match AS8 l with
  |[]=>OQ P E l st
  | ds=>OQ P E l (RE (SY [] (st.fr.map (·.1))) ((SY [] (st.s.loc.map (·.1))).filter fun k=>!(ds.any (bf k))) st)) draw
def S3(r:Option XS):Option (Exit×XS):=match r with
 |some st=>some (.normal,st)
 |none=>none
def iD(rec:VQ)(b:Code)(r:Option (Exit×XS)):Option (Exit×XS):=match r with
 |some (.normal,st')=>rec b st'
 |r=>r
def M9(id:Nat)(r:Option (Exit×XS)):Option (Exit×XS):=match r with
 |some (.exit i,st')=>Bool.rec (some (.exit i,st')) (some (.normal,st')) (bf i id)
 |r=>r
def nK(rec:VQ)(a b:Code)(st:XS)(r:Option V):Option (Exit×XS):=match r with
 |some (.bool c)=>Bool.rec (rec b st) (rec a st) c
 |_=>none
def eD(rec:VQ)(body:Code)(ks:List Nat)(n:Nat):XS->Option (Exit×XS):=Nat.rec (motive:=fun _=>XS->Option (Exit×XS)) (fun _=>none) (fun _ ih st=>match rec body (RE ks (SY [] (st.s.loc.map (·.1))) st)with
 |some (.normal,st')=>ih st'
 | r=>r) n
def A9:Nat:=1000000
def iE(fr:Fr)(n γ:Nat)(r:Option (V×XS)):Option (Exit×XS):=match r with
 |some (_,st)=>match st.s.get n A9 with
  | some (γ',.loop _ _ _ _ _ ls)=>Bool.rec none (match ls with
   |.ready=>some (.normal,⟨st.c,fr,st.s.put n A9 γ .dead⟩)
   |.left .ret=>some (.ret,⟨st.c,fr,st.s.put n A9 γ .dead⟩)
   |.left (.exit id)=>some (.exit id,⟨st.c,fr,st.s.put n A9 γ .dead⟩)
   | _=>none) (bf γ' γ&&dr γ st.c)
  |_=>none
 |none=>none
def UI(cf:CF)(N:Nat)(g:ff)(ps:List Tmp)(asg body:Code)(st:XS):Option (Exit×XS):=match B5 st.fr g with
 |some (.fn f first cap)=>iE st.fr st.s.up.length st.c (cf f ((first++[V.yld st.s.up.length A9 st.c]++cap).map weakV) ⟨st.c+1,st.fr,st.s.put st.s.up.length A9 st.c (.loop st.fr ps asg body N .ready)⟩)
 |_=>none
def ZV(P:fc)(E:XE)(n N:Nat)(rec:VQ):VQ:=fun code st=>match code with
 |.skip=>some (.normal,st)
 |.label _=>some (.normal,st)
 |.region _ ops draw=>S3 (A5O P E ops.toList draw st)
 |.seq a b=>iD rec b (rec a st)
 |.cond c a b=>nK rec a b st (B5 st.fr c)
 |.block id body=>M9 id (rec body st)
 |.loop body=>eD rec body (SY [] (st.fr.map (·.1))) n st
 |.exit id=>some (.exit id,st)
 |.ret=>some (.ret,st)
 |.scope body=>rec body st
 |.rangeFunc g ps asg body=>UI E.cf N g ps.toList asg body st
 |_=>none
abbrev F6:=Nat->VQ
def AAL(P:fc)(rs:List ResultVar)(st:XS):Option (V×Nat×List AA):=match F5 P rs st.fr st.s with
 |some r=>match A4 st.s 4 r with
  |some r'=>some (r',st.c,st.s.up.map (AQ st.s))
  |none=>none
 |none=>none
def nL{α:Type}(rec:VQ)(ret:XS->Option α)(code:Code)(st:XS):Option α:=match rec code st with
 |some (.ret,st')=>ret st'
 |some (.normal,st')=>ret st'
 |_=>none
def VR{α:Type}(P:fc)(rec:F6)(ret:Func->XS->Option α)(f:fg)(args:List V)(c:Nat)(up:List AA):Option α:=match P.funcs[f]? with
 |some fn=>match fn.body with
  |some code=>Bool.rec none (nL (rec fn.ntmps) (ret fn) code ⟨c,AJ 0 args,⟨up,[]⟩⟩) (fk args.length fn.ntmps)
  |none=>none
 |none=>none
def eE(P:fc)(rec:F6)(f:fg)(args:List V)(c:Nat)(up:List AA):Option (V×Nat×List AA):=VR P rec (fun fn=>AAL P fn.results.toList) f args c up
def ES(P:fc)(rec:F6):CF0:=fun f args=>Bool.rec none (match eE P rec f args 0 []with
 |some (r,_,_)=>Bool.rec none (some r) (AK 9 r)
 | none=>none) (args.all (AK 9))
def CW{α:Type}:List α->Option (List α×α)
 |[]=>none
 |[x]=>some ([],x)
 |x::r=>match CW r with
  |some (a,b)=>some (x::a,b)
  |none=>none
def AW(P:fc)(kn:CF0)(rec:F6):CF0:=fun f args=>match kn f args with
 |some r=>some r
 |none=>ES P rec f args
def weakM:V->V
 |.nil=>.list false []
 |v=>v
def weakN:V->V
 |.nil=>.list false []
 |.agg cs=>.agg (cs.map weakM)
 |v=>v
theorem RepV.empty{G:Gh}{v:Value}(h:RepV G .nil v):RepV G (.list false []) v:=by cases h;exact .list false [] none 0 0 0 0 #[] 0 (0,0) (fun _ _=>undef) (by simp) (fun h=>by cases h) (fun h=>absurd rfl h) (fun i h=>absurd h (by simp)) (fun i h=>absurd h (by simp)) (fun i h=>absurd h (by simp))
theorem RepV.weakM{G:Gh}{x:V}{v:Value}(h:RepV G x v):RepV G (weakM x) v:=by cases x<;>first|exact h|exact h.empty
theorem iF(x:V):(weakM x).isCell=x.isCell:=by cases x<;>rfl
theorem RepV.weakN{G:Gh}{x:V}{v:Value}(h:RepV G x v):RepV G (weakN x) v:=by
 cases x with
 |nil=>exact h.empty
 |agg cs=>
  cases h with
  |agg _ arr hl hc hr=>
   refine .agg _ arr (by simpa using hl) (fun c hc'=>?_) (fun i h1 h2=>?_)
   ·obtain⟨d,hd,rfl⟩:=dn.1 hc';rw[iF];exact hc d hd
   ·simp only[List.getElem_map];exact(hr i (by simpa using h1) h2).weakM
 |_=>exact h
theorem RepA.weakN{G:Gh}{xs:List V}{vs:List Value}(h:RepA G xs vs):RepA G (xs.map Pg.weakN) vs :=
 ⟨by simpa using h.1,fun i h1 h2=>by simp only[List.getElem_map];exact(h.2 i (by simpa using h1) h2).weakN⟩
def E5(P:fc)(kn:CF0)(rec:F6):CF0:=fun f args=>match AW P kn rec f (args.map weakN)with
 |some r=>Bool.rec (AW P kn rec f args) (some r) (args.all (AK 9))
 |none=>AW P kn rec f args
def BGM(P:fc)(T:fh):Bool:=match P.underlying T with
 |some (.pointer _)=>true
 |_=>false
def BE(P:fc)(f:fg):Bool:=match P.funcs[f]? with
 |some fn=>fn.resultTypes.toList.any (BGM P)
 |none=>false
def VS(P:fc)(kn:CF0)(rec:F6):CF:=fun f args st=>Bool.rec (match eE P rec f args st.c (st.s.up++[st.s.loc])with
 |some (r,c,up)=>match CW up with
  |some (u,l)=>some (r,⟨c,st.fr,⟨u,l⟩⟩)
  |none=>none
 | none=>none) (match E5 P kn rec f args with
  |some r=>some (r,st)
  | none=>none) (args.all (AK 9)&&!(BE P f))
def nM(P:fc)(fn:Func)(st:XS):Option Mk:=match F5 P fn.results.toList st.fr st.s with
 | some (.vec l k γ n)=>Bool.rec none (match st.s.loc.get k with
  |some (γ',.vec T es)=>Bool.rec none (some ⟨.vec T es,none⟩) (bf γ' γ&&bf n es.length&&es.all fun e=>e.all (AK 9))
  | _=>none) (bf l st.s.up.length)
 | some v=>Bool.rec none (match fn.resultTypes.toList with
  |[R]=>match BR P R with
   |some (none,T)=>some ⟨.vec T [],none⟩
   |_=>none
  | _=>none) (V6 v)
 |none=>none
def II(P:fc)(f:fg):Bool:=match P.funcs[f]? with
 |some fn=>match fn.resultTypes.toList with
  |[R]=>match BR P R with
   |some (none,_)=>true
   |_=>false
  |_=>false
 |none=>false
def EM(P:fc)(rec:F6)(f:fg)(args:List V):Option Mk:=Bool.rec none (VR P rec (nM P) f args 0 []) (args.all (AK 9))
def koT(P:fc)(f:fg):Option fh:=match P.funcs[f]? with
 |some fn=>match fn.resultTypes.toList with
  |[R]=>match BR P R with
   |some (none,T)=>some T
   |_=>none
  |_=>none
 |none=>none
def iG(P:fc)(f:fg)(T:fh):Prop:=∀(d:Tmp) (s:St),EA P f [.list false []] s fun v s'=>∃γ,v=(⟨.vec T [],none⟩:Mk).val s.up.length d γ/\s'=s.put s.up.length d γ (.vec T [])
open Classical in
def sZ(P:fc)(f:fg):List V->Option Mk
 |[.list false []]=>match koT P f with
  |some T=>if iG P f T then some ⟨.vec T [],none⟩ else none
  |none=>none
 |_=>none
theorem AS3{P:fc}{f:fg}{T:fh}(h:koT P f=some T)(hv:iG P f T):sZ P f [.list false []]=some ⟨.vec T [],none⟩:=by unfold sZ;simp only[h];exact if_pos hv
def orM{α:Type}:Option α->Option α->Option α
 |some r,_=>some r
 |none,z=>z
def JB(P:fc)(kn:CF0)(ko:wN)(rec:F6):wN:=fun f args d=>match ko f args d with
 |some r=>some r
 | none=>Bool.rec (match E5 P kn rec f args with
  |some r=>some ⟨.dead,some r⟩
  | none=>none) (orM (EM P rec f args) (sZ P f args)) (II P f)
def H8(s:St)(u:List AA)(l:AA):St:=⟨u.map (AQ s),AQ s l⟩
def ZW(fr:Fr)(l q γ:Nat)(r:Option (Exit×XS)):Option (V×XS):=match r with
 |some (e,st)=>match st.s.get l q with
  | some (γ',.loop fr0 ps asg body N .busy)=>Bool.rec none (match CW st.s.up with
   |some (u,lc)=>match e with
    |.normal=>some (.bool true,⟨st.c,fr,(H8 st.s u lc).put l q γ (.loop fr0 ps asg body N .ready)⟩)
    |.ret=>some (.bool false,⟨st.c,fr,(H8 st.s u lc).put l q γ (.loop fr0 ps asg body N (.left .ret))⟩)
    |.exit id=>some (.bool false,⟨st.c,fr,(H8 st.s u lc).put l q γ (.loop fr0 ps asg body N (.left (.exit id)))⟩)
    |_=>none
   | none=>none) (bf γ' γ&&dr l st.s.up.length&&dr γ st.c)
  |_=>none
 |none=>none
def ZX(rec:VQ)(l q γ:Nat)(body:Code)(r:Option (Exit×XS)):Option (Exit×XS):=match r with
 |some (.normal,st)=>match st.s.get l q with
  |some (γ',.loop fr0 ps asg body' N .ready)=>Bool.rec none (rec body ⟨st.c,st.fr,st.s.put l q γ (.loop fr0 ps asg body' N .busy)⟩) (bf γ' γ&&dr γ st.c)
  |_=>none
 |_=>none
def iH(rec:F6):CY:=fun l q γ vs st=>match st.s.get l q with
 |some (γ',.loop fr0 ps asg body N .ready)=>Bool.rec none (ZW st.fr l q γ (ZX (rec N) l q γ body (rec N asg ⟨st.c,HM fr0 ps vs,⟨st.s.up++[st.s.loc],[]⟩⟩))) (bf γ' γ&&bf vs.length ps.length&&dr γ st.c)
 |_=>none
def A5P(P:fc)(kn:CF0)(ko:wN)(lit:Tmp->Bool)(rec:F6):XE:=⟨VS P kn rec,iH rec,E5 P kn rec,JB P kn ko rec,lit⟩
def tA(fn:Func):Bool:=match fn.body with
 | some c => !(fn.name == "runtime.NumGoroutine") && EY fn.ntmps c
 |none=>true
structure D8(P:fc):Prop where
 all:P.funcs.toList.all tA=true
 mixed:P.follows .mixedOrders=true
def ZY(P:fc)(N:Nat)(rec:VQ):Prop:=∀code st e st',rec code st=some (e,st')->Bd st->EY N code=true->IX st st'/\(∀l,e≠.goto l) /\
 ∀(n:Nat) (ρ:Option Nat) (σ:Nat->Nat) (pre:List AA) (K:Exit->Fr->St->Prop),(ρ=none\/GH code=true)->(∀σ',AS st.c σ σ'->K e (st'.fr.ren σ' pre.length) (st'.s.emb σ' pre))->BH P n N ρ code K (st.fr.ren σ pre.length) (st.s.emb σ pre)
def UJ(P:fc)(rec:F6):Prop:=∀N,ZY P N (rec N)
theorem OR{α:Type}:∀{l:List α} {u:List α} {x:α},CW l=some (u,x)->l=u++[x]
 |[],u,x,h=>by cases h
 |[y],u,x,h=>by cases h;rfl
 |y::z::r,u,x,h=>by
  simp only[CW]at h;split at h
  ·rename_i a b e;cases h;rw[OR (l:=z::r) e];rfl
  ·cases h
theorem AFT{c:Nat}{args:List V}(h:∀v∈args,TO c v)(σ σ':Nat->Nat)(δ:Nat)(ha:AS c σ σ'):(AJ 0 args).ren σ δ=(AJ 0 args).ren σ' δ:=by rw[<-PL,<-PL];congr 1;exact bw fun v hv=>h v hv σ σ' δ ha
theorem AS4{st:XS}(h:Bd st){rs:List ResultVar}{v r:V}(hv:F5 P rs st.fr st.s=some v)(hr:A4 st.s 4 v=some r):TO st.c r:=by intro σ σ' δ ha;have q1:=OM (σ:=σ) (pre:=bh δ []) hv;have q2:=OM (σ:=σ') (pre:=bh δ []) hv;rw[h.f σ σ' _ ha,h.s σ σ' _ ha,q2]at q1;have q:=cm.inj q1;have r1:=KB (σ:=σ) (pre:=bh δ []) 4 hr;have r2:=KB (σ:=σ') (pre:=bh δ []) 4 hr;rw[h.s σ σ' _ ha,<-q,r2]at r1;have:=cm.inj r1;rw[bn]at this;exact this.symm
theorem HW(u:List AA)(l:AA)(i k:Nat):(⟨u,l⟩:St).get i k=match(u++[l])[i]? with
  |some L=>L.get k
  |none=>none:=by
 unfold St.get
 simp only
 by_cases h:i=u.length
 ·subst h;simp
 ·rw[if_neg h];rcases Nat.lt_or_ge i u.length with h'|h'
  ·rw[cr h'];rfl
  ·rw[cp h',dz h'];have:1<=i-u.length:=by omega
   rw[dz (by simpa using this)]
theorem tB(L:AA)(k g:Nat)(r:A6)(h:((AQ s L).ren σ pre.length).get k=some (g,r)):∃r0,(L.ren σ pre.length).get k=some (g,r0)/\(r=r0\/r=HN (s.emb σ pre) r0):=by
 rw[AA.get_ren,KC]at h;rw[AA.get_ren];cases hL:L.get k with
 |none=>rw[hL]at h;cases h
 |some p=>
  rw[hL]at h
  cases h
  exact⟨p.2.ren σ pre.length,rfl,nC p.2⟩
theorem eF{s:St}{F:List AA}{u u2:List AA}{l l2:AA}(h1:u++[l]=pre++F.map (AA.ren σ pre.length))(h2:u2++[l2]=pre++(F.map (AQ s)).map (AA.ren σ pre.length)):zG (s.emb σ pre) ⟨u,l⟩ ⟨u2,l2⟩:=by
 have hlen:u2.length=u.length:=by have a1:=congrArg dh h1;have a2:=congrArg dh h2;simp at a1 a2;omega
 refine⟨hlen,fun i k g r hg=>?_⟩;rw[HW,h2]at hg;rw[HW,h1];rcases Nat.lt_or_ge i pre.length with hi|hi
 ·rw[cr hi]at hg|-;exact⟨r,hg,.inl rfl⟩
 ·rw[cp hi]at hg|-;simp only[fq,List.getElem?_map]at hg|-;cases hF:F[i-pre.length]? with
  |none=>rw[hF]at hg;cases hg
  |some L=>
   rw[hF]at hg
   exact tB L k g r hg
theorem tC{s:St}{c:Nat}(hs:∀σ σ' pre,AS c σ σ'->s.emb σ pre=s.emb σ' pre){r:A6}(hr:∀σ σ' δ,AS c σ σ'->r.ren σ δ=r.ren σ' δ)(σ σ':Nat->Nat)(δ:Nat)(ha:AS c σ σ'):(BU s r).ren σ δ=(BU s r).ren σ' δ:=by
 unfold BU;split
 ·rename_i r' h;have q1:=K9 (σ:=σ) (pre:=bh δ []) h;have q2:=K9 (σ:=σ') (pre:=bh δ []) h;rw[hs σ σ' _ ha]at q1;simp only[bn]at q1 q2;rw[hr σ σ' _ ha,q2]at q1;exact(cm.inj q1).symm
 ·exact hr σ σ' δ ha
theorem nN{L:AA}{δ:Nat}(σ σ':Nat->Nat):L.ren σ δ=L.ren σ' δ↔∀p∈L,σ p.2.1=σ' p.2.1/\p.2.2.ren σ δ=p.2.2.ren σ' δ:=by unfold AA.ren;rw[cx];simp only[fw.injEq,true_and]
theorem eG{s:St}{c:Nat}(hs:∀σ σ' pre,AS c σ σ'->s.emb σ pre=s.emb σ' pre){L:AA}(hL:∀σ σ' δ,AS c σ σ'->L.ren σ δ=L.ren σ' δ)(σ σ':Nat->Nat)(δ:Nat)(ha:AS c σ σ'):(AQ s L).ren σ δ=(AQ s L).ren σ' δ:=by rw[nN];intro p hp;obtain⟨x,hx,rfl⟩:=dn.1 hp;have h1:∀σ σ' δ,AS c σ σ'->σ x.2.1=σ' x.2.1/\x.2.2.ren σ δ=x.2.2.ren σ' δ:=fun σ σ' δ ha=>(nN σ σ').1 (hL σ σ' δ ha) x hx;exact⟨(h1 σ σ' δ ha).1,tC hs (fun σ σ' δ ha=>(h1 σ σ' δ ha).2) σ σ' δ ha⟩
theorem AFU{s:St}{c:Nat}(hs:∀σ σ' pre,AS c σ σ'->s.emb σ pre=s.emb σ' pre):∀L∈s.up,∀σ σ' δ,AS c σ σ'->L.ren σ δ=L.ren σ' δ:=by intro L hL σ σ' δ ha;have:=hs σ σ' (bh δ []) ha;simp only[St.emb,St.mk.injEq,bn]at this;exact cx.1 (dj this.1) L hL
theorem eH(s:St)(L:AA){k γ:Nat}{fr:Fr}{ps:List Tmp}{asg body:Code}{N:Nat}{st:LS}(h:(AQ s L).get k=some (γ,.loop fr ps asg body N st)):L.get k=some (γ,.loop fr ps asg body N st):=by
 rw[KC]at h;cases hL:L.get k with
 |none=>rw[hL]at h;cases h
 |some p=>
  rw[hL]at h
  simp only[bz,cm.injEq,fw.injEq]at h
  obtain⟨h1,h2⟩:=h
  obtain⟨g,r⟩:=p
  simp only at h1 h2
  subst h1
  congr 2
  cases r with
  |loop=>exact h2
  |box cs=>unfold BU at h2;split at h2<;>rename_i e<;>simp only[BW]at e<;>(try (split at e<;>cases e))<;>cases h2
  |vec T es=>unfold BU at h2;split at h2<;>rename_i e<;>simp only[BW]at e<;>(try (split at e<;>cases e))<;>cases h2
  |map es=>unfold BU at h2;split at h2<;>rename_i e<;>simp only[BW]at e<;>(try (split at e<;>cases e))<;>cases h2
  |dead=>unfold BU at h2;split at h2<;>rename_i e<;>simp only[BW]at e<;>cases e;cases h2
def FX(P:fc)(f:fg)(args:List V)(c:Nat)(up:List AA)(r:V)(c':Nat)(up':List AA):Prop:=c<=c'/\TO c' r/\(∀σ σ' δ,AS c' σ σ'->up'.map (AA.ren σ δ)=up'.map (AA.ren σ' δ))/\up'.length=up.length /\
  (∀L∈up',∀k γ fr ps asg body N st,L.get k=some (γ,.loop fr ps asg body N st)->S5 N ps asg body=true) /\
  ∀(σ:Nat->Nat) (pre:List AA) (s:St) (K:V->St->Prop),s.up++[s.loc]=pre++up.map (AA.ren σ pre.length)->(∀σ' u l,AS c σ σ'->u++[l]=pre++up'.map (AA.ren σ' pre.length)->K (r.ren σ' pre.length) ⟨u,l⟩)->EA P f (args.map (V.ren σ pre.length)) s K
theorem ZZ(hP:D8 P){rec:F6}(hrec:UJ P rec){α:Type}{ret:Func->XS->Option α}{f:fg}{args:List V}{c:Nat}{up:List AA}{x:α}(hx:VR P rec ret f args c up=some x)(hargs:∀v∈args,TO c v)
  (hup:∀σ σ' δ,AS c σ σ'->up.map (AA.ren σ δ)=up.map (AA.ren σ' δ)) (hlp:∀L∈up,∀k γ fr ps asg body N st,L.get k=some (γ,.loop fr ps asg body N st)->S5 N ps asg body=true) :
  ∃fn st',ret fn st'=some x/\Bd st'/\c<=st'.c/\st'.s.up.length=up.length/\∀(σ:Nat->Nat) (pre:List AA) (s:St) (K:V->St->Prop),s.up++[s.loc]=pre++up.map (AA.ren σ pre.length) ->
   (∀σ',AS c σ σ'->ASY P fn.results.toList (s.up.length+1) K .ret (st'.fr.ren σ' pre.length) (st'.s.emb σ' pre))->EA P f (args.map (V.ren σ pre.length)) s K:=by
 unfold VR at hx
 split at hx
 ·rename_i fn hf;split at hx
  ·rename_i code hb;obtain⟨hsz,hx1⟩:=EC hx;have hck:tA fn=true:=bq.1 hP.all fn (by
    have:=Array.mem_of_getElem? hf;simpa using this)
   simp only[tA,hb,bc,Bool.not_eq_true']at hck;have hbd:Bd ⟨c,AJ 0 args,⟨up,[]⟩⟩:=⟨fun σ σ' δ ha=>AFT hargs σ σ' δ ha,fun σ σ' pre ha=>by simp only[St.emb,hup σ σ' _ ha]; rfl,fun l k γ fr ps asg body N st hg=>by
    rw[HW]at hg;split at hg
    ·rename_i L hL;rcases df.1 (dl hL)with hm|hm
     ·exact hlp L hm _ _ _ _ _ _ _ _ hg
     ·have:L=[]:=by simpa using hm
      subst this;simp at hg
    ·cases hg⟩
   have main:∀e st',rec fn.ntmps code ⟨c,AJ 0 args,⟨up,[]⟩⟩=some (e,st')->(e=.ret\/e=.normal)->ret fn st'=some x->∃fn st',ret fn st'=some x/\Bd st'/\c<=st'.c/\st'.s.up.length=up.length/\∀(σ:Nat->Nat) (pre:List AA) (s:St) (K:V->St->Prop),s.up++[s.loc]=pre++up.map (AA.ren σ pre.length) ->
     (∀σ',AS c σ σ'->ASY P fn.results.toList (s.up.length+1) K .ret (st'.fr.ren σ' pre.length) (st'.s.emb σ' pre))->EA P f (args.map (V.ren σ pre.length)) s K:=by
    intro e st' h1 he h2
    obtain⟨hE,_,hC⟩:=hrec _ _ _ _ _ h1 hbd hck.2
    refine⟨fn,st',h2,hE.bd,hE.c,hE.n,fun σ pre s K hs hk=>?_⟩
    refine A5K hf hb (mI hf hb hck.1) (by simpa using hsz) ?_
    have e1:(⟨s.up++[s.loc],[]⟩:St)=(⟨up,[]⟩:St).emb σ pre:=by simp only[St.emb,hs];rfl
    rw[PL,e1]
    refine hC _ none σ pre _ (.inl rfl) fun σ' ha=>?_
    have:=hk σ' ha
    rcases he with rfl|rfl<;>exact this
   unfold nL at hx1;split at hx1
   ·rename_i st' h1;exact main _ _ h1 (.inl rfl) hx1
   ·rename_i st' h1;exact main _ _ h1 (.inr rfl) hx1
   ·cases hx1
  ·cases hx
 ·cases hx
theorem nO(hP:D8 P){rec:F6}(hrec:UJ P rec){f:fg}{args:List V}{c:Nat}{up:List AA}{r:V}{c':Nat}{up':List AA}(hx:eE P rec f args c up=some (r,c',up'))(hargs:∀v∈args,TO c v)
  (hup:∀σ σ' δ,AS c σ σ'->up.map (AA.ren σ δ)=up.map (AA.ren σ' δ)) (hlp:∀L∈up,∀k γ fr ps asg body N st,L.get k=some (γ,.loop fr ps asg body N st)->S5 N ps asg body=true):FX P f args c up r c' up':=by
 obtain⟨fn,st',hret,hbd,hc,hlen,hA⟩:=ZZ hP hrec hx hargs hup hlp
 unfold AAL at hret
 split at hret
 ·rename_i r0 hr0;split at hret
  ·rename_i r1 hr1;cases hret;refine⟨hc,AS4 hbd hr0 hr1,fun σ σ' δ ha=>?_,by simpa using hlen,fun L hL k γ fr ps asg body N st hg=>?_,fun σ pre s K hs hk=>hA σ pre s K hs fun σ' ha=>?_⟩
   ·simp only[fq];exact bw fun L hL=>eG hbd.s (AFU hbd.s L hL) σ σ' δ ha
   ·obtain⟨L0,hL0,rfl⟩:=dn.1 hL;have hg:=eH _ _ hg;obtain⟨i,hi,rfl⟩:=List.getElem_of_mem hL0;refine hbd.lp i k γ fr ps asg body N st ?_;unfold St.get;rw[if_neg (by omega),List.getElem?_eq_getElem hi];exact hg
   ·have hl2:(st'.s.emb σ' pre).up.length=s.up.length+1:=by have q:=congrArg dh hs;simp only[ck,cd,bp]at q;rw[C5,hlen];omega
    rcases db (st'.s.emb σ' pre).up with h0|⟨u,l,h0⟩
    ·rw[h0]at hl2;simp at hl2
    ·have h0:(st'.s.emb σ' pre).up=u++[l]:=by simpa using h0
     have hu:u.length+1=s.up.length+1:=by rw[<-hl2,h0];simp
     have hcl:=OL 4 (KB (σ:=σ') (pre:=pre) 4 hr1);have hres:=OM (σ:=σ') (pre:=pre) hr0;rcases db (pre++(st'.s.up.map (AQ st'.s)).map (AA.ren σ' pre.length))with h3|⟨u2,l2,h3⟩
     ·have h4:=congrArg dh h3;have h5:=congrArg dh h0;simp only[St.emb,ck,bp,List.length_nil,cd]at h4 h5;omega
     ·have h3:pre++(st'.s.up.map (AQ st'.s)).map (AA.ren σ' pre.length)=u2++[l2]:=by simpa using h3
      have hK:=hk σ' u2 l2 ha h3.symm;have hS:=eF (s:=st'.s) (F:=st'.s.up) (u:=u) (l:=l) (u2:=u2) (l2:=l2) (σ:=σ') (pre:=pre) h0.symm h3.symm;exact⟨u,l,_,h0,hu,hres,.inl ⟨_,_,by rw[hcl];exact Wk.refl _,hS,hK⟩⟩
  ·cases hret
 ·cases hret
theorem UK{c:Nat}{args:List V}(h:args.all (AK 9)=true):∀v∈args,TO c v:=fun v hv σ σ' δ _=>by rw[B7 9 v (bq.1 h v hv),B7 9 v (bq.1 h v hv)]
theorem LV(hP:D8 P){rec:F6}(hrec:UJ P rec):EX P (ES P rec):=by
 intro f args r hx;unfold ES at hx;obtain⟨hcl,hx1⟩:=EC hx;split at hx1
 ·rename_i r0 c' up' h1;obtain⟨hr,rfl⟩:=IH hx1;obtain⟨_,_,_,hlen,_,hA⟩:=nO hP hrec h1 (UK hcl) (fun _ _ _ _=>rfl) (fun L hL=>by cases hL);have hargs:∀v∈args,∀σ δ,V.ren σ δ v=v:=fun v hv σ δ=>B7 9 v (bq.1 hcl v hv);have hup:up'=[]:=cg hlen;refine⟨fun s=>?_,hargs,fun σ δ=>B7 9 _ hr⟩;have:=hA id (s.up++[s.loc]) s (fun r' s'=>r'=r0/\s'=s) (by simp) fun σ' u l _ hu=>?_
  ·have e:args.map (V.ren id (s.up++[s.loc]).length)=args:=by
    conv=>rhs;rw[<-cz args]
    exact bw fun v hv=>hargs v hv _ _
   rw[e]at this;exact this
  ·rw[hup]at hu;simp only[dp,List.append_nil]at hu;obtain⟨e1,e2⟩:=dq hu rfl;refine⟨B7 9 _ hr,?_⟩;subst e1;simp only[List.cons.injEq,and_true]at e2;subst e2;rfl
 ·cases hx1
theorem Z0(hP:D8 P){kn:CF0}(hkn:EX P kn){rec:F6}(hrec:UJ P rec):EX P (AW P kn rec):=by
 intro f args r hx;unfold AW at hx;split at hx
 ·rename_i r0 h0;cases hx;exact hkn _ _ _ h0
 ·exact LV hP hrec _ _ _ hx
theorem Z1(hP:D8 P){kn:CF0}(hkn:EX P kn){rec:F6}(hrec:UJ P rec):EX P (E5 P kn rec):=by
 intro f args r hx;unfold E5 at hx;split at hx
 ·rename_i r0 h0;cases hcl:args.all (AK 9)with
  |false=>rw[hcl]at hx;exact Z0 hP hkn hrec _ _ _ hx
  |true=>
   rw[hcl]at hx
   cases hx
   obtain⟨hA,_,h2⟩:=Z0 hP hkn hrec _ _ _ h0
   exact⟨fun s=>⟨(hA s).1,fun G vals w R hI ha hR=>(hA s).2 G vals w R hI ha.weakN hR⟩,fun v hv σ δ=>B7 9 v (bq.1 hcl v hv),h2⟩
 ·exact Z0 hP hkn hrec _ _ _ hx
theorem handed(hP:D8 P){rec:F6}(hrec:UJ P rec){f:fg}{args:List V}{ret:Func->XS->Option Mk}{r:Mk}{d:Tmp}(hcl:args.all (AK 9)=true)(hx:VR P rec ret f args 0 []=some r)
  (hr:∀(fn:Func) (st':XS),ret fn st'=some r->st'.s.up=[]->∀(s:St) (σ':Nat->Nat),∃r0,F5 P fn.results.toList (st'.fr.ren σ' (s.up++[s.loc]).length) (st'.s.emb σ' (s.up++[s.loc]))=some r0 /\
   ((∃k γ T es,(st'.s.emb σ' (s.up++[s.loc])).loc.get k=some (γ,.vec T es)/\zN (s.up.length+1) k s.up.length d 4 r0=r.val s.up.length d γ/\r.res=.vec T es)\/(∃T,V6 r0=true/\r=⟨.vec T [],none⟩)))
  (s:St):EA P f args s fun v s'=>∃γ,v=r.val s.up.length d γ/\s'=s.put s.up.length d γ r.res:=by
 obtain⟨fn,st',hret,hbd,hc,hlen,hA⟩:=ZZ hP hrec hx (UK hcl) (fun _ _ _ _=>rfl) (fun L hL=>by cases hL)
 have hargs:∀v∈args,∀σ δ,V.ren σ δ v=v:=fun v hv σ δ=>B7 9 v (bq.1 hcl v hv)
 have hup:st'.s.up=[]:=cg hlen
 have:=hA id (s.up++[s.loc]) s (fun v s'=>∃γ,v=r.val s.up.length d γ/\s'=s.put s.up.length d γ r.res) (by simp) fun σ' _=>?_
 ·have e:args.map (V.ren id (s.up++[s.loc]).length)=args:=by
   conv=>rhs;rw[<-cz args]
   exact bw fun v hv=>hargs v hv _ _
  rw[e]at this;exact this
 ·obtain⟨r0,h1,h2⟩:=hr fn st' hret hup s σ';refine⟨s.up,s.loc,r0,by simp[St.emb,hup],rfl,h1,.inr ?_⟩;rcases h2 with⟨k,γ,T,es,h3,h4,h5⟩|⟨T,h3,h4⟩
  ·exact .inl ⟨k,γ,T,es,d,h3,γ,h4,by rw[h5]⟩
  ·subst h4;exact .inr ⟨d,T,h3,fun γ=>⟨γ,rfl,rfl⟩⟩
theorem eI(hP:D8 P){rec:F6}(hrec:UJ P rec){f:fg}{args:List V}{r:Mk}{d:Tmp}(hx:EM P rec f args=some r) :
  (∀(s:St),EA P f args s fun v s'=>∃γ,v=r.val s.up.length d γ/\s'=s.put s.up.length d γ r.res)/\(∀v∈args,∀σ δ,v.ren σ δ=v)/\(∀σ δ,r.res.ren σ δ=r.res)/\plR r.res=true:=by
 unfold EM at hx
 obtain⟨hcl,hx1⟩:=EC hx
 have hargs:∀v∈args,∀σ δ,V.ren σ δ v=v:=fun v hv σ δ=>B7 9 v (bq.1 hcl v hv)
 have main:∀(fn:Func) (st':XS),nM P fn st'=some r->((∀σ δ,r.res.ren σ δ=r.res)/\plR r.res=true)/\(st'.s.up=[]->∀(s:St) (σ':Nat->Nat),∃r0,F5 P fn.results.toList (st'.fr.ren σ' (s.up++[s.loc]).length) (st'.s.emb σ' (s.up++[s.loc]))=some r0 /\
   ((∃k γ T es,(st'.s.emb σ' (s.up++[s.loc])).loc.get k=some (γ,.vec T es)/\zN (s.up.length+1) k s.up.length d 4 r0=r.val s.up.length d γ/\r.res=.vec T es)\/(∃T,V6 r0=true/\r=⟨.vec T [],none⟩))):=by
  intro fn st' hret
  unfold nM at hret
  split at hret
  ·rename_i l k γ n hres;obtain⟨hl,hret⟩:=EC hret;have hl:=bj hl;split at hret
   ·rename_i γ' T es hget;obtain⟨hc2,he⟩:=IH hret;cases he;simp only[bc]at hc2;obtain⟨⟨h1,h2⟩,h3⟩:=hc2;have h1:=bj h1;have h2:=bj h2;subst h1;subst h2;have hes:∀σ δ,es.map (br (V.ren σ δ))=es:=fun σ δ=>by
     conv=>rhs;rw[<-cz es]
     exact bw fun e he=>ND (fun v=>B7 9 v) (bq.1 h3 e he)
    refine⟨⟨fun σ δ=>by simp only[A6.ren,hes],rfl⟩,fun hup s σ'=>⟨_,OM hres,.inl ⟨k,σ' γ',T,es,?_,?_,rfl⟩⟩⟩
    ·rw[KU,hget];simp only[bz,A6.ren,hes]
    ·rw[hup]at hl;subst hl;simp[zN,Mk.val,G9]
   ·cases hret
  ·rename_i v hnv hres;obtain⟨hn,hret⟩:=EC hret;split at hret
   ·split at hret
    ·rename_i T _;cases hret;exact⟨⟨fun _ _=>rfl,rfl⟩,fun hup s σ'=>⟨_,OM hres,.inr ⟨_,by rw[AFH];exact hn,rfl⟩⟩⟩
    ·cases hret
   ·cases hret
  ·cases hret
 obtain⟨fn,st',hret,_⟩:=ZZ hP hrec hx1 (UK hcl) (fun _ _ _ _=>rfl) (fun L hL=>by cases hL)
 exact⟨handed hP hrec hcl hx1 fun fn st' h=>(main fn st' h).2,hargs,(main fn st' hret).1⟩
theorem CE.nought{G:Gh}{s:St}{w:World}(hI:CE G s w)(d γ:Nat):CE G (s.put s.up.length d γ .dead) w:=by
 have look:∀{l k x},(s.put s.up.length d γ .dead).get l k=some x->x=(γ,.dead)\/s.get l k=some x:=fun {l k x} h=>by
  rw[St.get_putLoc]at h;split at h
  ·exact .inl (cm.inj h).symm
  ·exact .inr h
 refine⟨hI.sl,fun l k g r h=>?_,fun l k g r l' k' g' r' b h1 h2 h3 h4=>?_,fun l k g r b h1 h2=>?_,hI.fresh,hI.env,hI.me.step (Gh.le_refl _) rfl (fun _ _ _=>rfl) (fun l k g r b h1 h2=>by
  rcases look h1 with e|e
  ·cases e;cases h2
  ·exact .inl ⟨_,_,_,_,e,h2⟩) fun b d hb=>hI.me.sl b d hb⟩
 ·rcases look h with e|e
  ·cases e;trivial
  ·exact hI.res _ _ _ _ e
 ·rcases look h1 with e|e1
  ·cases e;cases h3
  ·rcases look h2 with e|e2
   ·cases e;cases h4
   ·exact hI.sep _ _ _ _ _ _ _ _ _ e1 e2 h3 h4
 ·rcases look h1 with e|e
  ·cases e;cases h2
  ·exact hI.out _ _ _ _ _ e h2
theorem AS5{f:fg}{args:List V}{r:Mk}{d:Tmp}(hx:sZ P f args=some r) :
  (∀(s:St),EA P f args s fun v s'=>∃γ,v=r.val s.up.length d γ/\s'=s.put s.up.length d γ r.res)/\(∀v∈args,∀σ δ,v.ren σ δ=v)/\(∀σ δ,r.res.ren σ δ=r.res)/\plR r.res=true:=by
 unfold sZ at hx
 split at hx
 ·split at hx
  ·rename_i T _;split at hx
   ·rename_i hv;cases hx;exact⟨fun s=>hv d s,fun v hm σ δ=>by rw[List.mem_singleton.1 hm];rfl,fun σ δ=>rfl,rfl⟩
   ·cases hx
  ·cases hx
 ·cases hx
theorem AFV(hP:D8 P){rec:F6}(hrec:UJ P rec){f:fg}{T:fh}(h:∀a c,EM P rec f [.raw (.slice a 0 c)]=some ⟨.vec T [],none⟩):iG P f T:=fun d s=>by
 have hA:=fun a c=>(eI hP hrec (d:=d) (h a c)).1 s;refine⟨(hA none 0).1,fun G vals w R hI ha hR=>?_⟩;obtain⟨l⟩:=vals;match l,ha with
 |[v],ha=>
  have hv:RepV G (.list false []) v:=ha.2 0 (by simp) (by simp)
  cases hv with
  |list _ _ a cap b off sz arr T fz vs hcap hfull h1 hl hv hr=>
   refine(hA a cap).2 G _ w R hI ⟨by simp,fun i h1 h2=>?_⟩ hR
   obtain rfl:i=0:=by simp at h1;omega
   exact .raw _ rfl
 |[],ha=>exact absurd ha.1 (by simp)
 |_::_::_,ha=>exact absurd ha.1 (by simp)
theorem AFW(hP:D8 P){kn:CF0}(hkn:EX P kn){ko:wN}(hko:sU P ko){rec:F6}(hrec:UJ P rec):sU P (JB P kn ko rec):=by
 intro f args d r hx;unfold JB at hx;split at hx
 ·rename_i r0 h0;cases hx;exact hko _ _ _ _ h0
 ·cases hs:II P f with
  |true=>
   rw[hs]at hx
   have hx:orM (EM P rec f args) (sZ P f args)=some r:=hx
   cases h1:EM P rec f args with
   |some r1=>
    rw[h1]at hx
    cases hx
    exact eI hP hrec h1
   |none=>
    rw[h1]at hx
    exact AS5 hx
  |false=>
   rw[hs]at hx
   have hx:(match E5 P kn rec f args with
    |some r=>some (⟨.dead,some r⟩:Mk)
    | none=>none)=some r:=hx
   split at hx
   ·rename_i r0 h0;cases hx;obtain⟨hA,h1,h2⟩:=Z1 hP hkn hrec _ _ _ h0;refine⟨fun s=>⟨(hA s).1,fun G vals w R hI ha hR=>(hA s).2 G vals w R hI ha fun G' v u w' s' hle hI' hv hlen hk=>?_⟩,h1,fun _ _=>rfl,rfl⟩;obtain⟨rfl,rfl⟩:=hk;exact hR G' _ u w' (s'.put s'.up.length d 0 .dead) hle (hI'.nought d 0) hv (St.put_len _ _ _ _ _) ⟨0,(h2 _ _).symm,rfl⟩
   ·cases hx
theorem nP(hP:D8 P){kn:CF0}(hkn:EX P kn){rec:F6}(hrec:UJ P rec):eA P (VS P kn rec):=by
 intro f args st r st' hx hbd hargs;unfold VS at hx;cases hcl:(args.all (AK 9)&&!(BE P f))with
 |true=>
  rw[hcl]at hx
  have hx:(match E5 P kn rec f args with|some r=>some (r,st)|none=>none)=some (r,st'):=hx
  split at hx
  ·rename_i r0 h0;cases hx;obtain⟨hA,h1,h2⟩:=Z1 hP hkn hrec _ _ _ h0;refine⟨⟨bt _,hbd,rfl⟩,fun σ σ' δ _=>by rw[h2,h2],rfl,fun σ pre K hk=>?_⟩;have e:args.map (V.ren σ pre.length)=args:=by
    conv=>rhs;rw[<-cz args]
    exact bw fun v hv=>h1 v hv _ _
   rw[e];refine(hA (st.s.emb σ pre)).mono fun r' s' q5=>?_;obtain⟨rfl,rfl⟩:=q5;have:=hk σ (AS.refl _ _);rwa [h2]at this
  ·cases hx
 |false=>
  rw[hcl]at hx
  have hx:(match eE P rec f args st.c (st.s.up++[st.s.loc])with
   |some (r,c,up)=>match CW up with
    |some (u,l)=>some (r,(⟨c,st.fr,⟨u,l⟩⟩:XS))
    |none=>none
   | none=>none)=some (r,st'):=hx
  split at hx
  ·rename_i r0 c0 up0 h1;split at hx
   ·rename_i u l hu;cases hx;have hup0:=OR hu;have hsb:∀σ σ' δ,AS st.c σ σ'->(st.s.up++[st.s.loc]).map (AA.ren σ δ)=(st.s.up++[st.s.loc]).map (AA.ren σ' δ):=by intro σ σ' δ ha;have:=hbd.s σ σ' (bh δ []) ha;simp only[St.emb,St.mk.injEq,bn]at this;simp only[bx,dw,dp];rw[dj this.1,this.2]
    have hlp:∀L∈st.s.up++[st.s.loc],∀k γ fr ps asg body N st,L.get k=some (γ,.loop fr ps asg body N st)->S5 N ps asg body=true:=by intro L hL k γ fr ps asg body N ls hg;obtain⟨i,hi⟩:=List.getElem?_of_mem hL;refine hbd.lp i k γ fr ps asg body N ls ?_;have:=HW st.s.up st.s.loc i k;rw[hi]at this;exact this.trans hg
    obtain⟨hc,hrb,hub,hlen,hlp',hA⟩:=nO hP hrec h1 hargs hsb hlp;subst hup0;refine⟨⟨hc,⟨fun σ σ' δ ha=>hbd.f σ σ' δ (ha.mono hc),fun σ σ' pre ha=>?_,fun i k γ fr ps asg body N ls hg=>?_⟩,?_⟩,hrb,rfl,fun σ pre K hk=>?_⟩
    ·have:=hub σ σ' pre.length ha;simp only[bx,dw,dp]at this;obtain⟨e1,e2⟩:=dq this rfl;simp only[List.cons.injEq,and_true]at e2;simp only[St.emb,e1,e2]
    ·rw[HW]at hg;split at hg
     ·rename_i L hL;exact hlp' L (dl hL) _ _ _ _ _ _ _ _ hg
     ·cases hg
    ·simp only[ck,cd]at hlen;simp only;omega
    ·refine hA σ pre (st.s.emb σ pre) K (by simp[St.emb]) fun σ' u' l' ha hu'=>?_;have:=hk σ' ha;simp only[bx,dw,dp,<-List.append_assoc]at hu';obtain⟨e1,e2⟩:=dq hu' rfl;simp only[List.cons.injEq,and_true]at e2;subst e1;subst e2;exact this
   ·cases hx
  ·cases hx
end Go.Pg
