/- Running a Go function upon abstract values, by computing: values, appends, calls, a region's operations one after another. No program in sight. -/
import Derived.Test.YtmnlpgjklibndaaGreatQ1
noncomputable section
open Go renaming Oper->fx,Program->fc,Operand->ff,FuncId->fg,TypeId->fh
open Nat renaming eq_of_beq_eq_true->bj,beq->bf,le_refl->bt,lt_succ_self->cq,le_trans->dv,ble_eq->dc,le_succ->dm,blt->dr,blt_eq->dt,ble->fk
open List renaming all_eq_true->bq,map_congr_left->bw,map_append->bx,replicate->bh,length_replicate->bn,length_map->bp,map->br,map_take->cj,length_append->ck,map_inj_left->cx,map_id->cz,length_singleton->cd,eq_nil_of_length_eq_zero->cg,getElem?_append_right->cp,getElem?_append_left->cr,append_cancel_left->dj,map_flatten->dk,append_inj'->dq,map_cons->dw,mem_append_right->dx,getElem?_eq_none->dz,eq_nil_or_concat->db,mem_append->df,mem_append_left->dg,length->dh,mem_of_getElem?->dl,mem_map->dn,map_nil->dp,all_map->fj,map_map->fq
open Option renaming map_some->bz,bind_some->bg,some->cm
open Bool renaming and_eq_true->bc
open Prod renaming mk->fw
namespace Go.Pg
variable {P:fc}{σ σ':Nat->Nat}{δ:Nat}{pre:List AA}{s:St}{fr:Fr}{g:Bool}
def rdC(fr:Fr)(x:ff):Option (Bool×V):=match x with
 |.tmp t=>E5 fr t
 |.const v=>match CH v with
  |some x=>some (true,x)
  |none=>none
 |.func f=>some (true,.fn f [] [])
 |.global _=>none
theorem APV(x:ff):rdC fr x=rd fr x:=by
 cases x with
 |tmp t=>exact F9 fr t
 |const v=>simp only[rdC,rd];cases CH v<;>rfl
 |func f=>rfl
 |global g=>rfl
def tS(fr:Fr)(c a b:ff):Option V:=match BV fr c,rdC fr a,rdC fr b with
 |some (.bool c),some (ca,.bool a),some (cb,.bool b)=>Bool.rec (Bool.rec none (some (.bool b)) cb) (Bool.rec none (some (.bool a)) ca) c
 |_,_,_=>none
def N5(P:fc)(fr:Fr)(s:St)(T:fh)(x:ff):Option V:=match BV fr x with
 |some p=>match BA s p with
  |some cs=>BJ P T cs
  |none=>none
 |none=>none
def xFA(P:fc)(fr:Fr)(T:fh)(x:ff)(f:Nat):Option V:=match BV fr x with
 |some p=>C8 P T p f
 |none=>none
def xT(P:fc)(fr:Fr)(op:BinOp)(T:fh)(x y:ff):Option V:=match BV fr x,BV fr y with
 |some a,some b=>FZ P op T a b
 |_,_=>none
def TQ(P:fc)(fr:Fr)(T:fh)(ps:List (Nat×ff)):Option V:=match DA (BV fr) ps with
 |some l=>CO P T l
 |none=>none
def O6(P:fc)(fr:Fr)(T:fh)(n:Nat)(ps:List (Nat×ff)):Option V:=match DA (BV fr) ps with
 |some l=>B5 P T n l
 |none=>none
def xU(P:fc)(o:fx)(fr:Fr)(s:St):Option V:=match o.op with
 |.move x=>BV fr x
 |.assign x=>BV fr x
 |.load T x=>N5 P fr s T x
 |.fieldAddr T x f=>xFA P fr T x f
 |.binOp op T x y _=>xT P fr op T x y
 |.pick c a b=>tS fr c a b
 |.build T ps=>TQ P fr T ps.toList
 |.buildSlice T n ps=>O6 P fr T n ps.toList
 |.call { callee:=.builtin .append,args,argTypes }=>appS P true o args argTypes fr
 |_=>IU P o s (BV fr)
theorem O7{o:fx}{v:V}(h:xU P o fr s=some v):FD P true o fr s=some v:=by
 unfold xU at h;unfold FD;split at h<;>rename_i ho
 ·simp only[ho,IU,<-E9];exact h
 ·simp only[ho,IU,<-E9];exact h
 ·unfold N5 at h;split at h
  ·rename_i p e1;split at h
   ·rename_i cs e2;simp only[ho,IU,<-E9,e1,e2,bg];exact h
   ·cases h
  ·cases h
 ·unfold xFA at h;split at h
  ·rename_i p e1;simp only[ho,IU,<-E9,e1,bg];exact h
  ·cases h
 ·unfold xT at h;split at h
  ·rename_i a b e1 e2;simp only[ho,IU,<-E9,e1,e2,bg];exact h
  ·cases h
 ·unfold tS at h;simp only[APV]at h;split at h
  ·rename_i c ca a cb b e1 e2 e3;rw[DM]at e1;simp only[ho,e1,e2,e3];cases c with
   |true=>
    cases ca with
    |false=>cases h
    |true=>cases h;simp
   |false=>
    cases cb with
    |false=>cases h
    |true=>cases h;simp
  ·cases h
 ·unfold TQ at h;split at h
  ·rename_i l e1;simp only[ho,<-E9,e1,bg];exact h
  ·cases h
 ·unfold O6 at h;split at h
  ·rename_i l e1;simp only[ho,<-E9,e1,bg];exact h
  ·cases h
 ·simp only[ho];exact h
 ·rw[E9]at h;split
  ·rename_i ho';rw[IU,ho']at h;cases h
  ·rename_i ho';rw[IU,ho']at h;cases h
  ·rename_i ho';rw[IU,ho']at h;cases h
  ·rename_i ho';rw[IU,ho']at h;cases h
  ·exact h
theorem H2{α:Type}{b:Bool}{x y:α}(h:(Bool.rec none (some x) b:Option α)=some y):b=true/\x=y:=by
 cases b with
 |false=>cases h
 |true=>exact⟨rfl,cm.inj h⟩
theorem DZ{α:Type}{b:Bool}{x:Option α}{y:α}(h:(Bool.rec none x b:Option α)=some y):b=true/\x=some y:=by
 cases b with
 |false=>cases h
 |true=>exact⟨rfl,h⟩
theorem SB{st:XS}(h:Bd st){v:V}{ys:List (List V)}(hv:S5 st.c v)(he:elemsOf st.s v=some ys)(σ σ':Nat->Nat)(δ:Nat)(ha:AR st.c σ σ'):ys.map (br (V.ren σ δ))=ys.map (br (V.ren σ' δ)):=by have h1:=GN (σ:=σ) (pre:=bh δ []) he;have h2:=GN (σ:=σ') (pre:=bh δ []) he;rw[h.s σ σ' _ ha,hv σ σ' _ ha,h2]at h1;have:=cm.inj h1;rw[bn]at this;exact this.symm
theorem FE(ys:List (List V))(m:Nat):(ys.map (br (V.ren σ δ))).all (fun y=>y.length==m)=ys.all (fun y=>y.length==m):=by rw[fj];congr 1;funext y;simp
def lA(P:fc)(d:Tmp)(e:fh)(ys:List (List V))(st:XS)(xv:V):Option (XS×Nat×Nat):=match xv with
 |.vec l q γ n=>match QM n ys (st.s.get l q)with
  |some (γ',.vec W es)=>Bool.rec none (some (⟨st.c+1,(d,true,.vec l q st.c (es++ys).length)::st.fr,st.s.put l q st.c (.vec e (es++ys))⟩,l,q))
    (bf γ' γ&&bf W e&&bf n es.length&&es.all (fun y=>y.length==P.cellsOf e)&&B8 P e es.length ys)
  |_=>none
 |_=>none
def xAppG(el:St->V->Option (List (List V)))(P:fc)(d:Option Tmp)(args:List ff)(Ts:List fh)(st:XS):Option (XS×Nat×Nat):=match args,Ts,d with
 | [x,y],[T,U],some d=>Bool.rec none (match BK P T with
  |some (none,e)=>match BV st.fr x,BV st.fr y with
   |some xv,some yv=>match el st.s yv with
    |some ys=>match IG xv ys with
     |some es=>Bool.rec none (some (⟨st.c+1,(d,true,.vec st.s.up.length d st.c (es++ys).length)::st.fr,st.s.put st.s.up.length d st.c (.vec e (es++ys))⟩,st.s.up.length,d)) (es.all (fun y=>y.length==P.cellsOf e)&&B8 P e es.length ys)
     |none=>lA P d e ys st xv
    |none=>none
   |_,_=>none
  | _=>none) (bf T U)
 |_,_,_=>none
theorem AC1(v:V):VD (v.ren σ δ)=VD v:=by
 cases v with
 |list f es=>cases f<;>cases es<;>simp[VD]
 |_=>simp[VD]
theorem lB(v:V)(ys:List (List V)):IG (v.ren σ δ) (ys.map (br (V.ren σ δ)))=(IG v ys).map (br (br (V.ren σ δ))):=by
 cases v with
 |list f es=>cases f<;>cases es<;>cases ys<;>simp[IG]
 |_=>simp[IG]
theorem pM{v:V}{es ys:List (List V)}(h:IG v ys=some es):elemsOf s v=some es:=by unfold IG at h;split at h<;>cases h<;>rfl
theorem cB{e:fh}{n:Nat}(ys:List (List V)):B8 P e n (ys.map (br (V.ren σ δ)))=B8 P e n ys:=by unfold B8;rw[FE,bp]
theorem AC2{n:Nat}(ys es:List (List V)):eQ n (ys.map (br (V.ren σ δ))) (es.map (br (V.ren σ δ)))=(eQ n ys es).map (br (V.ren σ δ)):=by
 cases ys with
 |nil=>rfl
 |cons y ys=>
  show(if _ then _ else _)=(if _ then _ else _:List (List V)).map _
  have e:(es.map (br (V.ren σ δ))).all (fun x=>x.length==(y.map (V.ren σ δ)).length)=es.all (fun x=>x.length==y.length):=by rw[fj,bp];congr 1;funext x;simp
  rw[e]
  split
  ·rw[cj]
  ·rfl
theorem lC{n γ:Nat}{ys es:List (List V)}{U:fh}{o:Option (Nat×AZ)}(h:QM n ys o=some (γ,.vec U es)):QM n (ys.map (br (V.ren σ δ))) (o.map fun p=>(σ p.1,p.2.ren σ δ))=some (σ γ,.vec U (es.map (br (V.ren σ δ)))):=by obtain⟨es0,rfl,rfl⟩:=OZ h;show some (σ γ,AZ.vec U (eQ n _ _))=_;rw[AC2]
theorem YK{el:St->V->Option (List (List V))}(hel0:∀s v es,el s v=some es->elemsOf s v=some es){o:fx}{args:Array ff}{Ts:Array fh}{st st':XS}{l q:Nat}(h:Bd st)(ho:o.op=.call { callee:=.builtin .append,args:=args,argTypes:=Ts })
  (hx:xAppG el P o.dst args.toList Ts.toList st=some (st',l,q)):∃d r,o.dst=some d/\plR r=true/\st'=⟨st.c+1,(d,true,GS r l q st.c)::st.fr,st.s.put l q st.c r⟩/\(∀σ σ' δ,AR st.c σ σ'->r.ren σ δ=r.ren σ' δ) /\
   (∀(σ:Nat->Nat) (pre:List AA) (k:Fr->St->Prop),(∀γ,k ((st.fr.ren σ pre.length).put d true (GS (r.ren σ pre.length) (l+pre.length) q γ)) ((st.s.emb σ pre).put (l+pre.length) q γ (r.ren σ pre.length)))->D7 P true o (st.fr.ren σ pre.length) (st.s.emb σ pre) k) /\
   (∀(W:AL) (σ:Nat->Nat) (pre:List AA),sealD o.dst=false->(∀p∈H3 (BV st.fr) args.toList,p∉W)->VF P o (st.fr.ren σ pre.length) ((st.s.emb σ pre).hide (WH pre.length W)) (st.s.emb σ pre)=some (l+pre.length,q,r.ren σ pre.length)):=by
 unfold xAppG at hx
 split at hx
 ·rename_i x y T U d ha hT hd;obtain⟨hTU,hx2⟩:=DZ hx;clear hx;have hTU:=bj hTU;subst hTU;have hx:=hx2;clear hx2;split at hx
  ·rename_i e hel;split at hx
   ·rename_i xv yv h1 h2;split at hx
    ·rename_i ys hys0;have hys:=hel0 _ _ _ hys0;have hyb:=SB h (h.rd h2) hys;have r1:=h1;have r2:=h2;rw[DM]at r1 r2;have hys2:∀(W:AL) (σ:Nat->Nat) (pre:List AA),(∀p∈H3 (BV st.fr) args.toList,p∉W)->elemsOf ((st.s.emb σ pre).hide (WH pre.length W)) (yv.ren σ pre.length)=some (ys.map (br (V.ren σ pre.length))):=fun W σ pre hW=>by refine fM (GN hys) ?_;rw[ha]at hW;simp only[H3,h2]at hW;have:=lQ (δ:=pre.length) hW;rw[<-MP (σ:=σ)]at this;exact this
     cases hn:IG xv ys with
     |some es=>
      rw[hn]at hx
      obtain⟨hc,he⟩:=H2 hx
      simp only[fw.injEq]at he
      obtain⟨rfl,rfl,rfl⟩:=he
      simp only[bc]at hc
      obtain⟨hce,hc⟩:=hc
      have heb:=SB h (h.rd h1) (pM hn)
      refine⟨d,.vec e (es++ys),hd,rfl,rfl,fun σ σ' δ hag=>by simp only[AZ.ren,bx,hyb σ σ' δ hag,heb σ σ' δ hag],fun σ pre k hk=>?_,fun W σ pre hsd hW=>?_⟩
      ·have hc':=hc;simp only[B8,bc,dt,dc]at hc;obtain⟨⟨⟨⟨c1,c2⟩,c3⟩,c4⟩,c5⟩:=hc;unfold D7;simp only[ho,ha,hT,hd,hel,C4,r1,r2,bz,bg,GN hys,lB,hn,true_and];refine .inr ⟨c1,c2,by rw[FE];exact hce,by rw[FE];exact c3,by simpa using c4,by simpa using c5,fun γ=>?_⟩;have:=hk γ;simp only[GS,AZ.ren]at this;rw[CZ,<-bx];exact this
      ·unfold VF;simp only[ho,ha,hT,hd,hel,C4,r1,r2,bz,bg,hys2 _ _ _ hW,lB,hn,hd▸hsd,and_self,if_true,CZ,AZ.ren];rw[if_pos ⟨by rw[FE];exact hce,by rw[cB,bp];exact hc⟩,bx]
     |none=>
      rw[hn]at hx
      replace hx:lA P d e ys st xv=some (st',l,q):=hx
      unfold lA at hx
      split at hx
      ·rename_i l0 q0 γ0 n';split at hx
       ·rename_i γ' W es hg;obtain⟨hc,he⟩:=H2 hx;simp only[fw.injEq]at he;obtain⟨rfl,rfl,rfl⟩:=he;simp only[bc]at hc;obtain⟨⟨⟨⟨c1,c2⟩,c3⟩,c6⟩,c7⟩:=hc;have c1:=bj c1;have c2:=bj c2;have c3:=bj c3;subst c1;subst c2;subst c3;have heb:∀σ σ' δ,AR st.c σ σ'->es.map (br (V.ren σ δ))=es.map (br (V.ren σ' δ)):=fun σ σ' δ ha=>by
         obtain⟨es0,hg0,e0⟩:=OZ hg;have:=MN h hg0 σ σ' δ ha;have e1:es0.map (br (V.ren σ δ))=es0.map (br (V.ren σ' δ)):=by simpa [AZ.ren]using this
         rcases TC es.length ys es0 with e2|⟨e2,_⟩
         ·rw[e0,e2,e1]
         ·rw[e0,e2,cj,cj,e1]
        refine⟨d,.vec W (es++ys),hd,rfl,rfl,fun σ σ' δ hag=>by simp only[AZ.ren,bx,hyb σ σ' δ hag,heb σ σ' δ hag],fun σ pre k hk=>?_,fun W σ pre hsd hW=>?_⟩
        ·simp only[B8,bc,dt,dc]at c7;obtain⟨⟨⟨⟨d1,d2⟩,d3⟩,d4⟩,d5⟩:=c7;have hnn:IG (V.vec (l0+pre.length) q0 (σ γ') es.length) (ys.map (br (V.ren σ pre.length)))=none:=rfl;unfold D7;simp only[ho,ha,hT,hd,hel,C4,r1,r2,bz,bg,GN hys,HE,BP,lC hg,true_and,hnn];refine .inr ⟨by simp,d1,d2,by rw[FE];exact c6,by rw[FE];exact d3,by simpa using d4,by simpa using d5,fun γ=>?_⟩;have:=hk γ;simp only[GS,AZ.ren,bx,ck,bp]at this|-;exact this
        ·have hnn:IG (V.vec (l0+pre.length) q0 (σ γ') es.length) (ys.map (br (V.ren σ pre.length)))=none:=rfl;unfold VF;simp only[ho,ha,hT,hd,hel,C4,r1,r2,bz,bg,hys2 _ _ _ hW,HE,BP,lC hg,hnn,hd▸hsd,and_self,if_true];rw[if_pos ⟨trivial,trivial,by simp,by rw[FE];exact c6,by rw[cB,bp];exact c7⟩];simp only[AZ.ren,bx]
       ·cases hx
      ·cases hx
    ·cases hx
   ·cases hx
  ·cases hx
 ·cases hx
theorem YL{st:XS}(h:Bd st){d l q:Nat}{r:AZ}(hp:plR r=true)(hr:∀σ σ' δ,AR st.c σ σ'->r.ren σ δ=r.ren σ' δ):H8 st ⟨st.c+1,(d,true,GS r l q st.c)::st.fr,st.s.put l q st.c r⟩:=by
 have hb:∀σ σ',AR (st.c+1) σ σ'->AR st.c σ σ':=fun σ σ' ha=>ha.mono (dm _);refine⟨dm _,⟨fun σ σ' δ ha=>?_,fun σ σ' pre ha=>?_,h.lp.put (TY hp)⟩,St.put_len _ _ _ _ _⟩
 ·show((st.fr.put d true (GS r l q st.c)).ren σ δ)=((st.fr.put d true (GS r l q st.c)).ren σ' δ);have e:∀σ:Nat->Nat,(GS r l q st.c).ren σ δ=GS (r.ren σ δ) (l+δ) q (σ st.c):=fun σ=>by cases r<;>simp[GS,AZ.ren]
  simp only[HI,e];rw[h.f σ σ' δ (hb _ _ ha),ha st.c (cq _),hr σ σ' δ (hb _ _ ha)]
 ·simp only[CK];rw[h.s σ σ' pre (hb _ _ ha),hr σ σ' _ (hb _ _ ha),ha st.c (cq _)]
theorem lD(r:AZ)(l q γ:Nat):(GS r l q γ).ren σ δ=GS (r.ren σ δ) (l+δ) q (σ γ):=by cases r<;>simp[GS,AZ.ren]
theorem pN{st:XS}(h:Bd st){d l q:Nat}{r:AZ}(hr:∀σ σ' δ,AR st.c σ σ'->r.ren σ δ=r.ren σ' δ){σ:Nat->Nat}{pre:List AA}{k:Fr->St->Prop}
  (hk:∀σ',AR st.c σ σ'->k (Fr.ren σ' pre.length ((d,true,GS r l q st.c)::st.fr)) ((st.s.put l q st.c r).emb σ' pre)) (γ:Nat):k ((st.fr.ren σ pre.length).put d true (GS (r.ren σ pre.length) (l+pre.length) q γ)) ((st.s.emb σ pre).put (l+pre.length) q γ (r.ren σ pre.length)):=by
 have:=hk (fun i=>if i=st.c then γ else σ i) (AR.upd _ _ _)
 have hag:=AR.upd st.c γ σ
 change k ((st.fr.put d true _).ren _ _) _ at this
 simp only[HI,lD,if_true,CK]at this
 rw[<-h.f _ _ _ hag,<-h.s _ _ _ hag,<-hr _ _ _ hag]at this
 exact this
theorem tT(r:Mk)(l k γ:Nat):(r.val l k γ).ren σ δ=Mk.val ⟨r.res.ren σ δ,r.t⟩ (l+δ) k (σ γ):=by
 obtain⟨r,t⟩:=r;cases t with
 |none=>exact lD _ _ _ _
 |some t=>exact MH t
theorem xV{st:XS}(h:Bd st){d l q:Nat}{r:Mk}(hp:plR r.res=true)(hr:∀σ σ' δ,AR st.c σ σ'->r.res.ren σ δ=r.res.ren σ' δ):H8 st ⟨st.c+1,(d,true,r.val l q st.c)::st.fr,st.s.put l q st.c r.res⟩:=by
 have hb:∀σ σ',AR (st.c+1) σ σ'->AR st.c σ σ':=fun σ σ' ha=>ha.mono (dm _);refine⟨dm _,⟨fun σ σ' δ ha=>?_,fun σ σ' pre ha=>?_,h.lp.put (TY hp)⟩,St.put_len _ _ _ _ _⟩
 ·show((st.fr.put d true (r.val l q st.c)).ren σ δ)=((st.fr.put d true (r.val l q st.c)).ren σ' δ);simp only[HI,tT];rw[h.f σ σ' δ (hb _ _ ha),ha st.c (cq _),hr σ σ' δ (hb _ _ ha)]
 ·simp only[CK];rw[h.s σ σ' pre (hb _ _ ha),hr σ σ' _ (hb _ _ ha),ha st.c (cq _)]
theorem AIC{st:XS}(h:Bd st){d l q:Nat}{r:Mk}(hr:∀σ δ,r.res.ren σ δ=r.res){σ:Nat->Nat}{pre:List AA}{k:Fr->St->Prop}
  (hk:∀σ',AR st.c σ σ'->k (Fr.ren σ' pre.length ((d,true,r.val l q st.c)::st.fr)) ((st.s.put l q st.c r.res).emb σ' pre)) (γ:Nat):k ((st.fr.ren σ pre.length).put d true (r.val (l+pre.length) q γ)) ((st.s.emb σ pre).put (l+pre.length) q γ r.res):=by
 have:=hk (fun i=>if i=st.c then γ else σ i) (AR.upd _ _ _)
 have hag:=AR.upd st.c γ σ
 change k ((st.fr.put d true _).ren _ _) _ at this
 simp only[HI,tT,if_true,CK,hr]at this
 rw[<-h.f _ _ _ hag,<-h.s _ _ _ hag]at this
 exact this
def xAppend(P:fc)(d:Option Tmp)(args:List ff)(Ts:List fh)(st:XS):Option XS:=match xAppG elemsOf P d args Ts st with
 |some (st',_,_)=>some st'
 |none=>none
theorem pO{o:fx}{args:Array ff}{Ts:Array fh}{st st':XS}(h:Bd st)(ho:o.op=.call { callee:=.builtin .append,args:=args,argTypes:=Ts })(hx:xAppend P o.dst args.toList Ts.toList st=some st'):StepX P o st st':=by
 unfold xAppend at hx;split at hx
 ·rename_i st1 l q e1;cases hx;obtain⟨d,r,hd,hp,rfl,hr,hs,_⟩:=YK (fun _ _ _ h=>h) h ho e1;exact⟨YL h hp hr,fun σ pre k hk=>hs σ pre k fun γ=>pN h hr hk γ⟩
 ·cases hx
def tU(P:fc)(d:Option Tmp)(args:List ff)(Ts:List fh)(st:XS):Option XS:=match args,Ts with
 |[x,y],[T,_]=>match BK P T,BV st.fr x,BV st.fr y with
  |some (none,e),some (.vtl l q γ i n),some yv=>match st.s.get l q,elemsOf st.s yv with
   |some (γ',.box cs),some ys=>Bool.rec none (some { st with fr:=putD st.fr d true (.int .i64 ((min ys.length n:Nat):Int)),s:=st.s.put l q γ (.box (A6 cs i (ys.take n).flatten)) }) (bf γ' γ&&bf (P.cellsOf e) 1&&ys.all (fun y=>y.length==1)&&fk (i+n) cs.length&&dr γ st.c)
   |_,_=>none
  |_,_,_=>none
 |_,_=>none
theorem AC3{o:fx}{args:Array ff}{Ts:Array fh}{st st':XS}(h:Bd st)(ho:o.op=.call { callee:=.builtin .copy,args:=args,argTypes:=Ts })(hx:tU P o.dst args.toList Ts.toList st=some st'):StepX P o st st':=by
 unfold tU at hx;split at hx
 ·rename_i x y T U ha hT;split at hx
  ·rename_i e l q γ i n yv hel h1 h2;split at hx
   ·rename_i γ' cs ys hg hys;cases hb:(bf γ' γ&&bf (P.cellsOf e) 1&&ys.all (fun y=>y.length==1)&&fk (i+n) cs.length&&dr γ st.c)with
    |false=>rw[hb]at hx;cases hx
    |true=>
     rw[hb]at hx
     cases hx
     simp only[bc,dt,dc]at hb
     obtain⟨⟨⟨⟨c1,c2⟩,c3⟩,c4⟩,c5⟩:=hb
     have c1:=bj c1
     have c2:=bj c2
     subst c1
     have hB:Bd { st with s:=st.s.put l q γ' (.box (A6 cs i (ys.take n).flatten)) }:=h.putS c5 fun σ σ' δ ha=>by have hr:=MN h hg σ σ' δ ha;have he:=SB h (h.rd h2) hys σ σ' δ ha;simp only[AZ.ren,AZ.box.injEq]at hr|-;rw[<-C9,<-C9,hr,dk,dk,cj,cj,he]
     refine⟨⟨bt _,hB.putF (fun _ _ _ _=>rfl),St.put_len _ _ _ _ _⟩,fun σ pre k hk=>?_⟩
     have:=hk σ (AR.refl _ _)
     rw[DM]at h1 h2
     unfold D7
     simp only[ho,ha,hT,hel,C4,h1,h2,bz,WE,bg,GN hys,BP,hg,AZ.ren]
     refine⟨trivial,trivial,c2,?_,by simpa using c4,?_⟩
     ·rw[fj];exact c3▸(by congr 1;funext x;simp)
     ·simp only[EZ,D6,CK,AZ.ren,<-C9,dk,cj]at this;simpa only[bp]using this
   ·cases hx
  ·cases hx
 ·cases hx
end Go.Pg
namespace Go.Pg
variable {P:fc}{Ω:G8 P}{σ σ':Nat->Nat}{δ:Nat}{pre:List AA}{s:St}{fr:Fr}{g:Bool}
def EE{α β:Type}(f:α->Option β):List α->Option (List β)
 |[]=>some []
 |x::l=>match f x with
  |some y=>match EE f l with
   |some r=>some (y::r)
   |none=>none
  |none=>none
theorem KB{α β:Type}(f:α->Option β):∀(l:List α),EE f l=l.mapM f
 |[]=>rfl
 |x::l=>by
  simp only[EE,List.mapM_cons,<-KB f l];cases f x with
  |none=>rfl
  |some y=>cases EE f l<;>rfl
abbrev CF:=fg->List V->XS->Option (V×XS)
abbrev CY:=Nat->Nat->Nat->List V->XS->Option (V×XS)
abbrev CF0:=fg->List V->Option V
abbrev tV:=fg->List V->Tmp->Option Mk
structure XE where
 cf:CF
 cy:CY
 c0:CF0
 co:tV
 lit:Tmp->Bool
def cC(P:fc)(cf:CF):Prop:=∀f args st r st',cf f args st=some (r,st')->Bd st->(∀v∈args,S5 st.c v)->H8 st st'/\S5 st'.c r/\st'.fr=st.fr /\
 ∀(σ:Nat->Nat) (pre:List AA) (K:V->St->Prop),(∀σ',AR st.c σ σ'->K (r.ren σ' pre.length) (st'.s.emb σ' pre))->DX P f (args.map (V.ren σ pre.length)) (st.s.emb σ pre) K
def APW(P:fc)(cy:CY):Prop:=∀l q γ vs st r st',cy l q γ vs st=some (r,st')->Bd st->(∀v∈vs,S5 st.c v)->H8 st st'/\S5 st'.c r/\st'.fr=st.fr /\
 ∃fr0 ps asg body N,st.s.get l q=some (γ,.loop fr0 ps asg body N .ready)/\∀(σ:Nat->Nat) (pre:List AA) (k:V->St->Prop),(∀σ',AR st.c σ σ'->k (r.ren σ' pre.length) (st'.s.emb σ' pre)) ->
  XL P (l+pre.length) q (σ γ) (Fr.ren σ pre.length fr0) ps asg body N (vs.map (V.ren σ pre.length)) (st.s.emb σ pre) k
def EN(P:fc)(cf:CF0):Prop:=∀f args r,cf f args=some r->(∀s,DX P f args s fun r' s'=>r'=r/\s'=s)/\(∀v∈args,∀σ δ,v.ren σ δ=v)/\(∀σ δ,r.ren σ δ=r)
def pP(P:fc)(co:tV):Prop:=∀f args d r,co f args d=some r->(∀(s:St),DX P f args s fun v s'=>∃γ,v=r.val s.up.length d γ/\s'=s.put s.up.length d γ r.res) /\
 (∀v∈args,∀σ δ,v.ren σ δ=v)/\(∀σ δ,r.res.ren σ δ=r.res)/\plR r.res=true
structure JQ(P:fc)(E:XE):Prop where
 cf:cC P E.cf
 cy:APW P E.cy
 c0:EN P E.c0
 co:pP P E.co
def JQ.tab{E:XE}(h:JQ P E)(own:fx->Bool):G8 P:=⟨own,E.co,fun f args d r hc=>(h.co f args d r hc).1⟩
def pQ(cy:CY)(d:Option Tmp)(l q γ:Nat)(args:List ff)(st:XS):Option XS:=match EE (BV st.fr) args with
 |some vs=>match cy l q γ vs st with
  |some (r,st')=>some { st' with fr:=putD st'.fr d true r }
  |none=>none
 |none=>none
def SC(cf:CF)(cy:CY)(d:Option Tmp)(f:ff)(args:List ff)(st:XS):Option XS:=match BV st.fr f with
 |some (.fn fid first cap)=>match EE (BV st.fr) args with
  |some vs=>match cf fid ((first++vs++cap).map weakV) st with
   |some (r,st')=>some { st' with fr:=putD st'.fr d true r }
   |none=>none
  |none=>none
 |some (.yld l q γ)=>pQ cy d l q γ args st
 |_=>none
def EV(co:tV)(d:Option Tmp)(f:ff)(args:List ff)(st:XS):Option XS:=match d,BV st.fr f with
 |some d,some (.fn fid first cap)=>match EE (BV st.fr) args with
  |some vs=>match co fid ((first++vs++cap).map weakV) d with
   |some r=>some ⟨st.c+1,(d,true,r.val st.s.up.length d st.c)::st.fr,st.s.put st.s.up.length d st.c r.res⟩
   |none=>none
  |none=>none
 |_,_=>none
def xVal(P:fc)(o:fx)(st:XS):Option XS:=match xU P o st.fr st.s with
 |some v=>some { st with fr:=putD st.fr o.dst true v }
 |none=>none
def P4(E:XE)(own:Bool)(d:Option Tmp)(f:ff)(args:List ff)(st:XS):Option XS:=Bool.rec (SC E.cf E.cy d f args st) (match EV E.co d f args st with
 |some st'=>some st'
 | none=>SC E.cf E.cy d f args st) own
def A16(P:fc)(E:XE)(own:fx->Bool)(o:fx)(c:Call)(st:XS):Option XS:=match c.callee with
 |.value f=>P4 E (own o) o.dst f c.args.toList st
 |.builtin .append=>Bool.rec (xAppend P o.dst c.args.toList c.argTypes.toList st) (xVal P o st) (sealD o.dst)
 |.builtin .clear=>TZ P o.dst c.args.toList c.argTypes.toList st
 |.builtin .copy=>tU P o.dst c.args.toList c.argTypes.toList st
 |_=>xVal P o st
def P5(P:fc)(E:XE)(own:fx->Bool)(o:fx)(st:XS):Option XS:=match o.op with
 |.alloc T=>OA P o.dst T st
 |.box _ x=>lN o.dst x st
 |.makeMap _ r=>yB o.dst r st
 |.makeSlice T x y=>U1 P o.dst T x y st
 |.store T x y=>I0 P o.dst T x y st
 |.mapUpdate T x i y=>yC P o.dst T x i y st
 |.call c=>A16 P E own o c st
 |_=>xVal P o st
theorem eZ{o:fx}{st st':XS}(h:Bd st)(hx:xVal P o st=some st'):StepX P o st st':=by
 unfold xVal at hx;split at hx
 ·rename_i v hv;cases hx;exact yA h (O7 hv)
 ·cases hx
theorem WF{st:XS}(h:Bd st):∀{args:List ff} {vs:List V},EE (BV st.fr) args=some vs->∀v∈vs,S5 st.c v
 |[],vs,e,v,hv=>by cases e;cases hv
 |x::l,vs,e,v,hv=>by
  simp only[EE]at e;split at e
  ·rename_i y hy;split at e
   ·rename_i r hr;cases e;rcases List.mem_cons.1 hv with rfl|hv
    ·exact h.rd hy
    ·exact WF h hr v hv
   ·cases e
  ·cases e
theorem fA{c:Nat}{v:V}(h:S5 c v):S5 c (weakV v):=fun σ σ' δ ha=>by rw[<-TL,<-TL,h σ σ' δ ha]
theorem AC4{c:Nat}{f:fg}{xs ys:List V}(h:S5 c (.fn f xs ys)):(∀v∈xs,S5 c v)/\(∀v∈ys,S5 c v):=by
 refine⟨fun v hv σ σ' δ ha=>?_,fun v hv σ σ' δ ha=>?_⟩
 ·have:=h σ σ' δ ha;simp only[MG,V.fn.injEq]at this;exact cx.1 this.2.1 v hv
 ·have:=h σ σ' δ ha;simp only[MG,V.fn.injEq]at this;exact cx.1 this.2.2 v hv
theorem HG(l:List V):(l.map weakV).map (V.ren σ δ)=(l.map (V.ren σ δ)).map weakV:=by simp only[fq];congr 1;funext v;exact(TL v).symm
theorem cD{E:XE}(hE:JQ P E){own:fx->Bool}{o:fx}(hown:own o=true){f:ff}{args:Array ff}{Ts:Array fh}{st st':XS}(h:Bd st)(ho:o.op=.call { callee:=.value f,args:=args,argTypes:=Ts })(hx:EV E.co o.dst f args.toList st=some st'):fL P (hE.tab own) o st st':=by
 unfold EV at hx;split at hx
 ·rename_i d fid first cap hd hf;split at hx
  ·rename_i vs hvs;split at hx
   ·rename_i r hc;cases hx;obtain⟨_,hcl,hr,hpl⟩:=hE.co _ _ _ _ hc;refine⟨xV h hpl (fun σ σ' δ _=>by rw[hr,hr]),d,hd,fun σ pre k hk=>⟨r,?_,fun γ=>?_⟩⟩
    ·have hcd:HQ true o (st.fr.ren σ pre.length)=some (fid,(first++vs++cap).map weakV):=by
      rw[KB,E9]at hvs;rw[DM]at hf;simp only[HQ,ho,H7,hf,bz,MG,HF hvs,cm.injEq,fw.injEq,true_and];have e:((first++vs++cap).map weakV).map (V.ren σ pre.length)=(first++vs++cap).map weakV:=by
       conv=>rhs;rw[<-cz ((first++vs++cap).map weakV)]
       exact bw fun v hv=>hcl v hv σ _
      rw[HG]at e;simpa only[bx]using e
     simp only[PR,ho,JQ.tab,hown,if_true,hcd,hd,hc]
    ·have:=AIC h (d:=d) hr hk γ;rw[<-CZ]at this;exact this
   ·cases hx
  ·cases hx
 ·cases hx
theorem lE{cf:CF}{cy:CY}(hcf:cC P cf)(hcy:APW P cy){o:fx}{f:ff}{args:Array ff}{Ts:Array fh}{st st':XS}(h:Bd st)(ho:o.op=.call { callee:=.value f,args:=args,argTypes:=Ts })(hx:SC cf cy o.dst f args.toList st=some st'):StepX P o st st':=by
 unfold SC at hx;split at hx
 ·rename_i fid first cap hf;split at hx
  ·rename_i vs hvs;split at hx
   ·rename_i r st1 hr;cases hx;have b1:=AC4 (h.rd hf);have b2:=WF h hvs;obtain⟨hE,hrb,hfr,hA⟩:=hcf _ _ _ _ _ hr h (fun v hv=>by
     obtain⟨u,hu,rfl⟩:=dn.1 hv;refine fA ?_;rcases df.1 hu with hu|hu
     ·rcases df.1 hu with hu|hu
      ·exact b1.1 u hu
      ·exact b2 u hu
     ·exact b1.2 u hu)
    refine⟨⟨hE.c,hE.bd.putF hrb,hE.n⟩,fun σ pre k hk=>?_⟩;rw[KB,E9]at hvs;rw[DM]at hf;unfold D7;simp only[ho,H7,hf,bz,MG,HF hvs];refine .inl ⟨rfl,?_⟩;have:=hA σ pre (fun r s'=>k (putD (st.fr.ren σ pre.length) o.dst true r) s') fun σ' ha=>?_
    ·rw[HG]at this;simpa only[bx]using this
    ·have h1:=hk σ' ha;rw[EZ,hfr,<-h.f σ σ' _ ha]at h1;exact h1
   ·cases hx
  ·cases hx
 ·rename_i l q γ hf;unfold pQ at hx;split at hx
  ·rename_i vs hvs;split at hx
   ·rename_i r st1 hr;cases hx;obtain⟨hE,hrb,hfr,fr0,ps,asg,body,N,hget,hA⟩:=hcy _ _ _ _ _ _ _ hr h (WF h hvs);refine⟨⟨hE.c,hE.bd.putF hrb,hE.n⟩,fun σ pre k hk=>?_⟩;rw[KB,E9]at hvs;rw[DM]at hf;unfold D7;simp only[ho,H7,hf,bz,eX,HF hvs,BP,hget,AZ.ren];refine⟨trivial,trivial,?_⟩;refine hA σ pre (fun r s'=>k (putD (st.fr.ren σ pre.length) o.dst true r) s') fun σ' ha=>?_;have h1:=hk σ' ha;rw[EZ,hfr,<-h.f σ σ' _ ha]at h1;exact h1
   ·cases hx
  ·cases hx
 ·cases hx
theorem lF{E:XE}(hE:JQ P E){own:fx->Bool}{o:fx}{st st':XS}(h:Bd st)(hx:P5 P E own o st=some st'):StepX P o st st':=by
 unfold P5 at hx;split at hx
 ·rename_i T ho;exact(cM (Ω:=G8.nothing P) h ho hx).step
 ·rename_i T x ho;exact(uB (Ω:=G8.nothing P) h ho hx).step
 ·rename_i T r ho;exact(uC (Ω:=G8.nothing P) h ho hx).step
 ·rename_i T x y ho;exact(lO (Ω:=G8.nothing P) h ho hx).step
 ·rename_i T x y ho;exact cN h ho hx
 ·rename_i T x i y ho;exact AIK h ho hx
 ·rename_i c ho;obtain⟨callee,args,Ts⟩:=c;unfold A16 at hx;split at hx
  ·rename_i f hc;have hc:callee=.value f:=hc;subst hc;unfold P4 at hx;cases hown:own o with
   |false=>rw[hown]at hx;exact lE hE.cf hE.cy h ho hx
   |true=>
    rw[hown]at hx
    have hx:(match EV E.co o.dst f args.toList st with
     |some st'=>some st'
     | none=>SC E.cf E.cy o.dst f args.toList st)=some st':=hx
    split at hx
    ·rename_i st1 h1;cases hx;exact(cD hE hown h ho h1).step
    ·exact lE hE.cf hE.cy h ho hx
  ·rename_i hc;have hc:callee=.builtin .append:=hc;subst hc;cases hsd:sealD o.dst with
   |false=>rw[hsd]at hx;exact pO h ho hx
   |true=>rw[hsd]at hx;exact eZ h hx
  ·rename_i hc;have hc:callee=.builtin .clear:=hc;subst hc;exact yD h ho hx
  ·rename_i hc;have hc:callee=.builtin .copy:=hc;subst hc;exact AC3 h ho hx
  ·exact eZ h hx
 ·exact eZ h hx
def gdX(fr:Fr)(gd:Option (Tmp×Bool)):Option Bool:=match gd with
 |none=>some true
 |some (d,want)=>match E5 fr d with
  |some (c,.bool b)=>some (c&&(b==want))
  |_=>none
theorem pR(gd:Option (Tmp×Bool)):gdX fr gd=NE fr gd:=by
 cases gd with
 |none=>rfl
 |some p=>simp only[gdX,NE,F9];rfl
theorem ML{gd:Option (Tmp×Bool)}(h:NE fr gd=some g):NE (fr.ren σ δ) gd=some g:=by
 cases gd with
 |none=>exact h
 |some p=>
  simp only[NE]at h|-
  split at h
  ·rename_i c b e;simp only[Fr.get_ren,e,bz,K4];exact h
  ·cases h
def HR(d:Option Tmp)(st:XS):XS:={ st with fr:=putD st.fr d false (.bool false) }
def AC5(P:fc)(lit:Tmp->Bool)(o:fx)(st:XS):Option XS:=match o.op,o.dst with
 | .buildSlice T _ _,some d=>Bool.rec none (match BK P T,xU P o st.fr st.s with
  |some (none,e),some (.list true (x::es))=>Bool.rec none (some ⟨st.c+1,(d,true,GS (.vec e (x::es)) st.s.up.length d st.c)::st.fr,st.s.put st.s.up.length d st.c (.vec e (x::es))⟩) (fk (x::es).length maxLen)
  | _,_=>none) (lit d)
 |_,_=>none
theorem AIE{lit:Tmp->Bool}{o:fx}{st st':XS}(h:Bd st)(hx:AC5 P lit o st=some st'):H8 st st' /\
  ∀(σ:Nat->Nat) (pre:List AA) (k:Fr->St->Prop),(∀σ',AR st.c σ σ'->k (st'.fr.ren σ' pre.length) (st'.s.emb σ' pre))->A12 P true o (st.fr.ren σ pre.length) (st.s.emb σ pre) k:=by
 unfold AC5 at hx
 split at hx
 ·rename_i T len parts d ho hd;obtain⟨_,hx⟩:=DZ hx;split at hx
  ·rename_i e x es hel hv;obtain⟨hc,he⟩:=H2 hx;cases he;have hv:=O7 hv;have hb:=SB h (h.val hv) (ys:=x::es) rfl;refine⟨YL h rfl fun σ σ' δ ha=>by simp only[AZ.ren,hb σ σ' δ ha],fun σ pre k hk=>?_⟩;have hv':=IL (σ:=σ) (pre:=pre) hv;unfold FD at hv';simp only[ho]at hv';obtain⟨ps,h1,h2⟩:=Option.bind_eq_some_iff.1 hv';rw[DY]at h2;refine⟨T,len,parts,d,e,_,ps,ho,rfl,hd,hel,h1,h2,by simp,by simpa [dc]using hc,fun γ=>?_⟩;have:=pN h (d:=d) (r:=.vec e (x::es)) (fun σ σ' δ ha=>by simp only[AZ.ren,hb σ σ' δ ha]) hk γ;rw[CZ];simpa only[GS,AZ.ren]using this
  ·cases hx
 ·cases hx
def AIF(all:List fx)(t:Tmp):Bool:=all.any fun p=>match p.op,p.dst with
 |.call { callee:=.builtin .append,.. },some d=>bf d t
 |_,_=>false
def N6(all:List fx)(st:XS):List ff->Option XS
 |[]=>none
 |x::r=>match x with
  | .tmp t=>Bool.rec (N6 all st r) (match E5 st.fr t with
   |some (true,.vec l q γ n)=>match st.s.get l q with
    |some (γ',.vec _ es)=>Bool.rec none (some ⟨st.c,(t,true,.list false (es.take n))::st.fr,st.s.put l q γ .dead⟩) (bf γ' γ&&fk n es.length&&dr γ st.c)
    |_=>none
   | _=>none) (AIF all t)
  |_=>N6 all st r
def VJ(all:List fx):List ff->Option Tmp
 |[]=>none
 |x::r=>match x with
  |.tmp t=>cond (AIF all t) (some t) (VJ all r)
  |_=>VJ all r
def BCU(all:List fx)(t:Tmp):Bool:=all.any fun p=>match p.op,p.dst with
 |.makeMap ..,some d=>bf d t
 |_,_=>false
def A17(all:List fx)(t:Tmp):Bool:=all.any fun p=>match p.op,p.dst with
 | .build _ parts,some d=>bf d t&&(bf parts.size 2&&parts.toList.any fun z=>match z.2 with
  |.tmp m=>BCU all m
  | _=>false)
 |_,_=>false
def BCV(all:List fx)(t:Tmp):Bool:=all.any fun p=>match p.op,p.dst with
 |.box _ x,some d=>bf d t&&match x with
  |.tmp b=>A17 all b
  |_=>false
 |_,_=>false
def aO(all:List fx):List ff->Option Tmp
 |[]=>none
 |x::r=>match x with
  |.tmp t=>cond (BCV all t) (some t) (aO all r)
  |_=>aO all r
def tW(all:List fx)(o:fx)(st:XS):Option XS:=match o.op with
 |.call c=>match c.callee with
  |.value _=>match VJ all c.args.toList with
   |some _=>N6 all st c.args.toList
   |none=>match aO all c.args.toList with
    |some t=>some (K9 t st)
    |none=>none
  |_=>none
 |_=>none
theorem TR{all:List fx}{st st1:XS}(h:Bd st):∀{xs:List ff},N6 all st xs=some st1->H8 st st1 /\
  ∀(o:fx) (σ:Nat->Nat) (pre:List AA) (k:Fr->St->Prop),D7 P true o (st1.fr.ren σ pre.length) (st1.s.emb σ pre) k->ACK P true o (st.fr.ren σ pre.length) (st.s.emb σ pre) k
 |[],hx=>by cases hx
 |x::r,hx=>by
  unfold N6 at hx;split at hx
  ·rename_i t;cases hA:AIF all t with
   |false=>rw[hA]at hx;exact TR h hx
   |true=>
    rw[hA]at hx
    have hx:(match E5 st.fr t with
     |some (true,.vec l q γ n)=>match st.s.get l q with
      |some (γ',.vec _ es)=>Bool.rec none (some ⟨st.c,(t,true,.list false (es.take n))::st.fr,st.s.put l q γ .dead⟩) (bf γ' γ&&fk n es.length&&dr γ st.c)
      |_=>none
     | _=>none)=some st1:=hx
    split at hx
    ·rename_i l q γ n hg;split at hx
     ·rename_i γ' T es hs;obtain⟨hc,he⟩:=H2 hx;simp only[bc]at hc;obtain⟨⟨h1,h2⟩,h3⟩:=hc;have h1:=bj h1;have h2:n<=es.length:=by simpa [dc]using h2
      have h3:γ<st.c:=by simpa [dt]using h3
      subst h1;cases he;rw[F9]at hg;have hb:∀σ σ' δ,AR st.c σ σ'->es.map (br (V.ren σ δ))=es.map (br (V.ren σ' δ)):=fun σ σ' δ ha=>by have:=MN h hs σ σ' δ ha;simpa [AZ.ren]using this
      have hv:S5 st.c (.list false (es.take n)):=fun σ σ' δ ha=>by simp only[DY,cj,hb σ σ' δ ha]
      have hbd:Bd ⟨st.c,(t,true,.list false (es.take n))::st.fr,st.s.put l q γ' .dead⟩:=(h.putS (l:=l) (k:=q) (r:=.dead) h3 (fun _ _ _ _=>rfl)).putF (d:=some t) (c:=true) hv;refine⟨⟨bt _,hbd,St.put_len _ _ _ _ _⟩,fun o σ pre k hk=>⟨rfl,_,_,AH2 (t:=t) (l:=l+pre.length) (q:=q) (γ:=σ γ') (m:=n) (T:=T) (es:=es.map (br (V.ren σ pre.length))) ?_ ?_ (by simpa using h2),?_⟩⟩
      ·rw[Fr.get_ren,hg];simp
      ·rw[BP,hs];simp[AZ.ren]
      ·change D7 P true o ((st.fr.put t true _).ren _ _) _ k at hk;simp only[HI,DY,CK,AZ.ren,cj]at hk;exact hk
     ·cases hx
    ·cases hx
  ·exact TR h hx
theorem AC6{all:List fx}{o:fx}{st st1:XS}(h:Bd st)(hx:tW all o st=some st1):H8 st st1 /\
  ∀(σ:Nat->Nat) (pre:List AA) (k:Fr->St->Prop),D7 P true o (st1.fr.ren σ pre.length) (st1.s.emb σ pre) k->ACK P true o (st.fr.ren σ pre.length) (st.s.emb σ pre) k:=by
 unfold tW at hx
 split at hx
 ·split at hx
  ·split at hx
   ·obtain⟨h1,h2⟩:=TR (P:=P) h hx;exact⟨h1,fun σ pre k=>h2 o σ pre k⟩
   ·split at hx
    ·cases hx;obtain⟨h1,h2⟩:=ADT h;exact⟨h1,fun σ pre k hk=>⟨rfl,_,_,h2 σ pre,hk⟩⟩
    ·cases hx
  ·cases hx
 ·cases hx
def opX(P:fc)(E:XE)(all:List fx)(o:fx)(st:XS):Option XS:=match gdX st.fr (KR all o)with
 |some true=>match AC5 P E.lit o st with
  |some st'=>some st'
  |none=>match tW all o st with
   |some st1=>P5 P E (DD all) o st1
   |none=>P5 P E (DD all) o st
 |some false=>some (HR o.dst st)
 |none=>none
theorem cE{d:Option Tmp}{st:XS}(h:Bd st):H8 st (HR d st):=⟨bt _,h.putF (fun σ σ' δ _=>by simp),rfl⟩
theorem AC7{E:XE}(hE:JQ P E){all:List fx}{o:fx}{st st':XS}(h:Bd st)(hx:opX P E all o st=some st'):H8 st st'/\∃g,(∀σ δ,NE (st.fr.ren σ δ) (KR all o)=some g) /\
  ∀(σ:Nat->Nat) (pre:List AA) (k:Fr->St->Prop),(∀σ',AR st.c σ σ'->k (st'.fr.ren σ' pre.length) (st'.s.emb σ' pre))->RV P g o (st.fr.ren σ pre.length) (st.s.emb σ pre) k:=by
 unfold opX at hx
 rw[pR]at hx
 split at hx
 ·rename_i hg;split at hx
  ·rename_i st1 hl;cases hx;obtain⟨h1,h2⟩:=AIE h hl;exact⟨h1,true,fun σ δ=>ML hg,fun σ pre k hk=>.inr (.inr (.inl (h2 σ pre k hk)))⟩
  ·split at hx
   ·rename_i st1 ht;obtain⟨hE1,hs1⟩:=AC6 (P:=P) h ht;obtain⟨h1,h2⟩:=lF hE hE1.bd hx;exact⟨⟨dv hE1.c h1.c,h1.bd,h1.n.trans hE1.n⟩,true,fun σ δ=>ML hg,fun σ pre k hk=>.inr (.inr (.inr (hs1 σ pre k (h2 σ pre k fun σ' ha=>hk σ' (ha.mono hE1.c)))))⟩
   ·obtain⟨h1,h2⟩:=lF hE h hx;exact⟨h1,true,fun σ δ=>ML hg,fun σ pre k hk=>.inl (h2 σ pre k hk)⟩
 ·rename_i hg;cases hx;refine⟨cE h,false,fun σ δ=>ML hg,fun σ pre k hk=>.inr (.inl ⟨rfl,.bool false,?_⟩)⟩;have:=hk σ (AR.refl _ _);simpa only[HR,EZ,K4]using this
 ·cases hx
def fB(P:fc)(E:XE)(all:List fx):List fx->XS->Option XS
 |[],st=>some st
 |o::r,st=>match opX P E all o st with
  |some st'=>fB P E all r st'
  |none=>none
theorem fC{E:XE}(hEE:JQ P E){all:List fx}:∀{l:List fx} {st st':XS},Bd st->fB P E all l st=some st'->H8 st st' /\
  ∀(σ:Nat->Nat) (pre:List AA) (K:Fr->St->Prop),(∀σ',AR st.c σ σ'->K (st'.fr.ren σ' pre.length) (st'.s.emb σ' pre))->UO P (l.map (KR all)) l (st.fr.ren σ pre.length) (st.s.emb σ pre) K
 |[],st,st',h,hx=>by cases hx;exact⟨⟨bt _,h,rfl⟩,fun σ pre K hk=>hk σ (AR.refl _ _)⟩
 |o::l,st,st',h,hx=>by
  simp only[fB]at hx;split at hx
  ·rename_i st1 h1;obtain⟨hE,g,hg,hs⟩:=AC7 hEE h h1;obtain⟨hE',hs'⟩:=fC hEE hE.bd hx;refine⟨⟨dv hE.c hE'.c,hE'.bd,hE'.n.trans hE.n⟩,fun σ pre K hk=>?_⟩;simp only[dw,UO,hg];exact hs σ pre _ fun σ' ha=>hs' σ' pre K fun σ'' ha'=>hk σ'' (ha.trans ha' hE.c)
  ·cases hx
def FF(cf:CF0)(d:Option Tmp)(f:ff)(args:List ff)(st:XS):Option XS:=match BV st.fr f with
 |some (.fn fid first cap)=>match EE (BV st.fr) args with
  |some vs=>match cf fid ((first++vs++cap).map weakV)with
   |some r=>some { st with fr:=putD st.fr d true r }
   |none=>none
  |none=>none
 |_=>none
def AC8(co:tV)(d:Tmp)(f:fg)(γ n:Nat):Option (Nat×AZ)->Option V
 | some (γ',.vec _ es)=>Bool.rec none (match co f [.list false (es.take n)] d with
  |some ⟨.vec _ es',none⟩=>Bool.rec none (some (.list false es')) (es'.all (·.all cR))
  | _=>none) (bf γ' γ&&(fk n es.length&&(es.take n).all (·.all (FG 8))))
 |_=>none
def fD(co:tV)(d:Option Tmp)(f:fg)(γ n:Nat)(o:Option (Nat×AZ))(st:XS):Option XS:=match d with
 |some dd=>match AC8 co dd f γ n o with
  |some v=>some { st with fr:=putD st.fr d true v }
  |none=>none
 |none=>none
def N7(c0:CF0)(co:tV)(d:Option Tmp)(f:ff)(args:List ff)(st:XS):Option XS:=match f,args with
 |.func fid,[x]=>match BV st.fr x with
  |some (.vec l q γ n)=>fD co d fid γ n (st.s.get l q) st
  |_=>FF c0 d f args st
 |_,_=>FF c0 d f args st
def noW(r:Option XS):Option (XS×AL):=match r with
 |some st=>some (st,[])
 |none=>none
def xAppD(P:fc)(d:Option Tmp)(args:List ff)(Ts:List fh)(st:XS):Option (XS×AL):=match xAppG elemsOf P d args Ts st with
 |some (st',l,q)=>some (st',[(l,q),(l,q+NT)])
 |none=>none
def ALU(P:fc)(E:XE)(own:fx->Bool)(o:fx)(c:Call)(st:XS):Option (XS×AL):=match c.callee with
 |.value f=>Bool.rec (noW (cond (FV f) (N7 E.c0 E.co o.dst f c.args.toList st) (FF E.c0 o.dst f c.args.toList st))) (noW (EV E.co o.dst f c.args.toList st)) (own o)
 |.builtin .append=>Bool.rec (xAppD P o.dst c.args.toList c.argTypes.toList st) (noW (xVal P o st)) (sealD o.dst)
 |_=>noW (xVal P o st)
def AC9(P:fc)(d:Option Tmp)(T:fh)(x y:ff)(st:XS):Option (XS×AL):=match I0 P d T x y st with
 |some st'=>some (st',DS (bf (P.cellsOf T) 1) (BV st.fr x))
 |none=>none
def fE(P:fc)(E:XE)(own:fx->Bool)(o:fx)(st:XS):Option (XS×AL):=match o.op with
 |.alloc T=>noW (OA P o.dst T st)
 |.box _ x=>noW (lN o.dst x st)
 |.makeMap _ r=>noW (yB o.dst r st)
 |.makeSlice T x y=>noW (U1 P o.dst T x y st)
 |.store T x y=>AC9 P o.dst T x y st
 |.call c=>ALU P E own o c st
 |_=>noW (xVal P o st)
def pS(P:fc)(E:XE)(all:List fx)(o:fx)(st:XS):Option (XS×AL):=match gdX st.fr (KR all o)with
 |some true=>fE P E (DD all) o st
 |some false=>Bool.rec (some (HR o.dst st,[])) none (kW o||kP o)
 |none=>none
theorem F3{r:Option XS}{st':XS}{wr:AL}(h:noW r=some (st',wr)):r=some st'/\wr=[]:=by
 unfold noW at h;split at h
 ·cases h;exact⟨rfl,rfl⟩
 ·cases h
theorem xW{co:tV}{d:Option Tmp}{f:fg}{γ n:Nat}{x:Option (Nat×AZ)}{st st':XS}(h:fD co d f γ n x st=some st'):∃dd v,d=some dd/\AC8 co dd f γ n x=some v/\st'={ st with fr:=putD st.fr d true v }:=by
 unfold fD at h;split at h
 ·split at h
  ·rename_i dd _ v hv;cases h;exact⟨dd,v,rfl,hv,rfl⟩
  ·cases h
 ·cases h
theorem lG{c0:CF0}{co:tV}{d:Option Tmp}{f:ff}{args:List ff}{st st':XS}(h:N7 c0 co d f args st=some st'):FF c0 d f args st=some st'\/∃fid x l q γ n,f=.func fid/\args=[x]/\BV st.fr x=some (.vec l q γ n)/\fD co d fid γ n (st.s.get l q) st=some st':=by
 unfold N7 at h;split at h
 ·split at h
  ·rename_i x l q γ n hx;exact .inr ⟨_,_,l,q,γ,n,rfl,rfl,hx,h⟩
  ·exact .inl h
 ·exact .inl h
theorem xX{co:tV}{d:Tmp}{f:fg}{γ n:Nat}{x:Option (Nat×AZ)}{v:V}(h:AC8 co d f γ n x=some v):∃T0 es T es',x=some (γ,.vec T0 es)/\n<=es.length/\(es.take n).all (·.all (FG 8))=true/\co f [.list false (es.take n)] d=some ⟨.vec T es',none⟩/\es'.all (·.all cR)=true/\v=.list false es':=by
 unfold AC8 at h;split at h
 ·rename_i γ' T0 es;obtain⟨hc,h⟩:=DZ h;simp only[bc]at hc;split at h
  ·rename_i T es' hco;obtain⟨hc2,h⟩:=H2 h;cases h;exact⟨T0,es,T,es',by rw[bj hc.1],Nat.le_of_ble_eq_true hc.2.1,hc.2.2,hco,hc2,rfl⟩
  ·cases h
 ·cases h
theorem pT{es:List (List V)}(h:es.all (·.all cR)=true):FG 9 (.list false es)=true:=bq.2 fun e he=>bq.2 fun v hv=>by have:=bq.1 (bq.1 h e he) v hv;cases v<;>first|rfl|cases this
def AIG(P:fc)(Ω:G8 P)(all:List fx)(o:fx)(st st':XS)(wr:AL):Prop:=H8 st st' /\
  ∀(W:AL) (σ:Nat->Nat) (pre:List AA) (k:Fr->St->Prop),(∀p∈DT P o (BV st.fr),p∉W)->(∀p∈wr,p∈W)->(∀σ',AR st.c σ σ'->k (st'.fr.ren σ' pre.length) (st'.s.emb σ' pre))->IJ P Ω (WH pre.length W) o (KR all o) (st.fr.ren σ pre.length) (st.s.emb σ pre) k
theorem AIH{E:XE}(hE:JQ P E){all:List fx}{o:fx}{st st':XS}{wr:AL}(h:Bd st)(hx:pS P E all o st=some (st',wr)):AIG P (hE.tab (DD all)) all o st st' wr:=by
 have val:∀{st'},(∀σ δ,NE (st.fr.ren σ δ) (KR all o)=some true)->xVal P o st=some st'->AIG P (hE.tab (DD all)) all o st st' wr:=by
  intro st' hg hx;unfold xVal at hx;split at hx
  ·rename_i v hv;cases hx;have hv:=O7 hv;refine⟨⟨bt _,h.putF (h.val hv),rfl⟩,fun W σ pre k hr _ hk=>.inl ⟨true,v.ren σ pre.length,⟨hg _ _,?_⟩,?_⟩⟩
   ·have hrd:∀p∈DT P o (DO true (st.fr.ren σ pre.length)),p∉WH pre.length W:=by rw[H7,qQ,<-E9];exact lQ hr
    cases hi:lP P o (DO true (st.fr.ren σ pre.length))with
    |true=>exact .inr (.inr (.inl (AP3 (IL hv) hi hrd)))
    |false=>exact .inl ⟨_,MO _,yE (IL hv) hi hrd⟩
   ·have:=hk σ (AR.refl _ _);rwa [EZ]at this
  ·cases hx
 have new:∀{st'},(∀σ δ,NE (st.fr.ren σ δ) (KR all o)=some true)->fL P (hE.tab (DD all)) o st st'->AIG P (hE.tab (DD all)) all o st st' wr:=by intro st' hg hn;obtain⟨h1,d,hd,h2⟩:=hn;refine⟨h1,fun W σ pre k _ _ hk=>?_⟩;obtain⟨r,hr,h3⟩:=h2 σ pre k hk;exact .inr (.inl ⟨r,d,⟨hg _ _,hd,hr⟩,h3⟩)
 unfold pS at hx;rw[pR]at hx;split at hx
 ·rename_i hg;have hg':∀σ δ,NE (st.fr.ren σ δ) (KR all o)=some true:=fun σ δ=>ML hg;unfold fE at hx;split at hx
  ·rename_i T ho;exact new hg' (cM h ho (F3 hx).1)
  ·rename_i T x ho;exact new hg' (uB h ho (F3 hx).1)
  ·rename_i T r ho;exact new hg' (uC h ho (F3 hx).1)
  ·rename_i T x y ho;exact new hg' (lO h ho (F3 hx).1)
  ·rename_i T x y ho;unfold AC9 at hx;split at hx
   ·rename_i st1 hx1;cases hx;obtain⟨hE1,_⟩:=cN h ho hx1;obtain⟨l,q,γ,r,hD,rfl⟩:=ADH ho hx1;refine⟨hE1,fun W σ pre k _ hw hk=>.inr (.inr (.inl ⟨_,_,_,_,⟨hg' _ _,?_,pZ hD⟩,?_⟩))⟩
    ·have hp:=X1 hD;unfold pC at hp;simp only[ho]at hp;have main:∀off,(DO true st.fr x=some (.ptr l q γ off)\/∃i,DO true st.fr x=some (.eptr l q γ i off))->WOK P (WH pre.length W) o (st.fr.ren σ pre.length) (l+pre.length) q:=by
      intro off hx;have hC:IY P o (st.fr.ren σ pre.length)=some (off,P.cellsOf T):=by unfold IY;rcases hx with hx|⟨i,hx⟩<;>simp only[ho,C4,hx,bz,HD,NY]
      cases hb:bf (P.cellsOf T) 1 with
      |true=>
       have h1:=bj hb
       have hpl:DS (bf (P.cellsOf T) 1) (BV st.fr x)=[(l,q),(l,G9 q off)]:=by rw[DM,hb];rcases hx with hx|⟨i,hx⟩<;>rw[hx]<;>rfl
       rw[hpl]at hw
       refine⟨KD.2 (hw _ (by simp)),.inr fun off' n' e c h2 h3=>?_⟩
       rw[hC]at e
       cases e
       obtain rfl:c=off:=by omega
       exact KD.2 (hw _ (by simp))
      |false=>
       have hpl:DS (bf (P.cellsOf T) 1) (BV st.fr x)=[(l,q),(l,q+IW)]:=by rw[DM,hb];rcases hx with hx|⟨i,hx⟩<;>rw[hx]<;>rfl
       rw[hpl]at hw
       exact⟨KD.2 (hw _ (by simp)),.inl (KD.2 (hw _ (by simp)))⟩
     split at hp
     ·rename_i l1 q1 γ1 off e;cases hp;exact main off (.inl e)
     ·rename_i l1 q1 γ1 i off e;cases hp;exact main off (.inr ⟨i,e⟩)
     ·cases hp
    ·have:=hk σ (AR.refl _ _);simp only[CK]at this;exact this
   ·cases hx
  ·rename_i c ho;obtain⟨callee,args,Ts⟩:=c;unfold ALU at hx;split at hx
   ·rename_i f hc;have hc:callee=.value f:=hc;subst hc;cases hown:DD all o with
    |true=>
     rw[hown]at hx
     exact new hg' (cD hE hown h ho (F3 hx).1)
    |false=>
     rw[hown]at hx
     have hx:=(F3 hx).1
     have plain:∀{st'},FF E.c0 o.dst f args.toList st=some st'->AIG P (hE.tab (DD all)) all o st st' wr:=by
      intro st' hx;unfold FF at hx;split at hx
      ·rename_i fid first cap hf;split at hx
       ·rename_i vs hvs;split at hx
        ·rename_i r hr;cases hx;obtain⟨hA,hcl,hrc⟩:=hE.c0 _ _ _ hr;refine⟨⟨bt _,h.putF (fun σ σ' δ _=>by rw[hrc,hrc]),rfl⟩,fun W σ pre k _ _ hk=>.inl ⟨true,r,⟨hg' _ _,.inr (.inl ⟨fid,(first++vs++cap).map weakV,?_,hown,_,MO _,fun _ s _=>hA s⟩)⟩,?_⟩⟩
         ·rw[KB,E9]at hvs;rw[DM]at hf;simp only[HQ,ho,H7,hf,bz,MG,HF hvs,cm.injEq,fw.injEq,true_and];have e:((first++vs++cap).map weakV).map (V.ren σ pre.length)=(first++vs++cap).map weakV:=by
           conv=>rhs;rw[<-cz ((first++vs++cap).map weakV)]
           exact bw fun v hv=>hcl v hv σ _
          rw[HG]at e;simpa only[bx]using e
         ·have:=hk σ (AR.refl _ _);rwa [EZ,hrc]at this
        ·cases hx
       ·cases hx
      ·cases hx
     cases hrow:FV f with
     |false=>rw[hrow]at hx;exact plain hx
     |true=>
      rw[hrow]at hx
      have hx:N7 E.c0 E.co o.dst f args.toList st=some st':=hx
      rcases lG hx with hx|⟨fid,x,l,q,γ,n,rfl,e2,hxv,hx⟩
      ·exact plain hx
      ·obtain⟨dd,v,hd,hv,rfl⟩:=xW hx;obtain⟨T0,es,T,es',hget,hn,hpu,hco,hce,rfl⟩:=xX hv;obtain⟨hA,hcl,_,_⟩:=hE.co _ _ _ _ hco;have hren:∀σ δ,(V.list false es').ren σ δ=.list false es':=fun σ δ=>BX 9 _ (ET 9 _ (pT hce));have hesr:∀σ δ,((es.map (br (V.ren σ δ))).take n)=es.take n:=fun σ δ=>by
        rw[<-cj];conv=>rhs;rw[<-cz (es.take n)]
        refine bw fun e he=>?_;conv=>rhs;rw[id_eq,<-cz e]
        exact bw fun v hv=>BX 8 v (ET 8 v (bq.1 (bq.1 hpu e he) v hv))
       refine⟨⟨bt _,h.putF (fun σ σ' δ _=>by rw[hren,hren]),rfl⟩,fun W σ pre k hrd _ hk=>.inl ⟨true,.list false es',⟨hg' _ _,.inr (.inl ⟨fid,[.vec (l+pre.length) q (σ γ) n],?_,hown,_,MO _,fun _ s hs=>?_⟩)⟩,?_⟩⟩
       ·have hxv':BV st.fr x=some (.vec l q γ n):=hxv;rw[DM]at hxv';have hvs:[x].mapM (DO true st.fr)=some [.vec l q γ n]:=by rw[List.mapM_cons,hxv'];rfl
        have hf:DO true st.fr (.func fid)=some (.fn fid [] []):=rfl;simp only[HQ,ho,e2,H7,hf,bz,MG,HF hvs,cm.injEq,fw.injEq,true_and];rfl
       ·have hrr:DT P o (BV st.fr)=[(l,q)]:=by simp only[DT,ho,hrow,e2,cond_true,QW,hxv,EF]
        have hnW:(l+pre.length,q)∉WH pre.length W:=fun hc=>hrd (l,q) (by rw[hrr]; simp) (KD.1 hc);have hg2:s.get (l+pre.length) q=some (σ γ,.vec T0 (es.map (br (V.ren σ pre.length)))):=hs _ _ _ (by
         rw[St.get_hide hnW,BP,hget];rfl)
        exact ADV hpu hce hA hg2 (hesr _ _) (by simpa using hn)
       ·have:=hk σ (AR.refl _ _);rwa [EZ,hren]at this
   ·rename_i hc;have hc:callee=.builtin .append:=hc;subst hc;cases hsd:sealD o.dst with
    |true=>
     rw[hsd]at hx
     exact val hg' (F3 hx).1
    |false=>
    rw[hsd]at hx;replace hx:xAppD P o.dst args.toList Ts.toList st=some (st',wr):=hx;unfold xAppD at hx;split at hx
    ·rename_i st1 l q e1;cases hx;obtain⟨d,r,hd,hp,rfl,hr,_,hs⟩:=YK (fun _ _ _ h=>h) h ho e1;have hra:DT P o (BV st.fr)=H3 (BV st.fr) args.toList:=by simp only[DT,ho]
     refine⟨YL h hp hr,fun W σ pre k hrd hw hk=>.inr (.inr (.inr ⟨l+pre.length,q,r.ren σ pre.length,d,⟨hg' _ _,⟨KD.2 (hw _ (by simp)),KD.2 (hw _ (by simp))⟩,hd,_,MO _,hs W σ pre hsd (by rw[<-hra];exact hrd)⟩,fun γ=>pN h hr hk γ⟩))⟩
    ·cases hx
   ·exact val hg' (F3 hx).1
  ·exact val hg' (F3 hx).1
 ·rename_i hg;cases hk:(kW o||kP o)with
  |true=>rw[hk]at hx;cases hx
  |false=>
   rw[hk]at hx
   cases hx
   rw[Bool.or_eq_false_iff]at hk
   refine⟨cE h,fun W σ pre k _ _ hk'=>.inl ⟨false,.bool false,⟨ML hg,.inr (.inr (.inr ⟨rfl,rfl,hk.1,hk.2⟩))⟩,?_⟩⟩
   have:=hk' σ (AR.refl _ _)
   simpa only[HR,EZ,K4]using this
 ·cases hx
def phX(P:fc)(E:XE)(l:List fx):List Nat->XS->AL->AL->Option (XS×AL×AL)
 |[],st,rd,wr=>some (st,rd,wr)
 |i::r,st,rd,wr=>match l[i]? with
  |some o=>match pS P E l o st with
   |some (st',w)=>phX P E l r st' (cond (zB l o) [] (DT P o (BV st.fr))++rd) (w++wr)
   |none=>none
  |none=>none
def sqX(P:fc)(E:XE)(l:List fx):List Nat->XS->Option XS
 |[],st=>some st
 |i::r,st=>match l[i]? with
  |some o=>match opX P E l o st with
   |some st'=>sqX P E l r st'
   |none=>none
  |none=>none
def xY(P:fc)(E:XE)(l:List fx):VG->XS->Option XS
 |[],st=>some st
 | p :: S,st=>Bool.rec none (match phX P E l p.1 st [] []with
  | some (st1,rd,wr)=>Bool.rec none (match sqX P E l p.2 st1 with
   |some GU=>xY P E l S GU
   | none=>none) (wr.all fun p=>!(rd.contains p))
  | none=>none) (YD (DD l) l p.1 st.s.loc)
theorem WG{l:List fx}{i:Nat}{o:fx}(h:l[i]? = some o):aA (l.map (KR l)) i=KR l o:=by simp[aA,h]
theorem AII{E:XE}{all:List fx}{o:fx}{st st':XS}{wr:AL}(ho:∃T x,o.op=.load T x)(hx:pS P E all o st=some (st',wr)):wr=[]:=by
 obtain⟨T,x,ho⟩:=ho;unfold pS at hx;split at hx
 ·unfold fE at hx;rw[ho]at hx;exact(F3 hx).2
 ·cases hk:(kW o||kP o)with
  |true=>rw[hk]at hx;cases hx
  |false=>rw[hk]at hx;exact(fw.inj (cm.inj hx)).2.symm
 ·cases hx
theorem ADA{E:XE}(hEE:JQ P E){l:List fx}:∀{R:List Nat} {st st':XS} {rd wr rd' wr':AL},Bd st->phX P E l R st rd wr=some (st',rd',wr')->H8 st st'/\(∀p∈rd,p∈rd')/\(∀p∈wr,p∈wr') /\
  ∀(W:AL) (σ:Nat->Nat) (pre:List AA) (K:Fr->St->Prop),(∀p∈rd',p∉W)->(∀p∈wr',p∈W)->(∀σ',AR st.c σ σ'->K (st'.fr.ren σ' pre.length) (st'.s.emb σ' pre))->P3 P (hEE.tab (DD l)) (WH pre.length W) l (l.map (KR l)) R (st.fr.ren σ pre.length) (st.s.emb σ pre) K
 |[],st,st',rd,wr,rd',wr',h,hx=>by cases hx;exact⟨⟨bt _,h,rfl⟩,fun _ h=>h,fun _ h=>h,fun W σ pre K _ _ hk=>hk σ (AR.refl _ _)⟩
 |i::r,st,st',rd,wr,rd',wr',h,hx=>by
  simp only[phX]at hx;split at hx
  ·rename_i o ho;split at hx
   ·rename_i st1 w1 h1;obtain⟨hE,hs⟩:=AIH hEE h h1;obtain⟨hE',hr,hw,hs'⟩:=ADA hEE hE.bd hx;refine⟨⟨dv hE.c hE'.c,hE'.bd,hE'.n.trans hE.n⟩,fun p hp=>hr p (dx _ hp),fun p hp=>hw p (dx _ hp),fun W σ pre K hrd hwr hk=>?_⟩;simp only[P3,M8,ho,WG ho];cases hz:zB l o with
    |true=>
     have hw0:w1=[]:=AII (ALQ hz) h1
     subst hw0
     unfold wz
     rw[hz]
     exact hs [] σ pre _ (fun p _=>by simp) (fun p hp=>hp) fun σ' ha=>hs' W σ' pre K hrd hwr fun σ'' ha'=>hk σ'' (ha.trans ha' hE.c)
    |false=>
    rw[hz]at hr;unfold wz;rw[hz];exact hs W σ pre _ (fun p hp=>hrd p (hr p (dg _ hp))) (fun p hp=>hwr p (hw p (dg _ hp))) fun σ' ha=>hs' W σ' pre K hrd hwr fun σ'' ha'=>hk σ'' (ha.trans ha' hE.c)
   ·cases hx
  ·cases hx
theorem ADB{E:XE}(hEE:JQ P E){l:List fx}:∀{R:List Nat} {st st':XS},Bd st->sqX P E l R st=some st'->H8 st st' /\
  ∀(σ:Nat->Nat) (pre:List AA) (K:Fr->St->Prop),(∀σ',AR st.c σ σ'->K (st'.fr.ren σ' pre.length) (st'.s.emb σ' pre))->xK P l (l.map (KR l)) R (st.fr.ren σ pre.length) (st.s.emb σ pre) K
 |[],st,st',h,hx=>by cases hx;exact⟨⟨bt _,h,rfl⟩,fun σ pre K hk=>hk σ (AR.refl _ _)⟩
 |i::r,st,st',h,hx=>by
  simp only[sqX]at hx;split at hx
  ·rename_i o ho;split at hx
   ·rename_i st1 h1;obtain⟨hE,g,hg,hs⟩:=AC7 hEE h h1;obtain⟨hE',hs'⟩:=ADB hEE hE.bd hx;refine⟨⟨dv hE.c hE'.c,hE'.bd,hE'.n.trans hE.n⟩,fun σ pre K hk=>?_⟩;simp only[xK,ho,WG ho,hg];exact hs σ pre _ fun σ' ha=>hs' σ' pre K fun σ'' ha'=>hk σ'' (ha.trans ha' hE.c)
   ·cases hx
  ·cases hx
end Go.Pg
namespace Go.Pg
variable {P:fc}{σ σ':Nat->Nat}{δ:Nat}{pre:List AA}{s:St}{fr:Fr}{g:Bool}
def P6(ks:List Nat)(fr:Fr):Fr:=List.rec (motive:=fun _=>Fr) [] (fun k _ ih=>match E5 fr k with
 |some (c,v)=>(k,c,v)::ih
 | none=>ih) ks
theorem YM(fr:Fr):∀(ks:List Nat),P6 ks fr=NS ks fr
 |[]=>rfl
 |k::r=>by have:=YM fr r;show(match E5 fr k with|some (c,v)=>(k,c,v)::P6 r fr|none=>P6 r fr)=NS (k::r) fr;rw[this,F9];rfl
theorem TS:∀(ks:List Nat),NS ks (fr.ren σ δ)=(NS ks fr).ren σ δ
 |[]=>rfl
 |k::r=>by
  simp only[NS,Fr.get_ren,TS r];cases fr.get k with
  |none=>rfl
  |some p=>rfl
theorem TT{L:AA}:∀(ks:List Nat),IH ks (L.ren σ δ)=(IH ks L).ren σ δ
 |[]=>rfl
 |k::r=>by
  simp only[IH,AA.get_ren,TT r];cases L.get k with
  |none=>rfl
  |some p=>rfl
def SD:List Nat->List Nat->List Nat
 |acc,[]=>acc
 |acc,k::r=>SD (cond (acc.any (bf k)) acc (k::acc)) r
def QV(ks ls:List Nat)(st:XS):XS:=⟨st.c,P6 ks st.fr,⟨st.s.up,IH ls st.s.loc⟩⟩
theorem ADC{ks ls:List Nat}{st:XS}{l k:Nat}{x:Nat×AZ}(h:(QV ks ls st).s.get l k=some x):st.s.get l k=some x:=by
 unfold St.get QV at h;unfold St.get;simp only at h;split at h
 ·rename_i e;rw[if_pos e];exact O1 h
 ·rename_i e;rw[if_neg e];exact h
theorem SE{ks ls:List Nat}{st:XS}(h:Bd st):H8 st (QV ks ls st):=by
 refine⟨bt _,⟨fun σ σ' δ ha=>?_,fun σ σ' pre ha=>?_,fun l k γ fr ps asg body N ls hg=>h.lp l k γ fr ps asg body N ls (ADC hg)⟩,rfl⟩
 ·simp only[QV,YM,<-TS];rw[h.f σ σ' δ ha]
 ·have:=h.s σ σ' pre ha;simp only[St.emb,St.mk.injEq]at this;simp only[QV,St.emb,St.mk.injEq,<-TT];exact⟨this.1,by rw[this.2]⟩
theorem TU{n N:Nat}{ρ:Option Nat}{c:Code}{K:Exit->Fr->St->Prop}{ks ls:List Nat}{st:XS}(h:BD P n N ρ c K ((QV ks ls st).fr.ren σ pre.length) ((QV ks ls st).s.emb σ pre)):BD P n N ρ c K (st.fr.ren σ pre.length) (st.s.emb σ pre):=by
 refine xD ks ls ?_;have e2:(⟨(st.s.emb σ pre).up,IH ls (st.s.emb σ pre).loc⟩:St)=(QV ks ls st).s.emb σ pre:=by simp only[QV,St.emb,TT]
 rw[TS,e2,<-YM];exact h
abbrev UY:=Code->XS->Option (Exit×XS)
def N8(P:fc)(E:XE)(l:List fx)(st:XS):Option XS:=xY P E l (VK l) st
def A18(P:fc)(E:XE)(l:List fx)(draw:Bool)(st:XS):Option XS:=Bool.rec (fB P E l l st)
 (match AP2 l with
  |[]=>N8 P E l st
  | ds=>N8 P E l (QV (SD [] (st.fr.map (·.1))) ((SD [] (st.s.loc.map (·.1))).filter fun k=>!(ds.any (bf k))) st)) draw
def SF(r:Option XS):Option (Exit×XS):=match r with
 |some st=>some (.normal,st)
 |none=>none
def fF(rec:UY)(b:Code)(r:Option (Exit×XS)):Option (Exit×XS):=match r with
 |some (.normal,st')=>rec b st'
 |r=>r
def MM(id:Nat)(r:Option (Exit×XS)):Option (Exit×XS):=match r with
 |some (.exit i,st')=>Bool.rec (some (.exit i,st')) (some (.normal,st')) (bf i id)
 |r=>r
def lH(rec:UY)(a b:Code)(st:XS)(r:Option V):Option (Exit×XS):=match r with
 |some (.bool c)=>Bool.rec (rec b st) (rec a st) c
 |_=>none
def cF(rec:UY)(body:Code)(ks:List Nat)(n:Nat):XS->Option (Exit×XS):=Nat.rec (motive:=fun _=>XS->Option (Exit×XS)) (fun _=>none) (fun _ ih st=>match rec body (QV ks (SD [] (st.s.loc.map (·.1))) st)with
 |some (.normal,st')=>ih st'
 | r=>r) n
def A7:Nat:=1000000
def fG(fr:Fr)(n γ:Nat)(r:Option (V×XS)):Option (Exit×XS):=match r with
 |some (_,st)=>match st.s.get n A7 with
  | some (γ',.loop _ _ _ _ _ ls)=>Bool.rec none (match ls with
   |.ready=>some (.normal,⟨st.c,fr,st.s.put n A7 γ .dead⟩)
   |.left .ret=>some (.ret,⟨st.c,fr,st.s.put n A7 γ .dead⟩)
   |.left (.exit id)=>some (.exit id,⟨st.c,fr,st.s.put n A7 γ .dead⟩)
   | _=>none) (bf γ' γ&&dr γ st.c)
  |_=>none
 |none=>none
def TV(cf:CF)(N:Nat)(g:ff)(ps:List Tmp)(asg body:Code)(st:XS):Option (Exit×XS):=match BV st.fr g with
 |some (.fn f first cap)=>fG st.fr st.s.up.length st.c (cf f ((first++[V.yld st.s.up.length A7 st.c]++cap).map weakV) ⟨st.c+1,st.fr,st.s.put st.s.up.length A7 st.c (.loop st.fr ps asg body N .ready)⟩)
 |_=>none
def YN(P:fc)(E:XE)(n N:Nat)(rec:UY):UY:=fun code st=>match code with
 |.skip=>some (.normal,st)
 |.label _=>some (.normal,st)
 |.region _ ops draw=>SF (A18 P E ops.toList draw st)
 |.seq a b=>fF rec b (rec a st)
 |.cond c a b=>lH rec a b st (BV st.fr c)
 |.block id body=>MM id (rec body st)
 |.loop body=>cF rec body (SD [] (st.fr.map (·.1))) n st
 |.exit id=>some (.exit id,st)
 |.ret=>some (.ret,st)
 |.scope body=>rec body st
 |.rangeFunc g ps asg body=>TV E.cf N g ps.toList asg body st
 |_=>none
abbrev FU:=Nat->UY
def xZ(P:fc)(rs:List ResultVar)(st:XS):Option (V×Nat×List AA):=match FT P rs st.fr st.s with
 |some r=>match AX st.s 4 r with
  |some r'=>some (r',st.c,st.s.up.map (AO st.s))
  |none=>none
 |none=>none
def lI{α:Type}(rec:UY)(ret:XS->Option α)(code:Code)(st:XS):Option α:=match rec code st with
 |some (.ret,st')=>ret st'
 |some (.normal,st')=>ret st'
 |_=>none
def UZ{α:Type}(P:fc)(rec:FU)(ret:Func->XS->Option α)(f:fg)(args:List V)(c:Nat)(up:List AA):Option α:=match P.funcs[f]? with
 |some fn=>match fn.body with
  |some code=>Bool.rec none (lI (rec fn.ntmps) (ret fn) code ⟨c,AH 0 args,⟨up,[]⟩⟩) (fk args.length fn.ntmps)
  |none=>none
 |none=>none
def cG(P:fc)(rec:FU)(f:fg)(args:List V)(c:Nat)(up:List AA):Option (V×Nat×List AA):=UZ P rec (fun fn=>xZ P fn.results.toList) f args c up
def EJ(P:fc)(rec:FU):CF0:=fun f args=>Bool.rec none (match cG P rec f args 0 []with
 |some (r,_,_)=>Bool.rec none (some r) (AK 9 r)
 | none=>none) (args.all (AK 9))
def CV{α:Type}:List α->Option (List α×α)
 |[]=>none
 |[x]=>some ([],x)
 |x::r=>match CV r with
  |some (a,b)=>some (x::a,b)
  |none=>none
def A4(P:fc)(kn:CF0)(rec:FU):CF0:=fun f args=>match kn f args with
 |some r=>some r
 |none=>EJ P rec f args
def weakM:V->V
 |.nil=>.list false []
 |v=>v
def weakN:V->V
 |.nil=>.list false []
 |.agg cs=>.agg (cs.map weakM)
 |v=>v
theorem RepV.empty{G:Gh}{v:Value}(h:RepV G .nil v):RepV G (.list false []) v:=by cases h;exact .list false [] none 0 0 0 0 #[] 0 (0,0) (fun _ _=>undef) (by simp) (fun h=>by cases h) (fun h=>absurd rfl h) (fun i h=>absurd h (by simp)) (fun i h=>absurd h (by simp)) (fun i h=>absurd h (by simp))
theorem RepV.weakM{G:Gh}{x:V}{v:Value}(h:RepV G x v):RepV G (weakM x) v:=by cases x<;>first|exact h|exact h.empty
theorem fH(x:V):(weakM x).isCell=x.isCell:=by cases x<;>rfl
theorem RepV.weakN{G:Gh}{x:V}{v:Value}(h:RepV G x v):RepV G (weakN x) v:=by
 cases x with
 |nil=>exact h.empty
 |agg cs=>
  cases h with
  |agg _ arr hl hc hr=>
   refine .agg _ arr (by simpa using hl) (fun c hc'=>?_) (fun i h1 h2=>?_)
   ·obtain⟨d,hd,rfl⟩:=dn.1 hc';rw[fH];exact hc d hd
   ·simp only[List.getElem_map];exact(hr i (by simpa using h1) h2).weakM
 |_=>exact h
theorem RepA.weakN{G:Gh}{xs:List V}{vs:List Value}(h:RepA G xs vs):RepA G (xs.map Pg.weakN) vs :=
 ⟨by simpa using h.1,fun i h1 h2=>by simp only[List.getElem_map];exact(h.2 i (by simpa using h1) h2).weakN⟩
def EY(P:fc)(kn:CF0)(rec:FU):CF0:=fun f args=>match A4 P kn rec f (args.map weakN)with
 |some r=>Bool.rec (A4 P kn rec f args) (some r) (args.all (AK 9))
 |none=>A4 P kn rec f args
def BCW(P:fc)(T:fh):Bool:=match P.underlying T with
 |some (.pointer _)=>true
 |_=>false
def BG(P:fc)(f:fg):Bool:=match P.funcs[f]? with
 |some fn=>fn.resultTypes.toList.any (BCW P)
 |none=>false
def U0(P:fc)(kn:CF0)(rec:FU):CF:=fun f args st=>Bool.rec (match cG P rec f args st.c (st.s.up++[st.s.loc])with
 |some (r,c,up)=>match CV up with
  |some (u,l)=>some (r,⟨c,st.fr,⟨u,l⟩⟩)
  |none=>none
 | none=>none) (match EY P kn rec f args with
  |some r=>some (r,st)
  | none=>none) (args.all (AK 9)&&!(BG P f))
def lJ(P:fc)(fn:Func)(st:XS):Option Mk:=match FT P fn.results.toList st.fr st.s with
 | some (.vec l k γ n)=>Bool.rec none (match st.s.loc.get k with
  |some (γ',.vec T es)=>Bool.rec none (some ⟨.vec T es,none⟩) (bf γ' γ&&bf n es.length&&es.all fun e=>e.all (AK 9))
  | _=>none) (bf l st.s.up.length)
 | some v=>Bool.rec none (match fn.resultTypes.toList with
  |[R]=>match BK P R with
   |some (none,T)=>some ⟨.vec T [],none⟩
   |_=>none
  | _=>none) (VD v)
 |none=>none
def IZ(P:fc)(f:fg):Bool:=match P.funcs[f]? with
 |some fn=>match fn.resultTypes.toList with
  |[R]=>match BK P R with
   |some (none,_)=>true
   |_=>false
  |_=>false
 |none=>false
def EO(P:fc)(rec:FU)(f:fg)(args:List V):Option Mk:=Bool.rec none (UZ P rec (lJ P) f args 0 []) (args.all (AK 9))
def koT(P:fc)(f:fg):Option fh:=match P.funcs[f]? with
 |some fn=>match fn.resultTypes.toList with
  |[R]=>match BK P R with
   |some (none,T)=>some T
   |_=>none
  |_=>none
 |none=>none
def fI(P:fc)(f:fg)(T:fh):Prop:=∀(d:Tmp) (s:St),DX P f [.list false []] s fun v s'=>∃γ,v=(⟨.vec T [],none⟩:Mk).val s.up.length d γ/\s'=s.put s.up.length d γ (.vec T [])
open Classical in
def pU(P:fc)(f:fg):List V->Option Mk
 |[.list false []]=>match koT P f with
  |some T=>if fI P f T then some ⟨.vec T [],none⟩ else none
  |none=>none
 |_=>none
theorem APX{P:fc}{f:fg}{T:fh}(h:koT P f=some T)(hv:fI P f T):pU P f [.list false []]=some ⟨.vec T [],none⟩:=by unfold pU;simp only[h];exact if_pos hv
def orM{α:Type}:Option α->Option α->Option α
 |some r,_=>some r
 |none,z=>z
def IM(P:fc)(kn:CF0)(ko:tV)(rec:FU):tV:=fun f args d=>match ko f args d with
 |some r=>some r
 | none=>Bool.rec (match EY P kn rec f args with
  |some r=>some ⟨.dead,some r⟩
  | none=>none) (orM (EO P rec f args) (pU P f args)) (IZ P f)
def HS(s:St)(u:List AA)(l:AA):St:=⟨u.map (AO s),AO s l⟩
def YO(fr:Fr)(l q γ:Nat)(r:Option (Exit×XS)):Option (V×XS):=match r with
 |some (e,st)=>match st.s.get l q with
  | some (γ',.loop fr0 ps asg body N .busy)=>Bool.rec none (match CV st.s.up with
   |some (u,lc)=>match e with
    |.normal=>some (.bool true,⟨st.c,fr,(HS st.s u lc).put l q γ (.loop fr0 ps asg body N .ready)⟩)
    |.ret=>some (.bool false,⟨st.c,fr,(HS st.s u lc).put l q γ (.loop fr0 ps asg body N (.left .ret))⟩)
    |.exit id=>some (.bool false,⟨st.c,fr,(HS st.s u lc).put l q γ (.loop fr0 ps asg body N (.left (.exit id)))⟩)
    |_=>none
   | none=>none) (bf γ' γ&&dr l st.s.up.length&&dr γ st.c)
  |_=>none
 |none=>none
def YP(rec:UY)(l q γ:Nat)(body:Code)(r:Option (Exit×XS)):Option (Exit×XS):=match r with
 |some (.normal,st)=>match st.s.get l q with
  |some (γ',.loop fr0 ps asg body' N .ready)=>Bool.rec none (rec body ⟨st.c,st.fr,st.s.put l q γ (.loop fr0 ps asg body' N .busy)⟩) (bf γ' γ&&dr γ st.c)
  |_=>none
 |_=>none
def fJ(rec:FU):CY:=fun l q γ vs st=>match st.s.get l q with
 |some (γ',.loop fr0 ps asg body N .ready)=>Bool.rec none (YO st.fr l q γ (YP (rec N) l q γ body (rec N asg ⟨st.c,G6 fr0 ps vs,⟨st.s.up++[st.s.loc],[]⟩⟩))) (bf γ' γ&&bf vs.length ps.length&&dr γ st.c)
 |_=>none
def A19(P:fc)(kn:CF0)(ko:tV)(lit:Tmp->Bool)(rec:FU):XE:=⟨U0 P kn rec,fJ rec,EY P kn rec,IM P kn ko rec,lit⟩
def pV(fn:Func):Bool:=match fn.body with
 | some c => !(fn.name == "runtime.NumGoroutine") && EP fn.ntmps c
 |none=>true
structure DR(P:fc):Prop where
 all:P.funcs.toList.all pV=true
 mixed:P.follows .mixedOrders=true
def YQ(P:fc)(N:Nat)(rec:UY):Prop:=∀code st e st',rec code st=some (e,st')->Bd st->EP N code=true->H8 st st'/\(∀l,e≠.goto l) /\
 ∀(n:Nat) (ρ:Option Nat) (σ:Nat->Nat) (pre:List AA) (K:Exit->Fr->St->Prop),(ρ=none\/F4 code=true)->(∀σ',AR st.c σ σ'->K e (st'.fr.ren σ' pre.length) (st'.s.emb σ' pre))->BD P n N ρ code K (st.fr.ren σ pre.length) (st.s.emb σ pre)
def TW(P:fc)(rec:FU):Prop:=∀N,YQ P N (rec N)
theorem N9{α:Type}:∀{l:List α} {u:List α} {x:α},CV l=some (u,x)->l=u++[x]
 |[],u,x,h=>by cases h
 |[y],u,x,h=>by cases h;rfl
 |y::z::r,u,x,h=>by
  simp only[CV]at h;split at h
  ·rename_i a b e;cases h;rw[N9 (l:=z::r) e];rfl
  ·cases h
theorem ADD{c:Nat}{args:List V}(h:∀v∈args,S5 c v)(σ σ':Nat->Nat)(δ:Nat)(ha:AR c σ σ'):(AH 0 args).ren σ δ=(AH 0 args).ren σ' δ:=by rw[<-O5,<-O5];congr 1;exact bw fun v hv=>h v hv σ σ' δ ha
theorem APY{st:XS}(h:Bd st){rs:List ResultVar}{v r:V}(hv:FT P rs st.fr st.s=some v)(hr:AX st.s 4 v=some r):S5 st.c r:=by intro σ σ' δ ha;have q1:=N4 (σ:=σ) (pre:=bh δ []) hv;have q2:=N4 (σ:=σ') (pre:=bh δ []) hv;rw[h.f σ σ' _ ha,h.s σ σ' _ ha,q2]at q1;have q:=cm.inj q1;have r1:=JP (σ:=σ) (pre:=bh δ []) 4 hr;have r2:=JP (σ:=σ') (pre:=bh δ []) 4 hr;rw[h.s σ σ' _ ha,<-q,r2]at r1;have:=cm.inj r1;rw[bn]at this;exact this.symm
theorem HH(u:List AA)(l:AA)(i k:Nat):(⟨u,l⟩:St).get i k=match(u++[l])[i]? with
  |some L=>L.get k
  |none=>none:=by
 unfold St.get
 simp only
 by_cases h:i=u.length
 ·subst h;simp
 ·rw[if_neg h];rcases Nat.lt_or_ge i u.length with h'|h'
  ·rw[cr h'];rfl
  ·rw[cp h',dz h'];have:1<=i-u.length:=by omega
   rw[dz (by simpa using this)]
theorem pW(L:AA)(k g:Nat)(r:AZ)(h:((AO s L).ren σ pre.length).get k=some (g,r)):∃r0,(L.ren σ pre.length).get k=some (g,r0)/\(r=r0\/r=G7 (s.emb σ pre) r0):=by
 rw[AA.get_ren,MK]at h;rw[AA.get_ren];cases hL:L.get k with
 |none=>rw[hL]at h;cases h
 |some p=>
  rw[hL]at h
  cases h
  exact⟨p.2.ren σ pre.length,rfl,kZ p.2⟩
theorem cH{s:St}{F:List AA}{u u2:List AA}{l l2:AA}(h1:u++[l]=pre++F.map (AA.ren σ pre.length))(h2:u2++[l2]=pre++(F.map (AO s)).map (AA.ren σ pre.length)):wV (s.emb σ pre) ⟨u,l⟩ ⟨u2,l2⟩:=by
 have hlen:u2.length=u.length:=by have a1:=congrArg dh h1;have a2:=congrArg dh h2;simp at a1 a2;omega
 refine⟨hlen,fun i k g r hg=>?_⟩;rw[HH,h2]at hg;rw[HH,h1];rcases Nat.lt_or_ge i pre.length with hi|hi
 ·rw[cr hi]at hg|-;exact⟨r,hg,.inl rfl⟩
 ·rw[cp hi]at hg|-;simp only[fq,List.getElem?_map]at hg|-;cases hF:F[i-pre.length]? with
  |none=>rw[hF]at hg;cases hg
  |some L=>
   rw[hF]at hg
   exact pW L k g r hg
theorem pX{s:St}{c:Nat}(hs:∀σ σ' pre,AR c σ σ'->s.emb σ pre=s.emb σ' pre){r:AZ}(hr:∀σ σ' δ,AR c σ σ'->r.ren σ δ=r.ren σ' δ)(σ σ':Nat->Nat)(δ:Nat)(ha:AR c σ σ'):(BN s r).ren σ δ=(BN s r).ren σ' δ:=by
 unfold BN;split
 ·rename_i r' h;have q1:=KQ (σ:=σ) (pre:=bh δ []) h;have q2:=KQ (σ:=σ') (pre:=bh δ []) h;rw[hs σ σ' _ ha]at q1;simp only[bn]at q1 q2;rw[hr σ σ' _ ha,q2]at q1;exact(cm.inj q1).symm
 ·exact hr σ σ' δ ha
theorem lK{L:AA}{δ:Nat}(σ σ':Nat->Nat):L.ren σ δ=L.ren σ' δ↔∀p∈L,σ p.2.1=σ' p.2.1/\p.2.2.ren σ δ=p.2.2.ren σ' δ:=by unfold AA.ren;rw[cx];simp only[fw.injEq,true_and]
theorem cI{s:St}{c:Nat}(hs:∀σ σ' pre,AR c σ σ'->s.emb σ pre=s.emb σ' pre){L:AA}(hL:∀σ σ' δ,AR c σ σ'->L.ren σ δ=L.ren σ' δ)(σ σ':Nat->Nat)(δ:Nat)(ha:AR c σ σ'):(AO s L).ren σ δ=(AO s L).ren σ' δ:=by rw[lK];intro p hp;obtain⟨x,hx,rfl⟩:=dn.1 hp;have h1:∀σ σ' δ,AR c σ σ'->σ x.2.1=σ' x.2.1/\x.2.2.ren σ δ=x.2.2.ren σ' δ:=fun σ σ' δ ha=>(lK σ σ').1 (hL σ σ' δ ha) x hx;exact⟨(h1 σ σ' δ ha).1,pX hs (fun σ σ' δ ha=>(h1 σ σ' δ ha).2) σ σ' δ ha⟩
theorem ADE{s:St}{c:Nat}(hs:∀σ σ' pre,AR c σ σ'->s.emb σ pre=s.emb σ' pre):∀L∈s.up,∀σ σ' δ,AR c σ σ'->L.ren σ δ=L.ren σ' δ:=by intro L hL σ σ' δ ha;have:=hs σ σ' (bh δ []) ha;simp only[St.emb,St.mk.injEq,bn]at this;exact cx.1 (dj this.1) L hL
theorem cJ(s:St)(L:AA){k γ:Nat}{fr:Fr}{ps:List Tmp}{asg body:Code}{N:Nat}{st:LS}(h:(AO s L).get k=some (γ,.loop fr ps asg body N st)):L.get k=some (γ,.loop fr ps asg body N st):=by
 rw[MK]at h;cases hL:L.get k with
 |none=>rw[hL]at h;cases h
 |some p=>
  rw[hL]at h
  simp only[bz,cm.injEq,fw.injEq]at h
  obtain⟨h1,h2⟩:=h
  obtain⟨g,r⟩:=p
  simp only at h1 h2
  subst h1
  congr 2
  cases r with
  |loop=>exact h2
  |box cs=>unfold BN at h2;split at h2<;>rename_i e<;>simp only[BO]at e<;>(try (split at e<;>cases e))<;>cases h2
  |vec T es=>unfold BN at h2;split at h2<;>rename_i e<;>simp only[BO]at e<;>(try (split at e<;>cases e))<;>cases h2
  |map es=>unfold BN at h2;split at h2<;>rename_i e<;>simp only[BO]at e<;>(try (split at e<;>cases e))<;>cases h2
  |dead=>unfold BN at h2;split at h2<;>rename_i e<;>simp only[BO]at e<;>cases e;cases h2
def FX(P:fc)(f:fg)(args:List V)(c:Nat)(up:List AA)(r:V)(c':Nat)(up':List AA):Prop:=c<=c'/\S5 c' r/\(∀σ σ' δ,AR c' σ σ'->up'.map (AA.ren σ δ)=up'.map (AA.ren σ' δ))/\up'.length=up.length /\
  (∀L∈up',∀k γ fr ps asg body N st,L.get k=some (γ,.loop fr ps asg body N st)->SH N ps asg body=true) /\
  ∀(σ:Nat->Nat) (pre:List AA) (s:St) (K:V->St->Prop),s.up++[s.loc]=pre++up.map (AA.ren σ pre.length)->(∀σ' u l,AR c σ σ'->u++[l]=pre++up'.map (AA.ren σ' pre.length)->K (r.ren σ' pre.length) ⟨u,l⟩)->DX P f (args.map (V.ren σ pre.length)) s K
theorem YR(hP:DR P){rec:FU}(hrec:TW P rec){α:Type}{ret:Func->XS->Option α}{f:fg}{args:List V}{c:Nat}{up:List AA}{x:α}(hx:UZ P rec ret f args c up=some x)(hargs:∀v∈args,S5 c v)
  (hup:∀σ σ' δ,AR c σ σ'->up.map (AA.ren σ δ)=up.map (AA.ren σ' δ)) (hlp:∀L∈up,∀k γ fr ps asg body N st,L.get k=some (γ,.loop fr ps asg body N st)->SH N ps asg body=true) :
  ∃fn st',ret fn st'=some x/\Bd st'/\c<=st'.c/\st'.s.up.length=up.length/\∀(σ:Nat->Nat) (pre:List AA) (s:St) (K:V->St->Prop),s.up++[s.loc]=pre++up.map (AA.ren σ pre.length) ->
   (∀σ',AR c σ σ'->APS P fn.results.toList (s.up.length+1) K .ret (st'.fr.ren σ' pre.length) (st'.s.emb σ' pre))->DX P f (args.map (V.ren σ pre.length)) s K:=by
 unfold UZ at hx
 split at hx
 ·rename_i fn hf;split at hx
  ·rename_i code hb;obtain⟨hsz,hx1⟩:=DZ hx;have hck:pV fn=true:=bq.1 hP.all fn (by
    have:=Array.mem_of_getElem? hf;simpa using this)
   simp only[pV,hb,bc,Bool.not_eq_true']at hck;have hbd:Bd ⟨c,AH 0 args,⟨up,[]⟩⟩:=⟨fun σ σ' δ ha=>ADD hargs σ σ' δ ha,fun σ σ' pre ha=>by simp only[St.emb,hup σ σ' _ ha]; rfl,fun l k γ fr ps asg body N st hg=>by
    rw[HH]at hg;split at hg
    ·rename_i L hL;rcases df.1 (dl hL)with hm|hm
     ·exact hlp L hm _ _ _ _ _ _ _ _ hg
     ·have:L=[]:=by simpa using hm
      subst this;simp at hg
    ·cases hg⟩
   have main:∀e st',rec fn.ntmps code ⟨c,AH 0 args,⟨up,[]⟩⟩=some (e,st')->(e=.ret\/e=.normal)->ret fn st'=some x->∃fn st',ret fn st'=some x/\Bd st'/\c<=st'.c/\st'.s.up.length=up.length/\∀(σ:Nat->Nat) (pre:List AA) (s:St) (K:V->St->Prop),s.up++[s.loc]=pre++up.map (AA.ren σ pre.length) ->
     (∀σ',AR c σ σ'->APS P fn.results.toList (s.up.length+1) K .ret (st'.fr.ren σ' pre.length) (st'.s.emb σ' pre))->DX P f (args.map (V.ren σ pre.length)) s K:=by
    intro e st' h1 he h2
    obtain⟨hE,_,hC⟩:=hrec _ _ _ _ _ h1 hbd hck.2
    refine⟨fn,st',h2,hE.bd,hE.c,hE.n,fun σ pre s K hs hk=>?_⟩
    refine A14 hf hb (kB hf hb hck.1) (by simpa using hsz) ?_
    have e1:(⟨s.up++[s.loc],[]⟩:St)=(⟨up,[]⟩:St).emb σ pre:=by simp only[St.emb,hs];rfl
    rw[O5,e1]
    refine hC _ none σ pre _ (.inl rfl) fun σ' ha=>?_
    have:=hk σ' ha
    rcases he with rfl|rfl<;>exact this
   unfold lI at hx1;split at hx1
   ·rename_i st' h1;exact main _ _ h1 (.inl rfl) hx1
   ·rename_i st' h1;exact main _ _ h1 (.inr rfl) hx1
   ·cases hx1
  ·cases hx
 ·cases hx
theorem lL(hP:DR P){rec:FU}(hrec:TW P rec){f:fg}{args:List V}{c:Nat}{up:List AA}{r:V}{c':Nat}{up':List AA}(hx:cG P rec f args c up=some (r,c',up'))(hargs:∀v∈args,S5 c v)
  (hup:∀σ σ' δ,AR c σ σ'->up.map (AA.ren σ δ)=up.map (AA.ren σ' δ)) (hlp:∀L∈up,∀k γ fr ps asg body N st,L.get k=some (γ,.loop fr ps asg body N st)->SH N ps asg body=true):FX P f args c up r c' up':=by
 obtain⟨fn,st',hret,hbd,hc,hlen,hA⟩:=YR hP hrec hx hargs hup hlp
 unfold xZ at hret
 split at hret
 ·rename_i r0 hr0;split at hret
  ·rename_i r1 hr1;cases hret;refine⟨hc,APY hbd hr0 hr1,fun σ σ' δ ha=>?_,by simpa using hlen,fun L hL k γ fr ps asg body N st hg=>?_,fun σ pre s K hs hk=>hA σ pre s K hs fun σ' ha=>?_⟩
   ·simp only[fq];exact bw fun L hL=>cI hbd.s (ADE hbd.s L hL) σ σ' δ ha
   ·obtain⟨L0,hL0,rfl⟩:=dn.1 hL;have hg:=cJ _ _ hg;obtain⟨i,hi,rfl⟩:=List.getElem_of_mem hL0;refine hbd.lp i k γ fr ps asg body N st ?_;unfold St.get;rw[if_neg (by omega),List.getElem?_eq_getElem hi];exact hg
   ·have hl2:(st'.s.emb σ' pre).up.length=s.up.length+1:=by have q:=congrArg dh hs;simp only[ck,cd,bp]at q;rw[CZ,hlen];omega
    rcases db (st'.s.emb σ' pre).up with h0|⟨u,l,h0⟩
    ·rw[h0]at hl2;simp at hl2
    ·have h0:(st'.s.emb σ' pre).up=u++[l]:=by simpa using h0
     have hu:u.length+1=s.up.length+1:=by rw[<-hl2,h0];simp
     have hcl:=N3 4 (JP (σ:=σ') (pre:=pre) 4 hr1);have hres:=N4 (σ:=σ') (pre:=pre) hr0;rcases db (pre++(st'.s.up.map (AO st'.s)).map (AA.ren σ' pre.length))with h3|⟨u2,l2,h3⟩
     ·have h4:=congrArg dh h3;have h5:=congrArg dh h0;simp only[St.emb,ck,bp,List.length_nil,cd]at h4 h5;omega
     ·have h3:pre++(st'.s.up.map (AO st'.s)).map (AA.ren σ' pre.length)=u2++[l2]:=by simpa using h3
      have hK:=hk σ' u2 l2 ha h3.symm;have hS:=cH (s:=st'.s) (F:=st'.s.up) (u:=u) (l:=l) (u2:=u2) (l2:=l2) (σ:=σ') (pre:=pre) h0.symm h3.symm;exact⟨u,l,_,h0,hu,hres,.inl ⟨_,_,by rw[hcl];exact Wk.refl _,hS,hK⟩⟩
  ·cases hret
 ·cases hret
theorem TX{c:Nat}{args:List V}(h:args.all (AK 9)=true):∀v∈args,S5 c v:=fun v hv σ σ' δ _=>by rw[BX 9 v (bq.1 h v hv),BX 9 v (bq.1 h v hv)]
theorem K7(hP:DR P){rec:FU}(hrec:TW P rec):EN P (EJ P rec):=by
 intro f args r hx;unfold EJ at hx;obtain⟨hcl,hx1⟩:=DZ hx;split at hx1
 ·rename_i r0 c' up' h1;obtain⟨hr,rfl⟩:=H2 hx1;obtain⟨_,_,_,hlen,_,hA⟩:=lL hP hrec h1 (TX hcl) (fun _ _ _ _=>rfl) (fun L hL=>by cases hL);have hargs:∀v∈args,∀σ δ,V.ren σ δ v=v:=fun v hv σ δ=>BX 9 v (bq.1 hcl v hv);have hup:up'=[]:=cg hlen;refine⟨fun s=>?_,hargs,fun σ δ=>BX 9 _ hr⟩;have:=hA id (s.up++[s.loc]) s (fun r' s'=>r'=r0/\s'=s) (by simp) fun σ' u l _ hu=>?_
  ·have e:args.map (V.ren id (s.up++[s.loc]).length)=args:=by
    conv=>rhs;rw[<-cz args]
    exact bw fun v hv=>hargs v hv _ _
   rw[e]at this;exact this
  ·rw[hup]at hu;simp only[dp,List.append_nil]at hu;obtain⟨e1,e2⟩:=dq hu rfl;refine⟨BX 9 _ hr,?_⟩;subst e1;simp only[List.cons.injEq,and_true]at e2;subst e2;rfl
 ·cases hx1
theorem YS(hP:DR P){kn:CF0}(hkn:EN P kn){rec:FU}(hrec:TW P rec):EN P (A4 P kn rec):=by
 intro f args r hx;unfold A4 at hx;split at hx
 ·rename_i r0 h0;cases hx;exact hkn _ _ _ h0
 ·exact K7 hP hrec _ _ _ hx
theorem YT(hP:DR P){kn:CF0}(hkn:EN P kn){rec:FU}(hrec:TW P rec):EN P (EY P kn rec):=by
 intro f args r hx;unfold EY at hx;split at hx
 ·rename_i r0 h0;cases hcl:args.all (AK 9)with
  |false=>rw[hcl]at hx;exact YS hP hkn hrec _ _ _ hx
  |true=>
   rw[hcl]at hx
   cases hx
   obtain⟨hA,_,h2⟩:=YS hP hkn hrec _ _ _ h0
   exact⟨fun s=>⟨(hA s).1,fun G vals w R hI ha hR=>(hA s).2 G vals w R hI ha.weakN hR⟩,fun v hv σ δ=>BX 9 v (bq.1 hcl v hv),h2⟩
 ·exact YS hP hkn hrec _ _ _ hx
theorem handed(hP:DR P){rec:FU}(hrec:TW P rec){f:fg}{args:List V}{ret:Func->XS->Option Mk}{r:Mk}{d:Tmp}(hcl:args.all (AK 9)=true)(hx:UZ P rec ret f args 0 []=some r)
  (hr:∀(fn:Func) (st':XS),ret fn st'=some r->st'.s.up=[]->∀(s:St) (σ':Nat->Nat),∃r0,FT P fn.results.toList (st'.fr.ren σ' (s.up++[s.loc]).length) (st'.s.emb σ' (s.up++[s.loc]))=some r0 /\
   ((∃k γ T es,(st'.s.emb σ' (s.up++[s.loc])).loc.get k=some (γ,.vec T es)/\xC (s.up.length+1) k s.up.length d 4 r0=r.val s.up.length d γ/\r.res=.vec T es)\/(∃T,VD r0=true/\r=⟨.vec T [],none⟩)))
  (s:St):DX P f args s fun v s'=>∃γ,v=r.val s.up.length d γ/\s'=s.put s.up.length d γ r.res:=by
 obtain⟨fn,st',hret,hbd,hc,hlen,hA⟩:=YR hP hrec hx (TX hcl) (fun _ _ _ _=>rfl) (fun L hL=>by cases hL)
 have hargs:∀v∈args,∀σ δ,V.ren σ δ v=v:=fun v hv σ δ=>BX 9 v (bq.1 hcl v hv)
 have hup:st'.s.up=[]:=cg hlen
 have:=hA id (s.up++[s.loc]) s (fun v s'=>∃γ,v=r.val s.up.length d γ/\s'=s.put s.up.length d γ r.res) (by simp) fun σ' _=>?_
 ·have e:args.map (V.ren id (s.up++[s.loc]).length)=args:=by
   conv=>rhs;rw[<-cz args]
   exact bw fun v hv=>hargs v hv _ _
  rw[e]at this;exact this
 ·obtain⟨r0,h1,h2⟩:=hr fn st' hret hup s σ';refine⟨s.up,s.loc,r0,by simp[St.emb,hup],rfl,h1,.inr ?_⟩;rcases h2 with⟨k,γ,T,es,h3,h4,h5⟩|⟨T,h3,h4⟩
  ·exact .inl ⟨k,γ,T,es,d,h3,γ,h4,by rw[h5]⟩
  ·subst h4;exact .inr ⟨d,T,h3,fun γ=>⟨γ,rfl,rfl⟩⟩
theorem cK(hP:DR P){rec:FU}(hrec:TW P rec){f:fg}{args:List V}{r:Mk}{d:Tmp}(hx:EO P rec f args=some r) :
  (∀(s:St),DX P f args s fun v s'=>∃γ,v=r.val s.up.length d γ/\s'=s.put s.up.length d γ r.res)/\(∀v∈args,∀σ δ,v.ren σ δ=v)/\(∀σ δ,r.res.ren σ δ=r.res)/\plR r.res=true:=by
 unfold EO at hx
 obtain⟨hcl,hx1⟩:=DZ hx
 have hargs:∀v∈args,∀σ δ,V.ren σ δ v=v:=fun v hv σ δ=>BX 9 v (bq.1 hcl v hv)
 have main:∀(fn:Func) (st':XS),lJ P fn st'=some r->((∀σ δ,r.res.ren σ δ=r.res)/\plR r.res=true)/\(st'.s.up=[]->∀(s:St) (σ':Nat->Nat),∃r0,FT P fn.results.toList (st'.fr.ren σ' (s.up++[s.loc]).length) (st'.s.emb σ' (s.up++[s.loc]))=some r0 /\
   ((∃k γ T es,(st'.s.emb σ' (s.up++[s.loc])).loc.get k=some (γ,.vec T es)/\xC (s.up.length+1) k s.up.length d 4 r0=r.val s.up.length d γ/\r.res=.vec T es)\/(∃T,VD r0=true/\r=⟨.vec T [],none⟩))):=by
  intro fn st' hret
  unfold lJ at hret
  split at hret
  ·rename_i l k γ n hres;obtain⟨hl,hret⟩:=DZ hret;have hl:=bj hl;split at hret
   ·rename_i γ' T es hget;obtain⟨hc2,he⟩:=H2 hret;cases he;simp only[bc]at hc2;obtain⟨⟨h1,h2⟩,h3⟩:=hc2;have h1:=bj h1;have h2:=bj h2;subst h1;subst h2;have hes:∀σ δ,es.map (br (V.ren σ δ))=es:=fun σ δ=>by
     conv=>rhs;rw[<-cz es]
     exact bw fun e he=>MQ (fun v=>BX 9 v) (bq.1 h3 e he)
    refine⟨⟨fun σ δ=>by simp only[AZ.ren,hes],rfl⟩,fun hup s σ'=>⟨_,N4 hres,.inl ⟨k,σ' γ',T,es,?_,?_,rfl⟩⟩⟩
    ·rw[J9,hget];simp only[bz,AZ.ren,hes]
    ·rw[hup]at hl;subst hl;simp[xC,Mk.val,GS]
   ·cases hret
  ·rename_i v hnv hres;obtain⟨hn,hret⟩:=DZ hret;split at hret
   ·split at hret
    ·rename_i T _;cases hret;exact⟨⟨fun _ _=>rfl,rfl⟩,fun hup s σ'=>⟨_,N4 hres,.inr ⟨_,by rw[AC1];exact hn,rfl⟩⟩⟩
    ·cases hret
   ·cases hret
  ·cases hret
 obtain⟨fn,st',hret,_⟩:=YR hP hrec hx1 (TX hcl) (fun _ _ _ _=>rfl) (fun L hL=>by cases hL)
 exact⟨handed hP hrec hcl hx1 fun fn st' h=>(main fn st' h).2,hargs,(main fn st' hret).1⟩
theorem CB.nought{G:Gh}{s:St}{w:World}(hI:CB G s w)(d γ:Nat):CB G (s.put s.up.length d γ .dead) w:=by
 have look:∀{l k x},(s.put s.up.length d γ .dead).get l k=some x->x=(γ,.dead)\/s.get l k=some x:=fun {l k x} h=>by
  rw[St.get_putLoc]at h;split at h
  ·exact .inl (cm.inj h).symm
  ·exact .inr h
 refine⟨hI.sl,fun l k g r h=>?_,fun l k g r l' k' g' r' b h1 h2 h3 h4=>?_,fun l k g r b h1 h2=>?_,hI.fresh,hI.env,hI.me.step (Gh.le_refl _) rfl (fun _ _ _=>rfl) (fun l k g r b h1 h2=>by
  rcases look h1 with e|e
  ·cases e;cases h2
  ·exact .inl ⟨_,_,_,_,e,h2⟩) fun b d hb=>hI.me.sl b d hb⟩
 ·rcases look h with e|e
  ·cases e;trivial
  ·exact hI.res _ _ _ _ e
 ·rcases look h1 with e|e1
  ·cases e;cases h3
  ·rcases look h2 with e|e2
   ·cases e;cases h4
   ·exact hI.sep _ _ _ _ _ _ _ _ _ e1 e2 h3 h4
 ·rcases look h1 with e|e
  ·cases e;cases h2
  ·exact hI.out _ _ _ _ _ e h2
theorem APZ{f:fg}{args:List V}{r:Mk}{d:Tmp}(hx:pU P f args=some r) :
  (∀(s:St),DX P f args s fun v s'=>∃γ,v=r.val s.up.length d γ/\s'=s.put s.up.length d γ r.res)/\(∀v∈args,∀σ δ,v.ren σ δ=v)/\(∀σ δ,r.res.ren σ δ=r.res)/\plR r.res=true:=by
 unfold pU at hx
 split at hx
 ·split at hx
  ·rename_i T _;split at hx
   ·rename_i hv;cases hx;exact⟨fun s=>hv d s,fun v hm σ δ=>by rw[List.mem_singleton.1 hm];rfl,fun σ δ=>rfl,rfl⟩
   ·cases hx
  ·cases hx
 ·cases hx
theorem ADF(hP:DR P){rec:FU}(hrec:TW P rec){f:fg}{T:fh}(h:∀a c,EO P rec f [.raw (.slice a 0 c)]=some ⟨.vec T [],none⟩):fI P f T:=fun d s=>by
 have hA:=fun a c=>(cK hP hrec (d:=d) (h a c)).1 s;refine⟨(hA none 0).1,fun G vals w R hI ha hR=>?_⟩;obtain⟨l⟩:=vals;match l,ha with
 |[v],ha=>
  have hv:RepV G (.list false []) v:=ha.2 0 (by simp) (by simp)
  cases hv with
  |list _ _ a cap b off sz arr T fz vs hcap hfull h1 hl hv hr=>
   refine(hA a cap).2 G _ w R hI ⟨by simp,fun i h1 h2=>?_⟩ hR
   obtain rfl:i=0:=by simp at h1;omega
   exact .raw _ rfl
 |[],ha=>exact absurd ha.1 (by simp)
 |_::_::_,ha=>exact absurd ha.1 (by simp)
theorem ADG(hP:DR P){kn:CF0}(hkn:EN P kn){ko:tV}(hko:pP P ko){rec:FU}(hrec:TW P rec):pP P (IM P kn ko rec):=by
 intro f args d r hx;unfold IM at hx;split at hx
 ·rename_i r0 h0;cases hx;exact hko _ _ _ _ h0
 ·cases hs:IZ P f with
  |true=>
   rw[hs]at hx
   have hx:orM (EO P rec f args) (pU P f args)=some r:=hx
   cases h1:EO P rec f args with
   |some r1=>
    rw[h1]at hx
    cases hx
    exact cK hP hrec h1
   |none=>
    rw[h1]at hx
    exact APZ hx
  |false=>
   rw[hs]at hx
   have hx:(match EY P kn rec f args with
    |some r=>some (⟨.dead,some r⟩:Mk)
    | none=>none)=some r:=hx
   split at hx
   ·rename_i r0 h0;cases hx;obtain⟨hA,h1,h2⟩:=YT hP hkn hrec _ _ _ h0;refine⟨fun s=>⟨(hA s).1,fun G vals w R hI ha hR=>(hA s).2 G vals w R hI ha fun G' v u w' s' hle hI' hv hlen hk=>?_⟩,h1,fun _ _=>rfl,rfl⟩;obtain⟨rfl,rfl⟩:=hk;exact hR G' _ u w' (s'.put s'.up.length d 0 .dead) hle (hI'.nought d 0) hv (St.put_len _ _ _ _ _) ⟨0,(h2 _ _).symm,rfl⟩
   ·cases hx
theorem lM(hP:DR P){kn:CF0}(hkn:EN P kn){rec:FU}(hrec:TW P rec):cC P (U0 P kn rec):=by
 intro f args st r st' hx hbd hargs;unfold U0 at hx;cases hcl:(args.all (AK 9)&&!(BG P f))with
 |true=>
  rw[hcl]at hx
  have hx:(match EY P kn rec f args with|some r=>some (r,st)|none=>none)=some (r,st'):=hx
  split at hx
  ·rename_i r0 h0;cases hx;obtain⟨hA,h1,h2⟩:=YT hP hkn hrec _ _ _ h0;refine⟨⟨bt _,hbd,rfl⟩,fun σ σ' δ _=>by rw[h2,h2],rfl,fun σ pre K hk=>?_⟩;have e:args.map (V.ren σ pre.length)=args:=by
    conv=>rhs;rw[<-cz args]
    exact bw fun v hv=>h1 v hv _ _
   rw[e];refine(hA (st.s.emb σ pre)).mono fun r' s' q5=>?_;obtain⟨rfl,rfl⟩:=q5;have:=hk σ (AR.refl _ _);rwa [h2]at this
  ·cases hx
 |false=>
  rw[hcl]at hx
  have hx:(match cG P rec f args st.c (st.s.up++[st.s.loc])with
   |some (r,c,up)=>match CV up with
    |some (u,l)=>some (r,(⟨c,st.fr,⟨u,l⟩⟩:XS))
    |none=>none
   | none=>none)=some (r,st'):=hx
  split at hx
  ·rename_i r0 c0 up0 h1;split at hx
   ·rename_i u l hu;cases hx;have hup0:=N9 hu;have hsb:∀σ σ' δ,AR st.c σ σ'->(st.s.up++[st.s.loc]).map (AA.ren σ δ)=(st.s.up++[st.s.loc]).map (AA.ren σ' δ):=by intro σ σ' δ ha;have:=hbd.s σ σ' (bh δ []) ha;simp only[St.emb,St.mk.injEq,bn]at this;simp only[bx,dw,dp];rw[dj this.1,this.2]
    have hlp:∀L∈st.s.up++[st.s.loc],∀k γ fr ps asg body N st,L.get k=some (γ,.loop fr ps asg body N st)->SH N ps asg body=true:=by intro L hL k γ fr ps asg body N ls hg;obtain⟨i,hi⟩:=List.getElem?_of_mem hL;refine hbd.lp i k γ fr ps asg body N ls ?_;have:=HH st.s.up st.s.loc i k;rw[hi]at this;exact this.trans hg
    obtain⟨hc,hrb,hub,hlen,hlp',hA⟩:=lL hP hrec h1 hargs hsb hlp;subst hup0;refine⟨⟨hc,⟨fun σ σ' δ ha=>hbd.f σ σ' δ (ha.mono hc),fun σ σ' pre ha=>?_,fun i k γ fr ps asg body N ls hg=>?_⟩,?_⟩,hrb,rfl,fun σ pre K hk=>?_⟩
    ·have:=hub σ σ' pre.length ha;simp only[bx,dw,dp]at this;obtain⟨e1,e2⟩:=dq this rfl;simp only[List.cons.injEq,and_true]at e2;simp only[St.emb,e1,e2]
    ·rw[HH]at hg;split at hg
     ·rename_i L hL;exact hlp' L (dl hL) _ _ _ _ _ _ _ _ hg
     ·cases hg
    ·simp only[ck,cd]at hlen;simp only;omega
    ·refine hA σ pre (st.s.emb σ pre) K (by simp[St.emb]) fun σ' u' l' ha hu'=>?_;have:=hk σ' ha;simp only[bx,dw,dp,<-List.append_assoc]at hu';obtain⟨e1,e2⟩:=dq hu' rfl;simp only[List.cons.injEq,and_true]at e2;subst e1;subst e2;exact this
   ·cases hx
  ·cases hx
end Go.Pg
