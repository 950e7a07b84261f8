/- Running a Go function upon abstract values, by computing: values, appends, calls, a region's operations one after another. No program in sight. -/
import Derived.Test.YtmnlpgjklibndaaGreatQ1
noncomputable section
open Go renaming Oper->fc,Program->ff,Operand->fg,FuncId->fh,TypeId->fp
open Nat renaming eq_of_beq_eq_true->bj,beq->bf,le_refl->bt,lt_succ_self->cq,le_trans->dv,ble_eq->dc,le_succ->dn,blt->dt,blt_eq->fj,ble->fq
open List renaming all_eq_true->bq,map_congr_left->bw,map_append->bx,replicate->bh,length_replicate->bn,length_map->bp,map->br,map_take->cj,length_append->ck,map_inj_left->cx,map_id->cz,length_singleton->cd,eq_nil_of_length_eq_zero->cg,getElem?_append_right->cp,getElem?_append_left->cr,append_cancel_left->dj,map_flatten->dk,append_inj'->dq,map_cons->dw,mem_append_right->dx,getElem?_eq_none->dz,eq_nil_or_concat->db,mem_append->df,mem_append_left->dh,length->dl,mem_of_getElem?->dm,mem_map->dp,map_nil->dr,all_map->fk,map_map->fw
open Option renaming map_some->bz,bind_some->bg,some->cm
open Bool renaming and_eq_true->bc,or_eq_false_iff->dg
open Prod renaming mk->fx
namespace Go.Pg
variable {P:ff}{σ σ':Nat->Nat}{δ:Nat}{pre:List AB}{s:St}{fr:Fr}{g:Bool}
def rdC(fr:Fr)(x:fg):Option (Bool×V):=match x with
 |.tmp t=>EV fr t
 |.const v=>match B4 v with
  |some x=>some (true,x)
  |none=>none
 |.func f=>some (true,.fn f [] [])
 |.global _=>none
theorem AJ3(x:fg):rdC fr x=rd fr x:=by
 cases x with
 |tmp t=>exact FI fr t
 |const v=>simp only[rdC,rd];cases B4 v<;>rfl
 |func f=>rfl
 |global g=>rfl
def nR(fr:Fr)(c a b:fg):Option V:=match BO fr c,rdC fr a,rdC fr b with
 |some (.bool c),some (ca,.bool a),some (cb,.bool b)=>Bool.rec (Bool.rec none (some (.bool b)) cb) (Bool.rec none (some (.bool a)) ca) c
 |_,_,_=>none
def MK(P:ff)(fr:Fr)(s:St)(T:fp)(x:fg):Option V:=match BO fr x with
 |some p=>match A8 s p with
  |some cs=>BJ P T cs
  |none=>none
 |none=>none
def xFA(P:ff)(fr:Fr)(T:fp)(x:fg)(f:Nat):Option V:=match BO fr x with
 |some p=>CQ P T p f
 |none=>none
def rT(P:ff)(fr:Fr)(op:BinOp)(T:fp)(x y:fg):Option V:=match BO fr x,BO fr y with
 |some a,some b=>FQ P op T a b
 |_,_=>none
def RS(P:ff)(fr:Fr)(T:fp)(ps:List (Nat×fg)):Option V:=match CT (BO fr) ps with
 |some l=>CJ P T l
 |none=>none
def NO(P:ff)(fr:Fr)(T:fp)(n:Nat)(ps:List (Nat×fg)):Option V:=match CT (BO fr) ps with
 |some l=>BR P T n l
 |none=>none
def rU(P:ff)(o:fc)(fr:Fr)(s:St):Option V:=match o.op with
 |.move x=>BO fr x
 |.assign x=>BO fr x
 |.load T x=>MK P fr s T x
 |.fieldAddr T x f=>xFA P fr T x f
 |.binOp op T x y _=>rT P fr op T x y
 |.pick c a b=>nR fr c a b
 |.build T ps=>RS P fr T ps.toList
 |.buildSlice T n ps=>NO P fr T n ps.toList
 |.call { callee:=.builtin .append,args,argTypes }=>appS P true o args argTypes fr
 |_=>H1 P o s (BO fr)
theorem NP{o:fc}{v:V}(h:rU P o fr s=some v):ES P true o fr s=some v:=by
 unfold rU at h;unfold ES;split at h<;>rename_i ho
 ·simp only[ho,H1,<-EO];exact h
 ·simp only[ho,H1,<-EO];exact h
 ·unfold MK at h;split at h
  ·rename_i p e1;split at h
   ·rename_i cs e2;simp only[ho,H1,<-EO,e1,e2,bg];exact h
   ·cases h
  ·cases h
 ·unfold xFA at h;split at h
  ·rename_i p e1;simp only[ho,H1,<-EO,e1,bg];exact h
  ·cases h
 ·unfold rT at h;split at h
  ·rename_i a b e1 e2;simp only[ho,H1,<-EO,e1,e2,bg];exact h
  ·cases h
 ·unfold nR at h;simp only[AJ3]at h;split at h
  ·rename_i c ca a cb b e1 e2 e3;rw[C9]at e1;simp only[ho,e1,e2,e3];cases c with
   |true=>
    cases ca with
    |false=>cases h
    |true=>cases h;simp
   |false=>
    cases cb with
    |false=>cases h
    |true=>cases h;simp
  ·cases h
 ·unfold RS at h;split at h
  ·rename_i l e1;simp only[ho,<-EO,e1,bg];exact h
  ·cases h
 ·unfold NO at h;split at h
  ·rename_i l e1;simp only[ho,<-EO,e1,bg];exact h
  ·cases h
 ·simp only[ho];exact h
 ·rw[EO]at h;split
  ·rename_i ho';rw[H1,ho']at h;cases h
  ·rename_i ho';rw[H1,ho']at h;cases h
  ·rename_i ho';rw[H1,ho']at h;cases h
  ·rename_i ho';rw[H1,ho']at h;cases h
  ·exact h
theorem G7{α:Type}{b:Bool}{x y:α}(h:(Bool.rec none (some x) b:Option α)=some y):b=true/\x=y:=by
 cases b with
 |false=>cases h
 |true=>exact⟨rfl,cm.inj h⟩
theorem DI{α:Type}{b:Bool}{x:Option α}{y:α}(h:(Bool.rec none x b:Option α)=some y):b=true/\x=some y:=by
 cases b with
 |false=>cases h
 |true=>exact⟨rfl,h⟩
theorem QF{st:XS}(h:Bd st){v:V}{ys:List (List V)}(hv:Q7 st.c v)(he:elemsOf st.s v=some ys)(σ σ':Nat->Nat)(δ:Nat)(ha:AO st.c σ σ'):ys.map (br (V.ren σ δ))=ys.map (br (V.ren σ' δ)):=by have h1:=FU (σ:=σ) (pre:=bh δ []) he;have h2:=FU (σ:=σ') (pre:=bh δ []) he;rw[h.s σ σ' _ ha,hv σ σ' _ ha,h2]at h1;have:=cm.inj h1;rw[bn]at this;exact this.symm
theorem ET(ys:List (List V))(m:Nat):(ys.map (br (V.ren σ δ))).all (fun y=>y.length==m)=ys.all (fun y=>y.length==m):=by rw[fk];congr 1;funext y;simp
def eZ(P:ff)(d:Tmp)(e:fp)(ys:List (List V))(st:XS)(xv:V):Option (XS×Nat×Nat):=match xv with
 |.vec l q γ n=>match OY n ys (st.s.get l q)with
  |some (γ',.vec W es)=>Bool.rec none (some (⟨st.c+1,(d,true,.vec l q st.c (es++ys).length)::st.fr,st.s.put l q st.c (.vec e (es++ys))⟩,l,q))
    (bf γ' γ&&bf W e&&bf n es.length&&es.all (fun y=>y.length==P.cellsOf e)&&CL P e es.length ys)
  |_=>none
 |_=>none
def xAppG(el:St->V->Option (List (List V)))(P:ff)(d:Option Tmp)(args:List fg)(Ts:List fp)(st:XS):Option (XS×Nat×Nat):=match args,Ts,d with
 | [x,y],[T,U],some d=>Bool.rec none (match BK P T with
  |some (none,e)=>match BO st.fr x,BO st.fr y with
   |some xv,some yv=>match el st.s yv with
    |some ys=>match H4 xv ys with
     |some es=>Bool.rec none (some (⟨st.c+1,(d,true,.vec st.s.up.length d st.c (es++ys).length)::st.fr,st.s.put st.s.up.length d st.c (.vec e (es++ys))⟩,st.s.up.length,d)) (es.all (fun y=>y.length==P.cellsOf e)&&CL P e es.length ys)
     |none=>eZ P d e ys st xv
    |none=>none
   |_,_=>none
  | _=>none) (bf T U)
 |_,_,_=>none
theorem xJ(v:V):U2 (v.ren σ δ)=U2 v:=by
 cases v with
 |list f es=>cases f<;>cases es<;>simp[U2]
 |_=>simp[U2]
theorem fA(v:V)(ys:List (List V)):H4 (v.ren σ δ) (ys.map (br (V.ren σ δ)))=(H4 v ys).map (br (br (V.ren σ δ))):=by
 cases v with
 |list f es=>cases f<;>cases es<;>cases ys<;>simp[H4]
 |_=>simp[H4]
theorem jW{v:V}{es ys:List (List V)}(h:H4 v ys=some es):elemsOf s v=some es:=by unfold H4 at h;split at h<;>cases h<;>rfl
theorem YV{e:fp}{n:Nat}(ys:List (List V)):CL P e n (ys.map (br (V.ren σ δ)))=CL P e n ys:=by unfold CL;rw[ET,bp]
theorem xK{n:Nat}(ys es:List (List V)):aJ n (ys.map (br (V.ren σ δ))) (es.map (br (V.ren σ δ)))=(aJ n ys es).map (br (V.ren σ δ)):=by
 cases ys with
 |nil=>rfl
 |cons y ys=>
  show(if _ then _ else _)=(if _ then _ else _:List (List V)).map _
  have e:(es.map (br (V.ren σ δ))).all (fun x=>x.length==(y.map (V.ren σ δ)).length)=es.all (fun x=>x.length==y.length):=by rw[fk,bp];congr 1;funext x;simp
  rw[e]
  split
  ·rw[cj]
  ·rfl
theorem fB{n γ:Nat}{ys es:List (List V)}{U:fp}{o:Option (Nat×AY)}(h:OY n ys o=some (γ,.vec U es)):OY n (ys.map (br (V.ren σ δ))) (o.map fun p=>(σ p.1,p.2.ren σ δ))=some (σ γ,.vec U (es.map (br (V.ren σ δ)))):=by obtain⟨es0,rfl,rfl⟩:=NH h;show some (σ γ,AY.vec U (aJ n _ _))=_;rw[xK]
theorem V1{el:St->V->Option (List (List V))}(hel0:∀s v es,el s v=some es->elemsOf s v=some es){o:fc}{args:Array fg}{Ts:Array fp}{st st':XS}{l q:Nat}(h:Bd st)(ho:o.op=.call { callee:=.builtin .append,args:=args,argTypes:=Ts })
  (hx:xAppG el P o.dst args.toList Ts.toList st=some (st',l,q)):∃d r,o.dst=some d/\xX r=true/\st'=⟨st.c+1,(d,true,F8 r l q st.c)::st.fr,st.s.put l q st.c r⟩/\(∀σ σ' δ,AO st.c σ σ'->r.ren σ δ=r.ren σ' δ) /\
   (∀(σ:Nat->Nat) (pre:List AB) (k:Fr->St->Prop),(∀γ,k ((st.fr.ren σ pre.length).put d true (F8 (r.ren σ pre.length) (l+pre.length) q γ)) ((st.s.emb σ pre).put (l+pre.length) q γ (r.ren σ pre.length)))->DO P true o (st.fr.ren σ pre.length) (st.s.emb σ pre) k) /\
   (∀(W:AG) (σ:Nat->Nat) (pre:List AB),sealD o.dst=false->(∀p∈G9 (BO st.fr) args.toList,p∉W)->S8 P o (st.fr.ren σ pre.length) ((st.s.emb σ pre).hide (UA pre.length W)) (st.s.emb σ pre)=some (l+pre.length,q,r.ren σ pre.length)):=by
 unfold xAppG at hx
 split at hx
 ·rename_i x y T U d ha hT hd;obtain⟨hTU,hx2⟩:=DI hx;clear hx;have hTU:=bj hTU;subst hTU;have hx:=hx2;clear hx2;split at hx
  ·rename_i e hel;split at hx
   ·rename_i xv yv h1 h2;split at hx
    ·rename_i ys hys0;have hys:=hel0 _ _ _ hys0;have hyb:=QF h (h.rd h2) hys;have r1:=h1;have r2:=h2;rw[C9]at r1 r2;have hys2:∀(W:AG) (σ:Nat->Nat) (pre:List AB),(∀p∈G9 (BO st.fr) args.toList,p∉W)->elemsOf ((st.s.emb σ pre).hide (UA pre.length W)) (yv.ren σ pre.length)=some (ys.map (br (V.ren σ pre.length))):=fun W σ pre hW=>by refine bE (FU hys) ?_;rw[ha]at hW;simp only[G9,h2]at hW;have:=fN (δ:=pre.length) hW;rw[<-K8 (σ:=σ)]at this;exact this
     cases hn:H4 xv ys with
     |some es=>
      rw[hn]at hx
      obtain⟨hc,he⟩:=G7 hx
      simp only[fx.injEq]at he
      obtain⟨rfl,rfl,rfl⟩:=he
      simp only[bc]at hc
      obtain⟨hce,hc⟩:=hc
      have heb:=QF h (h.rd h1) (jW hn)
      refine⟨d,.vec e (es++ys),hd,rfl,rfl,fun σ σ' δ hag=>by simp only[AY.ren,bx,hyb σ σ' δ hag,heb σ σ' δ hag],fun σ pre k hk=>?_,fun W σ pre hsd hW=>?_⟩
      ·have hc':=hc;simp only[CL,bc,fj,dc]at hc;obtain⟨⟨⟨⟨c1,c2⟩,c3⟩,c4⟩,c5⟩:=hc;unfold DO;simp only[ho,ha,hT,hd,hel,CN,r1,r2,bz,bg,FU hys,fA,hn,true_and];refine .inr ⟨c1,c2,by rw[ET];exact hce,by rw[ET];exact c3,by simpa using c4,by simpa using c5,fun γ=>?_⟩;have:=hk γ;simp only[F8,AY.ren]at this;rw[CM,<-bx];exact this
      ·unfold S8;simp only[ho,ha,hT,hd,hel,CN,r1,r2,bz,bg,hys2 _ _ _ hW,fA,hn,hd▸hsd,and_self,if_true,CM,AY.ren];rw[if_pos ⟨by rw[ET];exact hce,by rw[YV,bp];exact hc⟩,bx]
     |none=>
      rw[hn]at hx
      replace hx:eZ P d e ys st xv=some (st',l,q):=hx
      unfold eZ at hx
      split at hx
      ·rename_i l0 q0 γ0 n';split at hx
       ·rename_i γ' W es hg;obtain⟨hc,he⟩:=G7 hx;simp only[fx.injEq]at he;obtain⟨rfl,rfl,rfl⟩:=he;simp only[bc]at hc;obtain⟨⟨⟨⟨c1,c2⟩,c3⟩,c6⟩,c7⟩:=hc;have c1:=bj c1;have c2:=bj c2;have c3:=bj c3;subst c1;subst c2;subst c3;have heb:∀σ σ' δ,AO st.c σ σ'->es.map (br (V.ren σ δ))=es.map (br (V.ren σ' δ)):=fun σ σ' δ ha=>by
         obtain⟨es0,hg0,e0⟩:=NH hg;have:=K6 h hg0 σ σ' δ ha;have e1:es0.map (br (V.ren σ δ))=es0.map (br (V.ren σ' δ)):=by simpa [AY.ren]using this
         rcases RC es.length ys es0 with e2|⟨e2,_⟩
         ·rw[e0,e2,e1]
         ·rw[e0,e2,cj,cj,e1]
        refine⟨d,.vec W (es++ys),hd,rfl,rfl,fun σ σ' δ hag=>by simp only[AY.ren,bx,hyb σ σ' δ hag,heb σ σ' δ hag],fun σ pre k hk=>?_,fun W σ pre hsd hW=>?_⟩
        ·simp only[CL,bc,fj,dc]at c7;obtain⟨⟨⟨⟨d1,d2⟩,d3⟩,d4⟩,d5⟩:=c7;have hnn:H4 (V.vec (l0+pre.length) q0 (σ γ') es.length) (ys.map (br (V.ren σ pre.length)))=none:=rfl;unfold DO;simp only[ho,ha,hT,hd,hel,CN,r1,r2,bz,bg,FU hys,GF,BL,fB hg,true_and,hnn];refine .inr ⟨by simp,d1,d2,by rw[ET];exact c6,by rw[ET];exact d3,by simpa using d4,by simpa using d5,fun γ=>?_⟩;have:=hk γ;simp only[F8,AY.ren,bx,ck,bp]at this|-;exact this
        ·have hnn:H4 (V.vec (l0+pre.length) q0 (σ γ') es.length) (ys.map (br (V.ren σ pre.length)))=none:=rfl;unfold S8;simp only[ho,ha,hT,hd,hel,CN,r1,r2,bz,bg,hys2 _ _ _ hW,GF,BL,fB hg,hnn,hd▸hsd,and_self,if_true];rw[if_pos ⟨trivial,trivial,by simp,by rw[ET];exact c6,by rw[YV,bp];exact c7⟩];simp only[AY.ren,bx]
       ·cases hx
      ·cases hx
    ·cases hx
   ·cases hx
  ·cases hx
 ·cases hx
theorem V2{st:XS}(h:Bd st){d l q:Nat}{r:AY}(hp:xX r=true)(hr:∀σ σ' δ,AO st.c σ σ'->r.ren σ δ=r.ren σ' δ):HF st ⟨st.c+1,(d,true,F8 r l q st.c)::st.fr,st.s.put l q st.c r⟩:=by
 have hb:∀σ σ',AO (st.c+1) σ σ'->AO st.c σ σ':=fun σ σ' ha=>ha.mono (dn _);refine⟨dn _,⟨fun σ σ' δ ha=>?_,fun σ σ' pre ha=>?_,h.lp.put (R0 hp)⟩,St.put_len _ _ _ _ _⟩
 ·show((st.fr.put d true (F8 r l q st.c)).ren σ δ)=((st.fr.put d true (F8 r l q st.c)).ren σ' δ);have e:∀σ:Nat->Nat,(F8 r l q st.c).ren σ δ=F8 (r.ren σ δ) (l+δ) q (σ st.c):=fun σ=>by cases r<;>simp[F8,AY.ren]
  simp only[GJ,e];rw[h.f σ σ' δ (hb _ _ ha),ha st.c (cq _),hr σ σ' δ (hb _ _ ha)]
 ·simp only[B7];rw[h.s σ σ' pre (hb _ _ ha),hr σ σ' _ (hb _ _ ha),ha st.c (cq _)]
theorem fC(r:AY)(l q γ:Nat):(F8 r l q γ).ren σ δ=F8 (r.ren σ δ) (l+δ) q (σ γ):=by cases r<;>simp[F8,AY.ren]
theorem jX{st:XS}(h:Bd st){d l q:Nat}{r:AY}(hr:∀σ σ' δ,AO st.c σ σ'->r.ren σ δ=r.ren σ' δ){σ:Nat->Nat}{pre:List AB}{k:Fr->St->Prop}
  (hk:∀σ',AO st.c σ σ'->k (Fr.ren σ' pre.length ((d,true,F8 r l q st.c)::st.fr)) ((st.s.put l q st.c r).emb σ' pre)) (γ:Nat):k ((st.fr.ren σ pre.length).put d true (F8 (r.ren σ pre.length) (l+pre.length) q γ)) ((st.s.emb σ pre).put (l+pre.length) q γ (r.ren σ pre.length)):=by
 have:=hk (fun i=>if i=st.c then γ else σ i) (AO.upd _ _ _)
 have hag:=AO.upd st.c γ σ
 change k ((st.fr.put d true _).ren _ _) _ at this
 simp only[GJ,fC,if_true,B7]at this
 rw[<-h.f _ _ _ hag,<-h.s _ _ _ hag,<-hr _ _ _ hag]at this
 exact this
theorem nS(r:Mk)(l k γ:Nat):(r.val l k γ).ren σ δ=Mk.val ⟨r.res.ren σ δ,r.t⟩ (l+δ) k (σ γ):=by
 obtain⟨r,t⟩:=r;cases t with
 |none=>exact fC _ _ _ _
 |some t=>exact KZ t
theorem rV{st:XS}(h:Bd st){d l q:Nat}{r:Mk}(hp:xX r.res=true)(hr:∀σ σ' δ,AO st.c σ σ'->r.res.ren σ δ=r.res.ren σ' δ):HF st ⟨st.c+1,(d,true,r.val l q st.c)::st.fr,st.s.put l q st.c r.res⟩:=by
 have hb:∀σ σ',AO (st.c+1) σ σ'->AO st.c σ σ':=fun σ σ' ha=>ha.mono (dn _);refine⟨dn _,⟨fun σ σ' δ ha=>?_,fun σ σ' pre ha=>?_,h.lp.put (R0 hp)⟩,St.put_len _ _ _ _ _⟩
 ·show((st.fr.put d true (r.val l q st.c)).ren σ δ)=((st.fr.put d true (r.val l q st.c)).ren σ' δ);simp only[GJ,nS];rw[h.f σ σ' δ (hb _ _ ha),ha st.c (cq _),hr σ σ' δ (hb _ _ ha)]
 ·simp only[B7];rw[h.s σ σ' pre (hb _ _ ha),hr σ σ' _ (hb _ _ ha),ha st.c (cq _)]
theorem AC9{st:XS}(h:Bd st){d l q:Nat}{r:Mk}(hr:∀σ δ,r.res.ren σ δ=r.res){σ:Nat->Nat}{pre:List AB}{k:Fr->St->Prop}
  (hk:∀σ',AO st.c σ σ'->k (Fr.ren σ' pre.length ((d,true,r.val l q st.c)::st.fr)) ((st.s.put l q st.c r.res).emb σ' pre)) (γ:Nat):k ((st.fr.ren σ pre.length).put d true (r.val (l+pre.length) q γ)) ((st.s.emb σ pre).put (l+pre.length) q γ r.res):=by
 have:=hk (fun i=>if i=st.c then γ else σ i) (AO.upd _ _ _)
 have hag:=AO.upd st.c γ σ
 change k ((st.fr.put d true _).ren _ _) _ at this
 simp only[GJ,nS,if_true,B7,hr]at this
 rw[<-h.f _ _ _ hag,<-h.s _ _ _ hag]at this
 exact this
def xAppend(P:ff)(d:Option Tmp)(args:List fg)(Ts:List fp)(st:XS):Option XS:=match xAppG elemsOf P d args Ts st with
 |some (st',_,_)=>some st'
 |none=>none
theorem jY{o:fc}{args:Array fg}{Ts:Array fp}{st st':XS}(h:Bd st)(ho:o.op=.call { callee:=.builtin .append,args:=args,argTypes:=Ts })(hx:xAppend P o.dst args.toList Ts.toList st=some st'):StepX P o st st':=by
 unfold xAppend at hx;split at hx
 ·rename_i st1 l q e1;cases hx;obtain⟨d,r,hd,hp,rfl,hr,hs,_⟩:=V1 (fun _ _ _ h=>h) h ho e1;exact⟨V2 h hp hr,fun σ pre k hk=>hs σ pre k fun γ=>jX h hr hk γ⟩
 ·cases hx
def nT(P:ff)(d:Option Tmp)(args:List fg)(Ts:List fp)(st:XS):Option XS:=match args,Ts with
 |[x,y],[T,_]=>match BK P T,BO st.fr x,BO st.fr y with
  |some (none,e),some (.vtl l q γ i n),some yv=>match st.s.get l q,elemsOf st.s yv with
   |some (γ',.box cs),some ys=>Bool.rec none (some { st with fr:=putD st.fr d true (.int .i64 ((min ys.length n:Nat):Int)),s:=st.s.put l q γ (.box (AZ cs i (ys.take n).flatten)) }) (bf γ' γ&&bf (P.cellsOf e) 1&&ys.all (fun y=>y.length==1)&&fq (i+n) cs.length&&dt γ st.c)
   |_,_=>none
  |_,_,_=>none
 |_,_=>none
theorem xL{o:fc}{args:Array fg}{Ts:Array fp}{st st':XS}(h:Bd st)(ho:o.op=.call { callee:=.builtin .copy,args:=args,argTypes:=Ts })(hx:nT P o.dst args.toList Ts.toList st=some st'):StepX P o st st':=by
 unfold nT at hx;split at hx
 ·rename_i x y T U ha hT;split at hx
  ·rename_i e l q γ i n yv hel h1 h2;split at hx
   ·rename_i γ' cs ys hg hys;cases hb:(bf γ' γ&&bf (P.cellsOf e) 1&&ys.all (fun y=>y.length==1)&&fq (i+n) cs.length&&dt γ st.c)with
    |false=>rw[hb]at hx;cases hx
    |true=>
     rw[hb]at hx
     cases hx
     simp only[bc,fj,dc]at hb
     obtain⟨⟨⟨⟨c1,c2⟩,c3⟩,c4⟩,c5⟩:=hb
     have c1:=bj c1
     have c2:=bj c2
     subst c1
     have hB:Bd { st with s:=st.s.put l q γ' (.box (AZ cs i (ys.take n).flatten)) }:=h.putS c5 fun σ σ' δ ha=>by have hr:=K6 h hg σ σ' δ ha;have he:=QF h (h.rd h2) hys σ σ' δ ha;simp only[AY.ren,AY.box.injEq]at hr|-;rw[<-CR,<-CR,hr,dk,dk,cj,cj,he]
     refine⟨⟨bt _,hB.putF (fun _ _ _ _=>rfl),St.put_len _ _ _ _ _⟩,fun σ pre k hk=>?_⟩
     have:=hk σ (AO.refl _ _)
     rw[C9]at h1 h2
     unfold DO
     simp only[ho,ha,hT,hel,CN,h1,h2,bz,T7,bg,FU hys,BL,hg,AY.ren]
     refine⟨trivial,trivial,c2,?_,by simpa using c4,?_⟩
     ·rw[fk];exact c3▸(by congr 1;funext x;simp)
     ·simp only[ED,DN,B7,AY.ren,<-CR,dk,cj]at this;simpa only[bp]using this
   ·cases hx
  ·cases hx
 ·cases hx
end Go.Pg
namespace Go.Pg
variable {P:ff}{Ω:F9 P}{σ σ':Nat->Nat}{δ:Nat}{pre:List AB}{s:St}{fr:Fr}{g:Bool}
def DU{α β:Type}(f:α->Option β):List α->Option (List β)
 |[]=>some []
 |x::l=>match f x with
  |some y=>match DU f l with
   |some r=>some (y::r)
   |none=>none
  |none=>none
theorem JJ{α β:Type}(f:α->Option β):∀(l:List α),DU f l=l.mapM f
 |[]=>rfl
 |x::l=>by
  simp only[DU,List.mapM_cons,<-JJ f l];cases f x with
  |none=>rfl
  |some y=>cases DU f l<;>rfl
abbrev CF:=fh->List V->XS->Option (V×XS)
abbrev CY:=Nat->Nat->Nat->List V->XS->Option (V×XS)
abbrev CF0:=fh->List V->Option V
abbrev rW:=fh->List V->Tmp->Option Mk
structure XE where
 cf:CF
 cy:CY
 c0:CF0
 co:rW
 lit:Tmp->Bool
def YW(P:ff)(cf:CF):Prop:=∀f args st r st',cf f args st=some (r,st')->Bd st->(∀v∈args,Q7 st.c v)->HF st st'/\Q7 st'.c r/\st'.fr=st.fr /\
 ∀(σ:Nat->Nat) (pre:List AB) (K:V->St->Prop),(∀σ',AO st.c σ σ'->K (r.ren σ' pre.length) (st'.s.emb σ' pre))->DG P f (args.map (V.ren σ pre.length)) (st.s.emb σ pre) K
def AJ4(P:ff)(cy:CY):Prop:=∀l q γ vs st r st',cy l q γ vs st=some (r,st')->Bd st->(∀v∈vs,Q7 st.c v)->HF st st'/\Q7 st'.c r/\st'.fr=st.fr /\
 ∃fr0 ps asg body N,st.s.get l q=some (γ,.loop fr0 ps asg body N .ready)/\∀(σ:Nat->Nat) (pre:List AB) (k:V->St->Prop),(∀σ',AO st.c σ σ'->k (r.ren σ' pre.length) (st'.s.emb σ' pre)) ->
  U1 P (l+pre.length) q (σ γ) (Fr.ren σ pre.length fr0) ps asg body N (vs.map (V.ren σ pre.length)) (st.s.emb σ pre) k
def DZ(P:ff)(cf:CF0):Prop:=∀f args r,cf f args=some r->(∀s,DG P f args s fun r' s'=>r'=r/\s'=s)/\(∀v∈args,∀σ δ,v.ren σ δ=v)/\(∀σ δ,r.ren σ δ=r)
def jZ(P:ff)(co:rW):Prop:=∀f args d r,co f args d=some r->(∀(s:St),DG P f args s fun v s'=>∃γ,v=r.val s.up.length d γ/\s'=s.put s.up.length d γ r.res) /\
 (∀v∈args,∀σ δ,v.ren σ δ=v)/\(∀σ δ,r.res.ren σ δ=r.res)/\xX r.res=true
structure IJ(P:ff)(E:XE):Prop where
 cf:YW P E.cf
 cy:AJ4 P E.cy
 c0:DZ P E.c0
 co:jZ P E.co
def IJ.tab{E:XE}(h:IJ P E)(own:fc->Bool):F9 P:=⟨own,E.co,fun f args d r hc=>(h.co f args d r hc).1⟩
def kB(cy:CY)(d:Option Tmp)(l q γ:Nat)(args:List fg)(st:XS):Option XS:=match DU (BO st.fr) args with
 |some vs=>match cy l q γ vs st with
  |some (r,st')=>some { st' with fr:=putD st'.fr d true r }
  |none=>none
 |none=>none
def QG(cf:CF)(cy:CY)(d:Option Tmp)(f:fg)(args:List fg)(st:XS):Option XS:=match BO st.fr f with
 |some (.fn fid first cap)=>match DU (BO st.fr) args with
  |some vs=>match cf fid ((first++vs++cap).map weakV) st with
   |some (r,st')=>some { st' with fr:=putD st'.fr d true r }
   |none=>none
  |none=>none
 |some (.yld l q γ)=>kB cy d l q γ args st
 |_=>none
def EA(co:rW)(d:Option Tmp)(f:fg)(args:List fg)(st:XS):Option XS:=match d,BO st.fr f with
 |some d,some (.fn fid first cap)=>match DU (BO st.fr) args with
  |some vs=>match co fid ((first++vs++cap).map weakV) d with
   |some r=>some ⟨st.c+1,(d,true,r.val st.s.up.length d st.c)::st.fr,st.s.put st.s.up.length d st.c r.res⟩
   |none=>none
  |none=>none
 |_,_=>none
def xVal(P:ff)(o:fc)(st:XS):Option XS:=match rU P o st.fr st.s with
 |some v=>some { st with fr:=putD st.fr o.dst true v }
 |none=>none
def OJ(E:XE)(own:Bool)(d:Option Tmp)(f:fg)(args:List fg)(st:XS):Option XS:=Bool.rec (QG E.cf E.cy d f args st) (match EA E.co d f args st with
 |some st'=>some st'
 | none=>QG E.cf E.cy d f args st) own
def AVF(P:ff)(E:XE)(own:fc->Bool)(o:fc)(c:Call)(st:XS):Option XS:=match c.callee with
 |.value f=>OJ E (own o) o.dst f c.args.toList st
 |.builtin .append=>Bool.rec (xAppend P o.dst c.args.toList c.argTypes.toList st) (xVal P o st) (sealD o.dst)
 |.builtin .clear=>bD P o.dst c.args.toList c.argTypes.toList st
 |.builtin .copy=>nT P o.dst c.args.toList c.argTypes.toList st
 |_=>xVal P o st
def OK(P:ff)(E:XE)(own:fc->Bool)(o:fc)(st:XS):Option XS:=match o.op with
 |.alloc T=>MP P o.dst T st
 |.box _ x=>fK o.dst x st
 |.makeMap _ r=>sD o.dst r st
 |.makeSlice T x y=>SU P o.dst T x y st
 |.store T x y=>HV P o.dst T x y st
 |.mapUpdate T x i y=>sE P o.dst T x i y st
 |.call c=>AVF P E own o c st
 |_=>xVal P o st
theorem aT{o:fc}{st st':XS}(h:Bd st)(hx:xVal P o st=some st'):StepX P o st st':=by
 unfold xVal at hx;split at hx
 ·rename_i v hv;cases hx;exact sC h (NP hv)
 ·cases hx
theorem T8{st:XS}(h:Bd st):∀{args:List fg} {vs:List V},DU (BO st.fr) args=some vs->∀v∈vs,Q7 st.c v
 |[],vs,e,v,hv=>by cases e;cases hv
 |x::l,vs,e,v,hv=>by
  simp only[DU]at e;split at e
  ·rename_i y hy;split at e
   ·rename_i r hr;cases e;rcases List.mem_cons.1 hv with rfl|hv
    ·exact h.rd hy
    ·exact T8 h hr v hv
   ·cases e
  ·cases e
theorem aU{c:Nat}{v:V}(h:Q7 c v):Q7 c (weakV v):=fun σ σ' δ ha=>by rw[<-RN,<-RN,h σ σ' δ ha]
theorem xM{c:Nat}{f:fh}{xs ys:List V}(h:Q7 c (.fn f xs ys)):(∀v∈xs,Q7 c v)/\(∀v∈ys,Q7 c v):=by
 refine⟨fun v hv σ σ' δ ha=>?_,fun v hv σ σ' δ ha=>?_⟩
 ·have:=h σ σ' δ ha;simp only[KY,V.fn.injEq]at this;exact cx.1 this.2.1 v hv
 ·have:=h σ σ' δ ha;simp only[KY,V.fn.injEq]at this;exact cx.1 this.2.2 v hv
theorem GH(l:List V):(l.map weakV).map (V.ren σ δ)=(l.map (V.ren σ δ)).map weakV:=by simp only[fw];congr 1;funext v;exact(RN v).symm
theorem YX{E:XE}(hE:IJ P E){own:fc->Bool}{o:fc}(hown:own o=true){f:fg}{args:Array fg}{Ts:Array fp}{st st':XS}(h:Bd st)(ho:o.op=.call { callee:=.value f,args:=args,argTypes:=Ts })(hx:EA E.co o.dst f args.toList st=some st'):bC P (hE.tab own) o st st':=by
 unfold EA at hx;split at hx
 ·rename_i d fid first cap hd hf;split at hx
  ·rename_i vs hvs;split at hx
   ·rename_i r hc;cases hx;obtain⟨_,hcl,hr,hpl⟩:=hE.co _ _ _ _ hc;refine⟨rV h hpl (fun σ σ' δ _=>by rw[hr,hr]),d,hd,fun σ pre k hk=>⟨r,?_,fun γ=>?_⟩⟩
    ·have hcd:GR true o (st.fr.ren σ pre.length)=some (fid,(first++vs++cap).map weakV):=by
      rw[JJ,EO]at hvs;rw[C9]at hf;simp only[GR,ho,HE,hf,bz,KY,GG hvs,cm.injEq,fx.injEq,true_and];have e:((first++vs++cap).map weakV).map (V.ren σ pre.length)=(first++vs++cap).map weakV:=by
       conv=>rhs;rw[<-cz ((first++vs++cap).map weakV)]
       exact bw fun v hv=>hcl v hv σ _
      rw[GH]at e;simpa only[bx]using e
     simp only[N9,ho,IJ.tab,hown,if_true,hcd,hd,hc]
    ·have:=AC9 h (d:=d) hr hk γ;rw[<-CM]at this;exact this
   ·cases hx
  ·cases hx
 ·cases hx
theorem fD{cf:CF}{cy:CY}(hcf:YW P cf)(hcy:AJ4 P cy){o:fc}{f:fg}{args:Array fg}{Ts:Array fp}{st st':XS}(h:Bd st)(ho:o.op=.call { callee:=.value f,args:=args,argTypes:=Ts })(hx:QG cf cy o.dst f args.toList st=some st'):StepX P o st st':=by
 unfold QG at hx;split at hx
 ·rename_i fid first cap hf;split at hx
  ·rename_i vs hvs;split at hx
   ·rename_i r st1 hr;cases hx;have b1:=xM (h.rd hf);have b2:=T8 h hvs;obtain⟨hE,hrb,hfr,hA⟩:=hcf _ _ _ _ _ hr h (fun v hv=>by
     obtain⟨u,hu,rfl⟩:=dp.1 hv;refine aU ?_;rcases df.1 hu with hu|hu
     ·rcases df.1 hu with hu|hu
      ·exact b1.1 u hu
      ·exact b2 u hu
     ·exact b1.2 u hu)
    refine⟨⟨hE.c,hE.bd.putF hrb,hE.n⟩,fun σ pre k hk=>?_⟩;rw[JJ,EO]at hvs;rw[C9]at hf;unfold DO;simp only[ho,HE,hf,bz,KY,GG hvs];refine .inl ⟨rfl,?_⟩;have:=hA σ pre (fun r s'=>k (putD (st.fr.ren σ pre.length) o.dst true r) s') fun σ' ha=>?_
    ·rw[GH]at this;simpa only[bx]using this
    ·have h1:=hk σ' ha;rw[ED,hfr,<-h.f σ σ' _ ha]at h1;exact h1
   ·cases hx
  ·cases hx
 ·rename_i l q γ hf;unfold kB at hx;split at hx
  ·rename_i vs hvs;split at hx
   ·rename_i r st1 hr;cases hx;obtain⟨hE,hrb,hfr,fr0,ps,asg,body,N,hget,hA⟩:=hcy _ _ _ _ _ _ _ hr h (T8 h hvs);refine⟨⟨hE.c,hE.bd.putF hrb,hE.n⟩,fun σ pre k hk=>?_⟩;rw[JJ,EO]at hvs;rw[C9]at hf;unfold DO;simp only[ho,HE,hf,bz,aR,GG hvs,BL,hget,AY.ren];refine⟨trivial,trivial,?_⟩;refine hA σ pre (fun r s'=>k (putD (st.fr.ren σ pre.length) o.dst true r) s') fun σ' ha=>?_;have h1:=hk σ' ha;rw[ED,hfr,<-h.f σ σ' _ ha]at h1;exact h1
   ·cases hx
  ·cases hx
 ·cases hx
theorem fE{E:XE}(hE:IJ P E){own:fc->Bool}{o:fc}{st st':XS}(h:Bd st)(hx:OK P E own o st=some st'):StepX P o st st':=by
 unfold OK at hx;split at hx
 ·rename_i T ho;exact(Y5 (Ω:=F9.nothing P) h ho hx).step
 ·rename_i T x ho;exact(nX (Ω:=F9.nothing P) h ho hx).step
 ·rename_i T r ho;exact(nY (Ω:=F9.nothing P) h ho hx).step
 ·rename_i T x y ho;exact(fL (Ω:=F9.nothing P) h ho hx).step
 ·rename_i T x y ho;exact Y6 h ho hx
 ·rename_i T x i y ho;exact ADJ h ho hx
 ·rename_i c ho;obtain⟨callee,args,Ts⟩:=c;unfold AVF at hx;split at hx
  ·rename_i f hc;have hc:callee=.value f:=hc;subst hc;unfold OJ at hx;cases hown:own o with
   |false=>rw[hown]at hx;exact fD hE.cf hE.cy h ho hx
   |true=>
    rw[hown]at hx
    have hx:(match EA E.co o.dst f args.toList st with
     |some st'=>some st'
     | none=>QG E.cf E.cy o.dst f args.toList st)=some st':=hx
    split at hx
    ·rename_i st1 h1;cases hx;exact(YX hE hown h ho h1).step
    ·exact fD hE.cf hE.cy h ho hx
  ·rename_i hc;have hc:callee=.builtin .append:=hc;subst hc;cases hsd:sealD o.dst with
   |false=>rw[hsd]at hx;exact jY h ho hx
   |true=>rw[hsd]at hx;exact aT h hx
  ·rename_i hc;have hc:callee=.builtin .clear:=hc;subst hc;exact sF h ho hx
  ·rename_i hc;have hc:callee=.builtin .copy:=hc;subst hc;exact xL h ho hx
  ·exact aT h hx
 ·exact aT h hx
def gdX(fr:Fr)(gd:Option (Tmp×Bool)):Option Bool:=match gd with
 |none=>some true
 |some (d,want)=>match EV fr d with
  |some (c,.bool b)=>some (c&&(b==want))
  |_=>none
theorem kD(gd:Option (Tmp×Bool)):gdX fr gd=N8 fr gd:=by
 cases gd with
 |none=>rfl
 |some p=>simp only[gdX,N8,FI];rfl
theorem K3{gd:Option (Tmp×Bool)}(h:N8 fr gd=some g):N8 (fr.ren σ δ) gd=some g:=by
 cases gd with
 |none=>exact h
 |some p=>
  simp only[N8]at h|-
  split at h
  ·rename_i c b e;simp only[Fr.get_ren,e,bz,J0];exact h
  ·cases h
def CD(d:Option Tmp)(st:XS):XS:={ st with fr:=putD st.fr d false (.bool false) }
def xN(P:ff)(lit:Tmp->Bool)(o:fc)(st:XS):Option XS:=match o.op,o.dst with
 | .buildSlice T _ _,some d=>Bool.rec none (match BK P T,rU P o st.fr st.s with
  |some (none,e),some (.list true (x::es))=>Bool.rec none (some ⟨st.c+1,(d,true,F8 (.vec e (x::es)) st.s.up.length d st.c)::st.fr,st.s.put st.s.up.length d st.c (.vec e (x::es))⟩) (fq (x::es).length maxLen)
  | _,_=>none) (lit d)
 |_,_=>none
theorem ADB{lit:Tmp->Bool}{o:fc}{st st':XS}(h:Bd st)(hx:xN P lit o st=some st'):HF st st' /\
  ∀(σ:Nat->Nat) (pre:List AB) (k:Fr->St->Prop),(∀σ',AO st.c σ σ'->k (st'.fr.ren σ' pre.length) (st'.s.emb σ' pre))->AVB P true o (st.fr.ren σ pre.length) (st.s.emb σ pre) k:=by
 unfold xN at hx
 split at hx
 ·rename_i T len parts d ho hd;obtain⟨_,hx⟩:=DI hx;split at hx
  ·rename_i e x es hel hv;obtain⟨hc,he⟩:=G7 hx;cases he;have hv:=NP hv;have hb:=QF h (h.val hv) (ys:=x::es) rfl;refine⟨V2 h rfl fun σ σ' δ ha=>by simp only[AY.ren,hb σ σ' δ ha],fun σ pre k hk=>?_⟩;have hv':=HN (σ:=σ) (pre:=pre) hv;unfold ES at hv';simp only[ho]at hv';obtain⟨ps,h1,h2⟩:=Option.bind_eq_some_iff.1 hv';rw[DH]at h2;refine⟨T,len,parts,d,e,_,ps,ho,rfl,hd,hel,h1,h2,by simp,by simpa [dc]using hc,fun γ=>?_⟩;have:=jX h (d:=d) (r:=.vec e (x::es)) (fun σ σ' δ ha=>by simp only[AY.ren,hb σ σ' δ ha]) hk γ;rw[CM];simpa only[F8,AY.ren]using this
  ·cases hx
 ·cases hx
def ADC(all:List fc)(t:Tmp):Bool:=all.any fun p=>match p.op,p.dst with
 |.call { callee:=.builtin .append,.. },some d=>bf d t
 |_,_=>false
def ML(all:List fc)(st:XS):List fg->Option XS
 |[]=>none
 |x::r=>match x with
  | .tmp t=>Bool.rec (ML all st r) (match EV st.fr t with
   |some (true,.vec l q γ n)=>match st.s.get l q with
    |some (γ',.vec _ es)=>Bool.rec none (some ⟨st.c,(t,true,.list false (es.take n))::st.fr,st.s.put l q γ .dead⟩) (bf γ' γ&&fq n es.length&&dt γ st.c)
    |_=>none
   | _=>none) (ADC all t)
  |_=>ML all st r
def TC(all:List fc):List fg->Option Tmp
 |[]=>none
 |x::r=>match x with
  |.tmp t=>cond (ADC all t) (some t) (TC all r)
  |_=>TC all r
def A5U(all:List fc)(t:Tmp):Bool:=all.any fun p=>match p.op,p.dst with
 |.makeMap ..,some d=>bf d t
 |_,_=>false
def AVG(all:List fc)(t:Tmp):Bool:=all.any fun p=>match p.op,p.dst with
 | .build _ parts,some d=>bf d t&&(bf parts.size 2&&parts.toList.any fun z=>match z.2 with
  |.tmp m=>A5U all m
  | _=>false)
 |_,_=>false
def A5V(all:List fc)(t:Tmp):Bool:=all.any fun p=>match p.op,p.dst with
 |.box _ x,some d=>bf d t&&match x with
  |.tmp b=>AVG all b
  |_=>false
 |_,_=>false
def XW(all:List fc):List fg->Option Tmp
 |[]=>none
 |x::r=>match x with
  |.tmp t=>cond (A5V all t) (some t) (XW all r)
  |_=>XW all r
def nU(all:List fc)(o:fc)(st:XS):Option XS:=match o.op with
 |.call c=>match c.callee with
  |.value _=>match TC all c.args.toList with
   |some _=>ML all st c.args.toList
   |none=>match XW all c.args.toList with
    |some t=>some (MR t st)
    |none=>none
  |_=>none
 |_=>none
theorem RT{all:List fc}{st st1:XS}(h:Bd st):∀{xs:List fg},ML all st xs=some st1->HF st st1 /\
  ∀(o:fc) (σ:Nat->Nat) (pre:List AB) (k:Fr->St->Prop),DO P true o (st1.fr.ren σ pre.length) (st1.s.emb σ pre) k->wS P true o (st.fr.ren σ pre.length) (st.s.emb σ pre) k
 |[],hx=>by cases hx
 |x::r,hx=>by
  unfold ML at hx;split at hx
  ·rename_i t;cases hA:ADC all t with
   |false=>rw[hA]at hx;exact RT h hx
   |true=>
    rw[hA]at hx
    have hx:(match EV st.fr t with
     |some (true,.vec l q γ n)=>match st.s.get l q with
      |some (γ',.vec _ es)=>Bool.rec none (some ⟨st.c,(t,true,.list false (es.take n))::st.fr,st.s.put l q γ .dead⟩) (bf γ' γ&&fq n es.length&&dt γ st.c)
      |_=>none
     | _=>none)=some st1:=hx
    split at hx
    ·rename_i l q γ n hg;split at hx
     ·rename_i γ' T es hs;obtain⟨hc,he⟩:=G7 hx;simp only[bc]at hc;obtain⟨⟨h1,h2⟩,h3⟩:=hc;have h1:=bj h1;have h2:n<=es.length:=by simpa [dc]using h2
      have h3:γ<st.c:=by simpa [fj]using h3
      subst h1;cases he;rw[FI]at hg;have hb:∀σ σ' δ,AO st.c σ σ'->es.map (br (V.ren σ δ))=es.map (br (V.ren σ' δ)):=fun σ σ' δ ha=>by have:=K6 h hs σ σ' δ ha;simpa [AY.ren]using this
      have hv:Q7 st.c (.list false (es.take n)):=fun σ σ' δ ha=>by simp only[DH,cj,hb σ σ' δ ha]
      have hbd:Bd ⟨st.c,(t,true,.list false (es.take n))::st.fr,st.s.put l q γ' .dead⟩:=(h.putS (l:=l) (k:=q) (r:=.dead) h3 (fun _ _ _ _=>rfl)).putF (d:=some t) (c:=true) hv;refine⟨⟨bt _,hbd,St.put_len _ _ _ _ _⟩,fun o σ pre k hk=>⟨rfl,_,_,ACZ (t:=t) (l:=l+pre.length) (q:=q) (γ:=σ γ') (m:=n) (T:=T) (es:=es.map (br (V.ren σ pre.length))) ?_ ?_ (by simpa using h2),?_⟩⟩
      ·rw[Fr.get_ren,hg];simp
      ·rw[BL,hs];simp[AY.ren]
      ·change DO P true o ((st.fr.put t true _).ren _ _) _ k at hk;simp only[GJ,DH,B7,AY.ren,cj]at hk;exact hk
     ·cases hx
    ·cases hx
  ·exact RT h hx
theorem xO{all:List fc}{o:fc}{st st1:XS}(h:Bd st)(hx:nU all o st=some st1):HF st st1 /\
  ∀(σ:Nat->Nat) (pre:List AB) (k:Fr->St->Prop),DO P true o (st1.fr.ren σ pre.length) (st1.s.emb σ pre) k->wS P true o (st.fr.ren σ pre.length) (st.s.emb σ pre) k:=by
 unfold nU at hx
 split at hx
 ·split at hx
  ·split at hx
   ·obtain⟨h1,h2⟩:=RT (P:=P) h hx;exact⟨h1,fun σ pre k=>h2 o σ pre k⟩
   ·split at hx
    ·cases hx;obtain⟨h1,h2⟩:=yK h;exact⟨h1,fun σ pre k hk=>⟨rfl,_,_,h2 σ pre,hk⟩⟩
    ·cases hx
  ·cases hx
 ·cases hx
def opX(P:ff)(E:XE)(all:List fc)(o:fc)(st:XS):Option XS:=match gdX st.fr (JS all o)with
 |some true=>match xN P E.lit o st with
  |some st'=>some st'
  |none=>match nU all o st with
   |some st1=>OK P E (CH all) o st1
   |none=>OK P E (CH all) o st
 |some false=>some (CD o.dst st)
 |none=>none
theorem YY{d:Option Tmp}{st:XS}(h:Bd st):HF st (CD d st):=⟨bt _,h.putF (fun σ σ' δ _=>by simp),rfl⟩
theorem xP{E:XE}(hE:IJ P E){all:List fc}{o:fc}{st st':XS}(h:Bd st)(hx:opX P E all o st=some st'):HF st st'/\∃g,(∀σ δ,N8 (st.fr.ren σ δ) (JS all o)=some g) /\
  ∀(σ:Nat->Nat) (pre:List AB) (k:Fr->St->Prop),(∀σ',AO st.c σ σ'->k (st'.fr.ren σ' pre.length) (st'.s.emb σ' pre))->P0 P g o (st.fr.ren σ pre.length) (st.s.emb σ pre) k:=by
 unfold opX at hx
 rw[kD]at hx
 split at hx
 ·rename_i hg;split at hx
  ·rename_i st1 hl;cases hx;obtain⟨h1,h2⟩:=ADB h hl;exact⟨h1,true,fun σ δ=>K3 hg,fun σ pre k hk=>.inr (.inr (.inl (h2 σ pre k hk)))⟩
  ·split at hx
   ·rename_i st1 ht;obtain⟨hE1,hs1⟩:=xO (P:=P) h ht;obtain⟨h1,h2⟩:=fE hE hE1.bd hx;exact⟨⟨dv hE1.c h1.c,h1.bd,h1.n.trans hE1.n⟩,true,fun σ δ=>K3 hg,fun σ pre k hk=>.inr (.inr (.inr (hs1 σ pre k (h2 σ pre k fun σ' ha=>hk σ' (ha.mono hE1.c)))))⟩
   ·obtain⟨h1,h2⟩:=fE hE h hx;exact⟨h1,true,fun σ δ=>K3 hg,fun σ pre k hk=>.inl (h2 σ pre k hk)⟩
 ·rename_i hg;cases hx;refine⟨YY h,false,fun σ δ=>K3 hg,fun σ pre k hk=>.inr (.inl ⟨rfl,.bool false,?_⟩)⟩;have:=hk σ (AO.refl _ _);simpa only[CD,ED,J0]using this
 ·cases hx
def aV(P:ff)(E:XE)(all:List fc):List fc->XS->Option XS
 |[],st=>some st
 |o::r,st=>match opX P E all o st with
  |some st'=>aV P E all r st'
  |none=>none
theorem aW{E:XE}(hEE:IJ P E){all:List fc}:∀{l:List fc} {st st':XS},Bd st->aV P E all l st=some st'->HF st st' /\
  ∀(σ:Nat->Nat) (pre:List AB) (K:Fr->St->Prop),(∀σ',AO st.c σ σ'->K (st'.fr.ren σ' pre.length) (st'.s.emb σ' pre))->SI P (l.map (JS all)) l (st.fr.ren σ pre.length) (st.s.emb σ pre) K
 |[],st,st',h,hx=>by cases hx;exact⟨⟨bt _,h,rfl⟩,fun σ pre K hk=>hk σ (AO.refl _ _)⟩
 |o::l,st,st',h,hx=>by
  simp only[aV]at hx;split at hx
  ·rename_i st1 h1;obtain⟨hE,g,hg,hs⟩:=xP hEE h h1;obtain⟨hE',hs'⟩:=aW hEE hE.bd hx;refine⟨⟨dv hE.c hE'.c,hE'.bd,hE'.n.trans hE.n⟩,fun σ pre K hk=>?_⟩;simp only[dw,SI,hg];exact hs σ pre _ fun σ' ha=>hs' σ' pre K fun σ'' ha'=>hk σ'' (ha.trans ha' hE.c)
  ·cases hx
def EU(cf:CF0)(d:Option Tmp)(f:fg)(args:List fg)(st:XS):Option XS:=match BO st.fr f with
 |some (.fn fid first cap)=>match DU (BO st.fr) args with
  |some vs=>match cf fid ((first++vs++cap).map weakV)with
   |some r=>some { st with fr:=putD st.fr d true r }
   |none=>none
  |none=>none
 |_=>none
def ADD(co:rW)(d:Tmp)(f:fh)(γ n:Nat):Option (Nat×AY)->Option V
 | some (γ',.vec _ es)=>Bool.rec none (match co f [.list false (es.take n)] d with
  |some ⟨.vec _ es',none⟩=>Bool.rec none (some (.list false es')) (es'.all (·.all fR))
  | _=>none) (bf γ' γ&&(fq n es.length&&(es.take n).all (·.all (FC 8))))
 |_=>none
def kE(co:rW)(d:Option Tmp)(f:fh)(γ n:Nat)(o:Option (Nat×AY))(st:XS):Option XS:=match d with
 |some dd=>match ADD co dd f γ n o with
  |some v=>some { st with fr:=putD st.fr d true v }
  |none=>none
 |none=>none
def MM(c0:CF0)(co:rW)(d:Option Tmp)(f:fg)(args:List fg)(st:XS):Option XS:=match f,args with
 |.func fid,[x]=>match BO st.fr x with
  |some (.vec l q γ n)=>kE co d fid γ n (st.s.get l q) st
  |_=>EU c0 d f args st
 |_,_=>EU c0 d f args st
def noW(r:Option XS):Option (XS×AG):=match r with
 |some st=>some (st,[])
 |none=>none
def xAppD(P:ff)(d:Option Tmp)(args:List fg)(Ts:List fp)(st:XS):Option (XS×AG):=match xAppG elemsOf P d args Ts st with
 |some (st',l,q)=>some (st',[(l,q),(l,q+RK)])
 |none=>none
def AGH(P:ff)(E:XE)(own:fc->Bool)(o:fc)(c:Call)(st:XS):Option (XS×AG):=match c.callee with
 |.value f=>Bool.rec (noW (cond (E5 f) (MM E.c0 E.co o.dst f c.args.toList st) (EU E.c0 o.dst f c.args.toList st))) (noW (EA E.co o.dst f c.args.toList st)) (own o)
 |.builtin .append=>Bool.rec (xAppD P o.dst c.args.toList c.argTypes.toList st) (noW (xVal P o st)) (sealD o.dst)
 |_=>noW (xVal P o st)
def xQ(P:ff)(d:Option Tmp)(T:fp)(x y:fg)(st:XS):Option (XS×AG):=match HV P d T x y st with
 |some st'=>some (st',G8 (bf (P.cellsOf T) 1) (BO st.fr x))
 |none=>none
def aX(P:ff)(E:XE)(own:fc->Bool)(o:fc)(st:XS):Option (XS×AG):=match o.op with
 |.alloc T=>noW (MP P o.dst T st)
 |.box _ x=>noW (fK o.dst x st)
 |.makeMap _ r=>noW (sD o.dst r st)
 |.makeSlice T x y=>noW (SU P o.dst T x y st)
 |.store T x y=>xQ P o.dst T x y st
 |.call c=>AGH P E own o c st
 |_=>noW (xVal P o st)
def kF(P:ff)(E:XE)(all:List fc)(o:fc)(st:XS):Option (XS×AG):=match gdX st.fr (JS all o)with
 |some true=>aX P E (CH all) o st
 |some false=>Bool.rec (some (CD o.dst st,[])) none (kA (CH all) o||kW o||kP o)
 |none=>none
theorem FA{r:Option XS}{st':XS}{wr:AG}(h:noW r=some (st',wr)):r=some st'/\wr=[]:=by
 unfold noW at h;split at h
 ·cases h;exact⟨rfl,rfl⟩
 ·cases h
theorem rX{co:rW}{d:Option Tmp}{f:fh}{γ n:Nat}{x:Option (Nat×AY)}{st st':XS}(h:kE co d f γ n x st=some st'):∃dd v,d=some dd/\ADD co dd f γ n x=some v/\st'={ st with fr:=putD st.fr d true v }:=by
 unfold kE at h;split at h
 ·split at h
  ·rename_i dd _ v hv;cases h;exact⟨dd,v,rfl,hv,rfl⟩
  ·cases h
 ·cases h
theorem fF{c0:CF0}{co:rW}{d:Option Tmp}{f:fg}{args:List fg}{st st':XS}(h:MM c0 co d f args st=some st'):EU c0 d f args st=some st'\/∃fid x l q γ n,f=.func fid/\args=[x]/\BO st.fr x=some (.vec l q γ n)/\kE co d fid γ n (st.s.get l q) st=some st':=by
 unfold MM at h;split at h
 ·split at h
  ·rename_i x l q γ n hx;exact .inr ⟨_,_,l,q,γ,n,rfl,rfl,hx,h⟩
  ·exact .inl h
 ·exact .inl h
theorem rY{co:rW}{d:Tmp}{f:fh}{γ n:Nat}{x:Option (Nat×AY)}{v:V}(h:ADD co d f γ n x=some v):∃T0 es T es',x=some (γ,.vec T0 es)/\n<=es.length/\(es.take n).all (·.all (FC 8))=true/\co f [.list false (es.take n)] d=some ⟨.vec T es',none⟩/\es'.all (·.all fR)=true/\v=.list false es':=by
 unfold ADD at h;split at h
 ·rename_i γ' T0 es;obtain⟨hc,h⟩:=DI h;simp only[bc]at hc;split at h
  ·rename_i T es' hco;obtain⟨hc2,h⟩:=G7 h;cases h;exact⟨T0,es,T,es',by rw[bj hc.1],Nat.le_of_ble_eq_true hc.2.1,hc.2.2,hco,hc2,rfl⟩
  ·cases h
 ·cases h
theorem kG{es:List (List V)}(h:es.all (·.all fR)=true):FC 9 (.list false es)=true:=bq.2 fun e he=>bq.2 fun v hv=>by have:=bq.1 (bq.1 h e he) v hv;cases v<;>first|rfl|cases this
def ADE(P:ff)(Ω:F9 P)(all:List fc)(o:fc)(st st':XS)(wr:AG):Prop:=HF st st' /\
  ∀(W:AG) (σ:Nat->Nat) (pre:List AB) (k:Fr->St->Prop),(∀p∈DE P o (BO st.fr),p∉W)->(∀p∈wr,p∈W)->(∀σ',AO st.c σ σ'->k (st'.fr.ren σ' pre.length) (st'.s.emb σ' pre))->H2 P Ω (UA pre.length W) o (JS all o) (st.fr.ren σ pre.length) (st.s.emb σ pre) k
theorem ADF{E:XE}(hE:IJ P E){all:List fc}{o:fc}{st st':XS}{wr:AG}(h:Bd st)(hx:kF P E all o st=some (st',wr)):ADE P (hE.tab (CH all)) all o st st' wr:=by
 have val:∀{st'},(∀σ δ,N8 (st.fr.ren σ δ) (JS all o)=some true)->xVal P o st=some st'->ADE P (hE.tab (CH all)) all o st st' wr:=by
  intro st' hg hx;unfold xVal at hx;split at hx
  ·rename_i v hv;cases hx;have hv:=NP hv;refine⟨⟨bt _,h.putF (h.val hv),rfl⟩,fun W σ pre k hr _ hk=>.inl ⟨true,v.ren σ pre.length,⟨hg _ _,?_⟩,?_⟩⟩
   ·have hrd:∀p∈DE P o (DA true (st.fr.ren σ pre.length)),p∉UA pre.length W:=by rw[HE,kU,<-EO];exact fN hr
    cases hi:fM P o (DA true (st.fr.ren σ pre.length))with
    |true=>exact .inr (.inr (.inl (AKA (HN hv) hi hrd)))
    |false=>exact .inl ⟨_,K7 _,sG (HN hv) hi hrd⟩
   ·have:=hk σ (AO.refl _ _);rwa [ED]at this
  ·cases hx
 have new:∀{st'},(∀σ δ,N8 (st.fr.ren σ δ) (JS all o)=some true)->bC P (hE.tab (CH all)) o st st'->ADE P (hE.tab (CH all)) all o st st' wr:=by intro st' hg hn;obtain⟨h1,d,hd,h2⟩:=hn;refine⟨h1,fun W σ pre k _ _ hk=>?_⟩;obtain⟨r,hr,h3⟩:=h2 σ pre k hk;exact .inr (.inl ⟨r,d,⟨hg _ _,hd,hr⟩,h3⟩)
 unfold kF at hx;rw[kD]at hx;split at hx
 ·rename_i hg;have hg':∀σ δ,N8 (st.fr.ren σ δ) (JS all o)=some true:=fun σ δ=>K3 hg;unfold aX at hx;split at hx
  ·rename_i T ho;exact new hg' (Y5 h ho (FA hx).1)
  ·rename_i T x ho;exact new hg' (nX h ho (FA hx).1)
  ·rename_i T r ho;exact new hg' (nY h ho (FA hx).1)
  ·rename_i T x y ho;exact new hg' (fL h ho (FA hx).1)
  ·rename_i T x y ho;unfold xQ at hx;split at hx
   ·rename_i st1 hx1;cases hx;obtain⟨hE1,_⟩:=Y6 h ho hx1;obtain⟨l,q,γ,r,hD,rfl⟩:=xY ho hx1;refine⟨hE1,fun W σ pre k _ hw hk=>.inr (.inr (.inl ⟨_,_,_,_,⟨hg' _ _,?_,kN hD⟩,?_⟩))⟩
    ·have hp:=VH hD;unfold jM at hp;simp only[ho]at hp;have main:∀off,(DA true st.fr x=some (.ptr l q γ off)\/∃i,DA true st.fr x=some (.eptr l q γ i off))->WOK P (UA pre.length W) o (st.fr.ren σ pre.length) (l+pre.length) q:=by
      intro off hx;have hC:HU P o (st.fr.ren σ pre.length)=some (off,P.cellsOf T):=by unfold HU;rcases hx with hx|⟨i,hx⟩<;>simp only[ho,CN,hx,bz,GD,MH]
      cases hb:bf (P.cellsOf T) 1 with
      |true=>
       have h1:=bj hb
       have hpl:G8 (bf (P.cellsOf T) 1) (BO st.fr x)=[(l,q),(l,LV q off)]:=by rw[C9,hb];rcases hx with hx|⟨i,hx⟩<;>rw[hx]<;>rfl
       rw[hpl]at hw
       refine⟨JL.2 (hw _ (by simp)),.inr fun off' n' e c h2 h3=>?_⟩
       rw[hC]at e
       cases e
       obtain rfl:c=off:=by omega
       exact JL.2 (hw _ (by simp))
      |false=>
       have hpl:G8 (bf (P.cellsOf T) 1) (BO st.fr x)=[(l,q),(l,q+P6)]:=by rw[C9,hb];rcases hx with hx|⟨i,hx⟩<;>rw[hx]<;>rfl
       rw[hpl]at hw
       exact⟨JL.2 (hw _ (by simp)),.inl (JL.2 (hw _ (by simp)))⟩
     split at hp
     ·rename_i l1 q1 γ1 off e;cases hp;exact main off (.inl e)
     ·rename_i l1 q1 γ1 i off e;cases hp;exact main off (.inr ⟨i,e⟩)
     ·cases hp
    ·have:=hk σ (AO.refl _ _);simp only[B7]at this;exact this
   ·cases hx
  ·rename_i c ho;obtain⟨callee,args,Ts⟩:=c;unfold AGH at hx;split at hx
   ·rename_i f hc;have hc:callee=.value f:=hc;subst hc;cases hown:CH all o with
    |true=>
     rw[hown]at hx
     exact new hg' (YX hE hown h ho (FA hx).1)
    |false=>
     rw[hown]at hx
     have hx:=(FA hx).1
     have plain:∀{st'},EU E.c0 o.dst f args.toList st=some st'->ADE P (hE.tab (CH all)) all o st st' wr:=by
      intro st' hx;unfold EU at hx;split at hx
      ·rename_i fid first cap hf;split at hx
       ·rename_i vs hvs;split at hx
        ·rename_i r hr;cases hx;obtain⟨hA,hcl,hrc⟩:=hE.c0 _ _ _ hr;refine⟨⟨bt _,h.putF (fun σ σ' δ _=>by rw[hrc,hrc]),rfl⟩,fun W σ pre k _ _ hk=>.inl ⟨true,r,⟨hg' _ _,.inr (.inl ⟨fid,(first++vs++cap).map weakV,?_,hown,_,K7 _,fun _ s _=>hA s⟩)⟩,?_⟩⟩
         ·rw[JJ,EO]at hvs;rw[C9]at hf;simp only[GR,ho,HE,hf,bz,KY,GG hvs,cm.injEq,fx.injEq,true_and];have e:((first++vs++cap).map weakV).map (V.ren σ pre.length)=(first++vs++cap).map weakV:=by
           conv=>rhs;rw[<-cz ((first++vs++cap).map weakV)]
           exact bw fun v hv=>hcl v hv σ _
          rw[GH]at e;simpa only[bx]using e
         ·have:=hk σ (AO.refl _ _);rwa [ED,hrc]at this
        ·cases hx
       ·cases hx
      ·cases hx
     cases hrow:E5 f with
     |false=>rw[hrow]at hx;exact plain hx
     |true=>
      rw[hrow]at hx
      have hx:MM E.c0 E.co o.dst f args.toList st=some st':=hx
      rcases fF hx with hx|⟨fid,x,l,q,γ,n,rfl,e2,hxv,hx⟩
      ·exact plain hx
      ·obtain⟨dd,v,hd,hv,rfl⟩:=rX hx;obtain⟨T0,es,T,es',hget,hn,hpu,hco,hce,rfl⟩:=rY hv;obtain⟨hA,hcl,_,_⟩:=hE.co _ _ _ _ hco;have hren:∀σ δ,(V.list false es').ren σ δ=.list false es':=fun σ δ=>BP 9 _ (D8 9 _ (kG hce));have hesr:∀σ δ,((es.map (br (V.ren σ δ))).take n)=es.take n:=fun σ δ=>by
        rw[<-cj];conv=>rhs;rw[<-cz (es.take n)]
        refine bw fun e he=>?_;conv=>rhs;rw[id_eq,<-cz e]
        exact bw fun v hv=>BP 8 v (D8 8 v (bq.1 (bq.1 hpu e he) v hv))
       refine⟨⟨bt _,h.putF (fun σ σ' δ _=>by rw[hren,hren]),rfl⟩,fun W σ pre k hrd _ hk=>.inl ⟨true,.list false es',⟨hg' _ _,.inr (.inl ⟨fid,[.vec (l+pre.length) q (σ γ) n],?_,hown,_,K7 _,fun _ s hs=>?_⟩)⟩,?_⟩⟩
       ·have hxv':BO st.fr x=some (.vec l q γ n):=hxv;rw[C9]at hxv';have hvs:[x].mapM (DA true st.fr)=some [.vec l q γ n]:=by rw[List.mapM_cons,hxv'];rfl
        have hf:DA true st.fr (.func fid)=some (.fn fid [] []):=rfl;simp only[GR,ho,e2,HE,hf,bz,KY,GG hvs,cm.injEq,fx.injEq,true_and];rfl
       ·have hrr:DE P o (BO st.fr)=[(l,q)]:=by simp only[DE,ho,hrow,e2,cond_true,O7,hxv,DV]
        have hnW:(l+pre.length,q)∉UA pre.length W:=fun hc=>hrd (l,q) (by rw[hrr]; simp) (JL.1 hc);have hg2:s.get (l+pre.length) q=some (σ γ,.vec T0 (es.map (br (V.ren σ pre.length)))):=hs _ _ _ (by
         rw[St.get_hide hnW,BL,hget];rfl)
        exact yM hpu hce hA hg2 (hesr _ _) (by simpa using hn)
       ·have:=hk σ (AO.refl _ _);rwa [ED,hren]at this
   ·rename_i hc;have hc:callee=.builtin .append:=hc;subst hc;cases hsd:sealD o.dst with
    |true=>
     rw[hsd]at hx
     exact val hg' (FA hx).1
    |false=>
    rw[hsd]at hx;replace hx:xAppD P o.dst args.toList Ts.toList st=some (st',wr):=hx;unfold xAppD at hx;split at hx
    ·rename_i st1 l q e1;cases hx;obtain⟨d,r,hd,hp,rfl,hr,_,hs⟩:=V1 (fun _ _ _ h=>h) h ho e1;have hra:DE P o (BO st.fr)=G9 (BO st.fr) args.toList:=by simp only[DE,ho]
     refine⟨V2 h hp hr,fun W σ pre k hrd hw hk=>.inr (.inr (.inr ⟨l+pre.length,q,r.ren σ pre.length,d,⟨hg' _ _,⟨JL.2 (hw _ (by simp)),JL.2 (hw _ (by simp))⟩,hd,_,K7 _,hs W σ pre hsd (by rw[<-hra];exact hrd)⟩,fun γ=>jX h hr hk γ⟩))⟩
    ·cases hx
   ·exact val hg' (FA hx).1
  ·exact val hg' (FA hx).1
 ·rename_i hg;cases hk:(kA (CH all) o||kW o||kP o)with
  |true=>rw[hk]at hx;cases hx
  |false=>
   rw[hk]at hx
   cases hx
   rw[dg,dg]at hk
   refine⟨YY h,fun W σ pre k _ _ hk'=>.inl ⟨false,.bool false,⟨K3 hg,.inr (.inr (.inr ⟨rfl,hk.1.1,hk.1.2,hk.2⟩))⟩,?_⟩⟩
   have:=hk' σ (AO.refl _ _)
   simpa only[CD,ED,J0]using this
 ·cases hx
def phX(P:ff)(E:XE)(l:List fc):List Nat->XS->AG->AG->Option (XS×AG×AG)
 |[],st,rd,wr=>some (st,rd,wr)
 |i::r,st,rd,wr=>match l[i]? with
  |some o=>match kF P E l o st with
   |some (st',w)=>phX P E l r st' (cond (zB l o) [] (DE P o (BO st.fr))++rd) (w++wr)
   |none=>none
  |none=>none
def sqX(P:ff)(E:XE)(l:List fc):List Nat->XS->Option XS
 |[],st=>some st
 |i::r,st=>match l[i]? with
  |some o=>match opX P E l o st with
   |some st'=>sqX P E l r st'
   |none=>none
  |none=>none
def rZ(P:ff)(E:XE)(l:List fc):S9->XS->Option XS
 |[],st=>some st
 | p :: S,st=>Bool.rec none (match phX P E l p.1 st [] []with
  | some (st1,rd,wr)=>Bool.rec none (match sqX P E l p.2 st1 with
   |some F2=>rZ P E l S F2
   | none=>none) (wr.all fun p=>!(rd.contains p))
  | none=>none) (VU (CH l) l p.1 st.s.loc)
theorem T9{l:List fc}{i:Nat}{o:fc}(h:l[i]? = some o):XJ (l.map (JS l)) i=JS l o:=by simp[XJ,h]
theorem ADG{E:XE}{all:List fc}{o:fc}{st st':XS}{wr:AG}(ho:∃T x,o.op=.load T x)(hx:kF P E all o st=some (st',wr)):wr=[]:=by
 obtain⟨T,x,ho⟩:=ho;unfold kF at hx;split at hx
 ·unfold aX at hx;rw[ho]at hx;exact(FA hx).2
 ·cases hk:(kA (CH all) o||kW o||kP o)with
  |true=>rw[hk]at hx;cases hx
  |false=>rw[hk]at hx;exact(fx.inj (cm.inj hx)).2.symm
 ·cases hx
theorem xR{E:XE}(hEE:IJ P E){l:List fc}:∀{R:List Nat} {st st':XS} {rd wr rd' wr':AG},Bd st->phX P E l R st rd wr=some (st',rd',wr')->HF st st'/\(∀p∈rd,p∈rd')/\(∀p∈wr,p∈wr') /\
  ∀(W:AG) (σ:Nat->Nat) (pre:List AB) (K:Fr->St->Prop),(∀p∈rd',p∉W)->(∀p∈wr',p∈W)->(∀σ',AO st.c σ σ'->K (st'.fr.ren σ' pre.length) (st'.s.emb σ' pre))->OI P (hEE.tab (CH l)) (UA pre.length W) l (l.map (JS l)) R (st.fr.ren σ pre.length) (st.s.emb σ pre) K
 |[],st,st',rd,wr,rd',wr',h,hx=>by cases hx;exact⟨⟨bt _,h,rfl⟩,fun _ h=>h,fun _ h=>h,fun W σ pre K _ _ hk=>hk σ (AO.refl _ _)⟩
 |i::r,st,st',rd,wr,rd',wr',h,hx=>by
  simp only[phX]at hx;split at hx
  ·rename_i o ho;split at hx
   ·rename_i st1 w1 h1;obtain⟨hE,hs⟩:=ADF hEE h h1;obtain⟨hE',hr,hw,hs'⟩:=xR hEE hE.bd hx;refine⟨⟨dv hE.c hE'.c,hE'.bd,hE'.n.trans hE.n⟩,fun p hp=>hr p (dx _ hp),fun p hp=>hw p (dx _ hp),fun W σ pre K hrd hwr hk=>?_⟩;simp only[OI,LL,ho,T9 ho];cases hz:zB l o with
    |true=>
     have hw0:w1=[]:=ADG (AGD hz) h1
     subst hw0
     unfold wz
     rw[hz]
     exact hs [] σ pre _ (fun p _=>by simp) (fun p hp=>hp) fun σ' ha=>hs' W σ' pre K hrd hwr fun σ'' ha'=>hk σ'' (ha.trans ha' hE.c)
    |false=>
    rw[hz]at hr;unfold wz;rw[hz];exact hs W σ pre _ (fun p hp=>hrd p (hr p (dh _ hp))) (fun p hp=>hwr p (hw p (dh _ hp))) fun σ' ha=>hs' W σ' pre K hrd hwr fun σ'' ha'=>hk σ'' (ha.trans ha' hE.c)
   ·cases hx
  ·cases hx
theorem xS{E:XE}(hEE:IJ P E){l:List fc}:∀{R:List Nat} {st st':XS},Bd st->sqX P E l R st=some st'->HF st st' /\
  ∀(σ:Nat->Nat) (pre:List AB) (K:Fr->St->Prop),(∀σ',AO st.c σ σ'->K (st'.fr.ren σ' pre.length) (st'.s.emb σ' pre))->rK P l (l.map (JS l)) R (st.fr.ren σ pre.length) (st.s.emb σ pre) K
 |[],st,st',h,hx=>by cases hx;exact⟨⟨bt _,h,rfl⟩,fun σ pre K hk=>hk σ (AO.refl _ _)⟩
 |i::r,st,st',h,hx=>by
  simp only[sqX]at hx;split at hx
  ·rename_i o ho;split at hx
   ·rename_i st1 h1;obtain⟨hE,g,hg,hs⟩:=xP hEE h h1;obtain⟨hE',hs'⟩:=xS hEE hE.bd hx;refine⟨⟨dv hE.c hE'.c,hE'.bd,hE'.n.trans hE.n⟩,fun σ pre K hk=>?_⟩;simp only[rK,ho,T9 ho,hg];exact hs σ pre _ fun σ' ha=>hs' σ' pre K fun σ'' ha'=>hk σ'' (ha.trans ha' hE.c)
   ·cases hx
  ·cases hx
end Go.Pg
namespace Go.Pg
variable {P:ff}{σ σ':Nat->Nat}{δ:Nat}{pre:List AB}{s:St}{fr:Fr}{g:Bool}
def OL(ks:List Nat)(fr:Fr):Fr:=List.rec (motive:=fun _=>Fr) [] (fun k _ ih=>match EV fr k with
 |some (c,v)=>(k,c,v)::ih
 | none=>ih) ks
theorem V3(fr:Fr):∀(ks:List Nat),OL ks fr=MC ks fr
 |[]=>rfl
 |k::r=>by have:=V3 fr r;show(match EV fr k with|some (c,v)=>(k,c,v)::OL r fr|none=>OL r fr)=MC (k::r) fr;rw[this,FI];rfl
theorem RU:∀(ks:List Nat),MC ks (fr.ren σ δ)=(MC ks fr).ren σ δ
 |[]=>rfl
 |k::r=>by
  simp only[MC,Fr.get_ren,RU r];cases fr.get k with
  |none=>rfl
  |some p=>rfl
theorem RV{L:AB}:∀(ks:List Nat),HM ks (L.ren σ δ)=(HM ks L).ren σ δ
 |[]=>rfl
 |k::r=>by
  simp only[HM,AB.get_ren,RV r];cases L.get k with
  |none=>rfl
  |some p=>rfl
def QH:List Nat->List Nat->List Nat
 |acc,[]=>acc
 |acc,k::r=>QH (cond (acc.any (bf k)) acc (k::acc)) r
def O6(ks ls:List Nat)(st:XS):XS:=⟨st.c,OL ks st.fr,⟨st.s.up,HM ls st.s.loc⟩⟩
theorem xT{ks ls:List Nat}{st:XS}{l k:Nat}{x:Nat×AY}(h:(O6 ks ls st).s.get l k=some x):st.s.get l k=some x:=by
 unfold St.get O6 at h;unfold St.get;simp only at h;split at h
 ·rename_i e;rw[if_pos e];exact NJ h
 ·rename_i e;rw[if_neg e];exact h
theorem QI{ks ls:List Nat}{st:XS}(h:Bd st):HF st (O6 ks ls st):=by
 refine⟨bt _,⟨fun σ σ' δ ha=>?_,fun σ σ' pre ha=>?_,fun l k γ fr ps asg body N ls hg=>h.lp l k γ fr ps asg body N ls (xT hg)⟩,rfl⟩
 ·simp only[O6,V3,<-RU];rw[h.f σ σ' δ ha]
 ·have:=h.s σ σ' pre ha;simp only[St.emb,St.mk.injEq]at this;simp only[O6,St.emb,St.mk.injEq,<-RV];exact⟨this.1,by rw[this.2]⟩
theorem RW{n N:Nat}{ρ:Option Nat}{c:Code}{K:Exit->Fr->St->Prop}{ks ls:List Nat}{st:XS}(h:BA P n N ρ c K ((O6 ks ls st).fr.ren σ pre.length) ((O6 ks ls st).s.emb σ pre)):BA P n N ρ c K (st.fr.ren σ pre.length) (st.s.emb σ pre):=by
 refine rC ks ls ?_;have e2:(⟨(st.s.emb σ pre).up,HM ls (st.s.emb σ pre).loc⟩:St)=(O6 ks ls st).s.emb σ pre:=by simp only[O6,St.emb,RV]
 rw[RU,e2,<-V3];exact h
abbrev SR:=Code->XS->Option (Exit×XS)
def MN(P:ff)(E:XE)(l:List fc)(st:XS):Option XS:=rZ P E l (TF l) st
def AVH(P:ff)(E:XE)(l:List fc)(draw:Bool)(st:XS):Option XS:=Bool.rec (aV P E l l st)
 (match AJ9 l with
  |[]=>MN P E l st
  | ds=>MN P E l (O6 (QH [] (st.fr.map (·.1))) ((QH [] (st.s.loc.map (·.1))).filter fun k=>!(ds.any (bf k))) st)) draw
def TD(r:Option XS):Option (Exit×XS):=match r with
 |some st=>some (.normal,st)
 |none=>none
def aY(rec:SR)(b:Code)(r:Option (Exit×XS)):Option (Exit×XS):=match r with
 |some (.normal,st')=>rec b st'
 |r=>r
def K4(id:Nat)(r:Option (Exit×XS)):Option (Exit×XS):=match r with
 |some (.exit i,st')=>Bool.rec (some (.exit i,st')) (some (.normal,st')) (bf i id)
 |r=>r
def fG(rec:SR)(a b:Code)(st:XS)(r:Option V):Option (Exit×XS):=match r with
 |some (.bool c)=>Bool.rec (rec b st) (rec a st) c
 |_=>none
def YZ(rec:SR)(body:Code)(ks:List Nat)(n:Nat):XS->Option (Exit×XS):=Nat.rec (motive:=fun _=>XS->Option (Exit×XS)) (fun _=>none) (fun _ ih st=>match rec body (O6 ks (QH [] (st.s.loc.map (·.1))) st)with
 |some (.normal,st')=>ih st'
 | r=>r) n
def CK:Nat:=1000000
def aZ(fr:Fr)(n γ:Nat)(r:Option (V×XS)):Option (Exit×XS):=match r with
 |some (_,st)=>match st.s.get n CK with
  | some (γ',.loop _ _ _ _ _ ls)=>Bool.rec none (match ls with
   |.ready=>some (.normal,⟨st.c,fr,st.s.put n CK γ .dead⟩)
   |.left .ret=>some (.ret,⟨st.c,fr,st.s.put n CK γ .dead⟩)
   |.left (.exit id)=>some (.exit id,⟨st.c,fr,st.s.put n CK γ .dead⟩)
   | _=>none) (bf γ' γ&&dt γ st.c)
  |_=>none
 |none=>none
def RY(cf:CF)(N:Nat)(g:fg)(ps:List Tmp)(asg body:Code)(st:XS):Option (Exit×XS):=match BO st.fr g with
 |some (.fn f first cap)=>aZ st.fr st.s.up.length st.c (cf f ((first++[V.yld st.s.up.length CK st.c]++cap).map weakV) ⟨st.c+1,st.fr,st.s.put st.s.up.length CK st.c (.loop st.fr ps asg body N .ready)⟩)
 |_=>none
def V4(P:ff)(E:XE)(n N:Nat)(rec:SR):SR:=fun code st=>match code with
 |.skip=>some (.normal,st)
 |.label _=>some (.normal,st)
 |.region _ ops draw=>TD (AVH P E ops.toList draw st)
 |.seq a b=>aY rec b (rec a st)
 |.cond c a b=>fG rec a b st (BO st.fr c)
 |.block id body=>K4 id (rec body st)
 |.loop body=>YZ rec body (QH [] (st.fr.map (·.1))) n st
 |.exit id=>some (.exit id,st)
 |.ret=>some (.ret,st)
 |.scope body=>rec body st
 |.rangeFunc g ps asg body=>RY E.cf N g ps.toList asg body st
 |_=>none
abbrev FN:=Nat->SR
def sA(P:ff)(rs:List ResultVar)(st:XS):Option (V×Nat×List AB):=match E8 P rs st.fr st.s with
 |some r=>match AV st.s 4 r with
  |some r'=>some (r',st.c,st.s.up.map (A6 st.s))
  |none=>none
 |none=>none
def nV{α:Type}(rec:SR)(ret:XS->Option α)(code:Code)(st:XS):Option α:=match rec code st with
 |some (.ret,st')=>ret st'
 |some (.normal,st')=>ret st'
 |_=>none
def V5{α:Type}(P:ff)(rec:FN)(ret:Func->XS->Option α)(f:fh)(args:List V)(c:Nat)(up:List AB):Option α:=match P.funcs[f]? with
 |some fn=>match fn.body with
  |some code=>Bool.rec none (nV (rec fn.ntmps) (ret fn) code ⟨c,AJ 0 args,⟨up,[]⟩⟩) (fq args.length fn.ntmps)
  |none=>none
 |none=>none
def Y0(P:ff)(rec:FN)(f:fh)(args:List V)(c:Nat)(up:List AB):Option (V×Nat×List AB):=V5 P rec (fun fn=>sA P fn.results.toList) f args c up
def DW(P:ff)(rec:FN):CF0:=fun f args=>Bool.rec none (match Y0 P rec f args 0 []with
 |some (r,_,_)=>Bool.rec none (some r) (AL 9 r)
 | none=>none) (args.all (AL 9))
def DJ{α:Type}:List α->Option (List α×α)
 |[]=>none
 |[x]=>some ([],x)
 |x::r=>match DJ r with
  |some (a,b)=>some (x::a,b)
  |none=>none
def A4(P:ff)(kn:CF0)(rec:FN):CF0:=fun f args=>match kn f args with
 |some r=>some r
 |none=>DW P rec f args
def weakM:V->V
 |.nil=>.list false []
 |v=>v
def weakN:V->V
 |.nil=>.list false []
 |.agg cs=>.agg (cs.map weakM)
 |v=>v
theorem RepV.empty{G:Gh}{v:Value}(h:RepV G .nil v):RepV G (.list false []) v:=by cases h;exact .list false [] none 0 0 0 0 #[] 0 (0,0) (fun _ _=>undef) (by simp) (fun h=>by cases h) (fun h=>absurd rfl h) (fun i h=>absurd h (by simp)) (fun i h=>absurd h (by simp)) (fun i h=>absurd h (by simp))
theorem RepV.weakM{G:Gh}{x:V}{v:Value}(h:RepV G x v):RepV G (weakM x) v:=by cases x<;>first|exact h|exact h.empty
theorem bA(x:V):(weakM x).isCell=x.isCell:=by cases x<;>rfl
theorem RepV.weakN{G:Gh}{x:V}{v:Value}(h:RepV G x v):RepV G (weakN x) v:=by
 cases x with
 |nil=>exact h.empty
 |agg cs=>
  cases h with
  |agg _ arr hl hc hr=>
   refine .agg _ arr (by simpa using hl) (fun c hc'=>?_) (fun i h1 h2=>?_)
   ·obtain⟨d,hd,rfl⟩:=dp.1 hc';rw[bA];exact hc d hd
   ·simp only[List.getElem_map];exact(hr i (by simpa using h1) h2).weakM
 |_=>exact h
theorem RepA.weakN{G:Gh}{xs:List V}{vs:List Value}(h:RepA G xs vs):RepA G (xs.map Pg.weakN) vs :=
 ⟨by simpa using h.1,fun i h1 h2=>by simp only[List.getElem_map];exact(h.2 i (by simpa using h1) h2).weakN⟩
def EC(P:ff)(kn:CF0)(rec:FN):CF0:=fun f args=>match A4 P kn rec f (args.map weakN)with
 |some r=>Bool.rec (A4 P kn rec f args) (some r) (args.all (AL 9))
 |none=>A4 P kn rec f args
def A5W(P:ff)(T:fp):Bool:=match P.underlying T with
 |some (.pointer _)=>true
 |_=>false
def BF(P:ff)(f:fh):Bool:=match P.funcs[f]? with
 |some fn=>fn.resultTypes.toList.any (A5W P)
 |none=>false
def SS(P:ff)(kn:CF0)(rec:FN):CF:=fun f args st=>Bool.rec (match Y0 P rec f args st.c (st.s.up++[st.s.loc])with
 |some (r,c,up)=>match DJ up with
  |some (u,l)=>some (r,⟨c,st.fr,⟨u,l⟩⟩)
  |none=>none
 | none=>none) (match EC P kn rec f args with
  |some r=>some (r,st)
  | none=>none) (args.all (AL 9)&&!(BF P f))
def kH(P:ff)(fn:Func)(st:XS):Option Mk:=match E8 P fn.results.toList st.fr st.s with
 | some (.vec l k γ n)=>Bool.rec none (match st.s.loc.get k with
  |some (γ',.vec T es)=>Bool.rec none (some ⟨.vec T es,none⟩) (bf γ' γ&&bf n es.length&&es.all fun e=>e.all (AL 9))
  | _=>none) (bf l st.s.up.length)
 | some v=>Bool.rec none (match fn.resultTypes.toList with
  |[R]=>match BK P R with
   |some (none,T)=>some ⟨.vec T [],none⟩
   |_=>none
  | _=>none) (U2 v)
 |none=>none
def K5(P:ff)(f:fh):Bool:=match P.funcs[f]? with
 |some fn=>match fn.resultTypes.toList with
  |[R]=>match BK P R with
   |some (none,_)=>true
   |_=>false
  |_=>false
 |none=>false
def IL(P:ff)(rec:FN)(f:fh)(args:List V):Option Mk:=Bool.rec none (V5 P rec (kH P) f args 0 []) (args.all (AL 9))
def koT(P:ff)(f:fh):Option fp:=match P.funcs[f]? with
 |some fn=>match fn.resultTypes.toList with
  |[R]=>match BK P R with
   |some (none,T)=>some T
   |_=>none
  |_=>none
 |none=>none
def ADH(P:ff)(f:fh)(T:fp):Prop:=∀(d:Tmp) (s:St),DG P f [.list false []] s fun v s'=>∃γ,v=(⟨.vec T [],none⟩:Mk).val s.up.length d γ/\s'=s.put s.up.length d γ (.vec T [])
open Classical in
def koV(P:ff)(f:fh):List V->Option Mk
 |[.list false []]=>match koT P f with
  |some T=>if ADH P f T then some ⟨.vec T [],none⟩ else none
  |none=>none
 |_=>none
def orM{α:Type}:Option α->Option α->Option α
 |some r,_=>some r
 |none,z=>z
def IM(P:ff)(kn:CF0)(ko:rW)(rec:FN):rW:=fun f args d=>match ko f args d with
 |some r=>some r
 | none=>Bool.rec (match EC P kn rec f args with
  |some r=>some ⟨.dead,some r⟩
  | none=>none) (orM (IL P rec f args) (koV P f args)) (K5 P f)
def GS(s:St)(u:List AB)(l:AB):St:=⟨u.map (A6 s),A6 s l⟩
def V6(fr:Fr)(l q γ:Nat)(r:Option (Exit×XS)):Option (V×XS):=match r with
 |some (e,st)=>match st.s.get l q with
  | some (γ',.loop fr0 ps asg body N .busy)=>Bool.rec none (match DJ st.s.up with
   |some (u,lc)=>match e with
    |.normal=>some (.bool true,⟨st.c,fr,(GS st.s u lc).put l q γ (.loop fr0 ps asg body N .ready)⟩)
    |.ret=>some (.bool false,⟨st.c,fr,(GS st.s u lc).put l q γ (.loop fr0 ps asg body N (.left .ret))⟩)
    |.exit id=>some (.bool false,⟨st.c,fr,(GS st.s u lc).put l q γ (.loop fr0 ps asg body N (.left (.exit id)))⟩)
    |_=>none
   | none=>none) (bf γ' γ&&dt l st.s.up.length&&dt γ st.c)
  |_=>none
 |none=>none
def V7(rec:SR)(l q γ:Nat)(body:Code)(r:Option (Exit×XS)):Option (Exit×XS):=match r with
 |some (.normal,st)=>match st.s.get l q with
  |some (γ',.loop fr0 ps asg body' N .ready)=>Bool.rec none (rec body ⟨st.c,st.fr,st.s.put l q γ (.loop fr0 ps asg body' N .busy)⟩) (bf γ' γ&&dt γ st.c)
  |_=>none
 |_=>none
def kI(rec:FN):CY:=fun l q γ vs st=>match st.s.get l q with
 |some (γ',.loop fr0 ps asg body N .ready)=>Bool.rec none (V6 st.fr l q γ (V7 (rec N) l q γ body (rec N asg ⟨st.c,JE fr0 ps vs,⟨st.s.up++[st.s.loc],[]⟩⟩))) (bf γ' γ&&bf vs.length ps.length&&dt γ st.c)
 |_=>none
def AVI(P:ff)(kn:CF0)(ko:rW)(lit:Tmp->Bool)(rec:FN):XE:=⟨SS P kn rec,kI rec,EC P kn rec,IM P kn ko rec,lit⟩
def kJ(fn:Func):Bool:=match fn.body with
 | some c => !(fn.name == "runtime.NumGoroutine") && D4 fn.ntmps c
 |none=>true
structure DK(P:ff):Prop where
 all:P.funcs.toList.all kJ=true
 mixed:P.follows .mixedOrders=true
def V8(P:ff)(N:Nat)(rec:SR):Prop:=∀code st e st',rec code st=some (e,st')->Bd st->D4 N code=true->HF st st'/\(∀l,e≠.goto l) /\
 ∀(n:Nat) (ρ:Option Nat) (σ:Nat->Nat) (pre:List AB) (K:Exit->Fr->St->Prop),(ρ=none\/FB code=true)->(∀σ',AO st.c σ σ'->K e (st'.fr.ren σ' pre.length) (st'.s.emb σ' pre))->BA P n N ρ code K (st.fr.ren σ pre.length) (st.s.emb σ pre)
def TE(P:ff)(rec:FN):Prop:=∀N,V8 P N (rec N)
theorem MO{α:Type}:∀{l:List α} {u:List α} {x:α},DJ l=some (u,x)->l=u++[x]
 |[],u,x,h=>by cases h
 |[y],u,x,h=>by cases h;rfl
 |y::z::r,u,x,h=>by
  simp only[DJ]at h;split at h
  ·rename_i a b e;cases h;rw[MO (l:=z::r) e];rfl
  ·cases h
theorem xU{c:Nat}{args:List V}(h:∀v∈args,Q7 c v)(σ σ':Nat->Nat)(δ:Nat)(ha:AO c σ σ'):(AJ 0 args).ren σ δ=(AJ 0 args).ren σ' δ:=by rw[<-NN,<-NN];congr 1;exact bw fun v hv=>h v hv σ σ' δ ha
theorem AJ5{st:XS}(h:Bd st){rs:List ResultVar}{v r:V}(hv:E8 P rs st.fr st.s=some v)(hr:AV st.s 4 v=some r):Q7 st.c r:=by intro σ σ' δ ha;have q1:=MJ (σ:=σ) (pre:=bh δ []) hv;have q2:=MJ (σ:=σ') (pre:=bh δ []) hv;rw[h.f σ σ' _ ha,h.s σ σ' _ ha,q2]at q1;have q:=cm.inj q1;have r1:=II (σ:=σ) (pre:=bh δ []) 4 hr;have r2:=II (σ:=σ') (pre:=bh δ []) 4 hr;rw[h.s σ σ' _ ha,<-q,r2]at r1;have:=cm.inj r1;rw[bn]at this;exact this.symm
theorem GI(u:List AB)(l:AB)(i k:Nat):(⟨u,l⟩:St).get i k=match(u++[l])[i]? with
  |some L=>L.get k
  |none=>none:=by
 unfold St.get
 simp only
 by_cases h:i=u.length
 ·subst h;simp
 ·rw[if_neg h];rcases Nat.lt_or_ge i u.length with h'|h'
  ·rw[cr h'];rfl
  ·rw[cp h',dz h'];have:1<=i-u.length:=by omega
   rw[dz (by simpa using this)]
theorem kK(L:AB)(k g:Nat)(r:AY)(h:((A6 s L).ren σ pre.length).get k=some (g,r)):∃r0,(L.ren σ pre.length).get k=some (g,r0)/\(r=r0\/r=F7 (s.emb σ pre) r0):=by
 rw[AB.get_ren,K2]at h;rw[AB.get_ren];cases hL:L.get k with
 |none=>rw[hL]at h;cases h
 |some p=>
  rw[hL]at h
  cases h
  exact⟨p.2.ren σ pre.length,rfl,eY p.2⟩
theorem Y1{s:St}{F:List AB}{u u2:List AB}{l l2:AB}(h1:u++[l]=pre++F.map (AB.ren σ pre.length))(h2:u2++[l2]=pre++(F.map (A6 s)).map (AB.ren σ pre.length)):qJ (s.emb σ pre) ⟨u,l⟩ ⟨u2,l2⟩:=by
 have hlen:u2.length=u.length:=by have a1:=congrArg dl h1;have a2:=congrArg dl h2;simp at a1 a2;omega
 refine⟨hlen,fun i k g r hg=>?_⟩;rw[GI,h2]at hg;rw[GI,h1];rcases Nat.lt_or_ge i pre.length with hi|hi
 ·rw[cr hi]at hg|-;exact⟨r,hg,.inl rfl⟩
 ·rw[cp hi]at hg|-;simp only[fw,List.getElem?_map]at hg|-;cases hF:F[i-pre.length]? with
  |none=>rw[hF]at hg;cases hg
  |some L=>
   rw[hF]at hg
   exact kK L k g r hg
theorem kL{s:St}{c:Nat}(hs:∀σ σ' pre,AO c σ σ'->s.emb σ pre=s.emb σ' pre){r:AY}(hr:∀σ σ' δ,AO c σ σ'->r.ren σ δ=r.ren σ' δ)(σ σ':Nat->Nat)(δ:Nat)(ha:AO c σ σ'):(BT s r).ren σ δ=(BT s r).ren σ' δ:=by
 unfold BT;split
 ·rename_i r' h;have q1:=JR (σ:=σ) (pre:=bh δ []) h;have q2:=JR (σ:=σ') (pre:=bh δ []) h;rw[hs σ σ' _ ha]at q1;simp only[bn]at q1 q2;rw[hr σ σ' _ ha,q2]at q1;exact(cm.inj q1).symm
 ·exact hr σ σ' δ ha
theorem fH{L:AB}{δ:Nat}(σ σ':Nat->Nat):L.ren σ δ=L.ren σ' δ↔∀p∈L,σ p.2.1=σ' p.2.1/\p.2.2.ren σ δ=p.2.2.ren σ' δ:=by unfold AB.ren;rw[cx];simp only[fx.injEq,true_and]
theorem Y2{s:St}{c:Nat}(hs:∀σ σ' pre,AO c σ σ'->s.emb σ pre=s.emb σ' pre){L:AB}(hL:∀σ σ' δ,AO c σ σ'->L.ren σ δ=L.ren σ' δ)(σ σ':Nat->Nat)(δ:Nat)(ha:AO c σ σ'):(A6 s L).ren σ δ=(A6 s L).ren σ' δ:=by rw[fH];intro p hp;obtain⟨x,hx,rfl⟩:=dp.1 hp;have h1:∀σ σ' δ,AO c σ σ'->σ x.2.1=σ' x.2.1/\x.2.2.ren σ δ=x.2.2.ren σ' δ:=fun σ σ' δ ha=>(fH σ σ').1 (hL σ σ' δ ha) x hx;exact⟨(h1 σ σ' δ ha).1,kL hs (fun σ σ' δ ha=>(h1 σ σ' δ ha).2) σ σ' δ ha⟩
theorem xV{s:St}{c:Nat}(hs:∀σ σ' pre,AO c σ σ'->s.emb σ pre=s.emb σ' pre):∀L∈s.up,∀σ σ' δ,AO c σ σ'->L.ren σ δ=L.ren σ' δ:=by intro L hL σ σ' δ ha;have:=hs σ σ' (bh δ []) ha;simp only[St.emb,St.mk.injEq,bn]at this;exact cx.1 (dj this.1) L hL
theorem Y3(s:St)(L:AB){k γ:Nat}{fr:Fr}{ps:List Tmp}{asg body:Code}{N:Nat}{st:LS}(h:(A6 s L).get k=some (γ,.loop fr ps asg body N st)):L.get k=some (γ,.loop fr ps asg body N st):=by
 rw[K2]at h;cases hL:L.get k with
 |none=>rw[hL]at h;cases h
 |some p=>
  rw[hL]at h
  simp only[bz,cm.injEq,fx.injEq]at h
  obtain⟨h1,h2⟩:=h
  obtain⟨g,r⟩:=p
  simp only at h1 h2
  subst h1
  congr 2
  cases r with
  |loop=>exact h2
  |box cs=>unfold BT at h2;split at h2<;>rename_i e<;>simp only[BN]at e<;>(try (split at e<;>cases e))<;>cases h2
  |vec T es=>unfold BT at h2;split at h2<;>rename_i e<;>simp only[BN]at e<;>(try (split at e<;>cases e))<;>cases h2
  |map es=>unfold BT at h2;split at h2<;>rename_i e<;>simp only[BN]at e<;>(try (split at e<;>cases e))<;>cases h2
  |dead=>unfold BT at h2;split at h2<;>rename_i e<;>simp only[BN]at e<;>cases e;cases h2
def FX(P:ff)(f:fh)(args:List V)(c:Nat)(up:List AB)(r:V)(c':Nat)(up':List AB):Prop:=c<=c'/\Q7 c' r/\(∀σ σ' δ,AO c' σ σ'->up'.map (AB.ren σ δ)=up'.map (AB.ren σ' δ))/\up'.length=up.length /\
  (∀L∈up',∀k γ fr ps asg body N st,L.get k=some (γ,.loop fr ps asg body N st)->QK N ps asg body=true) /\
  ∀(σ:Nat->Nat) (pre:List AB) (s:St) (K:V->St->Prop),s.up++[s.loc]=pre++up.map (AB.ren σ pre.length)->(∀σ' u l,AO c σ σ'->u++[l]=pre++up'.map (AB.ren σ' pre.length)->K (r.ren σ' pre.length) ⟨u,l⟩)->DG P f (args.map (V.ren σ pre.length)) s K
theorem V9(hP:DK P){rec:FN}(hrec:TE P rec){α:Type}{ret:Func->XS->Option α}{f:fh}{args:List V}{c:Nat}{up:List AB}{x:α}(hx:V5 P rec ret f args c up=some x)(hargs:∀v∈args,Q7 c v)
  (hup:∀σ σ' δ,AO c σ σ'->up.map (AB.ren σ δ)=up.map (AB.ren σ' δ)) (hlp:∀L∈up,∀k γ fr ps asg body N st,L.get k=some (γ,.loop fr ps asg body N st)->QK N ps asg body=true) :
  ∃fn st',ret fn st'=some x/\Bd st'/\c<=st'.c/\st'.s.up.length=up.length/\∀(σ:Nat->Nat) (pre:List AB) (s:St) (K:V->St->Prop),s.up++[s.loc]=pre++up.map (AB.ren σ pre.length) ->
   (∀σ',AO c σ σ'->AJ0 P fn.results.toList (s.up.length+1) K .ret (st'.fr.ren σ' pre.length) (st'.s.emb σ' pre))->DG P f (args.map (V.ren σ pre.length)) s K:=by
 unfold V5 at hx
 split at hx
 ·rename_i fn hf;split at hx
  ·rename_i code hb;obtain⟨hsz,hx1⟩:=DI hx;have hck:kJ fn=true:=bq.1 hP.all fn (by
    have:=Array.mem_of_getElem? hf;simpa using this)
   simp only[kJ,hb,bc,Bool.not_eq_true']at hck;have hbd:Bd ⟨c,AJ 0 args,⟨up,[]⟩⟩:=⟨fun σ σ' δ ha=>xU hargs σ σ' δ ha,fun σ σ' pre ha=>by simp only[St.emb,hup σ σ' _ ha]; rfl,fun l k γ fr ps asg body N st hg=>by
    rw[GI]at hg;split at hg
    ·rename_i L hL;rcases df.1 (dm hL)with hm|hm
     ·exact hlp L hm _ _ _ _ _ _ _ _ hg
     ·have:L=[]:=by simpa using hm
      subst this;simp at hg
    ·cases hg⟩
   have main:∀e st',rec fn.ntmps code ⟨c,AJ 0 args,⟨up,[]⟩⟩=some (e,st')->(e=.ret\/e=.normal)->ret fn st'=some x->∃fn st',ret fn st'=some x/\Bd st'/\c<=st'.c/\st'.s.up.length=up.length/\∀(σ:Nat->Nat) (pre:List AB) (s:St) (K:V->St->Prop),s.up++[s.loc]=pre++up.map (AB.ren σ pre.length) ->
     (∀σ',AO c σ σ'->AJ0 P fn.results.toList (s.up.length+1) K .ret (st'.fr.ren σ' pre.length) (st'.s.emb σ' pre))->DG P f (args.map (V.ren σ pre.length)) s K:=by
    intro e st' h1 he h2
    obtain⟨hE,_,hC⟩:=hrec _ _ _ _ _ h1 hbd hck.2
    refine⟨fn,st',h2,hE.bd,hE.c,hE.n,fun σ pre s K hs hk=>?_⟩
    refine AVD hf hb (eE hf hb hck.1) (by simpa using hsz) ?_
    have e1:(⟨s.up++[s.loc],[]⟩:St)=(⟨up,[]⟩:St).emb σ pre:=by simp only[St.emb,hs];rfl
    rw[NN,e1]
    refine hC _ none σ pre _ (.inl rfl) fun σ' ha=>?_
    have:=hk σ' ha
    rcases he with rfl|rfl<;>exact this
   unfold nV at hx1;split at hx1
   ·rename_i st' h1;exact main _ _ h1 (.inl rfl) hx1
   ·rename_i st' h1;exact main _ _ h1 (.inr rfl) hx1
   ·cases hx1
  ·cases hx
 ·cases hx
theorem fI(hP:DK P){rec:FN}(hrec:TE P rec){f:fh}{args:List V}{c:Nat}{up:List AB}{r:V}{c':Nat}{up':List AB}(hx:Y0 P rec f args c up=some (r,c',up'))(hargs:∀v∈args,Q7 c v)
  (hup:∀σ σ' δ,AO c σ σ'->up.map (AB.ren σ δ)=up.map (AB.ren σ' δ)) (hlp:∀L∈up,∀k γ fr ps asg body N st,L.get k=some (γ,.loop fr ps asg body N st)->QK N ps asg body=true):FX P f args c up r c' up':=by
 obtain⟨fn,st',hret,hbd,hc,hlen,hA⟩:=V9 hP hrec hx hargs hup hlp
 unfold sA at hret
 split at hret
 ·rename_i r0 hr0;split at hret
  ·rename_i r1 wF;cases hret;refine⟨hc,AJ5 hbd hr0 wF,fun σ σ' δ ha=>?_,by simpa using hlen,fun L hL k γ fr ps asg body N st hg=>?_,fun σ pre s K hs hk=>hA σ pre s K hs fun σ' ha=>?_⟩
   ·simp only[fw];exact bw fun L hL=>Y2 hbd.s (xV hbd.s L hL) σ σ' δ ha
   ·obtain⟨L0,hL0,rfl⟩:=dp.1 hL;have hg:=Y3 _ _ hg;obtain⟨i,hi,rfl⟩:=List.getElem_of_mem hL0;refine hbd.lp i k γ fr ps asg body N st ?_;unfold St.get;rw[if_neg (by omega),List.getElem?_eq_getElem hi];exact hg
   ·have hl2:(st'.s.emb σ' pre).up.length=s.up.length+1:=by have q:=congrArg dl hs;simp only[ck,cd,bp]at q;rw[CM,hlen];omega
    rcases db (st'.s.emb σ' pre).up with h0|⟨u,l,h0⟩
    ·rw[h0]at hl2;simp at hl2
    ·have h0:(st'.s.emb σ' pre).up=u++[l]:=by simpa using h0
     have hu:u.length+1=s.up.length+1:=by rw[<-hl2,h0];simp
     have hcl:=MI 4 (II (σ:=σ') (pre:=pre) 4 wF);have hres:=MJ (σ:=σ') (pre:=pre) hr0;rcases db (pre++(st'.s.up.map (A6 st'.s)).map (AB.ren σ' pre.length))with h3|⟨u2,l2,h3⟩
     ·have h4:=congrArg dl h3;have h5:=congrArg dl h0;simp only[St.emb,ck,bp,List.length_nil,cd]at h4 h5;omega
     ·have h3:pre++(st'.s.up.map (A6 st'.s)).map (AB.ren σ' pre.length)=u2++[l2]:=by simpa using h3
      have hK:=hk σ' u2 l2 ha h3.symm;have hS:=Y1 (s:=st'.s) (F:=st'.s.up) (u:=u) (l:=l) (u2:=u2) (l2:=l2) (σ:=σ') (pre:=pre) h0.symm h3.symm;exact⟨u,l,_,h0,hu,hres,.inl ⟨_,_,by rw[hcl];exact Wk.refl _,hS,hK⟩⟩
  ·cases hret
 ·cases hret
theorem RZ{c:Nat}{args:List V}(h:args.all (AL 9)=true):∀v∈args,Q7 c v:=fun v hv σ σ' δ _=>by rw[BP 9 v (bq.1 h v hv),BP 9 v (bq.1 h v hv)]
theorem J3(hP:DK P){rec:FN}(hrec:TE P rec):DZ P (DW P rec):=by
 intro f args r hx;unfold DW at hx;obtain⟨hcl,hx1⟩:=DI hx;split at hx1
 ·rename_i r0 c' up' h1;obtain⟨hr,rfl⟩:=G7 hx1;obtain⟨_,_,_,hlen,_,hA⟩:=fI hP hrec h1 (RZ hcl) (fun _ _ _ _=>rfl) (fun L hL=>by cases hL);have hargs:∀v∈args,∀σ δ,V.ren σ δ v=v:=fun v hv σ δ=>BP 9 v (bq.1 hcl v hv);have hup:up'=[]:=cg hlen;refine⟨fun s=>?_,hargs,fun σ δ=>BP 9 _ hr⟩;have:=hA id (s.up++[s.loc]) s (fun r' s'=>r'=r0/\s'=s) (by simp) fun σ' u l _ hu=>?_
  ·have e:args.map (V.ren id (s.up++[s.loc]).length)=args:=by
    conv=>rhs;rw[<-cz args]
    exact bw fun v hv=>hargs v hv _ _
   rw[e]at this;exact this
  ·rw[hup]at hu;simp only[dr,List.append_nil]at hu;obtain⟨e1,e2⟩:=dq hu rfl;refine⟨BP 9 _ hr,?_⟩;subst e1;simp only[List.cons.injEq,and_true]at e2;subst e2;rfl
 ·cases hx1
theorem WA(hP:DK P){kn:CF0}(hkn:DZ P kn){rec:FN}(hrec:TE P rec):DZ P (A4 P kn rec):=by
 intro f args r hx;unfold A4 at hx;split at hx
 ·rename_i r0 h0;cases hx;exact hkn _ _ _ h0
 ·exact J3 hP hrec _ _ _ hx
theorem WB(hP:DK P){kn:CF0}(hkn:DZ P kn){rec:FN}(hrec:TE P rec):DZ P (EC P kn rec):=by
 intro f args r hx;unfold EC at hx;split at hx
 ·rename_i r0 h0;cases hcl:args.all (AL 9)with
  |false=>rw[hcl]at hx;exact WA hP hkn hrec _ _ _ hx
  |true=>
   rw[hcl]at hx
   cases hx
   obtain⟨hA,_,h2⟩:=WA hP hkn hrec _ _ _ h0
   exact⟨fun s=>⟨(hA s).1,fun G vals w R hI ha hR=>(hA s).2 G vals w R hI ha.weakN hR⟩,fun v hv σ δ=>BP 9 v (bq.1 hcl v hv),h2⟩
 ·exact WA hP hkn hrec _ _ _ hx
theorem handed(hP:DK P){rec:FN}(hrec:TE P rec){f:fh}{args:List V}{ret:Func->XS->Option Mk}{r:Mk}{d:Tmp}(hcl:args.all (AL 9)=true)(hx:V5 P rec ret f args 0 []=some r)
  (hr:∀(fn:Func) (st':XS),ret fn st'=some r->st'.s.up=[]->∀(s:St) (σ':Nat->Nat),∃r0,E8 P fn.results.toList (st'.fr.ren σ' (s.up++[s.loc]).length) (st'.s.emb σ' (s.up++[s.loc]))=some r0 /\
   ((∃k γ T es,(st'.s.emb σ' (s.up++[s.loc])).loc.get k=some (γ,.vec T es)/\rA (s.up.length+1) k s.up.length d 4 r0=r.val s.up.length d γ/\r.res=.vec T es)\/(∃T,U2 r0=true/\r=⟨.vec T [],none⟩)))
  (s:St):DG P f args s fun v s'=>∃γ,v=r.val s.up.length d γ/\s'=s.put s.up.length d γ r.res:=by
 obtain⟨fn,st',hret,hbd,hc,hlen,hA⟩:=V9 hP hrec hx (RZ hcl) (fun _ _ _ _=>rfl) (fun L hL=>by cases hL)
 have hargs:∀v∈args,∀σ δ,V.ren σ δ v=v:=fun v hv σ δ=>BP 9 v (bq.1 hcl v hv)
 have hup:st'.s.up=[]:=cg hlen
 have:=hA id (s.up++[s.loc]) s (fun v s'=>∃γ,v=r.val s.up.length d γ/\s'=s.put s.up.length d γ r.res) (by simp) fun σ' _=>?_
 ·have e:args.map (V.ren id (s.up++[s.loc]).length)=args:=by
   conv=>rhs;rw[<-cz args]
   exact bw fun v hv=>hargs v hv _ _
  rw[e]at this;exact this
 ·obtain⟨r0,h1,h2⟩:=hr fn st' hret hup s σ';refine⟨s.up,s.loc,r0,by simp[St.emb,hup],rfl,h1,.inr ?_⟩;rcases h2 with⟨k,γ,T,es,h3,h4,h5⟩|⟨T,h3,h4⟩
  ·exact .inl ⟨k,γ,T,es,d,h3,γ,h4,by rw[h5]⟩
  ·subst h4;exact .inr ⟨d,T,h3,fun γ=>⟨γ,rfl,rfl⟩⟩
theorem sB(hP:DK P){rec:FN}(hrec:TE P rec){f:fh}{args:List V}{r:Mk}{d:Tmp}(hx:IL P rec f args=some r) :
  (∀(s:St),DG P f args s fun v s'=>∃γ,v=r.val s.up.length d γ/\s'=s.put s.up.length d γ r.res)/\(∀v∈args,∀σ δ,v.ren σ δ=v)/\(∀σ δ,r.res.ren σ δ=r.res)/\xX r.res=true:=by
 unfold IL at hx
 obtain⟨hcl,hx1⟩:=DI hx
 have hargs:∀v∈args,∀σ δ,V.ren σ δ v=v:=fun v hv σ δ=>BP 9 v (bq.1 hcl v hv)
 have main:∀(fn:Func) (st':XS),kH P fn st'=some r->((∀σ δ,r.res.ren σ δ=r.res)/\xX r.res=true)/\(st'.s.up=[]->∀(s:St) (σ':Nat->Nat),∃r0,E8 P fn.results.toList (st'.fr.ren σ' (s.up++[s.loc]).length) (st'.s.emb σ' (s.up++[s.loc]))=some r0 /\
   ((∃k γ T es,(st'.s.emb σ' (s.up++[s.loc])).loc.get k=some (γ,.vec T es)/\rA (s.up.length+1) k s.up.length d 4 r0=r.val s.up.length d γ/\r.res=.vec T es)\/(∃T,U2 r0=true/\r=⟨.vec T [],none⟩))):=by
  intro fn st' hret
  unfold kH at hret
  split at hret
  ·rename_i l k γ n hres;obtain⟨hl,hret⟩:=DI hret;have hl:=bj hl;split at hret
   ·rename_i γ' T es hget;obtain⟨hc2,he⟩:=G7 hret;cases he;simp only[bc]at hc2;obtain⟨⟨h1,h2⟩,h3⟩:=hc2;have h1:=bj h1;have h2:=bj h2;subst h1;subst h2;have hes:∀σ δ,es.map (br (V.ren σ δ))=es:=fun σ δ=>by
     conv=>rhs;rw[<-cz es]
     exact bw fun e he=>K9 (fun v=>BP 9 v) (bq.1 h3 e he)
    refine⟨⟨fun σ δ=>by simp only[AY.ren,hes],rfl⟩,fun hup s σ'=>⟨_,MJ hres,.inl ⟨k,σ' γ',T,es,?_,?_,rfl⟩⟩⟩
    ·rw[JH,hget];simp only[bz,AY.ren,hes]
    ·rw[hup]at hl;subst hl;simp[rA,Mk.val,F8]
   ·cases hret
  ·rename_i v hnv hres;obtain⟨hn,hret⟩:=DI hret;split at hret
   ·split at hret
    ·rename_i T _;cases hret;exact⟨⟨fun _ _=>rfl,rfl⟩,fun hup s σ'=>⟨_,MJ hres,.inr ⟨_,by rw[xJ];exact hn,rfl⟩⟩⟩
    ·cases hret
   ·cases hret
  ·cases hret
 obtain⟨fn,st',hret,_⟩:=V9 hP hrec hx1 (RZ hcl) (fun _ _ _ _=>rfl) (fun L hL=>by cases hL)
 exact⟨handed hP hrec hcl hx1 fun fn st' h=>(main fn st' h).2,hargs,(main fn st' hret).1⟩
theorem BV.nought{G:Gh}{s:St}{w:World}(hI:BV G s w)(d γ:Nat):BV G (s.put s.up.length d γ .dead) w:=by
 have look:∀{l k x},(s.put s.up.length d γ .dead).get l k=some x->x=(γ,.dead)\/s.get l k=some x:=fun {l k x} h=>by
  rw[St.get_putLoc]at h;split at h
  ·exact .inl (cm.inj h).symm
  ·exact .inr h
 refine⟨hI.sl,fun l k g r h=>?_,fun l k g r l' k' g' r' b h1 h2 h3 h4=>?_,fun l k g r b h1 h2=>?_,hI.fresh,hI.env,hI.me.step (Gh.le_refl _) rfl (fun _ _ _=>rfl) (fun l k g r b h1 h2=>by
  rcases look h1 with e|e
  ·cases e;cases h2
  ·exact .inl ⟨_,_,_,_,e,h2⟩) fun b d hb=>hI.me.sl b d hb⟩
 ·rcases look h with e|e
  ·cases e;trivial
  ·exact hI.res _ _ _ _ e
 ·rcases look h1 with e|e1
  ·cases e;cases h3
  ·rcases look h2 with e|e2
   ·cases e;cases h4
   ·exact hI.sep _ _ _ _ _ _ _ _ _ e1 e2 h3 h4
 ·rcases look h1 with e|e
  ·cases e;cases h2
  ·exact hI.out _ _ _ _ _ e h2
theorem AJ6{f:fh}{args:List V}{r:Mk}{d:Tmp}(hx:koV P f args=some r) :
  (∀(s:St),DG P f args s fun v s'=>∃γ,v=r.val s.up.length d γ/\s'=s.put s.up.length d γ r.res)/\(∀v∈args,∀σ δ,v.ren σ δ=v)/\(∀σ δ,r.res.ren σ δ=r.res)/\xX r.res=true:=by
 unfold koV at hx
 split at hx
 ·split at hx
  ·rename_i T _;split at hx
   ·rename_i hv;cases hx;exact⟨fun s=>hv d s,fun v hm σ δ=>by rw[List.mem_singleton.1 hm];rfl,fun σ δ=>rfl,rfl⟩
   ·cases hx
  ·cases hx
 ·cases hx
theorem xW(hP:DK P){kn:CF0}(hkn:DZ P kn){ko:rW}(hko:jZ P ko){rec:FN}(hrec:TE P rec):jZ P (IM P kn ko rec):=by
 intro f args d r hx;unfold IM at hx;split at hx
 ·rename_i r0 h0;cases hx;exact hko _ _ _ _ h0
 ·cases hs:K5 P f with
  |true=>
   rw[hs]at hx
   have hx:orM (IL P rec f args) (koV P f args)=some r:=hx
   cases h1:IL P rec f args with
   |some r1=>
    rw[h1]at hx
    cases hx
    exact sB hP hrec h1
   |none=>
    rw[h1]at hx
    exact AJ6 hx
  |false=>
   rw[hs]at hx
   have hx:(match EC P kn rec f args with
    |some r=>some (⟨.dead,some r⟩:Mk)
    | none=>none)=some r:=hx
   split at hx
   ·rename_i r0 h0;cases hx;obtain⟨hA,h1,h2⟩:=WB hP hkn hrec _ _ _ h0;refine⟨fun s=>⟨(hA s).1,fun G vals w R hI ha hR=>(hA s).2 G vals w R hI ha fun G' v u w' s' hle hI' hv hlen hk=>?_⟩,h1,fun _ _=>rfl,rfl⟩;obtain⟨rfl,rfl⟩:=hk;exact hR G' _ u w' (s'.put s'.up.length d 0 .dead) hle (hI'.nought d 0) hv (St.put_len _ _ _ _ _) ⟨0,(h2 _ _).symm,rfl⟩
   ·cases hx
theorem fJ(hP:DK P){kn:CF0}(hkn:DZ P kn){rec:FN}(hrec:TE P rec):YW P (SS P kn rec):=by
 intro f args st r st' hx hbd hargs;unfold SS at hx;cases hcl:(args.all (AL 9)&&!(BF P f))with
 |true=>
  rw[hcl]at hx
  have hx:(match EC P kn rec f args with|some r=>some (r,st)|none=>none)=some (r,st'):=hx
  split at hx
  ·rename_i r0 h0;cases hx;obtain⟨hA,h1,h2⟩:=WB hP hkn hrec _ _ _ h0;refine⟨⟨bt _,hbd,rfl⟩,fun σ σ' δ _=>by rw[h2,h2],rfl,fun σ pre K hk=>?_⟩;have e:args.map (V.ren σ pre.length)=args:=by
    conv=>rhs;rw[<-cz args]
    exact bw fun v hv=>h1 v hv _ _
   rw[e];refine(hA (st.s.emb σ pre)).mono fun r' s' q5=>?_;obtain⟨rfl,rfl⟩:=q5;have:=hk σ (AO.refl _ _);rwa [h2]at this
  ·cases hx
 |false=>
  rw[hcl]at hx
  have hx:(match Y0 P rec f args st.c (st.s.up++[st.s.loc])with
   |some (r,c,up)=>match DJ up with
    |some (u,l)=>some (r,(⟨c,st.fr,⟨u,l⟩⟩:XS))
    |none=>none
   | none=>none)=some (r,st'):=hx
  split at hx
  ·rename_i r0 c0 up0 h1;split at hx
   ·rename_i u l hu;cases hx;have hup0:=MO hu;have hsb:∀σ σ' δ,AO st.c σ σ'->(st.s.up++[st.s.loc]).map (AB.ren σ δ)=(st.s.up++[st.s.loc]).map (AB.ren σ' δ):=by intro σ σ' δ ha;have:=hbd.s σ σ' (bh δ []) ha;simp only[St.emb,St.mk.injEq,bn]at this;simp only[bx,dw,dr];rw[dj this.1,this.2]
    have hlp:∀L∈st.s.up++[st.s.loc],∀k γ fr ps asg body N st,L.get k=some (γ,.loop fr ps asg body N st)->QK N ps asg body=true:=by intro L hL k γ fr ps asg body N ls hg;obtain⟨i,hi⟩:=List.getElem?_of_mem hL;refine hbd.lp i k γ fr ps asg body N ls ?_;have:=GI st.s.up st.s.loc i k;rw[hi]at this;exact this.trans hg
    obtain⟨hc,hrb,hub,hlen,hlp',hA⟩:=fI hP hrec h1 hargs hsb hlp;subst hup0;refine⟨⟨hc,⟨fun σ σ' δ ha=>hbd.f σ σ' δ (ha.mono hc),fun σ σ' pre ha=>?_,fun i k γ fr ps asg body N ls hg=>?_⟩,?_⟩,hrb,rfl,fun σ pre K hk=>?_⟩
    ·have:=hub σ σ' pre.length ha;simp only[bx,dw,dr]at this;obtain⟨e1,e2⟩:=dq this rfl;simp only[List.cons.injEq,and_true]at e2;simp only[St.emb,e1,e2]
    ·rw[GI]at hg;split at hg
     ·rename_i L hL;exact hlp' L (dm hL) _ _ _ _ _ _ _ _ hg
     ·cases hg
    ·simp only[ck,cd]at hlen;simp only;omega
    ·refine hA σ pre (st.s.emb σ pre) K (by simp[St.emb]) fun σ' u' l' ha hu'=>?_;have:=hk σ' ha;simp only[bx,dw,dr,<-List.append_assoc]at hu';obtain⟨e1,e2⟩:=dq hu' rfl;simp only[List.cons.injEq,and_true]at e2;subst e1;subst e2;exact this
   ·cases hx
  ·cases hx
end Go.Pg
