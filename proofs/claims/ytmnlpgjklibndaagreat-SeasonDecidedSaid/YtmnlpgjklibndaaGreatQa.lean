/- Running a Go function upon abstract values, by computing: whatever comes out is a contract. No program in sight. -/
import Derived.Test.YtmnlpgjklibndaaGreatPx
open Bool renaming and_eq_true->bj
open Nat renaming eq_of_beq_eq_true->bq,lt_succ_self->bx,le_trans->bz,le_of_lt->bf,le_succ->bh,le_refl->br,beq->bt
open List renaming map_congr_left->bw,all_eq_true->bc,mem_append->bg,map_cons->bn,getElem?_map->bp
namespace Go.Pg
variable {P:Program}{σ σ':Nat->Nat}{δ:Nat}{pre:List AA}{s:St}{fr:Fr}{g:Bool}
theorem oL{r:Option XS}{e:Exit}{st':XS}(h:S3 r=some (e,st')):e=.normal/\r=some st':=by
 unfold S3 at h;split at h
 ·cases h;exact⟨rfl,rfl⟩
 ·cases h
theorem xN{E:XE}(hEE:KD P E){l:List Oper}:∀{S:V9} {st st':XS},Bd st->AAK P E l S st=some st'->IX st st' /\
  ∀(σ:Nat->Nat) (pre:List AA) (K:Fr->St->Prop),(∀σ',AS st.c σ σ'->K (st'.fr.ren σ' pre.length) (st'.s.emb σ' pre))->mW P (hEE.tab (DH l)) l (l.map (LA l)) S (st.fr.ren σ pre.length) (st.s.emb σ pre) K
 |[],st,st',h,hx=>by cases hx;exact⟨⟨br _,h,rfl⟩,fun σ pre K hk=>hk σ (AS.refl _ _)⟩
 |(R,tl)::S,st,st',hbd,hx=>by
  unfold AAK at hx;obtain⟨hfr,hx⟩:=EC hx;split at hx
  ·rename_i st1 rd wr e1;obtain⟨hdis,hx⟩:=EC hx;split at hx
   ·rename_i HB e2;obtain⟨hE,_,_,hs⟩:=AFQ hEE hbd e1;obtain⟨hE',hs'⟩:=AFR hEE hE.bd e2;obtain⟨hE'',hs''⟩:=xN hEE hE'.bd hx;have hdis:∀p∈rd,p∉wr:=fun p hp hw=>by have:=bc.1 hdis p hw;simp[hp]at this
    refine⟨⟨bz hE.c (bz hE'.c hE''.c),hE''.bd,hE''.n.trans (hE'.n.trans hE.n)⟩,fun σ pre K hk=>⟨XD pre.length wr,?_,?_⟩⟩
    ·refine bc.2 fun j hj=>?_;have:=bc.1 hfr j hj;revert this;cases l[j]? with
     |none=>exact fun _=>rfl
     |some o=>
      simp only
      show(!kA (DH l) o||_)=true->(!kA (DH l) o||_)=true
      cases kA (DH l) o with
      |false=>exact fun _=>rfl
      |true=>
       cases o.dst with
       |none=>exact fun _=>rfl
       |some d=>
        simp only[Bool.not_true,Bool.false_or,KU,Option.isNone_map]
        exact fun h=>h
    ·exact hs wr σ pre _ hdis (fun _ h=>h) fun σ' ha=>hs' σ' pre _ fun σ'' ha'=>hs'' σ'' pre K fun σ3 ha3=>hk σ3 (ha.trans (ha'.trans ha3 hE'.c) hE.c)
   ·cases hx
  ·cases hx
theorem aF(hP:D8 P){E:XE}(hEE:KD P E){id:Nat}{l:List Oper}{N:Nat}(hN:OJ (DH l) N (l.map (LA l)) (WD l) l=true){st st':XS}(hx:OQ P E l st=some st')(hbd:Bd st):IX st st' /\
  ∀(n:Nat) (ρ:Option Nat) (σ:Nat->Nat) (pre:List AA) (K:Exit->Fr->St->Prop),(∀σ',AS st.c σ σ'->K .normal (st'.fr.ren σ' pre.length) (st'.s.emb σ' pre))->BH P n N ρ (.region id l.toArray true) K (st.fr.ren σ pre.length) (st.s.emb σ pre):=by
 unfold OQ at hx
 obtain⟨hE,hs⟩:=xN hEE hbd hx
 exact⟨hE,fun n ρ σ pre K hk=>zX (hEE.tab (DH l)) hP.mixed (l.map (LA l)) (WD l) hN (hs σ pre _ hk)⟩
theorem ALO(hP:D8 P){E:XE}(hEE:KD P E){id:Nat}{ops:Array Oper}{draw:Bool}{N:Nat}(hN:EY N (.region id ops draw)=true){st st':XS}(hx:A5O P E ops.toList draw st=some st')(hbd:Bd st):IX st st' /\
  ∀(n:Nat) (ρ:Option Nat) (σ:Nat->Nat) (pre:List AA) (K:Exit->Fr->St->Prop),(∀σ',AS st.c σ σ'->K .normal (st'.fr.ren σ' pre.length) (st'.s.emb σ' pre))->BH P n N ρ (.region id ops draw) K (st.fr.ren σ pre.length) (st.s.emb σ pre):=by
 obtain⟨l⟩:=ops
 cases draw with
 |false=>
  simp only[EY,cond_false,bj]at hN
  have hx:hU P E l l st=some st':=hx
  obtain⟨hE,hs⟩:=iA hEE hbd hx
  refine⟨hE,fun n ρ σ pre K hk=>?_⟩
  exact VL (l.map (LA l)) hN.1 (iI (S4 hN.2)) (hs σ pre _ hk)
 |true=>
  simp only[EY,cond_true]at hN
  have hx:(match AS8 l with
   |[]=>OQ P E l st
   | ds=>OQ P E l (RE (SY [] (st.fr.map (·.1))) ((SY [] (st.s.loc.map (·.1))).filter fun k=>!(ds.any (bt k))) st))=some st':=hx
  split at hx
  ·exact aF hP hEE hN hx hbd
  ·have hT:=SZ (ks:=SY [] (st.fr.map (·.1))) (ls:=(SY [] (st.s.loc.map (·.1))).filter fun k=>!((AS8 l).any (bt k))) hbd;obtain⟨hE,hs⟩:=aF (id:=id) hP hEE hN hx hT.bd;exact⟨⟨hE.c,hE.bd,hE.n⟩,fun n ρ σ pre K hk=>UH (hs n ρ σ pre K hk)⟩
theorem AG1{N:Nat}{rec:VQ}(hrec:ZY P N rec){body:Code}{ks:List Nat}(hN:EY N body=true):∀(m:Nat) {st st':XS} {e:Exit},eD rec body ks m st=some (e,st')->Bd st->IX st st'/\(∀l,e≠.goto l) /\
  ∀(n:Nat) (ρ:Option Nat) (σ:Nat->Nat) (pre:List AA) (K:Exit->Fr->St->Prop),(ρ=none\/GH body=true)->(∀σ',AS st.c σ σ'->K e (st'.fr.ren σ' pre.length) (st'.s.emb σ' pre))->BH P n N ρ (.loop body) K (st.fr.ren σ pre.length) (st.s.emb σ pre):=by
 intro m st st' e hx hbd
 have ext:∀(m:Nat) {st:XS},eD rec body ks m st=some (e,st')->Bd st->IX st st'/\(∀l,e≠.goto l):=by
  intro m;induction m with
  |zero=>intro st hx _;cases hx
  |succ m ih=>
   intro st hx hbd
   have hx:(match rec body (RE ks (SY [] (st.s.loc.map (·.1))) st)with
    |some (.normal,st')=>eD rec body ks m st'
    | r=>r)=some (e,st'):=hx
   have hT:=SZ (ks:=ks) (ls:=SY [] (st.s.loc.map (·.1))) hbd
   split at hx
   ·rename_i st1 h1;obtain⟨hE,_,_⟩:=hrec _ _ _ _ h1 hT.bd hN;obtain⟨hE',hg⟩:=ih hx hE.bd;exact⟨⟨bz hE.c hE'.c,hE'.bd,hE'.n.trans hE.n⟩,hg⟩
   ·obtain⟨hE,hg,_⟩:=hrec _ _ _ _ hx hT.bd hN;exact⟨⟨hE.c,hE.bd,hE.n⟩,hg⟩
 obtain⟨hE,hg⟩:=ext m hx hbd
 refine⟨hE,hg,fun n ρ σ pre K hρ hk=>?_⟩
 refine dU (fun m fr s=>∃(st:XS) (σ:Nat->Nat),fr=st.fr.ren σ pre.length/\s=st.s.emb σ pre/\Bd st/\eD rec body ks m st=some (e,st')/\∀σ',AS st.c σ σ'->K e (st'.fr.ren σ' pre.length) (st'.s.emb σ' pre)) m ⟨st,σ,rfl,rfl,hbd,hx,hk⟩ ?_
 rintro m fr s ⟨st,σ,rfl,rfl,hbd,hx,hk⟩
 cases m with
 |zero=>cases hx
 |succ m=>
  have hx:(match rec body (RE ks (SY [] (st.s.loc.map (·.1))) st)with
   |some (.normal,st')=>eD rec body ks m st'
   | r=>r)=some (e,st'):=hx
  have hT:=SZ (ks:=ks) (ls:=SY [] (st.s.loc.map (·.1))) hbd
  refine UH (ks:=ks) (ls:=SY [] (st.s.loc.map (·.1))) ?_
  split at hx
  ·rename_i st1 h1;obtain⟨hE,_,hC⟩:=hrec _ _ _ _ h1 hT.bd hN;exact hC n ρ σ pre _ hρ fun σ' ha=>⟨m,bx _,st1,σ',rfl,rfl,hE.bd,hx,fun σ'' ha'=>hk σ'' (ha.trans ha' hE.c)⟩
  ·rename_i hne;obtain⟨hE,hg,hC⟩:=hrec _ _ _ _ hx hT.bd hN;refine hC n ρ σ pre _ hρ fun σ' ha=>?_;have:=hk σ' ha;cases e with
   |normal=>exact absurd hx (hne st')
   |_=>exact this
theorem AAY{cf:CF}(hcf:eA P cf){N:Nat}{g:Operand}{ps:Array Tmp}{asg body:Code}(hN:EY N (.rangeFunc g ps asg body)=true){st st':XS}{e:Exit}(hx:UI cf N g ps.toList asg body st=some (e,st'))(hbd:Bd st):IX st st'/\(∀l,e≠.goto l) /\
  ∀(n:Nat) (σ:Nat->Nat) (pre:List AA) (K:Exit->Fr->St->Prop),(∀σ',AS st.c σ σ'->K e (st'.fr.ren σ' pre.length) (st'.s.emb σ' pre))->BH P n N none (.rangeFunc g ps asg body) K (st.fr.ren σ pre.length) (st.s.emb σ pre):=by
 unfold UI at hx
 split at hx
 ·rename_i f first cap hf;have hbf:=AFK (hbd.rd hf);have hL:S5 N ps.toList asg body=true:=hN;have hb:∀σ σ',AS (st.c+1) σ σ'->AS st.c σ σ':=fun σ σ' ha=>ha.mono (bh _);have hren:∀σ δ,(A6.loop st.fr ps.toList asg body N .ready).ren σ δ=.loop (Fr.ren σ δ st.fr) ps.toList asg body N .ready:=fun σ δ=>rfl;have hbd1:Bd ⟨st.c+1,st.fr,st.s.put st.s.up.length A9 st.c (.loop st.fr ps.toList asg body N .ready)⟩:=⟨fun σ σ' δ ha=>hbd.f σ σ' δ (hb _ _ ha),fun σ σ' pre ha=>by
   simp only[CN,hren];rw[hbd.s σ σ' pre (hb _ _ ha),hbd.f σ σ' _ (hb _ _ ha),ha st.c (bx _)],hbd.lp.put (fun _ _ _ _ _ _ e=>by cases e; exact hL)⟩
  unfold iE at hx;split at hx
  ·rename_i r HB hcall;have hcx:=hcf _ _ _ _ _ hcall hbd1 (fun v hv=>by
    obtain⟨u,hu,rfl⟩:=List.mem_map.1 hv;refine hQ ?_;rcases bg.1 hu with hu|hu
    ·rcases bg.1 hu with hu|hu
     ·exact(hbf.1 u hu).mono (bh _)
     ·have:u=V.yld st.s.up.length A9 st.c:=by simpa using hu
      subst this;intro σ σ' δ ha;simp only[gZ,ha st.c (bx _)]
    ·exact(hbf.2 u hu).mono (bh _))
   obtain⟨hE2,_,hfr2,hA⟩:=hcx;split at hx
   ·rename_i γ' fr' ps' asg' body' N' ls hget;have hx2:=EC hx;clear hx;obtain⟨hc,hx⟩:=hx2;simp only[bj]at hc;have hγ:=bq hc.1;subst hγ;have hlt:st.c<HB.c:=by simpa using hc.2
    have hbd2:Bd ⟨HB.c,st.fr,HB.s.put st.s.up.length A9 st.c .dead⟩:=by have h0:=hE2.bd.putS (l:=st.s.up.length) (k:=A9) (γ:=st.c) (r:=.dead) hlt (fun _ _ _ _=>rfl);exact⟨fun σ σ' δ ha=>hbd.f σ σ' δ (ha.mono (bf hlt)),h0.s,h0.lp⟩
    have hn2:(HB.s.put st.s.up.length A9 st.c .dead).up.length=st.s.up.length:=by rw[St.put_len,hE2.n,St.put_len]
    have fin:∀(e:Exit) ,(∀σ pre (K:Exit->Fr->St->Prop),K e (st.fr.ren σ pre.length) ((HB.s.emb σ pre).put (st.s.up.length+pre.length) A9 (σ st.c) .dead)->AE5 (st.s.up.length+pre.length) A9 (σ st.c) (st.fr.ren σ pre.length) K (HB.s.emb σ pre)) ->
      ∀(n:Nat) (σ:Nat->Nat) (pre:List AA) (K:Exit->Fr->St->Prop),(∀σ',AS st.c σ σ'->K e (st.fr.ren σ' pre.length) ((HB.s.put st.s.up.length A9 st.c .dead).emb σ' pre))->BH P n N none (.rangeFunc g ps asg body) K (st.fr.ren σ pre.length) (st.s.emb σ pre):=by
     intro e hL2 n σ pre K hk
     rw[DT]at hf
     refine Y7 A9 (f:=f) (first:=first.map (V.ren σ pre.length)) (cap:=cap.map (V.ren σ pre.length)) (by rw[C6,hf];simp) fun γ=>?_
     have h1:=hA (fun i=>if i=st.c then γ else σ i) pre (fun _ s'=>AE5 (st.s.emb σ pre).up.length A9 γ (st.fr.ren σ pre.length) K s') fun σ' ha=>?_
     ·have hag:=AS.upd st.c γ σ;have e1:(((first++[V.yld st.s.up.length A9 st.c]++cap).map weakV).map (V.ren (fun i=>if i=st.c then γ else σ i) pre.length))=((first.map (V.ren σ pre.length)++[V.yld (st.s.emb σ pre).up.length A9 γ]++cap.map (V.ren σ pre.length)).map weakV):=by rw[HV];congr 1;simp only[List.map_append,bn,List.map_nil,gZ,if_true,C5];rw[bw fun v hv=>hbf.1 v hv σ _ pre.length hag,bw fun v hv=>hbf.2 v hv σ _ pre.length hag]
      rw[e1]at h1;have e2:(St.emb (fun i=>if i=st.c then γ else σ i) pre (st.s.put st.s.up.length A9 st.c (.loop st.fr ps.toList asg body N .ready)))=(st.s.emb σ pre).put (st.s.emb σ pre).up.length A9 γ (.loop (st.fr.ren σ pre.length) ps.toList asg body N .ready):=by rw[CN,hren];simp only[if_true];rw[<-hbd.s _ _ _ hag,<-hbd.f _ _ _ hag,C5]
      simp only at h1;rw[e2]at h1;exact h1
     ·have ha':AS st.c σ σ':=(AS.upd st.c γ σ).trans (ha.mono (bh _)) (br _);have hγ:σ' st.c=γ:=by have:=ha st.c (bx _);simpa using this.symm
      have h2:=hk σ' ha';rw[CN]at h2;have h3:=hL2 σ' pre K h2;rw[hγ,<-hbd.f σ σ' _ ha']at h3;rw[C5];exact h3
    have hgetE:∀σ pre,(HB.s.emb σ pre).get (st.s.up.length+pre.length) A9=some (σ st.c,.loop (Fr.ren σ pre.length fr') ps' asg' body' N' ls):=fun σ pre=>by rw[BZ,hget];rfl
    split at hx
    ·cases hx;exact⟨⟨bf hlt,hbd2,hn2⟩,(by intro l h;cases h),fin .normal fun σ pre K hK=>⟨_,_,_,_,_,_,hgetE σ pre,hK⟩⟩
    ·cases hx;exact⟨⟨bf hlt,hbd2,hn2⟩,(by intro l h;cases h),fin .ret fun σ pre K hK=>⟨_,_,_,_,_,_,hgetE σ pre,hK⟩⟩
    ·cases hx;exact⟨⟨bf hlt,hbd2,hn2⟩,(by intro l h;cases h),fin (.exit _) fun σ pre K hK=>⟨_,_,_,_,_,_,hgetE σ pre,hK⟩⟩
    ·cases hx
   ·cases hx
  ·cases hx
 ·cases hx
theorem oM(hP:D8 P){E:XE}(hEE:KD P E){N:Nat}{rec:VQ}(hrec:ZY P N rec)(m:Nat):ZY P N (ZV P E m N rec):=by
 intro code st e st' hx hbd hN;have same:∀{st:XS},Bd st->IX st st:=fun h=>⟨br _,h,rfl⟩;unfold ZV at hx;split at hx
 ·cases hx;exact⟨same hbd,(by intro l h;cases h),fun n ρ σ pre K _ hk=>zJ (hk σ (AS.refl _ _))⟩
 ·cases hx;exact⟨same hbd,(by intro l h;cases h),fun n ρ σ pre K _ hk=>sD (hk σ (AS.refl _ _))⟩
 ·rename_i id ops draw;obtain⟨rfl,hx2⟩:=oL hx;obtain⟨hE,hs⟩:=ALO hP hEE hN hx2 hbd;exact⟨hE,(by intro l h;cases h),fun n ρ σ pre K _ hk=>hs n ρ σ pre K hk⟩
 ·rename_i a b;simp only[EY,bj]at hN;have hρ1:∀{ρ:Option Nat},(ρ=none\/GH (.seq a b)=true)->(ρ=none\/GH a=true)/\(ρ=none\/GH b=true):=by
   intro ρ h;rcases h with h|h
   ·exact⟨.inl h,.inl h⟩
   ·simp only[GH,bj]at h;exact⟨.inr h.1,.inr h.2⟩
  unfold iD at hx;split at hx
  ·rename_i st1 e1;obtain⟨hE,_,hC⟩:=hrec _ _ _ _ e1 hbd hN.1;obtain⟨hE',hg,hC'⟩:=hrec _ _ _ _ hx hE.bd hN.2;refine⟨⟨bz hE.c hE'.c,hE'.bd,hE'.n.trans hE.n⟩,hg,fun n ρ σ pre K hρ hk=>mG (hC n ρ σ pre _ (hρ1 hρ).1 fun σ' ha=>?_)⟩;exact hC' n ρ σ' pre K (hρ1 hρ).2 fun σ'' ha'=>hk σ'' (ha.trans ha' hE.c)
  ·rename_i hne;obtain⟨hE,hg,hC⟩:=hrec _ _ _ _ hx hbd hN.1;refine⟨hE,hg,fun n ρ σ pre K hρ hk=>mG (hC n ρ σ pre _ (hρ1 hρ).1 fun σ' ha=>?_)⟩;have:=hk σ' ha;cases e with
   |normal=>exact absurd hx (hne st')
   |_=>exact this
 ·rename_i c a b;simp only[EY,bj]at hN;have hρ1:∀{ρ:Option Nat},(ρ=none\/GH (.cond c a b)=true)->(ρ=none\/GH a=true)/\(ρ=none\/GH b=true):=by
   intro ρ h;rcases h with h|h
   ·exact⟨.inl h,.inl h⟩
   ·simp only[GH,bj]at h;exact⟨.inr h.1,.inr h.2⟩
  unfold nK at hx;split at hx
  ·rename_i bv hb;rw[DT]at hb;have hb':∀σ δ,DU true (st.fr.ren σ δ) c=some (.bool bv):=fun σ δ=>by rw[C6,hb];simp
   cases bv with
   |true=>
    obtain⟨hE,hg,hC⟩:=hrec _ _ _ _ hx hbd hN.1
    exact⟨hE,hg,fun n ρ σ pre K hρ hk=>dT (hb' _ _) (fun _=>hC n ρ σ pre K (hρ1 hρ).1 hk) (fun h=>by cases h)⟩
   |false=>
    obtain⟨hE,hg,hC⟩:=hrec _ _ _ _ hx hbd hN.2
    exact⟨hE,hg,fun n ρ σ pre K hρ hk=>dT (hb' _ _) (fun h=>by cases h) (fun _=>hC n ρ σ pre K (hρ1 hρ).2 hk)⟩
  ·cases hx
 ·rename_i id body;unfold M9 at hx;split at hx
  ·rename_i i st1 e1;obtain⟨hE,_,hC⟩:=hrec _ _ _ _ e1 hbd hN;cases hb:bt i id with
   |true=>
    rw[hb]at hx
    have:=bq hb
    subst this
    cases hx
    refine⟨hE,(by intro l h;cases h),fun n ρ σ pre K hρ hk=>Q7 (hC n ρ σ pre _ hρ fun σ' ha=>?_)⟩
    show(if i=i then K .normal else K (.exit i)) _ _
    rw[if_pos rfl];exact hk σ' ha
   |false=>
    rw[hb]at hx
    cases hx
    refine⟨hE,(by intro l h;cases h),fun n ρ σ pre K hρ hk=>Q7 (hC n ρ σ pre _ hρ fun σ' ha=>?_)⟩
    show(if i=id then K .normal else K (.exit i)) _ _
    rw[if_neg (fun e=>by rw[e,Nat.beq_refl]at hb;cases hb)];exact hk σ' ha
  ·rename_i hne;obtain⟨hE,hg,hC⟩:=hrec _ _ _ _ hx hbd hN;refine⟨hE,hg,fun n ρ σ pre K hρ hk=>Q7 (hC n ρ σ pre _ hρ fun σ' ha=>?_)⟩;have:=hk σ' ha;cases e with
   |exit i=>exact absurd hx (hne i st')
   |_=>exact this
 ·rename_i body;have hN:EY N body=true:=hN;obtain⟨h1,h2,h3⟩:=AG1 hrec hN m hx hbd;exact⟨h1,h2,fun n ρ σ pre K hρ hk=>h3 n ρ σ pre K hρ hk⟩
 ·cases hx;exact⟨same hbd,(by intro l h;cases h),fun n ρ σ pre K _ hk=>zK (hk σ (AS.refl _ _))⟩
 ·cases hx;exact⟨same hbd,(by intro l h;cases h),fun n ρ σ pre K _ hk=>AE4 (hk σ (AS.refl _ _))⟩
 ·rename_i body;obtain⟨hE,hg,hC⟩:=hrec _ _ _ _ hx hbd hN;refine⟨hE,hg,fun n ρ σ pre K hρ hk=>?_⟩;rcases hρ with rfl|hρ
  ·have:=sE (K:=fun e fr s=>K e fr s/\∀l,e≠.goto l) (fun l fr s h=>h.2 l rfl) (hC n none σ pre (fun e fr s=>K e fr s/\∀l,e≠.goto l) (.inl rfl) fun σ' ha=>⟨hk σ' ha,hg⟩);exact zL this fun e fr s h=>h.1
  ·cases hρ
 ·rename_i g ps asg body;obtain⟨h1,h2,h3⟩:=AAY hEE.cf hN hx hbd;refine⟨h1,h2,fun n ρ σ pre K hρ hk=>?_⟩;rcases hρ with rfl|hρ
  ·exact h3 n σ pre K hk
  ·cases hρ
 ·cases hx
theorem UQ:∀(fr:Fr) (ps:List Tmp) (vs:List V),(HM fr ps vs).ren σ δ=HM (fr.ren σ δ) ps (vs.map (V.ren σ δ))
 |fr,[],vs=>by cases vs<;>rfl
 |fr,p::ps,[]=>rfl
 |fr,p::ps,v::vs=>by simp only[HM,bn];rw[UQ];rfl
theorem ALP(_:D8 P){rec:F6}(hrec:UJ P rec):AS2 P (iH rec):=by
 intro l q γ vs st r st' hx hbd hvs;unfold iH at hx;split at hx
 ·rename_i γ' fr0 ps asg body N hget;have hx2:=EC hx;clear hx;obtain⟨hc,hx⟩:=hx2;simp only[bj]at hc;have hγ:=bq hc.1.1;have hlen:=bq hc.1.2;have hlt0:γ<st.c:=by simpa using hc.2
  subst hγ;have hL:=hbd.lp _ _ _ _ _ _ _ _ _ hget;simp only[S5,bj]at hL;obtain⟨⟨⟨⟨hp,fa⟩,fb⟩,na⟩,nb⟩:=hL;have hfr0:∀σ σ' δ,AS st.c σ σ'->Fr.ren σ δ fr0=Fr.ren σ' δ fr0:=fun σ σ' δ ha=>by have:=NA hbd hget σ σ' δ ha;simp only[A6.ren,A6.loop.injEq]at this;exact this.1
  have hbd0:Bd ⟨st.c,HM fr0 ps vs,⟨st.s.up++[st.s.loc],[]⟩⟩:=⟨fun σ σ' δ ha=>by
   simp only[UQ];rw[hfr0 σ σ' δ ha];congr 1;exact bw fun v hv=>hvs v hv σ σ' δ ha,fun σ σ' pre ha=>by
   have:=hbd.s σ σ' pre ha;simp only[St.emb,St.mk.injEq]at this;simp only[St.emb,List.map_append,bn,List.map_nil,<-List.append_assoc,this.1,this.2];rfl,fun i k γ fr ps asg body N ls hg=>by
   rw[HW]at hg;split at hg
   ·rename_i L hL;rcases bg.1 (List.mem_of_getElem? hL)with hm|hm
    ·obtain⟨j,hj⟩:=List.getElem?_of_mem hm;refine hbd.lp j k γ fr ps asg body N ls ?_;have:=HW st.s.up st.s.loc j k;rw[hj]at this;exact this.trans hg
    ·have:L=[]:=by simpa using hm
     subst this;simp at hg
   ·cases hg⟩
  unfold ZW at hx;split at hx
  ·rename_i e HB hB;unfold ZX at hB;split at hB
   ·rename_i st1 hA;obtain⟨hE1,_,hCA⟩:=hrec _ _ _ _ _ hA hbd0 na;split at hB
    ·rename_i γ1 fr1 ps1 asg1 body1 N1 hget1;obtain⟨hc1,hB⟩:=EC hB;simp only[bj]at hc1;have h1:=bq hc1.1;subst h1;have hlt1:γ1<st1.c:=by simpa using hc1.2
     have hbdB:Bd ⟨st1.c,st1.fr,st1.s.put l q γ1 (.loop fr1 ps1 asg1 body1 N1 .busy)⟩:=by refine⟨hE1.bd.f,fun σ σ' pre ha=>?_,hE1.bd.lp.put (fun _ _ _ _ _ _ e=>by cases e;exact hE1.bd.lp _ _ _ _ _ _ _ _ _ hget1)⟩;have hr:=NA hE1.bd hget1 σ σ' pre.length ha;simp only[A6.ren,A6.loop.injEq]at hr;simp only[CN,A6.ren];rw[hE1.bd.s σ σ' pre ha,ha _ hlt1,hr.1]
     obtain⟨hE2,_,hCB⟩:=hrec _ _ _ _ _ hB hbdB nb;split at hx
     ·rename_i γ2 fr2 ps2 asg2 body2 N2 hget2;obtain⟨hc2,hx⟩:=EC hx;simp only[bj]at hc2;have h2:=bq hc2.1.1;subst h2;have hll:l<HB.s.up.length:=by simpa using hc2.1.2
      have hlt2:γ2<HB.c:=by simpa using hc2.2
      split at hx
      ·rename_i u lc hu;have hup:=OR hu;have hn2:HB.s.up.length=st.s.up.length+1:=by have e1:=hE2.n;have e2:=hE1.n;simp only[St.put_len]at e1;simp only[List.length_append,List.length_singleton]at e2;omega
       have hul:u.length=st.s.up.length:=by have:=congrArg List.length hup;simp at this;omega
       have hbS:∀σ σ' pre,AS HB.c σ σ'->(H8 HB.s u lc).emb σ pre=(H8 HB.s u lc).emb σ' pre:=fun σ σ' pre ha=>by have hL:∀L∈HB.s.up,(AQ HB.s L).ren σ pre.length=(AQ HB.s L).ren σ' pre.length:=fun L hL=>eG hE2.bd.s (AFU hE2.bd.s L hL) σ σ' pre.length ha;simp only[St.emb,H8,List.map_map,St.mk.injEq];refine⟨by congr 1;exact bw fun L hm=>hL L (by rw[hup];simp[hm]),hL lc (by rw[hup];simp)⟩
       have hlpS:S6 (H8 HB.s u lc):=fun i k γ fr ps asg body N ls hg=>by
        rw[H8,HW]at hg;have e0:u.map (AQ HB.s)++[AQ HB.s lc]=HB.s.up.map (AQ HB.s):=by rw[hup];simp
        rw[e0]at hg;split at hg
        ·rename_i L hL;simp only[bp,Option.map_eq_some_iff]at hL;obtain⟨L0,hL0,rfl⟩:=hL;have hg:=eH _ _ hg;refine hE2.bd.lp i k γ fr ps asg body N ls ?_;have hi:=(List.getElem?_eq_some_iff.1 hL0).1;unfold St.get;rw[if_neg (by omega),hL0];exact hg
        ·cases hg
       have hfr2:∀σ σ' δ,AS HB.c σ σ'->Fr.ren σ δ fr2=Fr.ren σ' δ fr2:=fun σ σ' δ ha=>by have:=NA hE2.bd hget2 σ σ' δ ha;simp only[A6.ren,A6.loop.injEq]at this;exact this.1
       have hcc:st.c<=HB.c:=bz hE1.c hE2.c;have fin:∀(b:Bool) (ls:LS),(∀σ pre (k:V->St->Prop),k (.bool b) (((H8 HB.s u lc).emb σ pre).put (l+pre.length) q (σ γ2) (.loop (Fr.ren σ pre.length fr2) ps2 asg2 body2 N2 ls))->gR (st.s.up.length+pre.length+1) (l+pre.length) q (σ γ2) k e (HB.fr.ren σ pre.length) (HB.s.emb σ pre)) ->
         IX st ⟨HB.c,st.fr,(H8 HB.s u lc).put l q γ2 (.loop fr2 ps2 asg2 body2 N2 ls)⟩/\TO HB.c (.bool b)/\True /\
         ∃fr0 ps asg body N,st.s.get l q=some (γ2,.loop fr0 ps asg body N .ready)/\∀(σ:Nat->Nat) (pre:List AA) (k:V->St->Prop),(∀σ',AS st.c σ σ'->k ((V.bool b).ren σ' pre.length) (((H8 HB.s u lc).put l q γ2 (.loop fr2 ps2 asg2 body2 N2 ls)).emb σ' pre)) ->
          YU P (l+pre.length) q (σ γ2) (Fr.ren σ pre.length fr0) ps asg body N (vs.map (V.ren σ pre.length)) (st.s.emb σ pre) k:=by
        intro b ls hRK
        refine⟨⟨hcc,⟨fun σ σ' δ ha=>hbd.f σ σ' δ (ha.mono hcc),fun σ σ' pre ha=>?_,hlpS.put (fun _ _ _ _ _ _ e=>by cases e;exact hE2.bd.lp _ _ _ _ _ _ _ _ _ hget2)⟩,by rw[St.put_len];simpa [H8]using hul⟩,fun _ _ _ _=>by simp,trivial,fr0,ps,asg,body,N,hget,fun σ pre k hk=>?_⟩
        ·simp only[CN,A6.ren];have:=hfr2 σ σ' pre.length ha;rw[hbS σ σ' pre ha,ha _ hlt2];congr 2
        ·refine⟨by simpa using hlen,hp,fun ρ=>?_⟩;have e1:(⟨(st.s.emb σ pre).up++[(st.s.emb σ pre).loc],[]⟩:St)=(⟨st.s.up++[st.s.loc],[]⟩:St).emb σ pre:=by simp[St.emb,AA.ren]
         rw[e1,<-UQ];refine hCA _ ρ σ pre _ (.inr fa) fun σ1 ha1=>⟨rfl,Fr.ren σ1 pre.length fr1,ps1,asg1,body1,N1,?_,?_⟩
         ·rw[BZ,hget1,ha1 _ hlt0];rfl
         ·have hCB':=hCB ((st.s.emb σ pre).up.length+1) ρ σ1 pre (gR ((st.s.emb σ pre).up.length+1) (l+pre.length) q (σ γ2) k) (.inr fb) fun σ2 ha2=>?_
          ·simp only[CN,A6.ren]at hCB';rw[ha1 _ hlt0]at hCB'|-;exact hCB'
          ·have ha:AS st.c σ σ2:=ha1.trans ha2 hE1.c;have hkk:=hk σ2 ha;simp only[LQ,CN,A6.ren]at hkk;have:=hRK σ2 pre k hkk;rw[C5,ha _ hlt0];exact this
       have hRK0:∀(σ:Nat->Nat) (pre:List AA),∃up lc' s2 fr0 ps asg body N,(HB.s.emb σ pre).up=up++[lc']/\up.length+1=st.s.up.length+pre.length+1/\l+pre.length<=up.length/\(HB.s.emb σ pre).get (l+pre.length) q=some (σ γ2,.loop fr0 ps asg body N .busy)/\zG (HB.s.emb σ pre) ⟨up,lc'⟩ s2/\(∃r',s2.get (l+pre.length) q=some (σ γ2,r')) /\
         s2=(H8 HB.s u lc).emb σ pre/\fr0=Fr.ren σ pre.length fr2/\ps=ps2/\asg=asg2/\body=body2/\N=N2:=by
        intro σ pre
        refine⟨pre++u.map (AA.ren σ pre.length),lc.ren σ pre.length,_,_,_,_,_,_,by simp[St.emb,hup],by simp[hul];omega,by simp[hul];omega,by rw[BZ,hget2];rfl,?_,?_,rfl,rfl,rfl,rfl,rfl,rfl⟩
        ·refine eF (F:=HB.s.up) (σ:=σ) (pre:=pre) (by simp[hup]) ?_;simp[H8,hup]
        ·rw[BZ];have hg:(H8 HB.s u lc).get l q=some (γ2,BU HB.s (.loop fr2 ps2 asg2 body2 N2 .busy)):=by
          rw[H8,HW];have e0:u.map (AQ HB.s)++[AQ HB.s lc]=HB.s.up.map (AQ HB.s):=by rw[hup];simp
          rw[e0,bp];unfold St.get at hget2;rw[if_neg (by omega)]at hget2;cases hL:HB.s.up[l]? with
          |none=>rw[hL]at hget2;cases hget2
          |some L=>
           rw[hL]at hget2
           simp only[Option.map_some,KC]
           rw[show L.get q=_ from hget2]
           rfl
         rw[hg];exact⟨_,rfl⟩
       have hfr:∀{r:V} {st':XS} {b:Bool} {ls:LS},r=.bool b->st'=⟨HB.c,st.fr,(H8 HB.s u lc).put l q γ2 (.loop fr2 ps2 asg2 body2 N2 ls)⟩->(∀σ pre (k:V->St->Prop),k (.bool b) (((H8 HB.s u lc).emb σ pre).put (l+pre.length) q (σ γ2) (.loop (Fr.ren σ pre.length fr2) ps2 asg2 body2 N2 ls))->gR (st.s.up.length+pre.length+1) (l+pre.length) q (σ γ2) k e (HB.fr.ren σ pre.length) (HB.s.emb σ pre)) ->
         IX st st'/\TO st'.c r/\st'.fr=st.fr/\∃fr0 ps asg body N,st.s.get l q=some (γ2,.loop fr0 ps asg body N .ready)/\∀(σ:Nat->Nat) (pre:List AA) (k:V->St->Prop),(∀σ',AS st.c σ σ'->k (r.ren σ' pre.length) (st'.s.emb σ' pre)) ->
          YU P (l+pre.length) q (σ γ2) (Fr.ren σ pre.length fr0) ps asg body N (vs.map (V.ren σ pre.length)) (st.s.emb σ pre) k:=by
        rintro r st' b ls rfl rfl hRK
        obtain⟨q1,q2,_,q3⟩:=fin b ls hRK
        exact⟨q1,q2,rfl,q3⟩
       split at hx
       ·cases hx;refine hfr rfl rfl fun σ pre k hk=>?_;obtain⟨up,lc',s2,fr0,ps,asg,body,N,h1,h2,h3,h4,h5,h6,rfl,rfl,rfl,rfl,rfl,rfl⟩:=hRK0 σ pre;exact⟨up,lc',_,_,_,_,_,_,h1,h2,h3,h4,h5,h6,hk⟩
       ·cases hx;refine hfr rfl rfl fun σ pre k hk=>?_;obtain⟨up,lc',s2,fr0,ps,asg,body,N,h1,h2,h3,h4,h5,h6,rfl,rfl,rfl,rfl,rfl,rfl⟩:=hRK0 σ pre;exact⟨up,lc',_,_,_,_,_,_,h1,h2,h3,h4,h5,h6,hk⟩
       ·cases hx;refine hfr rfl rfl fun σ pre k hk=>?_;obtain⟨up,lc',s2,fr0,ps,asg,body,N,h1,h2,h3,h4,h5,h6,rfl,rfl,rfl,rfl,rfl,rfl⟩:=hRK0 σ pre;exact⟨up,lc',_,_,_,_,_,_,h1,h2,h3,h4,h5,h6,hk⟩
       ·cases hx
      ·cases hx
     ·cases hx
    ·cases hB
   ·cases hB
  ·cases hx
 ·cases hx
def eqL{α:Type}(f:α->α->Bool):List α->List α->Bool
 |[],ys=>match ys with
  |[]=>true
  |_=>false
 |x::xs,ys=>match ys with
  |[]=>false
  |y::ys=>f x y&&eqL f xs ys
theorem OZ{α:Type}{f:α->α->Bool}(h:∀x y,f x y=true->x=y):∀{xs ys:List α},eqL f xs ys=true->xs=ys
 |[],[],_=>rfl
 |[],_::_,h'=>by cases h'
 |_::_,[],h'=>by cases h'
 |x::xs,y::ys,h'=>by simp only[eqL,bj]at h';rw[h x y h'.1,OZ h h'.2]
def cN:Nat->V->V->Bool
 |0=>fun _ _=>false
 |n+1=>fun v w=>match v with
  |.int k x=>match w with
   |.int k' y=>decide (k=k')&&decide (x=y)
   |_=>false
  |.bool b=>match w with
   |.bool c=>b==c
   |_=>false
  |.agg cs=>match w with
   |.agg ds=>eqL (cN n) cs ds
   |_=>false
  |.tup cs=>match w with
   |.tup ds=>eqL (cN n) cs ds
   |_=>false
  |.ref cs=>match w with
   |.ref ds=>eqL (cN n) cs ds
   |_=>false
  |.any=>match w with
   |.any=>true
   |_=>false
  |.list b es=>match w with
   |.list c fs=>b==c&&eqL (eqL (cN n)) es fs
   |_=>false
  |.nil=>match w with
   |.nil=>true
   |_=>false
  |.memo d=>match w with
   |.memo e=>eqL (cN n) d e
   |_=>false
  |_=>false
theorem RH:∀{n:Nat} (v w:V),cN n v w=true->v=w
 |0,_,_,h=>by cases h
 |n+1,v,w,h=>by
  cases v<;>cases w<;>first|(cases h;done)|skip;all_goals simp only[cN,bj,decide_eq_true_eq,beq_iff_eq]at h
  ·rw[h.1,h.2]
  ·rw[h]
  ·rw[OZ RH h]
  ·rw[OZ RH h]
  ·rw[h.1,OZ (fun _ _=>OZ RH) h.2]
  ·rw[OZ RH h]
  ·rfl
  ·rfl
  ·rw[OZ RH h]
abbrev QQ:=List (FuncId×List V×V)
def knX:QQ->CF0
 |[]=>fun _ _=>none
 |(f0,a0,r0)::t=>fun f a=>cond (bt f f0) (cond (eqL (cN 9) a a0) (some r0) (knX t f a)) (knX t f a)
def iY(P:Program)(t:QQ):Prop:=EX P (knX t)
theorem E7:iY P []:=fun _ _ _ h=>by cases h
theorem oN{t:QQ}(ht:iY P t){f:FuncId}{args:List V}{r:V}(h:(∀s,EA P f args s fun r' s'=>r'=r/\s'=s)/\(∀v∈args,∀σ δ,v.ren σ δ=v)/\(∀σ δ,r.ren σ δ=r)):iY P ((f,args,r)::t):=by
 intro f1 a1 r1 hx;show _;have hx:cond (bt f1 f) (cond (eqL (cN 9) a1 args) (some r) (knX t f1 a1)) (knX t f1 a1)=some r1:=hx;cases hf:bt f1 f with
 |false=>rw[hf]at hx;exact ht _ _ _ hx
 |true=>
  rw[hf]at hx
  cases ha:eqL (cN 9) a1 args with
  |false=>rw[ha]at hx;exact ht _ _ _ hx
  |true=>
   rw[ha]at hx
   cases hx
   rw[bq hf,OZ RH ha]
   exact h
abbrev ATR:=List (FuncId×List V×Tmp×Mk)
section
variable {t:QQ}{u:ATR}{lit:Tmp->Bool}{n:Nat}{f:FuncId}{args:List V}
end
end Go.Pg
