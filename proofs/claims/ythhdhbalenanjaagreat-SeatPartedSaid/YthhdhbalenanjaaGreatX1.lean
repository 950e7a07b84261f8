/- Contracts: Min of two, minimum, wider, facing, turn, the directions as an array. No condition. -/
import Derived.Test.YthhdhbalenanjaaGreatH1
import Derived.Test.YthhdhbalenanjaaGreatW4
open Go.Proofs.Tryz renaming prog->bh
open List renaming getElem?_eq_getElem->bj,getD_eq_getElem?_getD->bk,map_nil->bq,getElem_mem->bw,getElem_map->bx,ext_getElem->bz,getElem_range->bb,mem_map->bc,range->bf
set_option maxRecDepth 100000
set_option linter.unusedSimpArgs false
open Go Go.Pg Go.Proofs Go.Wind
namespace Go.Proofs.Tryz.Op
theorem ATB(a b:Int):(if b<a then b else a)=min a b:=by split<;>omega
theorem ATC(a b:Int):(if a<b then b else a)=max a b:=by split<;>omega
theorem A6C(n:Nat)(a b:Int):A8 bh kn (AF bh ann kn (n+100)) 165 [.list false [[i a],[i b]]]=some (i (min a b)):=by
 rw[AP rfl,AQ Tryz.func165 BAG rfl (by simp)];have hw:IntKind.i64.wrap (1+1)=2:=by decide
 simp[AZS,AD];rw[AB];simp[hw,ATB];rw[AB];simp
theorem AFI(n:Nat)(a b:Int):A8 bh kn (AF bh ann kn (n+200)) 198 [.list false [[i a],[i b]]]=some (i (min a b)):=by rw[AP rfl,AQ Tryz.func198 BAH rfl (by simp)];have q:=fun n=>A6C n a b;simp[AZT,AD,q]
def M0(r:Int×Int):List V:=[i r.1,i r.2]
theorem ATD(n:Nat)(r:Int×Int)(x:Int):A8 bh kn (AF bh ann kn (n+300)) 186 [.agg (M0 r),i x]=some (.agg (M0 (min r.1 x,max r.2 x))):=by rw[AP rfl,AQ Tryz.func186 BAI rfl (by simp[M0])];have q:=fun n=>AFI n r.1 x;simp[AZU,AD,M0,q,ATC]
theorem A6D{α:Type}(l:List α)(h:l.length=3):∃x y z,l=[x,y,z]:=by
 match l,h with
 |[x,y,z],_=>exact⟨x,y,z,rfl⟩
@[simp] theorem AX7(cs:List V):M1 (.ref cs)=some (.ref cs):=rfl
theorem A9(L:AA)(k γ:Nat)(r:AX):AA.put L k γ r=(k,γ,r)::L:=rfl
@[simp] theorem A6E:GK bh 186=false:=by kernel_rfl
def D3(b:AN)(ws:List (List Int)):List V:=[i b.last,i b.rows,i b.places,i b.reach,li b.face,li b.sun,JA b.winds,.list false (b.breaks.map AL),.list false (b.notes.map AL),JA ws,.any,.any]
section
variable {b:AN}{ws:List (List Int)}{g0 g1 g2:Int}{h:Nat}
end
section
variable {b:AN}{ws plan:List (List Int)}
theorem W2(b:AN)(t:List Int):t∈E1 b [] b.winds []↔C6 b t=true:=by rw[eL];simp only[List.nil_append,List.map_id',List.mem_filter,O2,C6,Bool.and_eq_true,List.all_eq_true];refine and_congr_right fun _=>?_;rw[WA,List.all_eq_true]
theorem yN(hb:Valid b):DD (E0 b):=DD.ask _ _ fun t ht=>KE hb (by
 have:=(W2 b t).1 ht;simp only[C6,Bool.and_eq_true]at this;exact this.1)
theorem dV(hb:Valid b)(hT:E1 b [] b.winds []≠[]):SF b (E0 b):=ABU hb (W2 b) hT
end
theorem PG{n:Int}(h:-1000<=n/\n<=1000):MZ n:=⟨by omega,by omega⟩
@[simp] theorem clI(f:Nat)(l:List Int):(l.all ((fun e=>e.all (AE (f+1)))∘AJ))=true:=by simp[AJ]
@[simp] theorem clP(f:Nat)(l:List (Int×Int)):(l.all ((fun e=>e.all (AE (f+1)))∘AL))=true:=by simp[AL]
@[simp] theorem clL(f:Nat)(l:List (List Int)):(l.all ((fun e=>e.all (AE (f+2)))∘AM))=true:=by simp[AM,AJ]
theorem slX{α:Type}{f:α->List V}{l:List α}(h:l≠[]):sl (l.map f)=.list false (l.map f):=by
 cases l with
 |nil=>exact absurd rfl h
 |cons x l=>rfl
theorem uU{b:AN}{plan:List (List Int)}(hb:Valid b)(hp:NU b plan){h:Nat}(hh:h<plan.length):plan[h].length<=3/\(plan[h].length:Int)=b.rows/\∀x∈plan[h],0<=x/\x<=3:=by
 have hro:=hb.ro;have e:plan.getD h []=plan[h]:=by rw[bk,bj hh];rfl
 have hr:=hp.row h hh;have hd:=hp.dir h;rw[e]at hr;refine⟨by omega,hr,fun x hx=>?_⟩;obtain⟨r,h1,rfl⟩:=List.getElem_of_mem hx;have:=hd r hh (by rw[e];exact h1);unfold ER at this;rw[e,bk,bj h1]at this;exact EH.1 this
section
variable {b:AN}{x0 x1 x2 y0 y1 y2:Int}
end
section
variable {b:AN}{plan:List (List Int)}
end
@[simp] theorem AX8:GK bh 157=false:=by kernel_rfl
theorem ATE(n:Nat)(x:vL):A8 bh kn (AF bh ann kn (n+50)) 156 [.agg (VF x)]=some (i x.calm):=by rw[AP rfl,AQ Tryz.func156 BAM rfl (by simp[VF])];simp[AZY,AD,VF]
theorem ATF(n:Nat)(x:vL):A8 bh kn (AF bh ann kn (n+50)) 158 [.agg (VF x)]=some (i x.good):=by rw[AP rfl,AQ Tryz.func158 BAN rfl (by simp[VF])];simp[AZZ,AD,VF]
section
variable {b:AN}{ws plan:List (List Int)}{ff:FuncId}{sel:vL->Int}{s:Nat×Nat}
def HT(b:AN)(plan:List (List Int))(s:Nat×Nat)(sel:vL->Int)(h:Nat)(w:Int):Int:=sel (zA b (s.1,s.2) h (ER plan h s.1) w)
theorem A6F(hb:Valid b)(hp:NU b plan)(hsel:∀n x,A8 bh kn (AF bh ann kn (n+50)) ff [.agg (VF x)]=some (i (sel x)))(hs1:(s.1:Int)<b.rows)(hs2:(s.2:Int)<b.places)(out:Int×Int)(h:Nat)(hh:h<plan.length)(xs:List Int)(hx:∀x∈xs,0<=x/\x<=3)(hxl:xs.length<=100)(γ:Nat):∀(d j c:Nat),j+d=xs.length->γ<c->∃c',c<=c'/\∀n k,d<k->BM (AF bh ann kn (n+1400) 66) RN (ann 66 (B0 RN)) k ⟨c,[(1,true,.ref (D3 b ws)),(2,true,JA plan),(4,true,.ptr 0 4 0 0),(7,true,.ptr 0 7 1 0),(8,true,.ptr 0 8 2 0),(9,true,i h),(11,true,.ptr 0 11 γ 0),(17,true,JA ws),(18,true,i ws.length),(19,true,i h),(25,true,li xs),(26,true,i xs.length),(27,true,i j)],⟨[],[(4,0,.box [.fn ff [] []]),(7,1,.box [i s.1,i s.2]),(8,2,.box (M0 out)),(11,γ,.box (M0 (FY (1,0) ((xs.take j).map (HT b plan s sel h)))))]⟩⟩ =
  some (.exit 2,⟨c',[(28,true,.bool false),(1,true,.ref (D3 b ws)),(2,true,JA plan),(4,true,.ptr 0 4 0 0),(7,true,.ptr 0 7 1 0),(8,true,.ptr 0 8 2 0),(9,true,i h),(11,true,.ptr 0 11 γ 0),(17,true,JA ws),(18,true,i ws.length),(19,true,i h),(25,true,li xs),(26,true,i xs.length),(27,true,i xs.length)],⟨[],[(4,0,.box [.fn ff [] []]),(7,1,.box [i s.1,i s.2]),(8,2,.box (M0 out)),(11,γ,.box (M0 (FY (1,0) (xs.map (HT b plan s sel h)))))]⟩⟩)
 |0,j,c,hd,hc=>by
  have:j=xs.length:=by omega
  subst this;refine⟨c,Nat.le_refl _,fun n k hk=>?_⟩;obtain⟨k,rfl⟩:∃k',k=k'+1:=⟨k-1,by omega⟩;rw[AB,List.take_length];simp[M0]
 |d+1,j,c,hd,hc=>by
  have hj:j<xs.length:=by omega
  have hla:=hb.la;have hro:=hb.ro;have hpl:=hb.pl;have hsu:=hb.su;have hlen:=hp.len;have hwj:=B5 (k:=j) (by omega);obtain⟨c',hc',ih⟩:=A6F hb hp hsel hs1 hs2 out h hh xs hx hxl γ d (j+1) (c+1) (by omega) (by omega);refine⟨c',by omega,fun n k hk=>?_⟩;obtain⟨k,rfl⟩:∃k',k=k'+1:=⟨k-1,by omega⟩;have ih:=ih n k (by omega);have hxj:=hx _ (bw hj);have e1:(xs.take (j+1)).map (HT b plan s sel h)=(xs.take j).map (HT b plan s sel h)++[HT b plan s sel h xs[j]]:=by rw[List.take_succ_eq_append_getElem hj,List.map_append,List.map_cons,bq]
  have e2:FY (1,0) ((xs.take (j+1)).map (HT b plan s sel h))=(min (FY (1,0) ((xs.take j).map (HT b plan s sel h))).1 (HT b plan s sel h xs[j]),max (FY (1,0) ((xs.take j).map (HT b plan s sel h))).2 (HT b plan s sel h xs[j])):=by rw[e1];unfold FY;rw[List.foldl_append];rfl
  rw[e2]at ih;have qw:=fun n=>ATD n (FY (1,0) ((xs.take j).map (HT b plan s sel h))) (HT b plan s sel h xs[j]);obtain⟨r1,r2,r3⟩:=uU hb hp hh;have hsr:s.1<plan[h].length:=by omega
  have hpa:ER plan h s.1=plan[h][s.1]:=by unfold ER;rw[show plan.getD h []=plan[h] by rw[bk,bj hh];rfl,bk,bj hsr];rfl
  have qo:=fun n=>kOf n b hb (s.1,s.2) (by simp only;omega) h (by omega) (ER plan h s.1) xs[j] hxj;have qs:=fun n=>hsel n (zA b (s.1,s.2) h (ER plan h s.1) xs[j]);have es:HT b plan s sel h xs[j]=sel (zA b (s.1,s.2) h (ER plan h s.1) xs[j]):=rfl;rw[es]at ih qw;rw[hpa]at qo qs ih qw;generalize FY (1,0) (xs.map (HT b plan s sel h))=RR at ih|-;generalize FY (1,0) ((xs.take j).map (HT b plan s sel h))=R at ih qw|-;generalize sel (zA b (s.1,s.2) h plan[h][s.1] xs[j])=y at qs ih qw;generalize zA b (s.1,s.2) h plan[h][s.1] xs[j]=O at qs qo;have hc1:γ<c+1:=by omega
  rw[AB];simp only[AC,D3,M0,AL,VF]at qo qs ih qw|-;simp at ih;simp[hj,hwj,hh,hsr,AJ,AM,AL,qo,qs,qw,hc1,A9,ih]
def OU(b:AN)(ws plan:List (List Int))(s:Nat×Nat)(sel:vL->Int)(n:Nat):Int×Int:=AHN (1,0) ws (HT b plan s sel) n
theorem AFJ{l:List Int}(h:∀x∈l,0<=x/\x<=1):0<=(FY (1,0) l).1/\(FY (1,0) l).1<=1/\0<=(FY (1,0) l).2/\(FY (1,0) l).2<=1:=by have:=sB l (1,0) 0 1 h (by simp) (by simp);simp only at this;omega
theorem A6G(hb:Valid b)(hp:NU b plan)(hsel:∀n x,A8 bh kn (AF bh ann kn (n+50)) ff [.agg (VF x)]=some (i (sel x)))(hse:∀h w,0<=HT b plan s sel h w/\HT b plan s sel h w<=1)(hs1:(s.1:Int)<b.rows)(hs2:(s.2:Int)<b.places)(hwl:ws.length=b.winds.length)(hok:DD ws):∀(d h c:Nat),h+d=ws.length->3<=c->∃c',3<=c'/\∀n k,d<k->BM (AF bh ann kn (n+1600) 66) RO (ann 66 (B0 RO)) k ⟨c,[(1,true,.ref (D3 b ws)),(2,true,JA plan),(4,true,.ptr 0 4 0 0),(7,true,.ptr 0 7 1 0),(8,true,.ptr 0 8 2 0),(17,true,JA ws),(18,true,i ws.length),(19,true,i h)],⟨[],[(4,0,.box [.fn ff [] []]),(7,1,.box [i s.1,i s.2]),(8,2,.box (M0 (OU b ws plan s sel h)))]⟩⟩ =
  some (.exit 0,⟨c',[(20,true,.bool false),(1,true,.ref (D3 b ws)),(2,true,JA plan),(4,true,.ptr 0 4 0 0),(7,true,.ptr 0 7 1 0),(8,true,.ptr 0 8 2 0),(17,true,JA ws),(18,true,i ws.length),(19,true,i ws.length)],⟨[],[(4,0,.box [.fn ff [] []]),(7,1,.box [i s.1,i s.2]),(8,2,.box (M0 (OU b ws plan s sel ws.length)))]⟩⟩)
 |0,h,c,hd,hc=>by
  have:h=ws.length:=by omega
  subst this;refine⟨c,hc,fun n k hk=>?_⟩;obtain⟨k,rfl⟩:∃k',k=k'+1:=⟨k-1,by omega⟩;rw[AB];simp[M0]
 |d+1,h,c,hd,hc=>by
  have hh:h<ws.length:=by omega
  have hh5:=hb.hl;have hwi:=hb.wi;have hlen:=hp.len;have hwh:=B5 (k:=h) (by omega);have hwd:ws.getD h []=ws[h]:=by rw[bk,bj hh];rfl
  have hw4:=hok.len _ (bw hh);obtain⟨c1,hc1,q⟩:=A6F (ws:=ws) hb hp hsel hs1 hs2 (OU b ws plan s sel h) h (by omega) ws[h] (hok.lo _ (bw hh)) (by omega) c ws[h].length 0 (c+1) (by omega) (by omega);obtain⟨c',hc',ih⟩:=A6G hb hp hsel hse hs1 hs2 hwl hok d (h+1) c1 (by omega) (by omega);refine⟨c',hc',fun n k hk=>?_⟩;obtain⟨k,rfl⟩:∃k',k=k'+1:=⟨k-1,by omega⟩;have ih:=ih n k (by omega);have q:=fun n k=>q n (k+100) (by omega);have e1:OU b ws plan s sel (h+1)=((OU b ws plan s sel h).1+(FY (1,0) (ws[h].map (HT b plan s sel h))).1,(OU b ws plan s sel h).2+(FY (1,0) (ws[h].map (HT b plan s sel h))).2):=by rw[<-hwd];rfl
  have hr:=AFJ (l:=ws[h].map (HT b plan s sel h)) fun x hx=>by obtain⟨w,_,rfl⟩:=bc.1 hx;exact hse h w
  have hb1:=eH (n:=h) (c:=1) (f:=fun h=>(FY (1,0) ((ws.getD h []).map (HT b plan s sel h))).1) fun j _=>by
   have:=AFJ (l:=(ws.getD j []).map (HT b plan s sel j)) fun x hx=>by obtain⟨w,_,rfl⟩:=bc.1 hx;exact hse j w
   omega
  have hb2:=eH (n:=h) (c:=1) (f:=fun h=>(FY (1,0) ((ws.getD h []).map (HT b plan s sel h))).2) fun j _=>by
   have:=AFJ (l:=(ws.getD j []).map (HT b plan s sel j)) fun x hx=>by obtain⟨w,_,rfl⟩:=bc.1 hx;exact hse j w
   omega
  change 0<=(OU b ws plan s sel h).1/\(OU b ws plan s sel h).1<=h*1 at hb1;change 0<=(OU b ws plan s sel h).2/\(OU b ws plan s sel h).2<=h*1 at hb2;rw[e1]at ih;rw[List.take_zero,bq]at q;have e0:FY (1,0) []=(1,0):=rfl;rw[e0]at q;generalize OU b ws plan s sel ws.length=TT at ih|-;generalize OU b ws plan s sel h=T at ih q hb1 hb2|-;generalize FY (1,0) (ws[h].map (HT b plan s sel h))=R at ih q hr;have w1:IntKind.i64.wrap (T.1+R.1)=T.1+R.1:=AZ (by omega) (by omega);have w2:IntKind.i64.wrap (T.2+R.2)=T.2+R.2:=AZ (by omega) (by omega);have hc2:2<c1:=by omega
  have hcc:c<c+1:=by omega
  rw[AB];simp only[D3,M0]at q ih|-;simp at q ih;simp[hh,hwh,AJ,AM,q,w1,w2,hc2,hcc,A9,ih]
theorem mR(n:Nat)(hb:Valid b)(hp:NU b plan)(hsel:∀n x,A8 bh kn (AF bh ann kn (n+50)) ff [.agg (VF x)]=some (i (sel x)))(hse:∀h w,0<=HT b plan s sel h w/\HT b plan s sel h w<=1)(hs1:(s.1:Int)<b.rows)(hs2:(s.2:Int)<b.places)(hwl:ws.length=b.winds.length)(hok:DD ws):A8 bh kn (AF bh ann kn (n+1800)) 157 [.agg [.fn ff [] []],.ref (D3 b ws),JA plan,.agg [i s.1,i s.2]]=some (.agg (M0 (OU b ws plan s sel ws.length))):=by
 rw[AP rfl,AQ Tryz.func157 BAL rfl (by simp[D3,AJ,AM,AL])];obtain⟨c',hc',q⟩:=A6G (s:=s) hb hp hsel hse hs1 hs2 hwl hok ws.length 0 3 (by omega) (Nat.le_refl _);have h5:=hb.hl;have q:=fun n k=>q n (k+150) (by omega);have e0:OU b ws plan s sel 0=(0,0):=rfl;rw[e0]at q;generalize OU b ws plan s sel ws.length=T at q|-;have hc2:2<c':=by omega
 simp only[D3,M0]at q|-;simp at q;simp[AZX,AD,AM,q,hc2,A9]
end
end Go.Proofs.Tryz.Op
namespace Go.Wind
structure nB where
 sun:Int
 calm:Int×Int
 good:Int×Int
end Go.Wind
namespace Go.Proofs.Tryz.Op
@[simp] theorem AX9(T:TypeId)(x:Operand)(k:Nat)(f:Operand->Option V):HS bh (.oth (.field T x k)) f=[]:=rfl
@[simp] theorem AYA(f:FuncId):weakC (.fn f [] [])=.fn f [] []:=rfl
@[simp] theorem AYB(f:FuncId):weakM (.fn f [] [])=.fn f [] []:=rfl
@[simp] theorem ATG(k:Nat)(f:FuncId):AE (k+1) (.fn f [] [])=true:=rfl
def OV(x:nB):List V:=[i x.sun,i x.calm.1,i x.calm.2,i x.good.1,i x.good.2]
section
variable {b:AN}{ws plan:List (List Int)}
def qU(b:AN)(ws plan:List (List Int))(r p:Nat):nB:=⟨LA b plan r plan.length,iP b ws plan r p,VO b ws plan r p⟩
theorem yO(b:AN)(plan:List (List Int))(r n:Nat):LA b plan r (n+1)=LA b plan r n+(if X3 b plan r n=true then 1 else 0):=by unfold LA;simp only[cnt];split<;>simp
theorem AFK(hb:Valid b)(hp:NU b plan)(r p:Nat)(hr:(r:Int)<b.rows)(hp2:(p:Int)<b.places)(A:List (List V))(γ8 γ12:Nat):∀(d h c γ:Nat) (rs:List nB),h+d=plan.length->(rs.length:Int)=b.places->rs[p]? = some ⟨LA b plan r h,(0,0),(0,0)⟩->γ<c->∀n k,d<k->BM (AF bh ann kn (n+1400) 90) NP (ann 90 (B0 NP)) k ⟨c,[(2,true,.ptr 0 2 0 0),(3,true,.ptr 0 3 1 0),(6,true,.ref (D3 b ws)),(8,true,pv 87 γ8 A),(9,true,i r),(10,true,.vec 0 30 γ rs.length),(11,true,i p),(12,true,.ptr 0 12 γ12 0),(24,true,i b.rows),(25,true,i r),(32,true,i rs.length),(33,true,i p),(40,true,i plan.length),(41,true,i h)],⟨[],(2,0,.box (AC b))::(3,1,.box [JA plan])::(12,γ12,.box [i r,i p])::(30,γ,.vec 209 (rs.map OV))::pl 87 γ8 204 A⟩⟩ =
  some (.exit 4,⟨c,(42,true,.bool false)::[(2,true,.ptr 0 2 0 0),(3,true,.ptr 0 3 1 0),(6,true,.ref (D3 b ws)),(8,true,pv 87 γ8 A),(9,true,i r),(10,true,.vec 0 30 γ rs.length),(11,true,i p),(12,true,.ptr 0 12 γ12 0),(24,true,i b.rows),(25,true,i r),(32,true,i rs.length),(33,true,i p),(40,true,i plan.length),(41,true,i plan.length)],⟨[],(2,0,.box (AC b))::(3,1,.box [JA plan])::(12,γ12,.box [i r,i p])::(30,γ,.vec 209 ((rs.set p ⟨LA b plan r plan.length,(0,0),(0,0)⟩).map OV))::pl 87 γ8 204 A⟩⟩)
 |0,h,c,γ,rs,hd,hl,e,hγ,n,k+1,hk=>by
  have:h=plan.length:=by omega
  subst this;have:rs.set p ⟨LA b plan r plan.length,(0,0),(0,0)⟩=rs:=by
   have hpl:p<rs.length:=by omega
   rw[bj hpl,Option.some.injEq]at e;rw[<-e];exact List.set_getElem_self hpl
  rw[this,AB];simp
 |d+1,h,c,γ,rs,hd,hl,e,hγ,n,k+1,hk=>by
  have hh:h<plan.length:=by omega
  have hla:=hb.la;have hro:=hb.ro;have hpc:=hb.pl;have hsu:=hb.su;have hlen:=hp.len;have hwh:=B5 (k:=h) (by omega);obtain⟨r1,r2,r3⟩:=uU hb hp hh;have hr2:r<plan[h].length:=by omega
  have hpa:ER plan h r=plan[h][r]:=by unfold ER;rw[show plan.getD h []=plan[h] by rw[bk,bj hh];rfl,bk,bj hr2];rfl
  have q:=fun n=>kOf n b hb (r,p) (by simp only;omega) h (by omega) (ER plan h r) 0 (by omega);rw[hpa]at q;have hpl:p<rs.length:=by omega
  have ih:=AFK hb hp r p hr hp2 A γ8 γ12 d (h+1) c γ (rs.set p ⟨LA b plan r (h+1),(0,0),(0,0)⟩) (by omega) (by simpa using hl) (by rw[List.getElem?_set_self hpl]) hγ n k (by omega);rw[List.set_set,List.length_set]at ih;rw[bj hpl,Option.some.injEq]at e;have hs:=X0 (X3 b plan r) h;have hsb:0<=LA b plan r h/\LA b plan r h<=h:=by unfold LA;omega
  have hof:(zA b (r,p) h plan[h][r] 0).sun=if X3 b plan r h=true then 1 else 0:=by
   have:X3 b plan r h=decide (b.sun.getD h 0=plan[h][r]):=by unfold X3;rw[hpa];congr 1;exact propext eq_comm
   rw[this];rfl
  have hst:LA b plan r (h+1)=LA b plan r h+(zA b (r,p) h plan[h][r] 0).sun:=by rw[yO,hof]
  have hw:IntKind.i64.wrap (LA b plan r h+(zA b (r,p) h plan[h][r] 0).sun)=LA b plan r h+(zA b (r,p) h plan[h][r] 0).sun:=AZ (by rw[hof];split<;>omega) (by rw[hof];split<;>omega);rw[hst]at ih;generalize rs.set p ⟨LA b plan r plan.length,(0,0),(0,0)⟩=F at ih|-;generalize LA b plan r h=S at *;generalize zA b (r,p) h plan[h][r] 0=O at *;rw[List.map_set]at ih;have heg:(rs.map OV)[p]'(by simpa using hpl)=[i S,i 0,i 0,i 0,i 0]:=by rw[bx,e];rfl
  rw[AB];simp only[AC,AL,VF,OV,D3]at q ih heg|-;simp at ih;simp[hh,hr2,hwh,AJ,AM,AL,q,hpl,heg,hw,hγ,A9,HO,ih]
def LU(b:AN)(ws plan:List (List Int))(r p:Nat):List nB:=(bf b.places.toNat).map fun j=>if j<p then qU b ws plan r j else⟨0,(0,0),(0,0)⟩
def PX(b:AN)(ws plan:List (List Int))(r:Nat):List nB:=(bf b.places.toNat).map (qU b ws plan r)
theorem aK(b:AN)(ws plan:List (List Int))(r p:Nat):(LU b ws plan r p).length=b.places.toNat:=by simp[LU]
theorem AFL{r p:Nat}(h:p<b.places.toNat):(LU b ws plan r p)[p]? = some ⟨0,(0,0),(0,0)⟩:=by simp[LU,h]
theorem AFM{r p:Nat}:(LU b ws plan r p).set p (qU b ws plan r p)=LU b ws plan r (p+1):=by
 apply bz (by simp[LU]);intro j h1 h2;simp only[LU,List.getElem_set,bx,bb];by_cases e:p=j
 ·subst e;simp
 ·rw[if_neg e];have:(j<p)=(j<p+1):=propext ⟨fun h=>by omega,fun h=>by omega⟩;simp only[this]
theorem yP(b:AN)(ws plan:List (List Int))(r:Nat):LU b ws plan r b.places.toNat=PX b ws plan r:=by
 apply bz (by simp[LU,PX]);intro j h1 h2;have:j<b.places.toNat:=by simpa [LU]using h1
 simp only[LU,PX,bx,bb,if_pos this]
theorem yQ(b:AN)(ws plan:List (List Int))(r:Nat):LU b ws plan r 0=List.replicate b.places.toNat ⟨0,(0,0),(0,0)⟩:=by apply bz (by simp[LU]);intro j h1 h2;simp[LU]
theorem AFN(hb:Valid b)(hp:NU b plan)(hwl:ws.length=b.winds.length)(hok:DD ws)(r:Nat)(hr:(r:Int)<b.rows)(A:List (List V))(γ8 γ:Nat):∀(d p c:Nat),p+d=b.places.toNat->γ<c->∃c',γ<c'/\∀n k,d<k->BM (AF bh ann kn (n+2000) 90) NQ (ann 90 (B0 NQ)) k ⟨c,[(2,true,.ptr 0 2 0 0),(3,true,.ptr 0 3 1 0),(6,true,.ref (D3 b ws)),(8,true,pv 87 γ8 A),(9,true,i r),(10,true,.vec 0 30 γ b.places.toNat),(24,true,i b.rows),(25,true,i r),(32,true,i b.places.toNat),(33,true,i p)],⟨[],(2,0,.box (AC b))::(3,1,.box [JA plan])::(30,γ,.vec 209 ((LU b ws plan r p).map OV))::pl 87 γ8 204 A⟩⟩ =
  some (.exit 2,⟨c',(34,true,.bool false)::[(2,true,.ptr 0 2 0 0),(3,true,.ptr 0 3 1 0),(6,true,.ref (D3 b ws)),(8,true,pv 87 γ8 A),(9,true,i r),(10,true,.vec 0 30 γ b.places.toNat),(24,true,i b.rows),(25,true,i r),(32,true,i b.places.toNat),(33,true,i b.places.toNat)],⟨[],(2,0,.box (AC b))::(3,1,.box [JA plan])::(30,γ,.vec 209 ((PX b ws plan r).map OV))::pl 87 γ8 204 A⟩⟩)
 |0,p,c,hd,hγ=>by
  have:p=b.places.toNat:=by omega
  subst this;refine⟨c,hγ,fun n k hk=>?_⟩;obtain⟨k,rfl⟩:∃k',k=k'+1:=⟨k-1,by omega⟩;rw[yP,AB];simp
 |d+1,p,c,hd,hγ=>by
  have hpc:=hb.pl;have hla:=hb.la;have hlen:=hp.len;have hw:=B5 (k:=p) (by omega);have hp':p<b.places.toNat:=by omega
  obtain⟨c',h1,ih⟩:=AFN hb hp hwl hok r hr A γ8 γ d (p+1) (c+3) (by omega) (by omega);have q:=AFK (ws:=ws) hb hp r p hr (by omega) A γ8 c plan.length 0 (c+1) γ (LU b ws plan r p) (by omega) (by rw[aK];omega) (AFL hp') (by omega);rw[aK]at q;have q:=fun n m=>q n (m+100) (by omega);have qc:=fun n=>mR (ws:=ws) (ff:=156) (sel:=vL.calm) (s:=(r,p)) n hb hp ATE (fun h w=>XW _) hr (by simp only;omega) hwl hok;have qg:=fun n=>mR (ws:=ws) (ff:=158) (sel:=vL.good) (s:=(r,p)) n hb hp ATF (fun h w=>XW _) hr (by simp only;omega) hwl hok;have ec:OU b ws plan (r,p) vL.calm ws.length=iP b ws plan r p:=rfl;have eg:OU b ws plan (r,p) vL.good ws.length=VO b ws plan r p:=rfl;rw[ec]at qc;rw[eg]at qg;have hst:((LU b ws plan r p).set p ⟨LA b plan r plan.length,(0,0),(0,0)⟩).set p (qU b ws plan r p)=LU b ws plan r (p+1):=by rw[List.set_set,AFM]
  have hl:=aK b ws plan r p;have hbp:OV (qU b ws plan r p)=[i (LA b plan r plan.length),i (iP b ws plan r p).1,i (iP b ws plan r p).2,i (VO b ws plan r p).1,i (VO b ws plan r p).2]:=rfl;rw[<-hst,List.map_set,hbp]at ih;generalize LU b ws plan r p=R0 at q ih hl|-;generalize qU b ws plan r p=BP at *;generalize iP b ws plan r p=C at *;generalize VO b ws plan r p=G at *;generalize PX b ws plan r=RR at ih|-;generalize LA b plan r plan.length=S at *;generalize b.places.toNat=PP at hp' hl ih q|-;have hpl:p<R0.length:=by omega
  have heg:((R0.set p ⟨S,(0,0),(0,0)⟩).map OV)[p]? = some [i S,i 0,i 0,i 0,i 0]:=by simp[OV,hpl]
  have hle:PP<=R0.length:=by omega
  refine⟨c',h1,fun n k hk=>?_⟩;obtain⟨k,rfl⟩:∃k',k=k'+1:=⟨k-1,by omega⟩;have ih:=ih n k (by omega);rw[AB];generalize hRR:R0.set p ⟨S,(0,0),(0,0)⟩=R1 at *;have hl1:R1.length=PP:=by rw[<-hRR];simpa using hl
  have hpl1:p<R1.length:=by omega
  rw[bj (by simpa using hpl1),Option.some.injEq]at heg;simp only[AC,D3,M0]at q qc qg ih|-;simp at q ih;simp[hp',hw,AJ,AM,AL,q,qc,qg,hpl1,heg,A9,HO,HR,F2,CC,BV,BF,show Nat.beq 2 1=false from rfl,hl1,show γ<c+1+1+1 by omega,ih]
def EX(b:AN)(ws plan:List (List Int))(n:Nat):List (List nB):=(bf n).map (PX b ws plan)
theorem qV(b:AN)(ws plan:List (List Int))(n:Nat):EX b ws plan (n+1)=EX b ws plan n++[PX b ws plan n]:=by simp[EX,List.range_succ]
def GS(l:List nB):List V:=[.list false (l.map OV)]
theorem A6H{k:Nat}{x:List nB}(h:k<=10000):B9 bh 204 k [GS x]=true:=by rw[CQ (by simp[GS]) (by simp)];simp[maxLen,GS];omega
theorem ANE(hb:Valid b)(hp:NU b plan)(hwl:ws.length=b.winds.length)(hok:DD ws):∀(d r c γ8:Nat),r+d=b.rows.toNat->1<c->∃fr c' γ',BS fr 8=some (true,pv 87 γ' ((EX b ws plan b.rows.toNat).map GS))/\∀n k,d<k->BM (AF bh ann kn (n+2200) 90) RP (ann 90 (B0 RP)) k ⟨c,[(2,true,.ptr 0 2 0 0),(3,true,.ptr 0 3 1 0),(6,true,.ref (D3 b ws)),(8,true,pv 87 γ8 ((EX b ws plan r).map GS)),(24,true,i b.rows),(25,true,i r)],⟨[],(2,0,.box (AC b))::(3,1,.box [JA plan])::pl 87 γ8 204 ((EX b ws plan r).map GS)⟩⟩ =
  some (.exit 0,⟨c',fr,⟨[],(2,0,.box (AC b))::(3,1,.box [JA plan])::pl 87 γ' 204 ((EX b ws plan b.rows.toNat).map GS)⟩⟩)
 |0,r,c,γ8,hd,hc=>by
  have hr:r=b.rows.toNat:=by omega
  have hro:=hb.ro;have hr':b.rows=(r:Int):=by omega
  rw[<-hr];refine⟨?fr,c,γ8,?g1,fun n k hk=>?g2⟩;case g2=>
   obtain⟨k,rfl⟩:∃k',k=k'+1:=⟨k-1,by omega⟩
   rw[AB]
   simp[AC,hr']
   rfl
  case g1=>simp
 |d+1,r,c,γ8,hd,hc=>by
  have hro:=hb.ro;have hpc:=hb.pl;have hw:=B5 (k:=r) (by omega);have hr':(r:Int)<b.rows:=by omega
  obtain⟨c1,h1,q⟩:=AFN (ws:=ws) hb hp hwl hok r hr' ((EX b ws plan r).map GS) γ8 c b.places.toNat 0 (c+1) (by omega) (by omega);have q:=fun n m=>q n (m+100) (by omega);obtain⟨fr,c',γ',e1,ih⟩:=ANE hb hp hwl hok d (r+1) (c1+1) c1 (by omega) (by omega);have happ:=A6H (k:=(EX b ws plan r).length) (x:=PX b ws plan r) (by simp[EX];omega);rw[yQ]at q;rw[qV]at ih;refine⟨fr,c',γ',e1,fun n k hk=>?_⟩;obtain⟨k,rfl⟩:∃k',k=k'+1:=⟨k-1,by omega⟩;have ih:=ih n k (by omega);generalize EX b ws plan b.rows.toNat=FF at ih|-;have hRl:(PX b ws plan r).length=b.places.toNat:=by simp[PX]
  generalize PX b ws plan r=RR at ih q happ hRl;obtain⟨PP,hPP⟩:∃P:Nat,b.places=P:=⟨b.places.toNat,by omega⟩;have hP2:b.places.toNat=PP:=by omega
  rw[hP2]at q hRl;subst hRl;rw[AB];simp only[AC,D3,hPP]at q ih|-;simp[GS]at ih q happ;simp[OV]at q;have m1:RR.length*40<=140737488355328:=by omega
  have m2:RR.length<=maxLen:=by simp[maxLen];omega
  have htl:∀o,FO 0 30 o (pl 87 γ8 204 ((EX b ws plan r).map GS))=pl 87 γ8 204 ((EX b ws plan r).map GS):=fun o=>xO (by decide) _ _ _ (by simp[GS,OV]);simp[hr',hw,GS,q,ih,happ,m1,m2,htl]
def lvB(b:AN)(plan:List (List Int)):AA:=[(2,0,.box (AC b)),(3,1,.box [JA plan])]
theorem qW(hb:Valid b)(plan:List (List Int)):eF b (lvB b plan) 155 [.ptr 0 2 0 0,.ptr 0 3 1 0] 2 (DR b plan):=by intro n d fr;rw[A3 Tryz.func155 b155 rfl (by simp)];have q:=fun n=>AJ4 n b hb plan;generalize DR b plan=z at q|-;simp only[AC,lvB]at q|-;simp[AZ0,AD,q,AJ,AM,AL]
def HN(b:AN)(plan:List (List Int)):List (List nB)×Int:=if DJ b=0 then(if DR b plan=true then(if (E1 b [] b.winds []).isEmpty=true then([],11) else(EX b (E0 b) plan b.rows.toNat,0)) else([],2)) else([],DJ b)
theorem mS(n:Nat)(b:AN)(h40:∀l∈b.winds,l.length<=40)(plan:List (List Int)):A8 bh kn (AF bh ann kn (n+6200)) 117 [.agg (AC b),JA plan]=some (.tup [sl ((HN b plan).1.map GS),i (HN b plan).2]):=by
 rw[AP rfl,AQ Tryz.func117 BAO rfl (by simp[AC,AJ,AM,AL])];have hB:∀t:St,1<=t.up.length->AH t (lvB b plan)=lvB b plan:=fun t ht=>by simp[lvB,AC,AJ,AM,AL]
 have slnil:sl ([]:List (List V))=.nil:=rfl;unfold HN;by_cases h:DJ b=0
 ·have hb:=SG h;have hf:=qW hb plan;rw[if_pos h];cases hz:DR b plan with
  |false=>
   rw[hz]at hf
   rw[if_neg (by decide)]
   have q:=fun n=>nM (ff:=155) (cap:=[.ptr 0 2 0 0,.ptr 0 3 1 0]) hb hB (by simp) (by simp) 2 17 hf [(16,true,.fn 155 [] [.ptr 0 2 0 0,.ptr 0 3 1 0]),(15,true,.agg (AC b)),(2,true,.ptr 0 2 0 0),(3,true,.ptr 0 3 1 0)] (n+190)
   simp only[AC,lvB,bq,slnil]at q|-
   simp[AAU,AD,AJ,AM,AL,q]
  |true=>
   rw[hz]at hf
   rw[if_pos rfl]
   by_cases hT:E1 b [] b.winds []=[]
   ·obtain⟨c',hc',q⟩:=nO (ff:=155) (cap:=[.ptr 0 2 0 0,.ptr 0 3 1 0]) hb hB (by simp) (by simp) 2 17 hf hT [(16,true,.fn 155 [] [.ptr 0 2 0 0,.ptr 0 3 1 0]),(15,true,.agg (AC b)),(2,true,.ptr 0 2 0 0),(3,true,.ptr 0 3 1 0)];rw[if_pos (by rw[hT];rfl)];have q:=fun n=>q (n+190);simp only[AC,lvB,bq,slnil]at q|-;simp[AAU,AD,AJ,AM,AL,q]
   ·obtain⟨c',hc',q⟩:=ABQ (ff:=155) (cap:=[.ptr 0 2 0 0,.ptr 0 3 1 0]) hb hB (by simp) (by simp) 2 17 hf hT [(16,true,.fn 155 [] [.ptr 0 2 0 0,.ptr 0 3 1 0]),(15,true,.agg (AC b)),(2,true,.ptr 0 2 0 0),(3,true,.ptr 0 3 1 0)];rw[if_neg (by simpa using hT)];have q:=fun n=>q (n+190);have hro:=hb.ro;obtain⟨fr,c2,γ',e1,q6⟩:=ANE (ws:=E0 b) hb (AHP hz) (iM _ _) (yN hb) b.rows.toNat 0 c' 0 (by omega) (by omega);have q6:=fun n k=>q6 n (k+100) (by omega);have e0:EX b (E0 b) plan 0=[]:=rfl;rw[e0]at q6;generalize EX b (E0 b) plan b.rows.toNat=FF at *;simp only[AC,D3,lvB,List.cons_append,List.nil_append]at q q6|-;simp at q q6;simp[AAU,AD,AJ,AM,AL,q,q6,e1];simp[GS,OV]
 ·rw[if_neg h];have q:=fun n=>iI (ff:=155) (cap:=[.ptr 0 2 0 0,.ptr 0 3 1 0]) h40 hB (by simp) h 2 17 [(16,true,.fn 155 [] [.ptr 0 2 0 0,.ptr 0 3 1 0]),(15,true,.agg (AC b)),(2,true,.ptr 0 2 0 0),(3,true,.ptr 0 3 1 0)] (n+190);simp only[AC,lvB,bq,slnil]at q|-;simp[AAU,AD,AJ,AM,AL,q,h]
end
end Go.Proofs.Tryz.Op
