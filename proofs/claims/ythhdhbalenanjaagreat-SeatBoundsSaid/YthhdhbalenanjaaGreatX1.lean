/- Contracts: Min of two, minimum, wider, facing, turn, the directions as an array. No condition. -/
import Derived.Test.YthhdhbalenanjaaGreatW3
import Derived.Test.YthhdhbalenanjaaGreatI1
import Derived.Test.YthhdhbalenanjaaGreatFz
import Derived.Test.YthhdhbalenanjaaGreatH1
import Derived.Test.YthhdhbalenanjaaGreatW1
import Derived.Test.YthhdhbalenanjaaGreatW4
set_option maxRecDepth 100000
set_option linter.unusedSimpArgs false
open Go Go.Pg Go.Proofs Go.Wind
namespace Go.Proofs.Tryz.Op
theorem AUZ(a b:Int):(if b<a then b else a)=min a b:=by split<;>omega
theorem AGB(a b:Int):(if a<b then b else a)=max a b:=by split<;>omega
theorem AO2(n:Nat)(a b:Int):AW Tryz.prog kn (AE Tryz.prog ann kn (n+100)) 165 [.list false [[i a],[i b]]]=some (i (min a b)):=by
 rw[AQ rfl,AP Tryz.func165 BDM rfl (by simp)];have hw:IntKind.i64.wrap (1+1)=2:=by decide
 simp[A1T,AF];rw[AC];simp[hw,AUZ];rw[AC];simp
theorem AGC(n:Nat)(a b:Int):AW Tryz.prog kn (AE Tryz.prog ann kn (n+200)) 198 [.list false [[i a],[i b]]]=some (i (min a b)):=by rw[AQ rfl,AP Tryz.func198 BDN rfl (by simp)];have q:=fun n=>AO2 n a b;simp[A1U,AF,q]
def DT(r:Int×Int):List V:=[i r.1,i r.2]
theorem AU0(n:Nat)(r:Int×Int)(x:Int):AW Tryz.prog kn (AE Tryz.prog ann kn (n+300)) 186 [.agg (DT r),i x]=some (.agg (DT (min r.1 x,max r.2 x))):=by rw[AQ rfl,AP Tryz.func186 BDO rfl (by simp[DT])];have q:=fun n=>AGC n r.1 x;simp[A1V,AF,DT,q,AGB]
def BP4(g:List Int):List V:=g.map fun x=>i x
theorem A85{α:Type}(l:List α)(h:l.length=3):∃x y z,l=[x,y,z]:=by
 match l,h with
 |[x,y,z],_=>exact⟨x,y,z,rfl⟩
@[simp] theorem AZV(cs:List V):M9 (.ref cs)=some (.ref cs):=rfl
theorem BO(L:AA)(k γ:Nat)(r:AZ):AA.put L k γ r=(k,γ,r)::L:=rfl
@[simp] theorem A86:J6 Tryz.prog 186=false:=by kernel_rfl
def EA(b:AJ)(ws:List (List Int)):List V:=[i b.last,i b.rows,i b.places,i b.reach,li b.face,li b.sun,GN b.winds,.list false (b.breaks.map AG),.list false (b.notes.map AG),GN ws,.any,.any]
section
variable {b:AJ}{ws:List (List Int)}{g0 g1 g2:Int}{h:Nat}
def BLD(b:AJ)(h:Nat)(f:Nat→Int)(w:Int)(r:Nat):Int:=H7 (fun r=>H7 (fun p=>ACK b (r,p) h (f r) w) b.places.toNat) r
end
section
variable {b:AJ}{ws plan:List (List Int)}
def BP5(b:AJ)(ws plan:List (List Int))(n:Nat):Int×Int:=(H7 (fun h=>(jR b ws h (B7 plan h)).1) n,H7 (fun h=>(jR b ws h (B7 plan h)).2) n)
theorem iK(b:AJ)(t:List Int):t∈E6 b [] b.winds []↔CS b t=true:=by rw[fP];simp only[List.nil_append,List.map_id',List.mem_filter,PR,CS,Bool.and_eq_true,List.all_eq_true];refine and_congr_right fun _=>?_;rw[PE,List.all_eq_true]
theorem zX(hb:Valid b):DN (F5 b):=DN.ask _ _ fun t ht=>N9 hb (by
 have:=(iK b t).1 ht;simp only[CS,Bool.and_eq_true]at this;exact this.1)
def lvP(b:AJ)(plan:List (List Int))(r:AZ):AA:=[(2,0,.box (AB b)),(3,1,.box [GN plan]),(4,2,r)]
def BHX(b:AJ)(plan:List (List Int)):(Int×Int)×Int:=if CE b=0 then(if DJ b plan=true then(if (E6 b [] b.winds []).isEmpty=true then((0,0),11) else(AQ7 b (F5 b) plan,0)) else((0,0),2)) else((0,0),CE b)
end
@[simp] theorem clI(f:Nat)(l:List Int):(l.all ((fun e=>e.all (AK (f+1)))∘AH))=true:=by simp[AH]
@[simp] theorem clP(f:Nat)(l:List (Int×Int)):(l.all ((fun e=>e.all (AK (f+1)))∘AG))=true:=by simp[AG]
@[simp] theorem clL(f:Nat)(l:List (List Int)):(l.all ((fun e=>e.all (AK (f+2)))∘AM))=true:=by simp[AM,AH]
theorem slX{α:Type}{f:α→List V}{l:List α}(h:l≠[]):sl (l.map f)=.list false (l.map f):=by
 cases l with
 |nil=>exact absurd rfl h
 |cons x l=>rfl
theorem wH{b:AJ}{plan:List (List Int)}(hb:Valid b)(hp:FD b plan){h:Nat}(hh:h<plan.length):plan[h].length≤3∧(plan[h].length:Int)=b.rows∧∀x∈plan[h],0≤x∧x≤3:=by
 have hro:=hb.ro;have e:plan.getD h []=plan[h]:=by rw[List.getD_eq_getElem?_getD,List.getElem?_eq_getElem hh];rfl
 have hr:=hp.row h hh;have hd:=hp.dir h;rw[e]at hr;refine⟨by omega,hr,fun x hx=>?_⟩;obtain⟨r,h1,rfl⟩:=List.getElem_of_mem hx;have:=hd r hh (by rw[e];exact h1);unfold B7 at this;rw[e,List.getD_eq_getElem?_getD,List.getElem?_eq_getElem h1]at this;exact DV.1 this
section
variable {b:AJ}{x0 x1 x2 y0 y1 y2:Int}
end
section
variable {b:AJ}{plan:List (List Int)}
def BLE(b:AJ)(plan:List (List Int))(h:Nat):List Int:=if h=0 then AI0 b.face else AI0 (plan.getD (h-1) [])
def BLF(b:AJ)(plan:List (List Int)):Int×Int:=if CE b=0 then(if DJ b plan=true then(A35 b plan,0) else(0,2)) else(0,CE b)
end
@[simp] theorem AZW:J6 Tryz.prog 157=false:=by kernel_rfl
theorem AU1(n:Nat)(x:EI):AW Tryz.prog kn (AE Tryz.prog ann kn (n+50)) 156 [.agg (BI x)]=some (i x.calm):=by rw[AQ rfl,AP Tryz.func156 BDS rfl (by simp[BI])];simp[A10,AF,BI]
theorem AU2(n:Nat)(x:EI):AW Tryz.prog kn (AE Tryz.prog ann kn (n+50)) 158 [.agg (BI x)]=some (i x.good):=by rw[AQ rfl,AP Tryz.func158 BDT rfl (by simp[BI])];simp[A11,AF,BI]
section
variable {b:AJ}{ws plan:List (List Int)}{ff:FuncId}{sel:EI→Int}{s:Nat×Nat}
def HW(b:AJ)(plan:List (List Int))(s:Nat×Nat)(sel:EI→Int)(h:Nat)(w:Int):Int:=sel (bP b (s.1,s.2) h (B7 plan h s.1) w)
theorem A87(hb:Valid b)(hp:FD b plan)(hsel:∀n x,AW Tryz.prog kn (AE Tryz.prog ann kn (n+50)) ff [.agg (BI x)]=some (i (sel x)))(hs1:(s.1:Int)<b.rows)(hs2:(s.2:Int)<b.places)(out:Int×Int)(h:Nat)(hh:h<plan.length)(xs:List Int)(hx:∀x∈xs,0≤x∧x≤3)(hxl:xs.length≤100)(γ:Nat):∀(d j c:Nat),j+d=xs.length→γ<c→∃c',c≤c'∧∀n k,d<k→BC (AE Tryz.prog ann kn (n+1400) 66) SH (ann 66 (BR SH)) k ⟨c,[(1,true,.ref (EA b ws)),(2,true,GN plan),(4,true,.ptr 0 4 0 0),(7,true,.ptr 0 7 1 0),(8,true,.ptr 0 8 2 0),(9,true,i h),(11,true,.ptr 0 11 γ 0),(17,true,GN ws),(18,true,i ws.length),(19,true,i h),(25,true,li xs),(26,true,i xs.length),(27,true,i j)],⟨[],[(4,0,.box [.fn ff [] []]),(7,1,.box [i s.1,i s.2]),(8,2,.box (DT out)),(11,γ,.box (DT (DI (1,0) ((xs.take j).map (HW b plan s sel h)))))]⟩⟩ =
  some (.exit 2,⟨c',[(28,true,.bool false),(1,true,.ref (EA b ws)),(2,true,GN plan),(4,true,.ptr 0 4 0 0),(7,true,.ptr 0 7 1 0),(8,true,.ptr 0 8 2 0),(9,true,i h),(11,true,.ptr 0 11 γ 0),(17,true,GN ws),(18,true,i ws.length),(19,true,i h),(25,true,li xs),(26,true,i xs.length),(27,true,i xs.length)],⟨[],[(4,0,.box [.fn ff [] []]),(7,1,.box [i s.1,i s.2]),(8,2,.box (DT out)),(11,γ,.box (DT (DI (1,0) (xs.map (HW b plan s sel h)))))]⟩⟩)
 |0,j,c,hd,hc=>by
  have:j=xs.length:=by omega
  subst this;refine⟨c,Nat.le_refl _,fun n k hk=>?_⟩;obtain⟨k,rfl⟩:∃k',k=k'+1:=⟨k-1,by omega⟩;rw[AC,List.take_length];simp[DT]
 |d+1,j,c,hd,hc=>by
  have hj:j<xs.length:=by omega
  have hla:=hb.la;have hro:=hb.ro;have hpl:=hb.pl;have hsu:=hb.su;have hlen:=hp.len;have hwj:=BH (k:=j) (by omega);obtain⟨c',hc',ih⟩:=A87 hb hp hsel hs1 hs2 out h hh xs hx hxl γ d (j+1) (c+1) (by omega) (by omega);refine⟨c',by omega,fun n k hk=>?_⟩;obtain⟨k,rfl⟩:∃k',k=k'+1:=⟨k-1,by omega⟩;have ih:=ih n k (by omega);have hxj:=hx _ (List.getElem_mem hj);have e1:(xs.take (j+1)).map (HW b plan s sel h)=(xs.take j).map (HW b plan s sel h)++[HW b plan s sel h xs[j]]:=by rw[List.take_succ_eq_append_getElem hj,List.map_append,List.map_cons,List.map_nil]
  have e2:DI (1,0) ((xs.take (j+1)).map (HW b plan s sel h))=(min (DI (1,0) ((xs.take j).map (HW b plan s sel h))).1 (HW b plan s sel h xs[j]),max (DI (1,0) ((xs.take j).map (HW b plan s sel h))).2 (HW b plan s sel h xs[j])):=by rw[e1];unfold DI;rw[List.foldl_append];rfl
  rw[e2]at ih;have qw:=fun n=>AU0 n (DI (1,0) ((xs.take j).map (HW b plan s sel h))) (HW b plan s sel h xs[j]);obtain⟨r1,r2,r3⟩:=wH hb hp hh;have hsr:s.1<plan[h].length:=by omega
  have hpa:B7 plan h s.1=plan[h][s.1]:=by unfold B7;rw[show plan.getD h []=plan[h] by rw[List.getD_eq_getElem?_getD,List.getElem?_eq_getElem hh];rfl,List.getD_eq_getElem?_getD,List.getElem?_eq_getElem hsr];rfl
  have qo:=fun n=>kOf n b hb (s.1,s.2) (by simp only;omega) h (by omega) (B7 plan h s.1) xs[j] hxj;have qs:=fun n=>hsel n (bP b (s.1,s.2) h (B7 plan h s.1) xs[j]);have es:HW b plan s sel h xs[j]=sel (bP b (s.1,s.2) h (B7 plan h s.1) xs[j]):=rfl;rw[es]at ih qw;rw[hpa]at qo qs ih qw;generalize DI (1,0) (xs.map (HW b plan s sel h))=RR at ih⊢;generalize DI (1,0) ((xs.take j).map (HW b plan s sel h))=R at ih qw⊢;generalize sel (bP b (s.1,s.2) h plan[h][s.1] xs[j])=y at qs ih qw;generalize bP b (s.1,s.2) h plan[h][s.1] xs[j]=O at qs qo;have hc1:γ<c+1:=by omega
  rw[AC];simp only[AB,EA,DT,AG,BI]at qo qs ih qw⊢;simp at ih;simp[hj,hwj,hh,hsr,AH,AM,AG,qo,qs,qw,hc1,BO,ih]
def PF(b:AJ)(ws plan:List (List Int))(s:Nat×Nat)(sel:EI→Int)(n:Nat):Int×Int:=A3Z (1,0) ws (HW b plan s sel) n
theorem AGE{l:List Int}(h:∀x∈l,0≤x∧x≤1):0≤(DI (1,0) l).1∧(DI (1,0) l).1≤1∧0≤(DI (1,0) l).2∧(DI (1,0) l).2≤1:=by have:=fK l (1,0) 0 1 h (by simp) (by simp);simp only at this;omega
theorem A88(hb:Valid b)(hp:FD b plan)(hsel:∀n x,AW Tryz.prog kn (AE Tryz.prog ann kn (n+50)) ff [.agg (BI x)]=some (i (sel x)))(hse:∀h w,0≤HW b plan s sel h w∧HW b plan s sel h w≤1)(hs1:(s.1:Int)<b.rows)(hs2:(s.2:Int)<b.places)(hwl:ws.length=b.winds.length)(hok:DN ws):∀(d h c:Nat),h+d=ws.length→3≤c→∃c',3≤c'∧∀n k,d<k→BC (AE Tryz.prog ann kn (n+1600) 66) SI (ann 66 (BR SI)) k ⟨c,[(1,true,.ref (EA b ws)),(2,true,GN plan),(4,true,.ptr 0 4 0 0),(7,true,.ptr 0 7 1 0),(8,true,.ptr 0 8 2 0),(17,true,GN ws),(18,true,i ws.length),(19,true,i h)],⟨[],[(4,0,.box [.fn ff [] []]),(7,1,.box [i s.1,i s.2]),(8,2,.box (DT (PF b ws plan s sel h)))]⟩⟩ =
  some (.exit 0,⟨c',[(20,true,.bool false),(1,true,.ref (EA b ws)),(2,true,GN plan),(4,true,.ptr 0 4 0 0),(7,true,.ptr 0 7 1 0),(8,true,.ptr 0 8 2 0),(17,true,GN ws),(18,true,i ws.length),(19,true,i ws.length)],⟨[],[(4,0,.box [.fn ff [] []]),(7,1,.box [i s.1,i s.2]),(8,2,.box (DT (PF b ws plan s sel ws.length)))]⟩⟩)
 |0,h,c,hd,hc=>by
  have:h=ws.length:=by omega
  subst this;refine⟨c,hc,fun n k hk=>?_⟩;obtain⟨k,rfl⟩:∃k',k=k'+1:=⟨k-1,by omega⟩;rw[AC];simp[DT]
 |d+1,h,c,hd,hc=>by
  have hh:h<ws.length:=by omega
  have hh5:=hb.hl;have hwi:=hb.wi;have hlen:=hp.len;have hwh:=BH (k:=h) (by omega);have hwd:ws.getD h []=ws[h]:=by rw[List.getD_eq_getElem?_getD,List.getElem?_eq_getElem hh];rfl
  have hw4:=hok.len _ (List.getElem_mem hh);obtain⟨c1,hc1,q⟩:=A87 (ws:=ws) hb hp hsel hs1 hs2 (PF b ws plan s sel h) h (by omega) ws[h] (hok.lo _ (List.getElem_mem hh)) (by omega) c ws[h].length 0 (c+1) (by omega) (by omega);obtain⟨c',hc',ih⟩:=A88 hb hp hsel hse hs1 hs2 hwl hok d (h+1) c1 (by omega) (by omega);refine⟨c',hc',fun n k hk=>?_⟩;obtain⟨k,rfl⟩:∃k',k=k'+1:=⟨k-1,by omega⟩;have ih:=ih n k (by omega);have q:=fun n k=>q n (k+100) (by omega);have e1:PF b ws plan s sel (h+1)=((PF b ws plan s sel h).1+(DI (1,0) (ws[h].map (HW b plan s sel h))).1,(PF b ws plan s sel h).2+(DI (1,0) (ws[h].map (HW b plan s sel h))).2):=by rw[←hwd];rfl
  have hr:=AGE (l:=ws[h].map (HW b plan s sel h)) fun x hx=>by obtain⟨w,_,rfl⟩:=List.mem_map.1 hx;exact hse h w
  have hb1:=W3 (n:=h) (c:=1) (f:=fun h=>(DI (1,0) ((ws.getD h []).map (HW b plan s sel h))).1) fun j _=>by
   have:=AGE (l:=(ws.getD j []).map (HW b plan s sel j)) fun x hx=>by obtain⟨w,_,rfl⟩:=List.mem_map.1 hx;exact hse j w
   omega
  have hb2:=W3 (n:=h) (c:=1) (f:=fun h=>(DI (1,0) ((ws.getD h []).map (HW b plan s sel h))).2) fun j _=>by
   have:=AGE (l:=(ws.getD j []).map (HW b plan s sel j)) fun x hx=>by obtain⟨w,_,rfl⟩:=List.mem_map.1 hx;exact hse j w
   omega
  change 0≤(PF b ws plan s sel h).1∧(PF b ws plan s sel h).1≤h*1 at hb1;change 0≤(PF b ws plan s sel h).2∧(PF b ws plan s sel h).2≤h*1 at hb2;rw[e1]at ih;rw[List.take_zero,List.map_nil]at q;have e0:DI (1,0) []=(1,0):=rfl;rw[e0]at q;generalize PF b ws plan s sel ws.length=TT at ih⊢;generalize PF b ws plan s sel h=T at ih q hb1 hb2⊢;generalize DI (1,0) (ws[h].map (HW b plan s sel h))=R at ih q hr;have w1:IntKind.i64.wrap (T.1+R.1)=T.1+R.1:=AV (by omega) (by omega);have w2:IntKind.i64.wrap (T.2+R.2)=T.2+R.2:=AV (by omega) (by omega);have hc2:2<c1:=by omega
  have hcc:c<c+1:=by omega
  rw[AC];simp only[EA,DT]at q ih⊢;simp at q ih;simp[hh,hwh,AH,AM,q,w1,w2,hc2,hcc,BO,ih]
theorem oC(n:Nat)(hb:Valid b)(hp:FD b plan)(hsel:∀n x,AW Tryz.prog kn (AE Tryz.prog ann kn (n+50)) ff [.agg (BI x)]=some (i (sel x)))(hse:∀h w,0≤HW b plan s sel h w∧HW b plan s sel h w≤1)(hs1:(s.1:Int)<b.rows)(hs2:(s.2:Int)<b.places)(hwl:ws.length=b.winds.length)(hok:DN ws):AW Tryz.prog kn (AE Tryz.prog ann kn (n+1800)) 157 [.agg [.fn ff [] []],.ref (EA b ws),GN plan,.agg [i s.1,i s.2]]=some (.agg (DT (PF b ws plan s sel ws.length))):=by
 rw[AQ rfl,AP Tryz.func157 BDR rfl (by simp[EA,AH,AM,AG])];obtain⟨c',hc',q⟩:=A88 (s:=s) hb hp hsel hse hs1 hs2 hwl hok ws.length 0 3 (by omega) (Nat.le_refl _);have h5:=hb.hl;have q:=fun n k=>q n (k+150) (by omega);have e0:PF b ws plan s sel 0=(0,0):=rfl;rw[e0]at q;generalize PF b ws plan s sel ws.length=T at q⊢;have hc2:2<c':=by omega
 simp only[EA,DT]at q⊢;simp at q;simp[A1Z,AF,AM,q,hc2,BO]
end
end Go.Proofs.Tryz.Op
namespace Go.Wind
structure oK where
 sun:Int
 calm:Int×Int
 good:Int×Int
end Go.Wind
namespace Go.Proofs.Tryz.Op
@[simp] theorem AZX(T:TypeId)(x:Operand)(k:Nat)(f:Operand→Option V):HQ Tryz.prog (.oth (.field T x k)) f=[]:=rfl
@[simp] theorem AZY(f:FuncId):weakC (.fn f [] [])=.fn f [] []:=rfl
@[simp] theorem AZZ(f:FuncId):weakM (.fn f [] [])=.fn f [] []:=rfl
@[simp] theorem AU3(k:Nat)(f:FuncId):AK (k+1) (.fn f [] [])=true:=rfl
def PH(x:oK):List V:=[i x.sun,i x.calm.1,i x.calm.2,i x.good.1,i x.good.2]
section
variable {b:AJ}{ws plan:List (List Int)}
def zY(b:AJ)(ws plan:List (List Int))(r p:Nat):oK:=⟨LN b plan r plan.length,jT b ws plan r p,jU b ws plan r p⟩
theorem zZ(b:AJ)(plan:List (List Int))(r n:Nat):LN b plan r (n+1)=LN b plan r n+(if IL b plan r n=true then 1 else 0):=by unfold LN;simp only[fN];split<;>simp
theorem AGF(hb:Valid b)(hp:FD b plan)(r p:Nat)(hr:(r:Int)<b.rows)(hp2:(p:Int)<b.places)(A:List (List V))(γ8 γ12:Nat):∀(d h c γ:Nat) (rs:List oK),h+d=plan.length→(rs.length:Int)=b.places→rs[p]? = some ⟨LN b plan r h,(0,0),(0,0)⟩→γ<c→∀n k,d<k→BC (AE Tryz.prog ann kn (n+1400) 90) N5 (ann 90 (BR N5)) k ⟨c,[(2,true,.ptr 0 2 0 0),(3,true,.ptr 0 3 1 0),(6,true,.ref (EA b ws)),(8,true,pv 87 γ8 A),(9,true,i r),(10,true,.vec 0 30 γ rs.length),(11,true,i p),(12,true,.ptr 0 12 γ12 0),(24,true,i b.rows),(25,true,i r),(32,true,i rs.length),(33,true,i p),(40,true,i plan.length),(41,true,i h)],⟨[],(2,0,.box (AB b))::(3,1,.box [GN plan])::(12,γ12,.box [i r,i p])::(30,γ,.vec 209 (rs.map PH))::pl 87 γ8 204 A⟩⟩ =
  some (.exit 4,⟨c,(42,true,.bool false)::[(2,true,.ptr 0 2 0 0),(3,true,.ptr 0 3 1 0),(6,true,.ref (EA b ws)),(8,true,pv 87 γ8 A),(9,true,i r),(10,true,.vec 0 30 γ rs.length),(11,true,i p),(12,true,.ptr 0 12 γ12 0),(24,true,i b.rows),(25,true,i r),(32,true,i rs.length),(33,true,i p),(40,true,i plan.length),(41,true,i plan.length)],⟨[],(2,0,.box (AB b))::(3,1,.box [GN plan])::(12,γ12,.box [i r,i p])::(30,γ,.vec 209 ((rs.set p ⟨LN b plan r plan.length,(0,0),(0,0)⟩).map PH))::pl 87 γ8 204 A⟩⟩)
 |0,h,c,γ,rs,hd,hl,e,hγ,n,k+1,hk=>by
  have:h=plan.length:=by omega
  subst this;have:rs.set p ⟨LN b plan r plan.length,(0,0),(0,0)⟩=rs:=by
   have hpl:p<rs.length:=by omega
   rw[List.getElem?_eq_getElem hpl,Option.some.injEq]at e;rw[←e];exact List.set_getElem_self hpl
  rw[this,AC];simp
 |d+1,h,c,γ,rs,hd,hl,e,hγ,n,k+1,hk=>by
  have hh:h<plan.length:=by omega
  have hla:=hb.la;have hro:=hb.ro;have hpc:=hb.pl;have hsu:=hb.su;have hlen:=hp.len;have hwh:=BH (k:=h) (by omega);obtain⟨r1,r2,r3⟩:=wH hb hp hh;have hr2:r<plan[h].length:=by omega
  have hpa:B7 plan h r=plan[h][r]:=by unfold B7;rw[show plan.getD h []=plan[h] by rw[List.getD_eq_getElem?_getD,List.getElem?_eq_getElem hh];rfl,List.getD_eq_getElem?_getD,List.getElem?_eq_getElem hr2];rfl
  have q:=fun n=>kOf n b hb (r,p) (by simp only;omega) h (by omega) (B7 plan h r) 0 (by omega);rw[hpa]at q;have hpl:p<rs.length:=by omega
  have ih:=AGF hb hp r p hr hp2 A γ8 γ12 d (h+1) c γ (rs.set p ⟨LN b plan r (h+1),(0,0),(0,0)⟩) (by omega) (by simpa using hl) (by rw[List.getElem?_set_self hpl]) hγ n k (by omega);rw[List.set_set,List.length_set]at ih;rw[List.getElem?_eq_getElem hpl,Option.some.injEq]at e;have hs:=YS (IL b plan r) h;have hsb:0≤LN b plan r h∧LN b plan r h≤h:=by unfold LN;omega
  have hof:(bP b (r,p) h plan[h][r] 0).sun=if IL b plan r h=true then 1 else 0:=by
   have:IL b plan r h=decide (b.sun.getD h 0=plan[h][r]):=by unfold IL;rw[hpa];congr 1;exact propext eq_comm
   rw[this];rfl
  have hst:LN b plan r (h+1)=LN b plan r h+(bP b (r,p) h plan[h][r] 0).sun:=by rw[zZ,hof]
  have hw:IntKind.i64.wrap (LN b plan r h+(bP b (r,p) h plan[h][r] 0).sun)=LN b plan r h+(bP b (r,p) h plan[h][r] 0).sun:=AV (by rw[hof];split<;>omega) (by rw[hof];split<;>omega);rw[hst]at ih;generalize rs.set p ⟨LN b plan r plan.length,(0,0),(0,0)⟩=F at ih⊢;generalize LN b plan r h=S at *;generalize bP b (r,p) h plan[h][r] 0=O at *;rw[List.map_set]at ih;have heg:(rs.map PH)[p]'(by simpa using hpl)=[i S,i 0,i 0,i 0,i 0]:=by rw[List.getElem_map,e];rfl
  rw[AC];simp only[AB,AG,BI,PH,EA]at q ih heg⊢;simp at ih;simp[hh,hr2,hwh,AH,AM,AG,q,hpl,heg,hw,hγ,BO,HV,ih]
def L7(b:AJ)(ws plan:List (List Int))(r p:Nat):List oK:=(List.range b.places.toNat).map fun j=>if j<p then zY b ws plan r j else⟨0,(0,0),(0,0)⟩
def W0(b:AJ)(ws plan:List (List Int))(r:Nat):List oK:=(List.range b.places.toNat).map (zY b ws plan r)
theorem bI(b:AJ)(ws plan:List (List Int))(r p:Nat):(L7 b ws plan r p).length=b.places.toNat:=by simp[L7]
theorem AGG{r p:Nat}(h:p<b.places.toNat):(L7 b ws plan r p)[p]? = some ⟨0,(0,0),(0,0)⟩:=by simp[L7,h]
theorem AGH{r p:Nat}:(L7 b ws plan r p).set p (zY b ws plan r p)=L7 b ws plan r (p+1):=by
 apply List.ext_getElem (by simp[L7]);intro j h1 h2;simp only[L7,List.getElem_set,List.getElem_map,List.getElem_range];by_cases e:p=j
 ·subst e;simp
 ·rw[if_neg e];have:(j<p)=(j<p+1):=propext ⟨fun h=>by omega,fun h=>by omega⟩;simp only[this]
theorem AAA(b:AJ)(ws plan:List (List Int))(r:Nat):L7 b ws plan r b.places.toNat=W0 b ws plan r:=by
 apply List.ext_getElem (by simp[L7,W0]);intro j h1 h2;have:j<b.places.toNat:=by simpa [L7]using h1
 simp only[L7,W0,List.getElem_map,List.getElem_range,if_pos this]
theorem AAB(b:AJ)(ws plan:List (List Int))(r:Nat):L7 b ws plan r 0=List.replicate b.places.toNat ⟨0,(0,0),(0,0)⟩:=by apply List.ext_getElem (by simp[L7]);intro j h1 h2;simp[L7]
theorem AGI(hb:Valid b)(hp:FD b plan)(hwl:ws.length=b.winds.length)(hok:DN ws)(r:Nat)(hr:(r:Int)<b.rows)(A:List (List V))(γ8 γ:Nat):∀(d p c:Nat),p+d=b.places.toNat→γ<c→∃c',γ<c'∧∀n k,d<k→BC (AE Tryz.prog ann kn (n+2000) 90) N6 (ann 90 (BR N6)) k ⟨c,[(2,true,.ptr 0 2 0 0),(3,true,.ptr 0 3 1 0),(6,true,.ref (EA b ws)),(8,true,pv 87 γ8 A),(9,true,i r),(10,true,.vec 0 30 γ b.places.toNat),(24,true,i b.rows),(25,true,i r),(32,true,i b.places.toNat),(33,true,i p)],⟨[],(2,0,.box (AB b))::(3,1,.box [GN plan])::(30,γ,.vec 209 ((L7 b ws plan r p).map PH))::pl 87 γ8 204 A⟩⟩ =
  some (.exit 2,⟨c',(34,true,.bool false)::[(2,true,.ptr 0 2 0 0),(3,true,.ptr 0 3 1 0),(6,true,.ref (EA b ws)),(8,true,pv 87 γ8 A),(9,true,i r),(10,true,.vec 0 30 γ b.places.toNat),(24,true,i b.rows),(25,true,i r),(32,true,i b.places.toNat),(33,true,i b.places.toNat)],⟨[],(2,0,.box (AB b))::(3,1,.box [GN plan])::(30,γ,.vec 209 ((W0 b ws plan r).map PH))::pl 87 γ8 204 A⟩⟩)
 |0,p,c,hd,hγ=>by
  have:p=b.places.toNat:=by omega
  subst this;refine⟨c,hγ,fun n k hk=>?_⟩;obtain⟨k,rfl⟩:∃k',k=k'+1:=⟨k-1,by omega⟩;rw[AAA,AC];simp
 |d+1,p,c,hd,hγ=>by
  have hpc:=hb.pl;have hla:=hb.la;have hlen:=hp.len;have hw:=BH (k:=p) (by omega);have hp':p<b.places.toNat:=by omega
  obtain⟨c',h1,ih⟩:=AGI hb hp hwl hok r hr A γ8 γ d (p+1) (c+3) (by omega) (by omega);have q:=AGF (ws:=ws) hb hp r p hr (by omega) A γ8 c plan.length 0 (c+1) γ (L7 b ws plan r p) (by omega) (by rw[bI];omega) (AGG hp') (by omega);rw[bI]at q;have q:=fun n m=>q n (m+100) (by omega);have qc:=fun n=>oC (ws:=ws) (ff:=156) (sel:=EI.calm) (s:=(r,p)) n hb hp AU1 (fun h w=>jQ _) hr (by simp only;omega) hwl hok;have qg:=fun n=>oC (ws:=ws) (ff:=158) (sel:=EI.good) (s:=(r,p)) n hb hp AU2 (fun h w=>jQ _) hr (by simp only;omega) hwl hok;have ec:PF b ws plan (r,p) EI.calm ws.length=jT b ws plan r p:=rfl;have eg:PF b ws plan (r,p) EI.good ws.length=jU b ws plan r p:=rfl;rw[ec]at qc;rw[eg]at qg;have hst:((L7 b ws plan r p).set p ⟨LN b plan r plan.length,(0,0),(0,0)⟩).set p (zY b ws plan r p)=L7 b ws plan r (p+1):=by rw[List.set_set,AGH]
  have hl:=bI b ws plan r p;have hbp:PH (zY b ws plan r p)=[i (LN b plan r plan.length),i (jT b ws plan r p).1,i (jT b ws plan r p).2,i (jU b ws plan r p).1,i (jU b ws plan r p).2]:=rfl;rw[←hst,List.map_set,hbp]at ih;generalize L7 b ws plan r p=R0 at q ih hl⊢;generalize zY b ws plan r p=BP at *;generalize jT b ws plan r p=C at *;generalize jU b ws plan r p=G at *;generalize W0 b ws plan r=RR at ih⊢;generalize LN b plan r plan.length=S at *;generalize b.places.toNat=PP at hp' hl ih q⊢;have hpl:p<R0.length:=by omega
  have heg:((R0.set p ⟨S,(0,0),(0,0)⟩).map PH)[p]? = some [i S,i 0,i 0,i 0,i 0]:=by simp[PH,hpl]
  have hle:PP≤R0.length:=by omega
  refine⟨c',h1,fun n k hk=>?_⟩;obtain⟨k,rfl⟩:∃k',k=k'+1:=⟨k-1,by omega⟩;have ih:=ih n k (by omega);rw[AC];generalize hRR:R0.set p ⟨S,(0,0),(0,0)⟩=R1 at *;have hl1:R1.length=PP:=by rw[←hRR];simpa using hl
  have hpl1:p<R1.length:=by omega
  rw[List.getElem?_eq_getElem (by simpa using hpl1),Option.some.injEq]at heg;simp only[AB,EA,DT]at q qc qg ih⊢;simp at q ih;simp[hp',hw,AH,AM,AG,q,qc,qg,hpl1,heg,BO,HV,E7,EQ,CB,BV,BK,show Nat.beq 2 1=false from rfl,hl1,show γ<c+1+1+1 by omega,ih]
def FT(b:AJ)(ws plan:List (List Int))(n:Nat):List (List oK):=(List.range n).map (W0 b ws plan)
theorem sF(b:AJ)(ws plan:List (List Int))(n:Nat):FT b ws plan (n+1)=FT b ws plan n++[W0 b ws plan n]:=by simp[FT,List.range_succ]
def GW(l:List oK):List V:=[.list false (l.map PH)]
theorem A89{k:Nat}{x:List oK}(h:k≤10000):CA Tryz.prog 204 k [GW x]=true:=by rw[CH (by simp[GW]) (by simp)];simp[maxLen,GW];omega
theorem AO3(hb:Valid b)(hp:FD b plan)(hwl:ws.length=b.winds.length)(hok:DN ws):∀(d r c γ8:Nat),r+d=b.rows.toNat→1<c→∃fr c' γ',BZ fr 8=some (true,pv 87 γ' ((FT b ws plan b.rows.toNat).map GW))∧∀n k,d<k→BC (AE Tryz.prog ann kn (n+2200) 90) SJ (ann 90 (BR SJ)) k ⟨c,[(2,true,.ptr 0 2 0 0),(3,true,.ptr 0 3 1 0),(6,true,.ref (EA b ws)),(8,true,pv 87 γ8 ((FT b ws plan r).map GW)),(24,true,i b.rows),(25,true,i r)],⟨[],(2,0,.box (AB b))::(3,1,.box [GN plan])::pl 87 γ8 204 ((FT b ws plan r).map GW)⟩⟩ =
  some (.exit 0,⟨c',fr,⟨[],(2,0,.box (AB b))::(3,1,.box [GN plan])::pl 87 γ' 204 ((FT b ws plan b.rows.toNat).map GW)⟩⟩)
 |0,r,c,γ8,hd,hc=>by
  have hr:r=b.rows.toNat:=by omega
  have hro:=hb.ro;have hr':b.rows=(r:Int):=by omega
  rw[←hr];refine⟨?fr,c,γ8,?g1,fun n k hk=>?g2⟩;case g2=>
   obtain⟨k,rfl⟩:∃k',k=k'+1:=⟨k-1,by omega⟩
   rw[AC]
   simp[AB,hr']
   rfl
  case g1=>simp
 |d+1,r,c,γ8,hd,hc=>by
  have hro:=hb.ro;have hpc:=hb.pl;have hw:=BH (k:=r) (by omega);have hr':(r:Int)<b.rows:=by omega
  obtain⟨c1,h1,q⟩:=AGI (ws:=ws) hb hp hwl hok r hr' ((FT b ws plan r).map GW) γ8 c b.places.toNat 0 (c+1) (by omega) (by omega);have q:=fun n m=>q n (m+100) (by omega);obtain⟨fr,c',γ',e1,ih⟩:=AO3 hb hp hwl hok d (r+1) (c1+1) c1 (by omega) (by omega);have happ:=A89 (k:=(FT b ws plan r).length) (x:=W0 b ws plan r) (by simp[FT];omega);rw[AAB]at q;rw[sF]at ih;refine⟨fr,c',γ',e1,fun n k hk=>?_⟩;obtain⟨k,rfl⟩:∃k',k=k'+1:=⟨k-1,by omega⟩;have ih:=ih n k (by omega);generalize FT b ws plan b.rows.toNat=FF at ih⊢;have hRl:(W0 b ws plan r).length=b.places.toNat:=by simp[W0]
  generalize W0 b ws plan r=RR at ih q happ hRl;obtain⟨PP,hPP⟩:∃P:Nat,b.places=P:=⟨b.places.toNat,by omega⟩;have hP2:b.places.toNat=PP:=by omega
  rw[hP2]at q hRl;subst hRl;rw[AC];simp only[AB,EA,hPP]at q ih⊢;simp[GW]at ih q happ;simp[PH]at q;have m1:RR.length*40≤140737488355328:=by omega
  have m2:RR.length≤maxLen:=by simp[maxLen];omega
  have htl:∀o,E1 0 30 o (pl 87 γ8 204 ((FT b ws plan r).map GW))=pl 87 γ8 204 ((FT b ws plan r).map GW):=fun o=>VO (by decide) _ _ _ (by simp[GW,PH]);simp[hr',hw,GW,q,ih,happ,m1,m2,htl]
def lvB(b:AJ)(plan:List (List Int)):AA:=[(2,0,.box (AB b)),(3,1,.box [GN plan])]
theorem sG(hb:Valid b)(plan:List (List Int)):fH b (lvB b plan) 155 [.ptr 0 2 0 0,.ptr 0 3 1 0] 2 (DJ b plan):=by intro n d fr;rw[A7 Tryz.func155 b155 rfl (by simp)];have q:=fun n=>wD n b hb plan;generalize DJ b plan=z at q⊢;simp only[AB,lvB]at q⊢;simp[A12,AF,q,AH,AM,AG]
def HU(b:AJ)(plan:List (List Int)):List (List oK)×Int:=if CE b=0 then(if DJ b plan=true then(if (E6 b [] b.winds []).isEmpty=true then([],11) else(FT b (F5 b) plan b.rows.toNat,0)) else([],2)) else([],CE b)
theorem oD(n:Nat)(b:AJ)(h40:∀l∈b.winds,l.length≤40)(plan:List (List Int)):AW Tryz.prog kn (AE Tryz.prog ann kn (n+6200)) 117 [.agg (AB b),GN plan]=some (.tup [sl ((HU b plan).1.map GW),i (HU b plan).2]):=by
 rw[AQ rfl,AP Tryz.func117 BDU rfl (by simp[AB,AH,AM,AG])];have hB:∀t:St,1≤t.up.length→AL t (lvB b plan)=lvB b plan:=fun t ht=>by simp[lvB,AB,AH,AM,AG]
 have slnil:sl ([]:List (List V))=.nil:=rfl;unfold HU;by_cases h:CE b=0
 ·have hb:=OC h;have hf:=sG hb plan;rw[if_pos h];cases hz:DJ b plan with
  |false=>
   rw[hz]at hf
   rw[if_neg (by decide)]
   have q:=fun n=>oU (ff:=155) (cap:=[.ptr 0 2 0 0,.ptr 0 3 1 0]) hb hB (by simp) (by simp) 2 17 hf [(16,true,.fn 155 [] [.ptr 0 2 0 0,.ptr 0 3 1 0]),(15,true,.agg (AB b)),(2,true,.ptr 0 2 0 0),(3,true,.ptr 0 3 1 0)] (n+190)
   simp only[AB,lvB,List.map_nil,slnil]at q⊢
   simp[ABI,AF,AH,AM,AG,q]
  |true=>
   rw[hz]at hf
   rw[if_pos rfl]
   by_cases hT:E6 b [] b.winds []=[]
   ·obtain⟨c',hc',q⟩:=oW (ff:=155) (cap:=[.ptr 0 2 0 0,.ptr 0 3 1 0]) hb hB (by simp) (by simp) 2 17 hf hT [(16,true,.fn 155 [] [.ptr 0 2 0 0,.ptr 0 3 1 0]),(15,true,.agg (AB b)),(2,true,.ptr 0 2 0 0),(3,true,.ptr 0 3 1 0)];rw[if_pos (by rw[hT];rfl)];have q:=fun n=>q (n+190);simp only[AB,lvB,List.map_nil,slnil]at q⊢;simp[ABI,AF,AH,AM,AG,q]
   ·obtain⟨c',hc',q⟩:=ACG (ff:=155) (cap:=[.ptr 0 2 0 0,.ptr 0 3 1 0]) hb hB (by simp) (by simp) 2 17 hf hT [(16,true,.fn 155 [] [.ptr 0 2 0 0,.ptr 0 3 1 0]),(15,true,.agg (AB b)),(2,true,.ptr 0 2 0 0),(3,true,.ptr 0 3 1 0)];rw[if_neg (by simpa using hT)];have q:=fun n=>q (n+190);have hro:=hb.ro;obtain⟨fr,c2,γ',e1,q6⟩:=AO3 (ws:=F5 b) hb (fO hz) (ACH _ _) (zX hb) b.rows.toNat 0 c' 0 (by omega) (by omega);have q6:=fun n k=>q6 n (k+100) (by omega);have e0:FT b (F5 b) plan 0=[]:=rfl;rw[e0]at q6;generalize FT b (F5 b) plan b.rows.toNat=FF at *;simp only[AB,EA,lvB,List.cons_append,List.nil_append]at q q6⊢;simp at q q6;simp[ABI,AF,AH,AM,AG,q,q6,e1];simp[GW,PH]
 ·rw[if_neg h];have q:=fun n=>jI (ff:=155) (cap:=[.ptr 0 2 0 0,.ptr 0 3 1 0]) h40 hB (by simp) h 2 17 [(16,true,.fn 155 [] [.ptr 0 2 0 0,.ptr 0 3 1 0]),(15,true,.agg (AB b)),(2,true,.ptr 0 2 0 0),(3,true,.ptr 0 3 1 0)] (n+190);simp only[AB,lvB,List.map_nil,slnil]at q⊢;simp[ABI,AF,AH,AM,AG,q,h]
end
end Go.Proofs.Tryz.Op
