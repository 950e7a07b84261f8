/- Contracts: Min of two, minimum, wider, facing, turn, the directions as an array. No condition. -/
import Derived.Test.YthhdhbalenanjaaGreatW3
import Derived.Test.YthhdhbalenanjaaGreatI1
import Derived.Test.YthhdhbalenanjaaGreatFz
import Derived.Test.YthhdhbalenanjaaGreatH1
import Derived.Test.YthhdhbalenanjaaGreatW1
import Derived.Test.YthhdhbalenanjaaGreatW4
set_option maxRecDepth 100000
set_option linter.unusedSimpArgs false
open Go Go.Pg Go.Proofs Go.Wind
namespace Go.Proofs.Tryz.Op
theorem AUG(a b:Int):(if b<a then b else a)=min a b:=by split<;>omega
theorem AFU(a b:Int):(if a<b then b else a)=max a b:=by split<;>omega
theorem AOL(n:Nat)(a b:Int):AW Tryz.prog kn (AE Tryz.prog ann kn (n+100)) 165 [.list false [[i a],[i b]]]=some (i (min a b)):=by
 rw[AP rfl,AO Tryz.func165 BCZ rfl (by simp)];have hw:IntKind.i64.wrap (1+1)=2:=by decide
 simp[A07,AG];rw[AB];simp[hw,AUG];rw[AB];simp
theorem AFV(n:Nat)(a b:Int):AW Tryz.prog kn (AE Tryz.prog ann kn (n+200)) 198 [.list false [[i a],[i b]]]=some (i (min a b)):=by rw[AP rfl,AO Tryz.func198 BC0 rfl (by simp)];have q:=fun n=>AOL n a b;simp[A08,AG,q]
def DX(r:Int×Int):List V:=[i r.1,i r.2]
theorem AUH(n:Nat)(r:Int×Int)(x:Int):AW Tryz.prog kn (AE Tryz.prog ann kn (n+300)) 186 [.agg (DX r),i x]=some (.agg (DX (min r.1 x,max r.2 x))):=by rw[AP rfl,AO Tryz.func186 BC1 rfl (by simp[DX])];have q:=fun n=>AFV n r.1 x;simp[A09,AG,DX,q,AFU]
def BPF(g:List Int):List V:=g.map fun x=>i x
theorem A8L{α:Type}(l:List α)(h:l.length=3):∃x y z,l=[x,y,z]:=by
 match l,h with
 |[x,y,z],_=>exact⟨x,y,z,rfl⟩
@[simp] theorem AZB(cs:List V):M6 (.ref cs)=some (.ref cs):=rfl
theorem BF(L:AA)(k γ:Nat)(r:AX):AA.put L k γ r=(k,γ,r)::L:=rfl
@[simp] theorem A8M:J5 Tryz.prog 186=false:=by kernel_rfl
def D6(b:AJ)(ws:List (List Int)):List V:=[i b.last,i b.rows,i b.places,i b.reach,li b.face,li b.sun,GQ b.winds,.list false (b.breaks.map AF),.list false (b.notes.map AF),GQ ws,.any,.any]
section
variable {b:AJ}{ws:List (List Int)}{g0 g1 g2:Int}{h:Nat}
def BKR(b:AJ)(h:Nat)(f:Nat→Int)(w:Int)(r:Nat):Int:=H0 (fun r=>H0 (fun p=>AB4 b (r,p) h (f r) w) b.places.toNat) r
end
section
variable {b:AJ}{ws plan:List (List Int)}
def BPG(b:AJ)(ws plan:List (List Int))(n:Nat):Int×Int:=(H0 (fun h=>(jM b ws h (CB plan h)).1) n,H0 (fun h=>(jM b ws h (CB plan h)).2) n)
theorem iD(b:AJ)(t:List Int):t∈EZ b [] b.winds []↔CS b t=true:=by rw[fJ];simp only[List.nil_append,List.map_id',List.mem_filter,PK,CS,Bool.and_eq_true,List.all_eq_true];refine and_congr_right fun _=>?_;rw[O8,List.all_eq_true]
theorem zF(hb:Valid b):DN (FY b):=DN.ask _ _ fun t ht=>N6 hb (by
 have:=(iD b t).1 ht;simp only[CS,Bool.and_eq_true]at this;exact this.1)
def lvP(b:AJ)(plan:List (List Int))(r:AX):AA:=[(2,0,.box (AC b)),(3,1,.box [GQ plan]),(4,2,r)]
def BHE(b:AJ)(plan:List (List Int)):(Int×Int)×Int:=if CI b=0 then(if DK b plan=true then(if (EZ b [] b.winds []).isEmpty=true then((0,0),11) else(AQP b (FY b) plan,0)) else((0,0),2)) else((0,0),CI b)
end
@[simp] theorem clI(f:Nat)(l:List Int):(l.all ((fun e=>e.all (AK (f+1)))∘AH))=true:=by simp[AH]
@[simp] theorem clP(f:Nat)(l:List (Int×Int)):(l.all ((fun e=>e.all (AK (f+1)))∘AF))=true:=by simp[AF]
@[simp] theorem clL(f:Nat)(l:List (List Int)):(l.all ((fun e=>e.all (AK (f+2)))∘AL))=true:=by simp[AL,AH]
theorem slX{α:Type}{f:α→List V}{l:List α}(h:l≠[]):sl (l.map f)=.list false (l.map f):=by
 cases l with
 |nil=>exact absurd rfl h
 |cons x l=>rfl
theorem vT{b:AJ}{plan:List (List Int)}(hb:Valid b)(hp:E6 b plan){h:Nat}(hh:h<plan.length):plan[h].length≤3∧(plan[h].length:Int)=b.rows∧∀x∈plan[h],0≤x∧x≤3:=by
 have hro:=hb.ro;have e:plan.getD h []=plan[h]:=by rw[List.getD_eq_getElem?_getD,List.getElem?_eq_getElem hh];rfl
 have hr:=hp.row h hh;have hd:=hp.dir h;rw[e]at hr;refine⟨by omega,hr,fun x hx=>?_⟩;obtain⟨r,h1,rfl⟩:=List.getElem_of_mem hx;have:=hd r hh (by rw[e];exact h1);unfold CB at this;rw[e,List.getD_eq_getElem?_getD,List.getElem?_eq_getElem h1]at this;exact DS.1 this
section
variable {b:AJ}{x0 x1 x2 y0 y1 y2:Int}
end
section
variable {b:AJ}{plan:List (List Int)}
def BKS(b:AJ)(plan:List (List Int))(h:Nat):List Int:=if h=0 then AIE b.face else AIE (plan.getD (h-1) [])
def BKT(b:AJ)(plan:List (List Int)):Int×Int:=if CI b=0 then(if DK b plan=true then(A3J b plan,0) else(0,2)) else(0,CI b)
end
@[simp] theorem AZC:J5 Tryz.prog 157=false:=by kernel_rfl
theorem AUI(n:Nat)(x:FW):AW Tryz.prog kn (AE Tryz.prog ann kn (n+50)) 156 [.agg (CH x)]=some (i x.calm):=by rw[AP rfl,AO Tryz.func156 BC5 rfl (by simp[CH])];simp[A1E,AG,CH]
theorem AUJ(n:Nat)(x:FW):AW Tryz.prog kn (AE Tryz.prog ann kn (n+50)) 158 [.agg (CH x)]=some (i x.good):=by rw[AP rfl,AO Tryz.func158 BC6 rfl (by simp[CH])];simp[A1F,AG,CH]
section
variable {b:AJ}{ws plan:List (List Int)}{ff:FuncId}{sel:FW→Int}{s:Nat×Nat}
def HM(b:AJ)(plan:List (List Int))(s:Nat×Nat)(sel:FW→Int)(h:Nat)(w:Int):Int:=sel (bK b (s.1,s.2) h (CB plan h s.1) w)
theorem A8N(hb:Valid b)(hp:E6 b plan)(hsel:∀n x,AW Tryz.prog kn (AE Tryz.prog ann kn (n+50)) ff [.agg (CH x)]=some (i (sel x)))(hs1:(s.1:Int)<b.rows)(hs2:(s.2:Int)<b.places)(out:Int×Int)(h:Nat)(hh:h<plan.length)(xs:List Int)(hx:∀x∈xs,0≤x∧x≤3)(hxl:xs.length≤100)(γ:Nat):∀(d j c:Nat),j+d=xs.length→γ<c→∃c',c≤c'∧∀n k,d<k→A9 (AE Tryz.prog ann kn (n+1400) 66) SD (ann 66 (BS SD)) k ⟨c,[(1,true,.ref (D6 b ws)),(2,true,GQ plan),(4,true,.ptr 0 4 0 0),(7,true,.ptr 0 7 1 0),(8,true,.ptr 0 8 2 0),(9,true,i h),(11,true,.ptr 0 11 γ 0),(17,true,GQ ws),(18,true,i ws.length),(19,true,i h),(25,true,li xs),(26,true,i xs.length),(27,true,i j)],⟨[],[(4,0,.box [.fn ff [] []]),(7,1,.box [i s.1,i s.2]),(8,2,.box (DX out)),(11,γ,.box (DX (DJ (1,0) ((xs.take j).map (HM b plan s sel h)))))]⟩⟩ =
  some (.exit 2,⟨c',[(28,true,.bool false),(1,true,.ref (D6 b ws)),(2,true,GQ plan),(4,true,.ptr 0 4 0 0),(7,true,.ptr 0 7 1 0),(8,true,.ptr 0 8 2 0),(9,true,i h),(11,true,.ptr 0 11 γ 0),(17,true,GQ ws),(18,true,i ws.length),(19,true,i h),(25,true,li xs),(26,true,i xs.length),(27,true,i xs.length)],⟨[],[(4,0,.box [.fn ff [] []]),(7,1,.box [i s.1,i s.2]),(8,2,.box (DX out)),(11,γ,.box (DX (DJ (1,0) (xs.map (HM b plan s sel h)))))]⟩⟩)
 |0,j,c,hd,hc=>by
  have:j=xs.length:=by omega
  subst this;refine⟨c,Nat.le_refl _,fun n k hk=>?_⟩;obtain⟨k,rfl⟩:∃k',k=k'+1:=⟨k-1,by omega⟩;rw[AB,List.take_length];simp[DX]
 |d+1,j,c,hd,hc=>by
  have hj:j<xs.length:=by omega
  have hla:=hb.la;have hro:=hb.ro;have hpl:=hb.pl;have hsu:=hb.su;have hlen:=hp.len;have hwj:=BJ (k:=j) (by omega);obtain⟨c',hc',ih⟩:=A8N hb hp hsel hs1 hs2 out h hh xs hx hxl γ d (j+1) (c+1) (by omega) (by omega);refine⟨c',by omega,fun n k hk=>?_⟩;obtain⟨k,rfl⟩:∃k',k=k'+1:=⟨k-1,by omega⟩;have ih:=ih n k (by omega);have hxj:=hx _ (List.getElem_mem hj);have e1:(xs.take (j+1)).map (HM b plan s sel h)=(xs.take j).map (HM b plan s sel h)++[HM b plan s sel h xs[j]]:=by rw[List.take_succ_eq_append_getElem hj,List.map_append,List.map_cons,List.map_nil]
  have e2:DJ (1,0) ((xs.take (j+1)).map (HM b plan s sel h))=(min (DJ (1,0) ((xs.take j).map (HM b plan s sel h))).1 (HM b plan s sel h xs[j]),max (DJ (1,0) ((xs.take j).map (HM b plan s sel h))).2 (HM b plan s sel h xs[j])):=by rw[e1];unfold DJ;rw[List.foldl_append];rfl
  rw[e2]at ih;have qw:=fun n=>AUH n (DJ (1,0) ((xs.take j).map (HM b plan s sel h))) (HM b plan s sel h xs[j]);obtain⟨r1,r2,r3⟩:=vT hb hp hh;have hsr:s.1<plan[h].length:=by omega
  have hpa:CB plan h s.1=plan[h][s.1]:=by unfold CB;rw[show plan.getD h []=plan[h] by rw[List.getD_eq_getElem?_getD,List.getElem?_eq_getElem hh];rfl,List.getD_eq_getElem?_getD,List.getElem?_eq_getElem hsr];rfl
  have qo:=fun n=>kOf n b hb (s.1,s.2) (by simp only;omega) h (by omega) (CB plan h s.1) xs[j] hxj;have qs:=fun n=>hsel n (bK b (s.1,s.2) h (CB plan h s.1) xs[j]);have es:HM b plan s sel h xs[j]=sel (bK b (s.1,s.2) h (CB plan h s.1) xs[j]):=rfl;rw[es]at ih qw;rw[hpa]at qo qs ih qw;generalize DJ (1,0) (xs.map (HM b plan s sel h))=RR at ih⊢;generalize DJ (1,0) ((xs.take j).map (HM b plan s sel h))=R at ih qw⊢;generalize sel (bK b (s.1,s.2) h plan[h][s.1] xs[j])=y at qs ih qw;generalize bK b (s.1,s.2) h plan[h][s.1] xs[j]=O at qs qo;have hc1:γ<c+1:=by omega
  rw[AB];simp only[AC,D6,DX,AF,CH]at qo qs ih qw⊢;simp at ih;simp[hj,hwj,hh,hsr,AH,AL,AF,qo,qs,qw,hc1,BF,ih]
def O9(b:AJ)(ws plan:List (List Int))(s:Nat×Nat)(sel:FW→Int)(n:Nat):Int×Int:=A3D (1,0) ws (HM b plan s sel) n
theorem AFW{l:List Int}(h:∀x∈l,0≤x∧x≤1):0≤(DJ (1,0) l).1∧(DJ (1,0) l).1≤1∧0≤(DJ (1,0) l).2∧(DJ (1,0) l).2≤1:=by have:=sZ l (1,0) 0 1 h (by simp) (by simp);simp only at this;omega
theorem A8O(hb:Valid b)(hp:E6 b plan)(hsel:∀n x,AW Tryz.prog kn (AE Tryz.prog ann kn (n+50)) ff [.agg (CH x)]=some (i (sel x)))(hse:∀h w,0≤HM b plan s sel h w∧HM b plan s sel h w≤1)(hs1:(s.1:Int)<b.rows)(hs2:(s.2:Int)<b.places)(hwl:ws.length=b.winds.length)(hok:DN ws):∀(d h c:Nat),h+d=ws.length→3≤c→∃c',3≤c'∧∀n k,d<k→A9 (AE Tryz.prog ann kn (n+1600) 66) SE (ann 66 (BS SE)) k ⟨c,[(1,true,.ref (D6 b ws)),(2,true,GQ plan),(4,true,.ptr 0 4 0 0),(7,true,.ptr 0 7 1 0),(8,true,.ptr 0 8 2 0),(17,true,GQ ws),(18,true,i ws.length),(19,true,i h)],⟨[],[(4,0,.box [.fn ff [] []]),(7,1,.box [i s.1,i s.2]),(8,2,.box (DX (O9 b ws plan s sel h)))]⟩⟩ =
  some (.exit 0,⟨c',[(20,true,.bool false),(1,true,.ref (D6 b ws)),(2,true,GQ plan),(4,true,.ptr 0 4 0 0),(7,true,.ptr 0 7 1 0),(8,true,.ptr 0 8 2 0),(17,true,GQ ws),(18,true,i ws.length),(19,true,i ws.length)],⟨[],[(4,0,.box [.fn ff [] []]),(7,1,.box [i s.1,i s.2]),(8,2,.box (DX (O9 b ws plan s sel ws.length)))]⟩⟩)
 |0,h,c,hd,hc=>by
  have:h=ws.length:=by omega
  subst this;refine⟨c,hc,fun n k hk=>?_⟩;obtain⟨k,rfl⟩:∃k',k=k'+1:=⟨k-1,by omega⟩;rw[AB];simp[DX]
 |d+1,h,c,hd,hc=>by
  have hh:h<ws.length:=by omega
  have hh5:=hb.hl;have hwi:=hb.wi;have hlen:=hp.len;have hwh:=BJ (k:=h) (by omega);have hwd:ws.getD h []=ws[h]:=by rw[List.getD_eq_getElem?_getD,List.getElem?_eq_getElem hh];rfl
  have hw4:=hok.len _ (List.getElem_mem hh);obtain⟨c1,hc1,q⟩:=A8N (ws:=ws) hb hp hsel hs1 hs2 (O9 b ws plan s sel h) h (by omega) ws[h] (hok.lo _ (List.getElem_mem hh)) (by omega) c ws[h].length 0 (c+1) (by omega) (by omega);obtain⟨c',hc',ih⟩:=A8O hb hp hsel hse hs1 hs2 hwl hok d (h+1) c1 (by omega) (by omega);refine⟨c',hc',fun n k hk=>?_⟩;obtain⟨k,rfl⟩:∃k',k=k'+1:=⟨k-1,by omega⟩;have ih:=ih n k (by omega);have q:=fun n k=>q n (k+100) (by omega);have e1:O9 b ws plan s sel (h+1)=((O9 b ws plan s sel h).1+(DJ (1,0) (ws[h].map (HM b plan s sel h))).1,(O9 b ws plan s sel h).2+(DJ (1,0) (ws[h].map (HM b plan s sel h))).2):=by rw[←hwd];rfl
  have hr:=AFW (l:=ws[h].map (HM b plan s sel h)) fun x hx=>by obtain⟨w,_,rfl⟩:=List.mem_map.1 hx;exact hse h w
  have hb1:=WX (n:=h) (c:=1) (f:=fun h=>(DJ (1,0) ((ws.getD h []).map (HM b plan s sel h))).1) fun j _=>by
   have:=AFW (l:=(ws.getD j []).map (HM b plan s sel j)) fun x hx=>by obtain⟨w,_,rfl⟩:=List.mem_map.1 hx;exact hse j w
   omega
  have hb2:=WX (n:=h) (c:=1) (f:=fun h=>(DJ (1,0) ((ws.getD h []).map (HM b plan s sel h))).2) fun j _=>by
   have:=AFW (l:=(ws.getD j []).map (HM b plan s sel j)) fun x hx=>by obtain⟨w,_,rfl⟩:=List.mem_map.1 hx;exact hse j w
   omega
  change 0≤(O9 b ws plan s sel h).1∧(O9 b ws plan s sel h).1≤h*1 at hb1;change 0≤(O9 b ws plan s sel h).2∧(O9 b ws plan s sel h).2≤h*1 at hb2;rw[e1]at ih;rw[List.take_zero,List.map_nil]at q;have e0:DJ (1,0) []=(1,0):=rfl;rw[e0]at q;generalize O9 b ws plan s sel ws.length=TT at ih⊢;generalize O9 b ws plan s sel h=T at ih q hb1 hb2⊢;generalize DJ (1,0) (ws[h].map (HM b plan s sel h))=R at ih q hr;have w1:IntKind.i64.wrap (T.1+R.1)=T.1+R.1:=AS (by omega) (by omega);have w2:IntKind.i64.wrap (T.2+R.2)=T.2+R.2:=AS (by omega) (by omega);have hc2:2<c1:=by omega
  have hcc:c<c+1:=by omega
  rw[AB];simp only[D6,DX]at q ih⊢;simp at q ih;simp[hh,hwh,AH,AL,q,w1,w2,hc2,hcc,BF,ih]
theorem nQ(n:Nat)(hb:Valid b)(hp:E6 b plan)(hsel:∀n x,AW Tryz.prog kn (AE Tryz.prog ann kn (n+50)) ff [.agg (CH x)]=some (i (sel x)))(hse:∀h w,0≤HM b plan s sel h w∧HM b plan s sel h w≤1)(hs1:(s.1:Int)<b.rows)(hs2:(s.2:Int)<b.places)(hwl:ws.length=b.winds.length)(hok:DN ws):AW Tryz.prog kn (AE Tryz.prog ann kn (n+1800)) 157 [.agg [.fn ff [] []],.ref (D6 b ws),GQ plan,.agg [i s.1,i s.2]]=some (.agg (DX (O9 b ws plan s sel ws.length))):=by
 rw[AP rfl,AO Tryz.func157 BC4 rfl (by simp[D6,AH,AL,AF])];obtain⟨c',hc',q⟩:=A8O (s:=s) hb hp hsel hse hs1 hs2 hwl hok ws.length 0 3 (by omega) (Nat.le_refl _);have h5:=hb.hl;have q:=fun n k=>q n (k+150) (by omega);have e0:O9 b ws plan s sel 0=(0,0):=rfl;rw[e0]at q;generalize O9 b ws plan s sel ws.length=T at q⊢;have hc2:2<c':=by omega
 simp only[D6,DX]at q⊢;simp at q;simp[A1D,AG,AL,q,hc2,BF]
end
end Go.Proofs.Tryz.Op
namespace Go.Wind
structure nX where
 sun:Int
 calm:Int×Int
 good:Int×Int
end Go.Wind
namespace Go.Proofs.Tryz.Op
@[simp] theorem AZD(T:TypeId)(x:Operand)(k:Nat)(f:Operand→Option V):HI Tryz.prog (.oth (.field T x k)) f=[]:=rfl
@[simp] theorem AZE(f:FuncId):weakC (.fn f [] [])=.fn f [] []:=rfl
@[simp] theorem AZF(f:FuncId):weakM (.fn f [] [])=.fn f [] []:=rfl
@[simp] theorem AUK(k:Nat)(f:FuncId):AK (k+1) (.fn f [] [])=true:=rfl
def PA(x:nX):List V:=[i x.sun,i x.calm.1,i x.calm.2,i x.good.1,i x.good.2]
section
variable {b:AJ}{ws plan:List (List Int)}
def zG(b:AJ)(ws plan:List (List Int))(r p:Nat):nX:=⟨LN b plan r plan.length,jN b ws plan r p,jO b ws plan r p⟩
theorem zH(b:AJ)(plan:List (List Int))(r n:Nat):LN b plan r (n+1)=LN b plan r n+(if IH b plan r n=true then 1 else 0):=by unfold LN;simp only[fH];split<;>simp
theorem AFX(hb:Valid b)(hp:E6 b plan)(r p:Nat)(hr:(r:Int)<b.rows)(hp2:(p:Int)<b.places)(A:List (List V))(γ8 γ12:Nat):∀(d h c γ:Nat) (rs:List nX),h+d=plan.length→(rs.length:Int)=b.places→rs[p]? = some ⟨LN b plan r h,(0,0),(0,0)⟩→γ<c→∀n k,d<k→A9 (AE Tryz.prog ann kn (n+1400) 90) NY (ann 90 (BS NY)) k ⟨c,[(2,true,.ptr 0 2 0 0),(3,true,.ptr 0 3 1 0),(6,true,.ref (D6 b ws)),(8,true,pv 87 γ8 A),(9,true,i r),(10,true,.vec 0 30 γ rs.length),(11,true,i p),(12,true,.ptr 0 12 γ12 0),(24,true,i b.rows),(25,true,i r),(32,true,i rs.length),(33,true,i p),(40,true,i plan.length),(41,true,i h)],⟨[],(2,0,.box (AC b))::(3,1,.box [GQ plan])::(12,γ12,.box [i r,i p])::(30,γ,.vec 209 (rs.map PA))::pl 87 γ8 204 A⟩⟩ =
  some (.exit 4,⟨c,(42,true,.bool false)::[(2,true,.ptr 0 2 0 0),(3,true,.ptr 0 3 1 0),(6,true,.ref (D6 b ws)),(8,true,pv 87 γ8 A),(9,true,i r),(10,true,.vec 0 30 γ rs.length),(11,true,i p),(12,true,.ptr 0 12 γ12 0),(24,true,i b.rows),(25,true,i r),(32,true,i rs.length),(33,true,i p),(40,true,i plan.length),(41,true,i plan.length)],⟨[],(2,0,.box (AC b))::(3,1,.box [GQ plan])::(12,γ12,.box [i r,i p])::(30,γ,.vec 209 ((rs.set p ⟨LN b plan r plan.length,(0,0),(0,0)⟩).map PA))::pl 87 γ8 204 A⟩⟩)
 |0,h,c,γ,rs,hd,hl,e,hγ,n,k+1,hk=>by
  have:h=plan.length:=by omega
  subst this;have:rs.set p ⟨LN b plan r plan.length,(0,0),(0,0)⟩=rs:=by
   have hpl:p<rs.length:=by omega
   rw[List.getElem?_eq_getElem hpl,Option.some.injEq]at e;rw[←e];exact List.set_getElem_self hpl
  rw[this,AB];simp
 |d+1,h,c,γ,rs,hd,hl,e,hγ,n,k+1,hk=>by
  have hh:h<plan.length:=by omega
  have hla:=hb.la;have hro:=hb.ro;have hpc:=hb.pl;have hsu:=hb.su;have hlen:=hp.len;have hwh:=BJ (k:=h) (by omega);obtain⟨r1,r2,r3⟩:=vT hb hp hh;have hr2:r<plan[h].length:=by omega
  have hpa:CB plan h r=plan[h][r]:=by unfold CB;rw[show plan.getD h []=plan[h] by rw[List.getD_eq_getElem?_getD,List.getElem?_eq_getElem hh];rfl,List.getD_eq_getElem?_getD,List.getElem?_eq_getElem hr2];rfl
  have q:=fun n=>kOf n b hb (r,p) (by simp only;omega) h (by omega) (CB plan h r) 0 (by omega);rw[hpa]at q;have hpl:p<rs.length:=by omega
  have ih:=AFX hb hp r p hr hp2 A γ8 γ12 d (h+1) c γ (rs.set p ⟨LN b plan r (h+1),(0,0),(0,0)⟩) (by omega) (by simpa using hl) (by rw[List.getElem?_set_self hpl]) hγ n k (by omega);rw[List.set_set,List.length_set]at ih;rw[List.getElem?_eq_getElem hpl,Option.some.injEq]at e;have hs:=YJ (IH b plan r) h;have hsb:0≤LN b plan r h∧LN b plan r h≤h:=by unfold LN;omega
  have hof:(bK b (r,p) h plan[h][r] 0).sun=if IH b plan r h=true then 1 else 0:=by
   have:IH b plan r h=decide (b.sun.getD h 0=plan[h][r]):=by unfold IH;rw[hpa];congr 1;exact propext eq_comm
   rw[this];rfl
  have hst:LN b plan r (h+1)=LN b plan r h+(bK b (r,p) h plan[h][r] 0).sun:=by rw[zH,hof]
  have hw:IntKind.i64.wrap (LN b plan r h+(bK b (r,p) h plan[h][r] 0).sun)=LN b plan r h+(bK b (r,p) h plan[h][r] 0).sun:=AS (by rw[hof];split<;>omega) (by rw[hof];split<;>omega);rw[hst]at ih;generalize rs.set p ⟨LN b plan r plan.length,(0,0),(0,0)⟩=F at ih⊢;generalize LN b plan r h=S at *;generalize bK b (r,p) h plan[h][r] 0=O at *;rw[List.map_set]at ih;have heg:(rs.map PA)[p]'(by simpa using hpl)=[i S,i 0,i 0,i 0,i 0]:=by rw[List.getElem_map,e];rfl
  rw[AB];simp only[AC,AF,CH,PA,D6]at q ih heg⊢;simp at ih;simp[hh,hr2,hwh,AH,AL,AF,q,hpl,heg,hw,hγ,BF,F9,ih]
def L8(b:AJ)(ws plan:List (List Int))(r p:Nat):List nX:=(List.range b.places.toNat).map fun j=>if j<p then zG b ws plan r j else⟨0,(0,0),(0,0)⟩
def WT(b:AJ)(ws plan:List (List Int))(r:Nat):List nX:=(List.range b.places.toNat).map (zG b ws plan r)
theorem bA(b:AJ)(ws plan:List (List Int))(r p:Nat):(L8 b ws plan r p).length=b.places.toNat:=by simp[L8]
theorem AFY{r p:Nat}(h:p<b.places.toNat):(L8 b ws plan r p)[p]? = some ⟨0,(0,0),(0,0)⟩:=by simp[L8,h]
theorem AFZ{r p:Nat}:(L8 b ws plan r p).set p (zG b ws plan r p)=L8 b ws plan r (p+1):=by
 apply List.ext_getElem (by simp[L8]);intro j h1 h2;simp only[L8,List.getElem_set,List.getElem_map,List.getElem_range];by_cases e:p=j
 ·subst e;simp
 ·rw[if_neg e];have:(j<p)=(j<p+1):=propext ⟨fun h=>by omega,fun h=>by omega⟩;simp only[this]
theorem zI(b:AJ)(ws plan:List (List Int))(r:Nat):L8 b ws plan r b.places.toNat=WT b ws plan r:=by
 apply List.ext_getElem (by simp[L8,WT]);intro j h1 h2;have:j<b.places.toNat:=by simpa [L8]using h1
 simp only[L8,WT,List.getElem_map,List.getElem_range,if_pos this]
theorem zJ(b:AJ)(ws plan:List (List Int))(r:Nat):L8 b ws plan r 0=List.replicate b.places.toNat ⟨0,(0,0),(0,0)⟩:=by apply List.ext_getElem (by simp[L8]);intro j h1 h2;simp[L8]
theorem AF0(hb:Valid b)(hp:E6 b plan)(hwl:ws.length=b.winds.length)(hok:DN ws)(r:Nat)(hr:(r:Int)<b.rows)(A:List (List V))(γ8 γ:Nat):∀(d p c:Nat),p+d=b.places.toNat→γ<c→∃c',γ<c'∧∀n k,d<k→A9 (AE Tryz.prog ann kn (n+2000) 90) N3 (ann 90 (BS N3)) k ⟨c,[(2,true,.ptr 0 2 0 0),(3,true,.ptr 0 3 1 0),(6,true,.ref (D6 b ws)),(8,true,pv 87 γ8 A),(9,true,i r),(10,true,.vec 0 30 γ b.places.toNat),(24,true,i b.rows),(25,true,i r),(32,true,i b.places.toNat),(33,true,i p)],⟨[],(2,0,.box (AC b))::(3,1,.box [GQ plan])::(30,γ,.vec 209 ((L8 b ws plan r p).map PA))::pl 87 γ8 204 A⟩⟩ =
  some (.exit 2,⟨c',(34,true,.bool false)::[(2,true,.ptr 0 2 0 0),(3,true,.ptr 0 3 1 0),(6,true,.ref (D6 b ws)),(8,true,pv 87 γ8 A),(9,true,i r),(10,true,.vec 0 30 γ b.places.toNat),(24,true,i b.rows),(25,true,i r),(32,true,i b.places.toNat),(33,true,i b.places.toNat)],⟨[],(2,0,.box (AC b))::(3,1,.box [GQ plan])::(30,γ,.vec 209 ((WT b ws plan r).map PA))::pl 87 γ8 204 A⟩⟩)
 |0,p,c,hd,hγ=>by
  have:p=b.places.toNat:=by omega
  subst this;refine⟨c,hγ,fun n k hk=>?_⟩;obtain⟨k,rfl⟩:∃k',k=k'+1:=⟨k-1,by omega⟩;rw[zI,AB];simp
 |d+1,p,c,hd,hγ=>by
  have hpc:=hb.pl;have hla:=hb.la;have hlen:=hp.len;have hw:=BJ (k:=p) (by omega);have hp':p<b.places.toNat:=by omega
  obtain⟨c',h1,ih⟩:=AF0 hb hp hwl hok r hr A γ8 γ d (p+1) (c+3) (by omega) (by omega);have q:=AFX (ws:=ws) hb hp r p hr (by omega) A γ8 c plan.length 0 (c+1) γ (L8 b ws plan r p) (by omega) (by rw[bA];omega) (AFY hp') (by omega);rw[bA]at q;have q:=fun n m=>q n (m+100) (by omega);have qc:=fun n=>nQ (ws:=ws) (ff:=156) (sel:=FW.calm) (s:=(r,p)) n hb hp AUI (fun h w=>jL _) hr (by simp only;omega) hwl hok;have qg:=fun n=>nQ (ws:=ws) (ff:=158) (sel:=FW.good) (s:=(r,p)) n hb hp AUJ (fun h w=>jL _) hr (by simp only;omega) hwl hok;have ec:O9 b ws plan (r,p) FW.calm ws.length=jN b ws plan r p:=rfl;have eg:O9 b ws plan (r,p) FW.good ws.length=jO b ws plan r p:=rfl;rw[ec]at qc;rw[eg]at qg;have hst:((L8 b ws plan r p).set p ⟨LN b plan r plan.length,(0,0),(0,0)⟩).set p (zG b ws plan r p)=L8 b ws plan r (p+1):=by rw[List.set_set,AFZ]
  have hl:=bA b ws plan r p;have hbp:PA (zG b ws plan r p)=[i (LN b plan r plan.length),i (jN b ws plan r p).1,i (jN b ws plan r p).2,i (jO b ws plan r p).1,i (jO b ws plan r p).2]:=rfl;rw[←hst,List.map_set,hbp]at ih;generalize L8 b ws plan r p=R0 at q ih hl⊢;generalize zG b ws plan r p=BP at *;generalize jN b ws plan r p=C at *;generalize jO b ws plan r p=G at *;generalize WT b ws plan r=RR at ih⊢;generalize LN b plan r plan.length=S at *;generalize b.places.toNat=PP at hp' hl ih q⊢;have hpl:p<R0.length:=by omega
  have heg:((R0.set p ⟨S,(0,0),(0,0)⟩).map PA)[p]? = some [i S,i 0,i 0,i 0,i 0]:=by simp[PA,hpl]
  have hle:PP≤R0.length:=by omega
  refine⟨c',h1,fun n k hk=>?_⟩;obtain⟨k,rfl⟩:∃k',k=k'+1:=⟨k-1,by omega⟩;have ih:=ih n k (by omega);rw[AB];generalize hRR:R0.set p ⟨S,(0,0),(0,0)⟩=R1 at *;have hl1:R1.length=PP:=by rw[←hRR];simpa using hl
  have hpl1:p<R1.length:=by omega
  rw[List.getElem?_eq_getElem (by simpa using hpl1),Option.some.injEq]at heg;simp only[AC,D6,DX]at q qc qg ih⊢;simp at q ih;simp[hp',hw,AH,AL,AF,q,qc,qg,hpl1,heg,BF,F9,D9,DY,BW,BR,A8,show Nat.beq 2 1=false from rfl,hl1,show γ<c+1+1+1 by omega,ih]
def FM(b:AJ)(ws plan:List (List Int))(n:Nat):List (List nX):=(List.range n).map (WT b ws plan)
theorem rV(b:AJ)(ws plan:List (List Int))(n:Nat):FM b ws plan (n+1)=FM b ws plan n++[WT b ws plan n]:=by simp[FM,List.range_succ]
def GO(l:List nX):List V:=[.list false (l.map PA)]
theorem A8P{k:Nat}{x:List nX}(h:k≤10000):B4 Tryz.prog 204 k [GO x]=true:=by rw[CA (by simp[GO]) (by simp)];simp[maxLen,GO];omega
theorem AOM(hb:Valid b)(hp:E6 b plan)(hwl:ws.length=b.winds.length)(hok:DN ws):∀(d r c γ8:Nat),r+d=b.rows.toNat→1<c→∃fr c' γ',BQ fr 8=some (true,pv 87 γ' ((FM b ws plan b.rows.toNat).map GO))∧∀n k,d<k→A9 (AE Tryz.prog ann kn (n+2200) 90) SF (ann 90 (BS SF)) k ⟨c,[(2,true,.ptr 0 2 0 0),(3,true,.ptr 0 3 1 0),(6,true,.ref (D6 b ws)),(8,true,pv 87 γ8 ((FM b ws plan r).map GO)),(24,true,i b.rows),(25,true,i r)],⟨[],(2,0,.box (AC b))::(3,1,.box [GQ plan])::pl 87 γ8 204 ((FM b ws plan r).map GO)⟩⟩ =
  some (.exit 0,⟨c',fr,⟨[],(2,0,.box (AC b))::(3,1,.box [GQ plan])::pl 87 γ' 204 ((FM b ws plan b.rows.toNat).map GO)⟩⟩)
 |0,r,c,γ8,hd,hc=>by
  have hr:r=b.rows.toNat:=by omega
  have hro:=hb.ro;have hr':b.rows=(r:Int):=by omega
  rw[←hr];refine⟨?fr,c,γ8,?g1,fun n k hk=>?g2⟩;case g2=>
   obtain⟨k,rfl⟩:∃k',k=k'+1:=⟨k-1,by omega⟩
   rw[AB]
   simp[AC,hr']
   rfl
  case g1=>simp
 |d+1,r,c,γ8,hd,hc=>by
  have hro:=hb.ro;have hpc:=hb.pl;have hw:=BJ (k:=r) (by omega);have hr':(r:Int)<b.rows:=by omega
  obtain⟨c1,h1,q⟩:=AF0 (ws:=ws) hb hp hwl hok r hr' ((FM b ws plan r).map GO) γ8 c b.places.toNat 0 (c+1) (by omega) (by omega);have q:=fun n m=>q n (m+100) (by omega);obtain⟨fr,c',γ',e1,ih⟩:=AOM hb hp hwl hok d (r+1) (c1+1) c1 (by omega) (by omega);have happ:=A8P (k:=(FM b ws plan r).length) (x:=WT b ws plan r) (by simp[FM];omega);rw[zJ]at q;rw[rV]at ih;refine⟨fr,c',γ',e1,fun n k hk=>?_⟩;obtain⟨k,rfl⟩:∃k',k=k'+1:=⟨k-1,by omega⟩;have ih:=ih n k (by omega);generalize FM b ws plan b.rows.toNat=FF at ih⊢;have hRl:(WT b ws plan r).length=b.places.toNat:=by simp[WT]
  generalize WT b ws plan r=RR at ih q happ hRl;obtain⟨PP,hPP⟩:∃P:Nat,b.places=P:=⟨b.places.toNat,by omega⟩;have hP2:b.places.toNat=PP:=by omega
  rw[hP2]at q hRl;subst hRl;rw[AB];simp only[AC,D6,hPP]at q ih⊢;simp[GO]at ih q happ;simp[PA]at q;have m1:RR.length*40≤140737488355328:=by omega
  have m2:RR.length≤maxLen:=by simp[maxLen];omega
  have htl:∀o,EW 0 30 o (pl 87 γ8 204 ((FM b ws plan r).map GO))=pl 87 γ8 204 ((FM b ws plan r).map GO):=fun o=>VJ (by decide) _ _ _ (by simp[GO,PA]);simp[hr',hw,GO,q,ih,happ,m1,m2,htl]
def lvB(b:AJ)(plan:List (List Int)):AA:=[(2,0,.box (AC b)),(3,1,.box [GQ plan])]
theorem rW(hb:Valid b)(plan:List (List Int)):fC b (lvB b plan) 155 [.ptr 0 2 0 0,.ptr 0 3 1 0] 2 (DK b plan):=by intro n d fr;rw[BG Tryz.func155 b155 rfl (by simp)];have q:=fun n=>vP n b hb plan;generalize DK b plan=z at q⊢;simp only[AC,lvB]at q⊢;simp[A1G,AG,q,AH,AL,AF]
def HL(b:AJ)(plan:List (List Int)):List (List nX)×Int:=if CI b=0 then(if DK b plan=true then(if (EZ b [] b.winds []).isEmpty=true then([],11) else(FM b (FY b) plan b.rows.toNat,0)) else([],2)) else([],CI b)
theorem nR(n:Nat)(b:AJ)(h40:∀l∈b.winds,l.length≤40)(plan:List (List Int)):AW Tryz.prog kn (AE Tryz.prog ann kn (n+6200)) 117 [.agg (AC b),GQ plan]=some (.tup [sl ((HL b plan).1.map GO),i (HL b plan).2]):=by
 rw[AP rfl,AO Tryz.func117 BC7 rfl (by simp[AC,AH,AL,AF])];have hB:∀t:St,1≤t.up.length→AN t (lvB b plan)=lvB b plan:=fun t ht=>by simp[lvB,AC,AH,AL,AF]
 have slnil:sl ([]:List (List V))=.nil:=rfl;unfold HL;by_cases h:CI b=0
 ·have hb:=N9 h;have hf:=rW hb plan;rw[if_pos h];cases hz:DK b plan with
  |false=>
   rw[hz]at hf
   rw[if_neg (by decide)]
   have q:=fun n=>oJ (ff:=155) (cap:=[.ptr 0 2 0 0,.ptr 0 3 1 0]) hb hB (by simp) (by simp) 2 17 hf [(16,true,.fn 155 [] [.ptr 0 2 0 0,.ptr 0 3 1 0]),(15,true,.agg (AC b)),(2,true,.ptr 0 2 0 0),(3,true,.ptr 0 3 1 0)] (n+190)
   simp only[AC,lvB,List.map_nil,slnil]at q⊢
   simp[AA2,AG,AH,AL,AF,q]
  |true=>
   rw[hz]at hf
   rw[if_pos rfl]
   by_cases hT:EZ b [] b.winds []=[]
   ·obtain⟨c',hc',q⟩:=oL (ff:=155) (cap:=[.ptr 0 2 0 0,.ptr 0 3 1 0]) hb hB (by simp) (by simp) 2 17 hf hT [(16,true,.fn 155 [] [.ptr 0 2 0 0,.ptr 0 3 1 0]),(15,true,.agg (AC b)),(2,true,.ptr 0 2 0 0),(3,true,.ptr 0 3 1 0)];rw[if_pos (by rw[hT];rfl)];have q:=fun n=>q (n+190);simp only[AC,lvB,List.map_nil,slnil]at q⊢;simp[AA2,AG,AH,AL,AF,q]
   ·obtain⟨c',hc',q⟩:=AB0 (ff:=155) (cap:=[.ptr 0 2 0 0,.ptr 0 3 1 0]) hb hB (by simp) (by simp) 2 17 hf hT [(16,true,.fn 155 [] [.ptr 0 2 0 0,.ptr 0 3 1 0]),(15,true,.agg (AC b)),(2,true,.ptr 0 2 0 0),(3,true,.ptr 0 3 1 0)];rw[if_neg (by simpa using hT)];have q:=fun n=>q (n+190);have hro:=hb.ro;obtain⟨fr,c2,γ',e1,q6⟩:=AOM (ws:=FY b) hb (fI hz) (AB1 _ _) (zF hb) b.rows.toNat 0 c' 0 (by omega) (by omega);have q6:=fun n k=>q6 n (k+100) (by omega);have e0:FM b (FY b) plan 0=[]:=rfl;rw[e0]at q6;generalize FM b (FY b) plan b.rows.toNat=FF at *;simp only[AC,D6,lvB,List.cons_append,List.nil_append]at q q6⊢;simp at q q6;simp[AA2,AG,AH,AL,AF,q,q6,e1];simp[GO,PA]
 ·rw[if_neg h];have q:=fun n=>jD (ff:=155) (cap:=[.ptr 0 2 0 0,.ptr 0 3 1 0]) h40 hB (by simp) h 2 17 [(16,true,.fn 155 [] [.ptr 0 2 0 0,.ptr 0 3 1 0]),(15,true,.agg (AC b)),(2,true,.ptr 0 2 0 0),(3,true,.ptr 0 3 1 0)] (n+190);simp only[AC,lvB,List.map_nil,slnil]at q⊢;simp[AA2,AG,AH,AL,AF,q,h]
end
end Go.Proofs.Tryz.Op
