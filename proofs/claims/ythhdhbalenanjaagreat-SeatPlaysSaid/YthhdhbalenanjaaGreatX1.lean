/- Contracts: Min of two, minimum, wider, facing, turn, the directions as an array. No condition. -/
import Derived.Test.YthhdhbalenanjaaGreatW3
import Derived.Test.YthhdhbalenanjaaGreatI1
import Derived.Test.YthhdhbalenanjaaGreatFz
import Derived.Test.YthhdhbalenanjaaGreatH1
import Derived.Test.YthhdhbalenanjaaGreatW1
import Derived.Test.YthhdhbalenanjaaGreatW4
open Go Go.Pg Go.Proofs Go.Wind
namespace Go.Proofs.Tryz.Op
set_option maxRecDepth 100000
set_option linter.unusedSimpArgs false
theorem ARN(a b:Int):(if b<a then b else a)=min a b:=by split <;> omega
theorem ARO(a b:Int):(if a<b then b else a)=max a b:=by split <;> omega
theorem A5I(n:Nat)(a b:Int):AY Tryz.prog kn (AE Tryz.prog ann kn (n+100)) 165 [.list false [[i a],[i b]]]=some (i (min a b)):=by
 rw[AP rfl,AO Tryz.func165 A9T rfl (by simp)]
 have hw:IntKind.i64.wrap (1+1)=2:=by decide
 simp[AYE,AF]
 rw[AC]
 simp[hw,ARN]
 rw[AC]
 simp
theorem ADO(n:Nat)(a b:Int):AY Tryz.prog kn (AE Tryz.prog ann kn (n+200)) 198 [.list false [[i a],[i b]]]=some (i (min a b)):=by
 rw[AP rfl,AO Tryz.func198 A9U rfl (by simp)]
 have q:=fun n=>A5I n a b
 simp[AYF,AF,q]
def OI(r:Int×Int):List V:=[i r.1,i r.2]
theorem ARP(n:Nat)(r:Int×Int)(x:Int):AY Tryz.prog kn (AE Tryz.prog ann kn (n+300)) 186 [.agg (OI r),i x]=some (.agg (OI (min r.1 x,max r.2 x))):=by
 rw[AP rfl,AO Tryz.func186 A9V rfl (by simp[OI])]
 have q:=fun n=>ADO n r.1 x
 simp[AYG,AF,OI,q,ARO]
def BO3(g:List Int):List V:=g.map fun x=>i x
theorem A5J{α:Type}(l:List α)(h:l.length=3):∃x y z,l=[x,y,z]:=by
 match l,h with
 | [x,y,z],_=>exact⟨x,y,z,rfl⟩
end Go.Proofs.Tryz.Op
open Go Go.Pg Go.Proofs Go.Wind
namespace Go.Proofs.Tryz.Op
set_option maxRecDepth 100000
set_option linter.unusedSimpArgs false
@[simp] theorem AWG(cs:List V):MJ (.ref cs)=some (.ref cs):=rfl
theorem BG(L:AB)(k γ:Nat)(r:AX):AB.put L k γ r=(k,γ,r) :: L:=rfl
@[simp] theorem A5K:KJ Tryz.prog 186=false:=by kernel_rfl
def DV(b:AJ)(ws:List (List Int)):List V:=[i b.last,i b.rows,i b.places,i b.reach,li b.face,li b.sun,HB b.winds,.list false (b.breaks.map AG),.list false (b.notes.map AG),HB ws,.any,.any]
section
variable {b:AJ}{ws:List (List Int)}{g0 g1 g2:Int}{h:Nat}
def BIP(b:AJ)(h:Nat)(f:Nat→Int)(w:Int)(r:Nat):Int:=HO (fun r=>HO (fun p=>zU b (r,p) h (f r) w) b.places.toNat) r
end
end Go.Proofs.Tryz.Op
open Go Go.Pg Go.Proofs Go.Wind
namespace Go.Proofs.Tryz.Op
set_option maxRecDepth 100000
set_option linter.unusedSimpArgs false
section
variable {b:AJ}{ws plan:List (List Int)}
def BO4(b:AJ)(ws plan:List (List Int))(n:Nat):Int×Int:=(HO (fun h=>(gK b ws h (BW plan h)).1) n,HO (fun h=>(gK b ws h (BW plan h)).2) n)
theorem fG(b:AJ)(t:List Int):t∈EM b [] b.winds []↔ED b t=true:=by
 rw[dO]
 simp only[List.nil_append,List.map_id',List.mem_filter,OS,ED,Bool.and_eq_true,List.all_eq_true]
 refine and_congr_right fun _=>?_
 rw[VN,List.all_eq_true]
theorem wM(hb:Valid b):DH (FK b):=DH.ask _ _ fun t ht=>NF hb (by
 have:=(fG b t).1 ht
 simp only[ED,Bool.and_eq_true]at this
 exact this.1)
def lvP(b:AJ)(plan:List (List Int))(r:AX):AB:=[(2,0,.box (AA b)),(3,1,.box [HB plan]),(4,2,r)]
def BDZ(b:AJ)(plan:List (List Int)):(Int×Int)×Int:=if CD b=0 then(if CV b plan=true then(if (EM b [] b.winds []).isEmpty=true then((0,0),11) else(ANS b (FK b) plan,0)) else((0,0),2)) else((0,0),CD b)
end
end Go.Proofs.Tryz.Op
open Go Go.Pg Go.Proofs Go.Wind
namespace Go.Proofs.Tryz.Op
set_option maxRecDepth 100000
set_option linter.unusedSimpArgs false
@[simp] theorem clI(f:Nat)(l:List Int):(l.all ((fun e=>e.all (AL (f+1)))∘AH))=true:=by simp[AH]
@[simp] theorem clP(f:Nat)(l:List (Int×Int)):(l.all ((fun e=>e.all (AL (f+1)))∘AG))=true:=by simp[AG]
@[simp] theorem clL(f:Nat)(l:List (List Int)):(l.all ((fun e=>e.all (AL (f+2)))∘AN))=true:=by simp[AN,AH]
theorem slX{α:Type}{f:α→List V}{l:List α}(h:l≠[]):sl (l.map f)=.list false (l.map f):=by
 cases l with
 | nil=>exact absurd rfl h
 | cons x l=>rfl
theorem tA{b:AJ}{plan:List (List Int)}(hb:Valid b)(hp:EV b plan){h:Nat}(hh:h<plan.length):plan[h].length≤3∧(plan[h].length:Int)=b.rows∧∀x∈plan[h],0≤x∧x≤3:=by
 have hro:=hb.ro
 have e:plan.getD h []=plan[h]:=by rw[List.getD_eq_getElem?_getD,List.getElem?_eq_getElem hh]; rfl
 have hr:=hp.row h hh
 have hd:=hp.dir h
 rw[e]at hr
 refine⟨by omega,hr,fun x hx=>?_⟩
 obtain⟨r,h1,rfl⟩:=List.getElem_of_mem hx
 have:=hd r hh (by rw[e]; exact h1)
 unfold BW at this
 rw[e,List.getD_eq_getElem?_getD,List.getElem?_eq_getElem h1]at this
 exact DM.1 this
end Go.Proofs.Tryz.Op
open Go Go.Pg Go.Proofs Go.Wind
namespace Go.Proofs.Tryz.Op
set_option maxRecDepth 100000
set_option linter.unusedSimpArgs false
section
variable {b:AJ}{x0 x1 x2 y0 y1 y2:Int}
end
section
variable {b:AJ}{plan:List (List Int)}
def BIQ(b:AJ)(plan:List (List Int))(h:Nat):List Int:=if h=0 then AF3 b.face else AF3 (plan.getD (h-1) [])
def BIR(b:AJ)(plan:List (List Int)):Int×Int:=if CD b=0 then(if CV b plan=true then(A0K b plan,0) else(0,2)) else(0,CD b)
end
end Go.Proofs.Tryz.Op
open Go Go.Pg Go.Proofs Go.Wind
namespace Go.Proofs.Tryz.Op
set_option maxRecDepth 100000
set_option linter.unusedSimpArgs false
@[simp] theorem AWH:KJ Tryz.prog 157=false:=by kernel_rfl
theorem ARQ(n:Nat)(x:GD):AY Tryz.prog kn (AE Tryz.prog ann kn (n+50)) 156 [.agg (B7 x)]=some (i x.calm):=by
 rw[AP rfl,AO Tryz.func156 A90 rfl (by simp[B7])]
 simp[AYN,AF,B7]
theorem ARR(n:Nat)(x:GD):AY Tryz.prog kn (AE Tryz.prog ann kn (n+50)) 158 [.agg (B7 x)]=some (i x.good):=by
 rw[AP rfl,AO Tryz.func158 A91 rfl (by simp[B7])]
 simp[AYO,AF,B7]
section
variable {b:AJ}{ws plan:List (List Int)}{ff:FuncId}{sel:GD→Int}{s:Nat×Nat}
def HC(b:AJ)(plan:List (List Int))(s:Nat×Nat)(sel:GD→Int)(h:Nat)(w:Int):Int:=sel (Z5 b (s.1,s.2) h (BW plan h s.1) w)
theorem A5M(hb:Valid b)(hp:EV b plan)(hsel:∀n x,AY Tryz.prog kn (AE Tryz.prog ann kn (n+50)) ff [.agg (B7 x)]=some (i (sel x)))(hs1:(s.1:Int)<b.rows)(hs2:(s.2:Int)<b.places)(out:Int×Int)(h:Nat)(hh:h<plan.length)(xs:List Int)(hx:∀x∈xs,0≤x∧x≤3)(hxl:xs.length≤100)(γ:Nat):∀(d j c:Nat),j+d=xs.length→γ<c→∃c',c≤c'∧∀n k,d<k→A9 (AE Tryz.prog ann kn (n+1400) 66) RG (ann 66 (BN RG)) k ⟨c,[(1,true,.ref (DV b ws)),(2,true,HB plan),(4,true,.ptr 0 4 0 0),(7,true,.ptr 0 7 1 0),(8,true,.ptr 0 8 2 0),(9,true,i h),(11,true,.ptr 0 11 γ 0),(17,true,HB ws),(18,true,i ws.length),(19,true,i h),(25,true,li xs),(26,true,i xs.length),(27,true,i j)],⟨[],[(4,0,.box [.fn ff [] []]),(7,1,.box [i s.1,i s.2]),(8,2,.box (OI out)),(11,γ,.box (OI (FW (1,0) ((xs.take j).map (HC b plan s sel h)))))]⟩⟩ =
  some (.exit 2,⟨c',[(28,true,.bool false),(1,true,.ref (DV b ws)),(2,true,HB plan),(4,true,.ptr 0 4 0 0),(7,true,.ptr 0 7 1 0),(8,true,.ptr 0 8 2 0),(9,true,i h),(11,true,.ptr 0 11 γ 0),(17,true,HB ws),(18,true,i ws.length),(19,true,i h),(25,true,li xs),(26,true,i xs.length),(27,true,i xs.length)],⟨[],[(4,0,.box [.fn ff [] []]),(7,1,.box [i s.1,i s.2]),(8,2,.box (OI out)),(11,γ,.box (OI (FW (1,0) (xs.map (HC b plan s sel h)))))]⟩⟩)
 | 0,j,c,hd,hc=>by
  have:j=xs.length:=by omega
  subst this
  refine⟨c,Nat.le_refl _,fun n k hk=>?_⟩
  obtain⟨k,rfl⟩:∃k',k=k'+1:=⟨k-1,by omega⟩
  rw[AC,List.take_length]
  simp[OI]
 | d+1,j,c,hd,hc=>by
  have hj:j<xs.length:=by omega
  have hla:=hb.la
  have hro:=hb.ro
  have hpl:=hb.pl
  have hsu:=hb.su
  have hlen:=hp.len
  have hwj:=BH (k:=j) (by omega)
  obtain⟨c',hc',ih⟩:=A5M hb hp hsel hs1 hs2 out h hh xs hx hxl γ d (j+1) (c+1) (by omega) (by omega)
  refine⟨c',by omega,fun n k hk=>?_⟩
  obtain⟨k,rfl⟩:∃k',k=k'+1:=⟨k-1,by omega⟩
  have ih:=ih n k (by omega)
  have hxj:=hx _ (List.getElem_mem hj)
  have e1:(xs.take (j+1)).map (HC b plan s sel h)=(xs.take j).map (HC b plan s sel h)++[HC b plan s sel h xs[j]]:=by
   rw[List.take_succ_eq_append_getElem hj,List.map_append,List.map_cons,List.map_nil]
  have e2:FW (1,0) ((xs.take (j+1)).map (HC b plan s sel h))=(min (FW (1,0) ((xs.take j).map (HC b plan s sel h))).1 (HC b plan s sel h xs[j]),max (FW (1,0) ((xs.take j).map (HC b plan s sel h))).2 (HC b plan s sel h xs[j])):=by
   rw[e1]
   unfold FW
   rw[List.foldl_append]
   rfl
  rw[e2]at ih
  have qw:=fun n=>ARP n (FW (1,0) ((xs.take j).map (HC b plan s sel h))) (HC b plan s sel h xs[j])
  obtain⟨r1,r2,r3⟩:=tA hb hp hh
  have hsr:s.1<plan[h].length:=by omega
  have hpa:BW plan h s.1=plan[h][s.1]:=by
   unfold BW
   rw[show plan.getD h []=plan[h] by rw[List.getD_eq_getElem?_getD,List.getElem?_eq_getElem hh]; rfl,List.getD_eq_getElem?_getD,List.getElem?_eq_getElem hsr]
   rfl
  have qo:=fun n=>kOf n b hb (s.1,s.2) (by simp only; omega) h (by omega) (BW plan h s.1) xs[j] hxj
  have qs:=fun n=>hsel n (Z5 b (s.1,s.2) h (BW plan h s.1) xs[j])
  have es:HC b plan s sel h xs[j]=sel (Z5 b (s.1,s.2) h (BW plan h s.1) xs[j]):=rfl
  rw[es]at ih qw
  rw[hpa]at qo qs ih qw
  generalize FW (1,0) (xs.map (HC b plan s sel h))=RR at ih ⊢
  generalize FW (1,0) ((xs.take j).map (HC b plan s sel h))=R at ih qw ⊢
  generalize sel (Z5 b (s.1,s.2) h plan[h][s.1] xs[j])=y at qs ih qw
  generalize Z5 b (s.1,s.2) h plan[h][s.1] xs[j]=O at qs qo
  have hc1:γ<c+1:=by omega
  rw[AC]
  simp only[AA,DV,OI,AG,B7]at qo qs ih qw ⊢
  simp at ih
  simp[hj,hwj,hh,hsr,AH,AN,AG,qo,qs,qw,hc1,BG,ih]
def OJ(b:AJ)(ws plan:List (List Int))(s:Nat×Nat)(sel:GD→Int)(n:Nat):Int×Int:=A0E (1,0) ws (HC b plan s sel) n
theorem ADP{l:List Int}(h:∀x∈l,0≤x∧x≤1):0≤(FW (1,0) l).1∧(FW (1,0) l).1≤1∧0≤(FW (1,0) l).2∧(FW (1,0) l).2≤1:=by
 have:=qA l (1,0) 0 1 h (by simp) (by simp)
 simp only at this
 omega
theorem A5N(hb:Valid b)(hp:EV b plan)(hsel:∀n x,AY Tryz.prog kn (AE Tryz.prog ann kn (n+50)) ff [.agg (B7 x)]=some (i (sel x)))(hse:∀h w,0≤HC b plan s sel h w∧HC b plan s sel h w≤1)(hs1:(s.1:Int)<b.rows)(hs2:(s.2:Int)<b.places)(hwl:ws.length=b.winds.length)(hok:DH ws):∀(d h c:Nat),h+d=ws.length→3≤c→∃c',3≤c'∧∀n k,d<k→A9 (AE Tryz.prog ann kn (n+1600) 66) RH (ann 66 (BN RH)) k ⟨c,[(1,true,.ref (DV b ws)),(2,true,HB plan),(4,true,.ptr 0 4 0 0),(7,true,.ptr 0 7 1 0),(8,true,.ptr 0 8 2 0),(17,true,HB ws),(18,true,i ws.length),(19,true,i h)],⟨[],[(4,0,.box [.fn ff [] []]),(7,1,.box [i s.1,i s.2]),(8,2,.box (OI (OJ b ws plan s sel h)))]⟩⟩ =
  some (.exit 0,⟨c',[(20,true,.bool false),(1,true,.ref (DV b ws)),(2,true,HB plan),(4,true,.ptr 0 4 0 0),(7,true,.ptr 0 7 1 0),(8,true,.ptr 0 8 2 0),(17,true,HB ws),(18,true,i ws.length),(19,true,i ws.length)],⟨[],[(4,0,.box [.fn ff [] []]),(7,1,.box [i s.1,i s.2]),(8,2,.box (OI (OJ b ws plan s sel ws.length)))]⟩⟩)
 | 0,h,c,hd,hc=>by
  have:h=ws.length:=by omega
  subst this
  refine⟨c,hc,fun n k hk=>?_⟩
  obtain⟨k,rfl⟩:∃k',k=k'+1:=⟨k-1,by omega⟩
  rw[AC]
  simp[OI]
 | d+1,h,c,hd,hc=>by
  have hh:h<ws.length:=by omega
  have hh5:=hb.hl
  have hwi:=hb.wi
  have hlen:=hp.len
  have hwh:=BH (k:=h) (by omega)
  have hwd:ws.getD h []=ws[h]:=by rw[List.getD_eq_getElem?_getD,List.getElem?_eq_getElem hh]; rfl
  have hw4:=hok.len _ (List.getElem_mem hh)
  obtain⟨c1,hc1,q⟩:=A5M (ws:=ws) hb hp hsel hs1 hs2 (OJ b ws plan s sel h) h (by omega) ws[h] (hok.lo _ (List.getElem_mem hh)) (by omega) c ws[h].length 0 (c+1) (by omega) (by omega)
  obtain⟨c',hc',ih⟩:=A5N hb hp hsel hse hs1 hs2 hwl hok d (h+1) c1 (by omega) (by omega)
  refine⟨c',hc',fun n k hk=>?_⟩
  obtain⟨k,rfl⟩:∃k',k=k'+1:=⟨k-1,by omega⟩
  have ih:=ih n k (by omega)
  have q:=fun n k=>q n (k+100) (by omega)
  have e1:OJ b ws plan s sel (h+1)=((OJ b ws plan s sel h).1+(FW (1,0) (ws[h].map (HC b plan s sel h))).1,(OJ b ws plan s sel h).2+(FW (1,0) (ws[h].map (HC b plan s sel h))).2):=by
   rw[← hwd]; rfl
  have hr:=ADP (l:=ws[h].map (HC b plan s sel h)) fun x hx=>by
   obtain⟨w,_,rfl⟩:=List.mem_map.1 hx
   exact hse h w
  have hb1:=V2 (n:=h) (c:=1) (f:=fun h=>(FW (1,0) ((ws.getD h []).map (HC b plan s sel h))).1) fun j _=>by
   have:=ADP (l:=(ws.getD j []).map (HC b plan s sel j)) fun x hx=>by
    obtain⟨w,_,rfl⟩:=List.mem_map.1 hx
    exact hse j w
   omega
  have hb2:=V2 (n:=h) (c:=1) (f:=fun h=>(FW (1,0) ((ws.getD h []).map (HC b plan s sel h))).2) fun j _=>by
   have:=ADP (l:=(ws.getD j []).map (HC b plan s sel j)) fun x hx=>by
    obtain⟨w,_,rfl⟩:=List.mem_map.1 hx
    exact hse j w
   omega
  change 0≤(OJ b ws plan s sel h).1∧(OJ b ws plan s sel h).1≤h*1 at hb1
  change 0≤(OJ b ws plan s sel h).2∧(OJ b ws plan s sel h).2≤h*1 at hb2
  rw[e1]at ih
  rw[List.take_zero,List.map_nil]at q
  have e0:FW (1,0) []=(1,0):=rfl
  rw[e0]at q
  generalize OJ b ws plan s sel ws.length=TT at ih ⊢
  generalize OJ b ws plan s sel h=T at ih q hb1 hb2 ⊢
  generalize FW (1,0) (ws[h].map (HC b plan s sel h))=R at ih q hr
  have w1:IntKind.i64.wrap (T.1+R.1)=T.1+R.1:=AW (by omega) (by omega)
  have w2:IntKind.i64.wrap (T.2+R.2)=T.2+R.2:=AW (by omega) (by omega)
  have hc2:2<c1:=by omega
  have hcc:c<c+1:=by omega
  rw[AC]
  simp only[DV,OI]at q ih ⊢
  simp at q ih
  simp[hh,hwh,AH,AN,q,w1,w2,hc2,hcc,BG,ih]
theorem lJ(n:Nat)(hb:Valid b)(hp:EV b plan)(hsel:∀n x,AY Tryz.prog kn (AE Tryz.prog ann kn (n+50)) ff [.agg (B7 x)]=some (i (sel x)))(hse:∀h w,0≤HC b plan s sel h w∧HC b plan s sel h w≤1)(hs1:(s.1:Int)<b.rows)(hs2:(s.2:Int)<b.places)(hwl:ws.length=b.winds.length)(hok:DH ws):AY Tryz.prog kn (AE Tryz.prog ann kn (n+1800)) 157 [.agg [.fn ff [] []],.ref (DV b ws),HB plan,.agg [i s.1,i s.2]]=some (.agg (OI (OJ b ws plan s sel ws.length))):=by
 rw[AP rfl,AO Tryz.func157 A9Z rfl (by simp[DV,AH,AN,AG])]
 obtain⟨c',hc',q⟩:=A5N (s:=s) hb hp hsel hse hs1 hs2 hwl hok ws.length 0 3 (by omega) (Nat.le_refl _)
 have h5:=hb.hl
 have q:=fun n k=>q n (k+150) (by omega)
 have e0:OJ b ws plan s sel 0=(0,0):=rfl
 rw[e0]at q
 generalize OJ b ws plan s sel ws.length=T at q ⊢
 have hc2:2<c':=by omega
 simp only[DV,OI]at q ⊢
 simp at q
 simp[AYM,AF,AN,q,hc2,BG]
end
end Go.Proofs.Tryz.Op
open Go Go.Pg Go.Proofs Go.Wind
namespace Go.Wind
structure lV where
 sun:Int
 calm:Int×Int
 good:Int×Int
end Go.Wind
namespace Go.Proofs.Tryz.Op
set_option maxRecDepth 100000
set_option linter.unusedSimpArgs false
@[simp] theorem AWI(T:TypeId)(x:Operand)(k:Nat)(f:Operand→Option V):G7 Tryz.prog (.oth (.field T x k)) f=[]:=rfl
@[simp] theorem AWJ(f:FuncId):weakC (.fn f [] [])=.fn f [] []:=rfl
@[simp] theorem AWK(f:FuncId):weakM (.fn f [] [])=.fn f [] []:=rfl
@[simp] theorem ARS(k:Nat)(f:FuncId):AL (k+1) (.fn f [] [])=true:=rfl
def OK(x:lV):List V:=[i x.sun,i x.calm.1,i x.calm.2,i x.good.1,i x.good.2]
section
variable {b:AJ}{ws plan:List (List Int)}
def wN(b:AJ)(ws plan:List (List Int))(r p:Nat):lV:=⟨KV b plan r plan.length,gL b ws plan r p,gM b ws plan r p⟩
theorem wO(b:AJ)(plan:List (List Int))(r n:Nat):KV b plan r (n+1)=KV b plan r n+(if H4 b plan r n=true then 1 else 0):=by
 unfold KV
 simp only[dM]
 split <;> simp
theorem ADQ(hb:Valid b)(hp:EV b plan)(r p:Nat)(hr:(r:Int)<b.rows)(hp2:(p:Int)<b.places)(A:List (List V))(γ8 γ12:Nat):∀(d h c γ:Nat) (rs:List lV),h+d=plan.length→(rs.length:Int)=b.places→rs[p]? = some ⟨KV b plan r h,(0,0),(0,0)⟩→γ<c→∀n k,d<k→A9 (AE Tryz.prog ann kn (n+1400) 90) NA (ann 90 (BN NA)) k ⟨c,[(2,true,.ptr 0 2 0 0),(3,true,.ptr 0 3 1 0),(6,true,.ref (DV b ws)),(8,true,pv 87 γ8 A),(9,true,i r),(10,true,.vec 0 30 γ rs.length),(11,true,i p),(12,true,.ptr 0 12 γ12 0),(24,true,i b.rows),(25,true,i r),(32,true,i rs.length),(33,true,i p),(40,true,i plan.length),(41,true,i h)],⟨[],(2,0,.box (AA b)) :: (3,1,.box [HB plan]) :: (12,γ12,.box [i r,i p]) :: (30,γ,.vec 209 (rs.map OK)) :: pl 87 γ8 204 A⟩⟩ =
  some (.exit 4,⟨c,(42,true,.bool false) :: [(2,true,.ptr 0 2 0 0),(3,true,.ptr 0 3 1 0),(6,true,.ref (DV b ws)),(8,true,pv 87 γ8 A),(9,true,i r),(10,true,.vec 0 30 γ rs.length),(11,true,i p),(12,true,.ptr 0 12 γ12 0),(24,true,i b.rows),(25,true,i r),(32,true,i rs.length),(33,true,i p),(40,true,i plan.length),(41,true,i plan.length)],⟨[],(2,0,.box (AA b)) :: (3,1,.box [HB plan]) :: (12,γ12,.box [i r,i p]) :: (30,γ,.vec 209 ((rs.set p ⟨KV b plan r plan.length,(0,0),(0,0)⟩).map OK)) :: pl 87 γ8 204 A⟩⟩)
 | 0,h,c,γ,rs,hd,hl,e,hγ,n,k+1,hk=>by
  have:h=plan.length:=by omega
  subst this
  have:rs.set p ⟨KV b plan r plan.length,(0,0),(0,0)⟩=rs:=by
   have hpl:p<rs.length:=by omega
   rw[List.getElem?_eq_getElem hpl,Option.some.injEq]at e
   rw[← e]
   exact List.set_getElem_self hpl
  rw[this,AC]
  simp
 | d+1,h,c,γ,rs,hd,hl,e,hγ,n,k+1,hk=>by
  have hh:h<plan.length:=by omega
  have hla:=hb.la
  have hro:=hb.ro
  have hpc:=hb.pl
  have hsu:=hb.su
  have hlen:=hp.len
  have hwh:=BH (k:=h) (by omega)
  obtain⟨r1,r2,r3⟩:=tA hb hp hh
  have aX:r<plan[h].length:=by omega
  have hpa:BW plan h r=plan[h][r]:=by
   unfold BW
   rw[show plan.getD h []=plan[h] by rw[List.getD_eq_getElem?_getD,List.getElem?_eq_getElem hh]; rfl,List.getD_eq_getElem?_getD,List.getElem?_eq_getElem aX]
   rfl
  have q:=fun n=>kOf n b hb (r,p) (by simp only; omega) h (by omega) (BW plan h r) 0 (by omega)
  rw[hpa]at q
  have hpl:p<rs.length:=by omega
  have ih:=ADQ hb hp r p hr hp2 A γ8 γ12 d (h+1) c γ (rs.set p ⟨KV b plan r (h+1),(0,0),(0,0)⟩) (by omega) (by simpa using hl) (by rw[List.getElem?_set_self hpl]) hγ n k (by omega)
  rw[List.set_set,List.length_set]at ih
  rw[List.getElem?_eq_getElem hpl,Option.some.injEq]at e
  have hs:=XJ (H4 b plan r) h
  have hsb:0≤KV b plan r h∧KV b plan r h≤h:=by unfold KV; omega
  have hof:(Z5 b (r,p) h plan[h][r] 0).sun=if H4 b plan r h=true then 1 else 0:=by
   have:H4 b plan r h=decide (b.sun.getD h 0=plan[h][r]):=by
    unfold H4
    rw[hpa]
    congr 1
    exact propext eq_comm
   rw[this]
   rfl
  have hst:KV b plan r (h+1)=KV b plan r h+(Z5 b (r,p) h plan[h][r] 0).sun:=by rw[wO,hof]
  have hw:IntKind.i64.wrap (KV b plan r h+(Z5 b (r,p) h plan[h][r] 0).sun)=KV b plan r h+(Z5 b (r,p) h plan[h][r] 0).sun:=AW (by rw[hof]; split <;> omega) (by rw[hof]; split <;> omega)
  rw[hst]at ih
  generalize rs.set p ⟨KV b plan r plan.length,(0,0),(0,0)⟩=F at ih ⊢
  generalize KV b plan r h=S at *
  generalize Z5 b (r,p) h plan[h][r] 0=O at *
  rw[List.map_set]at ih
  have heg:(rs.map OK)[p]'(by simpa using hpl)=[i S,i 0,i 0,i 0,i 0]:=by rw[List.getElem_map,e]; rfl
  rw[AC]
  simp only[AA,AG,B7,OK,DV]at q ih heg ⊢
  simp at ih
  simp[hh,aX,hwh,AH,AN,AG,q,hpl,heg,hw,hγ,BG,HD,ih]
def K8(b:AJ)(ws plan:List (List Int))(r p:Nat):List lV:=(List.range b.places.toNat).map fun j=>if j<p then wN b ws plan r j else⟨0,(0,0),(0,0)⟩
def VY(b:AJ)(ws plan:List (List Int))(r:Nat):List lV:=(List.range b.places.toNat).map (wN b ws plan r)
theorem ZY(b:AJ)(ws plan:List (List Int))(r p:Nat):(K8 b ws plan r p).length=b.places.toNat:=by simp[K8]
theorem ADR{r p:Nat}(h:p<b.places.toNat):(K8 b ws plan r p)[p]? = some ⟨0,(0,0),(0,0)⟩:=by simp[K8,h]
theorem ADS{r p:Nat}:(K8 b ws plan r p).set p (wN b ws plan r p)=K8 b ws plan r (p+1):=by
 apply List.ext_getElem (by simp[K8])
 intro j h1 h2
 simp only[K8,List.getElem_set,List.getElem_map,List.getElem_range]
 by_cases e:p=j
 ·subst e; simp
 ·rw[if_neg e]
  have:(j<p)=(j<p+1):=propext ⟨fun h=>by omega,fun h=>by omega⟩
  simp only[this]
theorem wP(b:AJ)(ws plan:List (List Int))(r:Nat):K8 b ws plan r b.places.toNat=VY b ws plan r:=by
 apply List.ext_getElem (by simp[K8,VY])
 intro j h1 h2
 have:j<b.places.toNat:=by simpa [K8]using h1
 simp only[K8,VY,List.getElem_map,List.getElem_range,if_pos this]
theorem wQ(b:AJ)(ws plan:List (List Int))(r:Nat):K8 b ws plan r 0=List.replicate b.places.toNat ⟨0,(0,0),(0,0)⟩:=by
 apply List.ext_getElem (by simp[K8])
 intro j h1 h2
 simp[K8]
theorem ADT(hb:Valid b)(hp:EV b plan)(hwl:ws.length=b.winds.length)(hok:DH ws)(r:Nat)(hr:(r:Int)<b.rows)(A:List (List V))(γ8 γ:Nat):∀(d p c:Nat),p+d=b.places.toNat→γ<c→∃c',γ<c'∧∀n k,d<k→A9 (AE Tryz.prog ann kn (n+2000) 90) NB (ann 90 (BN NB)) k ⟨c,[(2,true,.ptr 0 2 0 0),(3,true,.ptr 0 3 1 0),(6,true,.ref (DV b ws)),(8,true,pv 87 γ8 A),(9,true,i r),(10,true,.vec 0 30 γ b.places.toNat),(24,true,i b.rows),(25,true,i r),(32,true,i b.places.toNat),(33,true,i p)],⟨[],(2,0,.box (AA b)) :: (3,1,.box [HB plan]) :: (30,γ,.vec 209 ((K8 b ws plan r p).map OK)) :: pl 87 γ8 204 A⟩⟩ =
  some (.exit 2,⟨c',(34,true,.bool false) :: [(2,true,.ptr 0 2 0 0),(3,true,.ptr 0 3 1 0),(6,true,.ref (DV b ws)),(8,true,pv 87 γ8 A),(9,true,i r),(10,true,.vec 0 30 γ b.places.toNat),(24,true,i b.rows),(25,true,i r),(32,true,i b.places.toNat),(33,true,i b.places.toNat)],⟨[],(2,0,.box (AA b)) :: (3,1,.box [HB plan]) :: (30,γ,.vec 209 ((VY b ws plan r).map OK)) :: pl 87 γ8 204 A⟩⟩)
 | 0,p,c,hd,hγ=>by
  have:p=b.places.toNat:=by omega
  subst this
  refine⟨c,hγ,fun n k hk=>?_⟩
  obtain⟨k,rfl⟩:∃k',k=k'+1:=⟨k-1,by omega⟩
  rw[wP,AC]
  simp
 | d+1,p,c,hd,hγ=>by
  have hpc:=hb.pl
  have hla:=hb.la
  have hlen:=hp.len
  have hw:=BH (k:=p) (by omega)
  have hp':p<b.places.toNat:=by omega
  obtain⟨c',h1,ih⟩:=ADT hb hp hwl hok r hr A γ8 γ d (p+1) (c+3) (by omega) (by omega)
  have q:=ADQ (ws:=ws) hb hp r p hr (by omega) A γ8 c plan.length 0 (c+1) γ (K8 b ws plan r p) (by omega) (by rw[ZY]; omega) (ADR hp') (by omega)
  rw[ZY]at q
  have q:=fun n m=>q n (m+100) (by omega)
  have qc:=fun n=>lJ (ws:=ws) (ff:=156) (sel:=GD.calm) (s:=(r,p)) n hb hp ARQ (fun h w=>gJ _) hr (by simp only; omega) hwl hok
  have qg:=fun n=>lJ (ws:=ws) (ff:=158) (sel:=GD.good) (s:=(r,p)) n hb hp ARR (fun h w=>gJ _) hr (by simp only; omega) hwl hok
  have ec:OJ b ws plan (r,p) GD.calm ws.length=gL b ws plan r p:=rfl
  have eg:OJ b ws plan (r,p) GD.good ws.length=gM b ws plan r p:=rfl
  rw[ec]at qc
  rw[eg]at qg
  have hst:((K8 b ws plan r p).set p ⟨KV b plan r plan.length,(0,0),(0,0)⟩).set p (wN b ws plan r p)=K8 b ws plan r (p+1):=by rw[List.set_set,ADS]
  have hl:=ZY b ws plan r p
  have hbp:OK (wN b ws plan r p)=[i (KV b plan r plan.length),i (gL b ws plan r p).1,i (gL b ws plan r p).2,i (gM b ws plan r p).1,i (gM b ws plan r p).2]:=rfl
  rw[← hst,List.map_set,hbp]at ih
  generalize K8 b ws plan r p=R0 at q ih hl ⊢
  generalize wN b ws plan r p=BP at *
  generalize gL b ws plan r p=C at *
  generalize gM b ws plan r p=G at *
  generalize VY b ws plan r=RR at ih ⊢
  generalize KV b plan r plan.length=S at *
  generalize b.places.toNat=PP at hp' hl ih q ⊢
  have hpl:p<R0.length:=by omega
  have heg:((R0.set p ⟨S,(0,0),(0,0)⟩).map OK)[p]? = some [i S,i 0,i 0,i 0,i 0]:=by simp[OK,hpl]
  have hle:PP≤R0.length:=by omega
  refine⟨c',h1,fun n k hk=>?_⟩
  obtain⟨k,rfl⟩:∃k',k=k'+1:=⟨k-1,by omega⟩
  have ih:=ih n k (by omega)
  rw[AC]
  generalize hRR:R0.set p ⟨S,(0,0),(0,0)⟩=R1 at *
  have hl1:R1.length=PP:=by rw[← hRR]; simpa using hl
  have hpl1:p<R1.length:=by omega
  rw[List.getElem?_eq_getElem (by simpa using hpl1),Option.some.injEq]at heg
  simp only[AA,DV,OI]at q qc qg ih ⊢
  simp at q ih
  simp[hp',hw,AH,AN,AG,q,qc,qg,hpl1,heg,BG,HD,EN,D8,B6,BR,BD,show Nat.beq 2 1=false from rfl,hl1,show γ<c+1+1+1 by omega,ih]
def FA(b:AJ)(ws plan:List (List Int))(n:Nat):List (List lV):=(List.range n).map (VY b ws plan)
theorem pA(b:AJ)(ws plan:List (List Int))(n:Nat):FA b ws plan (n+1)=FA b ws plan n++[VY b ws plan n]:=by
 simp[FA,List.range_succ]
def GB(l:List lV):List V:=[.list false (l.map OK)]
theorem A5O{k:Nat}{x:List lV}(h:k≤10000):B4 Tryz.prog 204 k [GB x]=true:=by
 rw[CO (by simp[GB]) (by simp)]
 simp[maxLen,GB]; omega
theorem ALS(hb:Valid b)(hp:EV b plan)(hwl:ws.length=b.winds.length)(hok:DH ws):∀(d r c γ8:Nat),r+d=b.rows.toNat→1<c→∃fr c' γ',BT fr 8=some (true,pv 87 γ' ((FA b ws plan b.rows.toNat).map GB))∧∀n k,d<k→A9 (AE Tryz.prog ann kn (n+2200) 90) RI (ann 90 (BN RI)) k ⟨c,[(2,true,.ptr 0 2 0 0),(3,true,.ptr 0 3 1 0),(6,true,.ref (DV b ws)),(8,true,pv 87 γ8 ((FA b ws plan r).map GB)),(24,true,i b.rows),(25,true,i r)],⟨[],(2,0,.box (AA b)) :: (3,1,.box [HB plan]) :: pl 87 γ8 204 ((FA b ws plan r).map GB)⟩⟩ =
  some (.exit 0,⟨c',fr,⟨[],(2,0,.box (AA b)) :: (3,1,.box [HB plan]) :: pl 87 γ' 204 ((FA b ws plan b.rows.toNat).map GB)⟩⟩)
 | 0,r,c,γ8,hd,hc=>by
  have hr:r=b.rows.toNat:=by omega
  have hro:=hb.ro
  have hr':b.rows=(r:Int):=by omega
  rw[← hr]
  refine⟨?fr,c,γ8,?g1,fun n k hk=>?g2⟩
  case g2 =>
   obtain⟨k,rfl⟩:∃k',k=k'+1:=⟨k-1,by omega⟩
   rw[AC]
   simp[AA,hr']
   rfl
  case g1=>simp
 | d+1,r,c,γ8,hd,hc=>by
  have hro:=hb.ro
  have hpc:=hb.pl
  have hw:=BH (k:=r) (by omega)
  have hr':(r:Int)<b.rows:=by omega
  obtain⟨c1,h1,q⟩:=ADT (ws:=ws) hb hp hwl hok r hr' ((FA b ws plan r).map GB) γ8 c b.places.toNat 0 (c+1) (by omega) (by omega)
  have q:=fun n m=>q n (m+100) (by omega)
  obtain⟨fr,c',γ',e1,ih⟩:=ALS hb hp hwl hok d (r+1) (c1+1) c1 (by omega) (by omega)
  have happ:=A5O (k:=(FA b ws plan r).length) (x:=VY b ws plan r) (by simp[FA]; omega)
  rw[wQ]at q
  rw[pA]at ih
  refine⟨fr,c',γ',e1,fun n k hk=>?_⟩
  obtain⟨k,rfl⟩:∃k',k=k'+1:=⟨k-1,by omega⟩
  have ih:=ih n k (by omega)
  generalize FA b ws plan b.rows.toNat=FF at ih ⊢
  have hRl:(VY b ws plan r).length=b.places.toNat:=by simp[VY]
  generalize VY b ws plan r=RR at ih q happ hRl
  obtain⟨PP,hPP⟩:∃P:Nat,b.places=P:=⟨b.places.toNat,by omega⟩
  have hP2:b.places.toNat=PP:=by omega
  rw[hP2]at q hRl
  subst hRl
  rw[AC]
  simp only[AA,DV,hPP]at q ih ⊢
  simp[GB]at ih q happ
  simp[OK]at q
  have m1:RR.length*40≤140737488355328:=by omega
  have m2:RR.length≤maxLen:=by simp[maxLen]; omega
  have htl:∀o,EJ 0 30 o (pl 87 γ8 204 ((FA b ws plan r).map GB))=pl 87 γ8 204 ((FA b ws plan r).map GB):=fun o=>UP (by decide) _ _ _ (by simp[GB,OK])
  simp[hr',hw,GB,q,ih,happ,m1,m2,htl]
def lvB(b:AJ)(plan:List (List Int)):AB:=[(2,0,.box (AA b)),(3,1,.box [HB plan])]
theorem pB(hb:Valid b)(plan:List (List Int)):dI b (lvB b plan) 155 [.ptr 0 2 0 0,.ptr 0 3 1 0] 2 (CV b plan):=by
 intro n d fr
 rw[BK Tryz.func155 b155 rfl (by simp)]
 have q:=fun n=>sV n b hb plan
 generalize CV b plan=z at q ⊢
 simp only[AA,lvB]at q ⊢
 simp[AYP,AF,q,AH,AN,AG]
def HA(b:AJ)(plan:List (List Int)):List (List lV)×Int:=if CD b=0 then(if CV b plan=true then(if (EM b [] b.winds []).isEmpty=true then([],11) else(FA b (FK b) plan b.rows.toNat,0)) else([],2)) else([],CD b)
theorem lK(n:Nat)(b:AJ)(h40:∀l∈b.winds,l.length≤40)(plan:List (List Int)):AY Tryz.prog kn (AE Tryz.prog ann kn (n+6200)) 117 [.agg (AA b),HB plan]=some (.tup [sl ((HA b plan).1.map GB),i (HA b plan).2]):=by
 rw[AP rfl,AO Tryz.func117 A92 rfl (by simp[AA,AH,AN,AG])]
 have hB:∀t:St,1≤t.up.length→AQ t (lvB b plan)=lvB b plan:=fun t ht=>by simp[lvB,AA,AH,AN,AG]
 have slnil:sl ([]:List (List V))=.nil:=rfl
 unfold HA
 by_cases h:CD b=0
 ·have hb:=NG h
  have hf:=pB hb plan
  rw[if_pos h]
  cases hz:CV b plan with
  | false =>
   rw[hz]at hf
   rw[if_neg (by decide)]
   have q:=fun n=>mD (ff:=155) (cap:=[.ptr 0 2 0 0,.ptr 0 3 1 0]) hb hB (by simp) (by simp) 2 17 hf [(16,true,.fn 155 [] [.ptr 0 2 0 0,.ptr 0 3 1 0]),(15,true,.agg (AA b)),(2,true,.ptr 0 2 0 0),(3,true,.ptr 0 3 1 0)] (n+190)
   simp only[AA,lvB,List.map_nil,slnil]at q ⊢
   simp[yH,AF,AH,AN,AG,q]
  | true =>
   rw[hz]at hf
   rw[if_pos rfl]
   by_cases hT:EM b [] b.winds []=[]
   ·obtain⟨c',hc',q⟩:=mF (ff:=155) (cap:=[.ptr 0 2 0 0,.ptr 0 3 1 0]) hb hB (by simp) (by simp) 2 17 hf hT [(16,true,.fn 155 [] [.ptr 0 2 0 0,.ptr 0 3 1 0]),(15,true,.agg (AA b)),(2,true,.ptr 0 2 0 0),(3,true,.ptr 0 3 1 0)]
    rw[if_pos (by rw[hT]; rfl)]
    have q:=fun n=>q (n+190)
    simp only[AA,lvB,List.map_nil,slnil]at q ⊢
    simp[yH,AF,AH,AN,AG,q]
   ·obtain⟨c',hc',q⟩:=zQ (ff:=155) (cap:=[.ptr 0 2 0 0,.ptr 0 3 1 0]) hb hB (by simp) (by simp) 2 17 hf hT [(16,true,.fn 155 [] [.ptr 0 2 0 0,.ptr 0 3 1 0]),(15,true,.agg (AA b)),(2,true,.ptr 0 2 0 0),(3,true,.ptr 0 3 1 0)]
    rw[if_neg (by simpa using hT)]
    have q:=fun n=>q (n+190)
    have hro:=hb.ro
    obtain⟨fr,c2,γ',e1,q6⟩:=ALS (ws:=FK b) hb (dN hz) (zR _ _) (wM hb) b.rows.toNat 0 c' 0 (by omega) (by omega)
    have q6:=fun n k=>q6 n (k+100) (by omega)
    have e0:FA b (FK b) plan 0=[]:=rfl
    rw[e0]at q6
    generalize FA b (FK b) plan b.rows.toNat=FF at *
    simp only[AA,DV,lvB,List.cons_append,List.nil_append]at q q6 ⊢
    simp at q q6
    simp[yH,AF,AH,AN,AG,q,q6,e1]
    simp[GB,OK]
 ·rw[if_neg h]
  have q:=fun n=>gA (ff:=155) (cap:=[.ptr 0 2 0 0,.ptr 0 3 1 0]) h40 hB (by simp) h 2 17 [(16,true,.fn 155 [] [.ptr 0 2 0 0,.ptr 0 3 1 0]),(15,true,.agg (AA b)),(2,true,.ptr 0 2 0 0),(3,true,.ptr 0 3 1 0)] (n+190)
  simp only[AA,lvB,List.map_nil,slnil]at q ⊢
  simp[yH,AF,AH,AN,AG,q,h]
end
end Go.Proofs.Tryz.Op
