/- Contracts: Min of two, minimum, wider, facing, turn, the directions as an array. No condition. -/
import Derived.Test.YthhdhbalenanjaaGreatH1
import Derived.Test.YthhdhbalenanjaaGreatW4
open Go.Proofs.Tryz renaming prog->bm
open List renaming getElem?_eq_getElem->bj,getD_eq_getElem?_getD->bk,map_nil->bq,getElem_mem->bw,getElem_map->bx,ext_getElem->bz,getElem_range->bc,mem_map->bf,range->bg
set_option maxRecDepth 100000
set_option linter.unusedSimpArgs false
open Go Go.Pg Go.Proofs Go.Wind
namespace Go.Proofs.Tryz.Op
theorem AUX(a b:Int):(if b<a then b else a)=min a b:=by split<;>omega
theorem AUY(a b:Int):(if a<b then b else a)=max a b:=by split<;>omega
theorem A79(n:Nat)(a b:Int):BA bm kn (AF bm ann kn (n+100)) 165 [.list false [[i a],[i b]]]=some (i (min a b)):=by
 rw[AR rfl,AS Tryz.func165 BCF rfl (by simp)];have hw:IntKind.i64.wrap (1+1)=2:=by decide
 simp[A1I,AD];rw[AB];simp[hw,AUX];rw[AB];simp
theorem AG4(n:Nat)(a b:Int):BA bm kn (AF bm ann kn (n+200)) 198 [.list false [[i a],[i b]]]=some (i (min a b)):=by rw[AR rfl,AS Tryz.func198 BCG rfl (by simp)];have q:=fun n=>A79 n a b;simp[A1J,AD,q]
def NK(r:Int×Int):List V:=[i r.1,i r.2]
theorem AUZ(n:Nat)(r:Int×Int)(x:Int):BA bm kn (AF bm ann kn (n+300)) 186 [.agg (NK r),i x]=some (.agg (NK (min r.1 x,max r.2 x))):=by rw[AR rfl,AS Tryz.func186 BCH rfl (by simp[NK])];have q:=fun n=>AG4 n r.1 x;simp[A1K,AD,NK,q,AUY]
theorem A8A{α:Type}(l:List α)(h:l.length=3):∃x y z,l=[x,y,z]:=by
 match l,h with
 |[x,y,z],_=>exact⟨x,y,z,rfl⟩
@[simp] theorem AZV(cs:List V):NN (.ref cs)=some (.ref cs):=rfl
theorem AW(L:AA)(k γ:Nat)(r:AX):AA.put L k γ r=(k,γ,r)::L:=rfl
@[simp] theorem A8B:GL bm 186=false:=by kernel_rfl
def EJ(b:AN)(ws:List (List Int)):List V:=[i b.last,i b.rows,i b.places,i b.reach,li b.face,li b.sun,KC b.winds,.list false (b.breaks.map AL),.list false (b.notes.map AL),KC ws,.any,.any]
section
variable {b:AN}{ws:List (List Int)}{g0 g1 g2:Int}{h:Nat}
end
section
variable {b:AN}{ws plan:List (List Int)}
theorem XX(b:AN)(t:List Int):t∈FK b [] b.winds []↔DB b t=true:=by rw[gH];simp only[List.nil_append,List.map_id',List.mem_filter,PM,DB,Bool.and_eq_true,List.all_eq_true];refine and_congr_right fun _=>?_;rw[W4,List.all_eq_true]
theorem AAP(hb:Valid b):DL (FJ b):=DL.ask _ _ fun t ht=>LA hb (by
 have:=(XX b t).1 ht;simp only[DB,Bool.and_eq_true]at this;exact this.1)
theorem fK(hb:Valid b)(hT:FK b [] b.winds []≠[]):TA b (FJ b):=ADH hb (XX b) hT
end
theorem P3{n:Int}(h:-1000<=n/\n<=1000):NJ n:=⟨by omega,by omega⟩
@[simp] theorem clI(f:Nat)(l:List Int):(l.all ((fun e=>e.all (AG (f+1)))∘AH))=true:=by simp[AH]
@[simp] theorem clP(f:Nat)(l:List (Int×Int)):(l.all ((fun e=>e.all (AG (f+1)))∘AL))=true:=by simp[AL]
@[simp] theorem clL(f:Nat)(l:List (List Int)):(l.all ((fun e=>e.all (AG (f+2)))∘AM))=true:=by simp[AM,AH]
theorem slX{α:Type}{f:α->List V}{l:List α}(h:l≠[]):sl (l.map f)=.list false (l.map f):=by
 cases l with
 |nil=>exact absurd rfl h
 |cons x l=>rfl
theorem wQ{b:AN}{plan:List (List Int)}(hb:Valid b)(hp:OL b plan){h:Nat}(hh:h<plan.length):plan[h].length<=3/\(plan[h].length:Int)=b.rows/\∀x∈plan[h],0<=x/\x<=3:=by
 have hro:=hb.ro;have e:plan.getD h []=plan[h]:=by rw[bk,bj hh];rfl
 have hr:=hp.row h hh;have hd:=hp.dir h;rw[e]at hr;refine⟨by omega,hr,fun x hx=>?_⟩;obtain⟨r,h1,rfl⟩:=List.getElem_of_mem hx;have:=hd r hh (by rw[e];exact h1);unfold E7 at this;rw[e,bk,bj h1]at this;exact D7.1 this
section
variable {b:AN}{x0 x1 x2 y0 y1 y2:Int}
end
section
variable {b:AN}{plan:List (List Int)}
end
@[simp] theorem AZW:GL bm 157=false:=by kernel_rfl
theorem AU0(n:Nat)(x:xM):BA bm kn (AF bm ann kn (n+50)) 156 [.agg (V3 x)]=some (i x.calm):=by rw[AR rfl,AS Tryz.func156 BCL rfl (by simp[V3])];simp[A1O,AD,V3]
theorem AU1(n:Nat)(x:xM):BA bm kn (AF bm ann kn (n+50)) 158 [.agg (V3 x)]=some (i x.good):=by rw[AR rfl,AS Tryz.func158 BCM rfl (by simp[V3])];simp[A1P,AD,V3]
section
variable {b:AN}{ws plan:List (List Int)}{ff:FuncId}{sel:xM->Int}{s:Nat×Nat}
def IM(b:AN)(plan:List (List Int))(s:Nat×Nat)(sel:xM->Int)(h:Nat)(w:Int):Int:=sel (ofB b (s.1,s.2) h (E7 plan h s.1) w)
theorem A8C(hb:Valid b)(hp:OL b plan)(hsel:∀n x,BA bm kn (AF bm ann kn (n+50)) ff [.agg (V3 x)]=some (i (sel x)))(hs1:(s.1:Int)<b.rows)(hs2:(s.2:Int)<b.places)(out:Int×Int)(h:Nat)(hh:h<plan.length)(xs:List Int)(hx:∀x∈xs,0<=x/\x<=3)(hxl:xs.length<=100)(γ:Nat):∀(d j c:Nat),j+d=xs.length->γ<c->∃c',c<=c'/\∀n k,d<k->BT (AF bm ann kn (n+1400) 66) SK (ann 66 (CA SK)) k ⟨c,[(1,true,.ref (EJ b ws)),(2,true,KC plan),(4,true,.ptr 0 4 0 0),(7,true,.ptr 0 7 1 0),(8,true,.ptr 0 8 2 0),(9,true,i h),(11,true,.ptr 0 11 γ 0),(17,true,KC ws),(18,true,i ws.length),(19,true,i h),(25,true,li xs),(26,true,i xs.length),(27,true,i j)],⟨[],[(4,0,.box [.fn ff [] []]),(7,1,.box [i s.1,i s.2]),(8,2,.box (NK out)),(11,γ,.box (NK (GQ (1,0) ((xs.take j).map (IM b plan s sel h)))))]⟩⟩ =
  some (.exit 2,⟨c',[(28,true,.bool false),(1,true,.ref (EJ b ws)),(2,true,KC plan),(4,true,.ptr 0 4 0 0),(7,true,.ptr 0 7 1 0),(8,true,.ptr 0 8 2 0),(9,true,i h),(11,true,.ptr 0 11 γ 0),(17,true,KC ws),(18,true,i ws.length),(19,true,i h),(25,true,li xs),(26,true,i xs.length),(27,true,i xs.length)],⟨[],[(4,0,.box [.fn ff [] []]),(7,1,.box [i s.1,i s.2]),(8,2,.box (NK out)),(11,γ,.box (NK (GQ (1,0) (xs.map (IM b plan s sel h)))))]⟩⟩)
 |0,j,c,hd,hc=>by
  have:j=xs.length:=by omega
  subst this;refine⟨c,Nat.le_refl _,fun n k hk=>?_⟩;obtain⟨k,rfl⟩:∃k',k=k'+1:=⟨k-1,by omega⟩;rw[AB,List.take_length];simp[NK]
 |d+1,j,c,hd,hc=>by
  have hj:j<xs.length:=by omega
  have hla:=hb.la;have hro:=hb.ro;have hpl:=hb.pl;have hsu:=hb.su;have hlen:=hp.len;have hwj:=CB (k:=j) (by omega);obtain⟨c',hc',ih⟩:=A8C hb hp hsel hs1 hs2 out h hh xs hx hxl γ d (j+1) (c+1) (by omega) (by omega);refine⟨c',by omega,fun n k hk=>?_⟩;obtain⟨k,rfl⟩:∃k',k=k'+1:=⟨k-1,by omega⟩;have ih:=ih n k (by omega);have hxj:=hx _ (bw hj);have e1:(xs.take (j+1)).map (IM b plan s sel h)=(xs.take j).map (IM b plan s sel h)++[IM b plan s sel h xs[j]]:=by rw[List.take_succ_eq_append_getElem hj,List.map_append,List.map_cons,bq]
  have e2:GQ (1,0) ((xs.take (j+1)).map (IM b plan s sel h))=(min (GQ (1,0) ((xs.take j).map (IM b plan s sel h))).1 (IM b plan s sel h xs[j]),max (GQ (1,0) ((xs.take j).map (IM b plan s sel h))).2 (IM b plan s sel h xs[j])):=by rw[e1];unfold GQ;rw[List.foldl_append];rfl
  rw[e2]at ih;have qw:=fun n=>AUZ n (GQ (1,0) ((xs.take j).map (IM b plan s sel h))) (IM b plan s sel h xs[j]);obtain⟨r1,r2,r3⟩:=wQ hb hp hh;have hsr:s.1<plan[h].length:=by omega
  have hpa:E7 plan h s.1=plan[h][s.1]:=by unfold E7;rw[show plan.getD h []=plan[h] by rw[bk,bj hh];rfl,bk,bj hsr];rfl
  have qo:=fun n=>kOf n b hb (s.1,s.2) (by simp only;omega) h (by omega) (E7 plan h s.1) xs[j] hxj;have qs:=fun n=>hsel n (ofB b (s.1,s.2) h (E7 plan h s.1) xs[j]);have es:IM b plan s sel h xs[j]=sel (ofB b (s.1,s.2) h (E7 plan h s.1) xs[j]):=rfl;rw[es]at ih qw;rw[hpa]at qo qs ih qw;generalize GQ (1,0) (xs.map (IM b plan s sel h))=RR at ih|-;generalize GQ (1,0) ((xs.take j).map (IM b plan s sel h))=R at ih qw|-;generalize sel (ofB b (s.1,s.2) h plan[h][s.1] xs[j])=y at qs ih qw;generalize ofB b (s.1,s.2) h plan[h][s.1] xs[j]=O at qs qo;have hc1:γ<c+1:=by omega
  rw[AB];simp only[AC,EJ,NK,AL,V3]at qo qs ih qw|-;simp at ih;simp[hj,hwj,hh,hsr,AH,AM,AL,qo,qs,qw,hc1,AW,ih]
def PG(b:AN)(ws plan:List (List Int))(s:Nat×Nat)(sel:xM->Int)(n:Nat):Int×Int:=AJE (1,0) ws (IM b plan s sel) n
theorem AG5{l:List Int}(h:∀x∈l,0<=x/\x<=1):0<=(GQ (1,0) l).1/\(GQ (1,0) l).1<=1/\0<=(GQ (1,0) l).2/\(GQ (1,0) l).2<=1:=by have:=uC l (1,0) 0 1 h (by simp) (by simp);simp only at this;omega
theorem A8D(hb:Valid b)(hp:OL b plan)(hsel:∀n x,BA bm kn (AF bm ann kn (n+50)) ff [.agg (V3 x)]=some (i (sel x)))(hse:∀h w,0<=IM b plan s sel h w/\IM b plan s sel h w<=1)(hs1:(s.1:Int)<b.rows)(hs2:(s.2:Int)<b.places)(hwl:ws.length=b.winds.length)(hok:DL ws):∀(d h c:Nat),h+d=ws.length->3<=c->∃c',3<=c'/\∀n k,d<k->BT (AF bm ann kn (n+1600) 66) SL (ann 66 (CA SL)) k ⟨c,[(1,true,.ref (EJ b ws)),(2,true,KC plan),(4,true,.ptr 0 4 0 0),(7,true,.ptr 0 7 1 0),(8,true,.ptr 0 8 2 0),(17,true,KC ws),(18,true,i ws.length),(19,true,i h)],⟨[],[(4,0,.box [.fn ff [] []]),(7,1,.box [i s.1,i s.2]),(8,2,.box (NK (PG b ws plan s sel h)))]⟩⟩ =
  some (.exit 0,⟨c',[(20,true,.bool false),(1,true,.ref (EJ b ws)),(2,true,KC plan),(4,true,.ptr 0 4 0 0),(7,true,.ptr 0 7 1 0),(8,true,.ptr 0 8 2 0),(17,true,KC ws),(18,true,i ws.length),(19,true,i ws.length)],⟨[],[(4,0,.box [.fn ff [] []]),(7,1,.box [i s.1,i s.2]),(8,2,.box (NK (PG b ws plan s sel ws.length)))]⟩⟩)
 |0,h,c,hd,hc=>by
  have:h=ws.length:=by omega
  subst this;refine⟨c,hc,fun n k hk=>?_⟩;obtain⟨k,rfl⟩:∃k',k=k'+1:=⟨k-1,by omega⟩;rw[AB];simp[NK]
 |d+1,h,c,hd,hc=>by
  have hh:h<ws.length:=by omega
  have hh5:=hb.hl;have hwi:=hb.wi;have hlen:=hp.len;have hwh:=CB (k:=h) (by omega);have hwd:ws.getD h []=ws[h]:=by rw[bk,bj hh];rfl
  have hw4:=hok.len _ (bw hh);obtain⟨c1,hc1,q⟩:=A8C (ws:=ws) hb hp hsel hs1 hs2 (PG b ws plan s sel h) h (by omega) ws[h] (hok.lo _ (bw hh)) (by omega) c ws[h].length 0 (c+1) (by omega) (by omega);obtain⟨c',hc',ih⟩:=A8D hb hp hsel hse hs1 hs2 hwl hok d (h+1) c1 (by omega) (by omega);refine⟨c',hc',fun n k hk=>?_⟩;obtain⟨k,rfl⟩:∃k',k=k'+1:=⟨k-1,by omega⟩;have ih:=ih n k (by omega);have q:=fun n k=>q n (k+100) (by omega);have e1:PG b ws plan s sel (h+1)=((PG b ws plan s sel h).1+(GQ (1,0) (ws[h].map (IM b plan s sel h))).1,(PG b ws plan s sel h).2+(GQ (1,0) (ws[h].map (IM b plan s sel h))).2):=by rw[<-hwd];rfl
  have hr:=AG5 (l:=ws[h].map (IM b plan s sel h)) fun x hx=>by obtain⟨w,_,rfl⟩:=bf.1 hx;exact hse h w
  have hb1:=gD (n:=h) (c:=1) (f:=fun h=>(GQ (1,0) ((ws.getD h []).map (IM b plan s sel h))).1) fun j _=>by
   have:=AG5 (l:=(ws.getD j []).map (IM b plan s sel j)) fun x hx=>by obtain⟨w,_,rfl⟩:=bf.1 hx;exact hse j w
   omega
  have hb2:=gD (n:=h) (c:=1) (f:=fun h=>(GQ (1,0) ((ws.getD h []).map (IM b plan s sel h))).2) fun j _=>by
   have:=AG5 (l:=(ws.getD j []).map (IM b plan s sel j)) fun x hx=>by obtain⟨w,_,rfl⟩:=bf.1 hx;exact hse j w
   omega
  change 0<=(PG b ws plan s sel h).1/\(PG b ws plan s sel h).1<=h*1 at hb1;change 0<=(PG b ws plan s sel h).2/\(PG b ws plan s sel h).2<=h*1 at hb2;rw[e1]at ih;rw[List.take_zero,bq]at q;have e0:GQ (1,0) []=(1,0):=rfl;rw[e0]at q;generalize PG b ws plan s sel ws.length=TT at ih|-;generalize PG b ws plan s sel h=T at ih q hb1 hb2|-;generalize GQ (1,0) (ws[h].map (IM b plan s sel h))=R at ih q hr;have w1:IntKind.i64.wrap (T.1+R.1)=T.1+R.1:=AY (by omega) (by omega);have w2:IntKind.i64.wrap (T.2+R.2)=T.2+R.2:=AY (by omega) (by omega);have hc2:2<c1:=by omega
  have hcc:c<c+1:=by omega
  rw[AB];simp only[EJ,NK]at q ih|-;simp at q ih;simp[hh,hwh,AH,AM,q,w1,w2,hc2,hcc,AW,ih]
theorem oG(n:Nat)(hb:Valid b)(hp:OL b plan)(hsel:∀n x,BA bm kn (AF bm ann kn (n+50)) ff [.agg (V3 x)]=some (i (sel x)))(hse:∀h w,0<=IM b plan s sel h w/\IM b plan s sel h w<=1)(hs1:(s.1:Int)<b.rows)(hs2:(s.2:Int)<b.places)(hwl:ws.length=b.winds.length)(hok:DL ws):BA bm kn (AF bm ann kn (n+1800)) 157 [.agg [.fn ff [] []],.ref (EJ b ws),KC plan,.agg [i s.1,i s.2]]=some (.agg (NK (PG b ws plan s sel ws.length))):=by
 rw[AR rfl,AS Tryz.func157 BCK rfl (by simp[EJ,AH,AM,AL])];obtain⟨c',hc',q⟩:=A8D (s:=s) hb hp hsel hse hs1 hs2 hwl hok ws.length 0 3 (by omega) (Nat.le_refl _);have h5:=hb.hl;have q:=fun n k=>q n (k+150) (by omega);have e0:PG b ws plan s sel 0=(0,0):=rfl;rw[e0]at q;generalize PG b ws plan s sel ws.length=T at q|-;have hc2:2<c':=by omega
 simp only[EJ,NK]at q|-;simp at q;simp[A1N,AD,AM,q,hc2,AW]
end
end Go.Proofs.Tryz.Op
namespace Go.Wind
structure oP where
 sun:Int
 calm:Int×Int
 good:Int×Int
end Go.Wind
namespace Go.Proofs.Tryz.Op
@[simp] theorem AZX(T:TypeId)(x:Operand)(k:Nat)(f:Operand->Option V):IL bm (.oth (.field T x k)) f=[]:=rfl
@[simp] theorem AZY(f:FuncId):weakC (.fn f [] [])=.fn f [] []:=rfl
@[simp] theorem AZZ(f:FuncId):weakM (.fn f [] [])=.fn f [] []:=rfl
@[simp] theorem AU2(k:Nat)(f:FuncId):AG (k+1) (.fn f [] [])=true:=rfl
def PH(x:oP):List V:=[i x.sun,i x.calm.1,i x.calm.2,i x.good.1,i x.good.2]
section
variable {b:AN}{ws plan:List (List Int)}
def sM(b:AN)(ws plan:List (List Int))(r p:Nat):oP:=⟨MA b plan r plan.length,kH b ws plan r p,WH b ws plan r p⟩
theorem AAQ(b:AN)(plan:List (List Int))(r n:Nat):MA b plan r (n+1)=MA b plan r n+(if Y2 b plan r n=true then 1 else 0):=by unfold MA;simp only[cnt];split<;>simp
theorem AG6(hb:Valid b)(hp:OL b plan)(r p:Nat)(hr:(r:Int)<b.rows)(hp2:(p:Int)<b.places)(A:List (List V))(γ8 γ12:Nat):∀(d h c γ:Nat) (rs:List oP),h+d=plan.length->(rs.length:Int)=b.places->rs[p]? = some ⟨MA b plan r h,(0,0),(0,0)⟩->γ<c->∀n k,d<k->BT (AF bm ann kn (n+1400) 90) OG (ann 90 (CA OG)) k ⟨c,[(2,true,.ptr 0 2 0 0),(3,true,.ptr 0 3 1 0),(6,true,.ref (EJ b ws)),(8,true,pv 87 γ8 A),(9,true,i r),(10,true,.vec 0 30 γ rs.length),(11,true,i p),(12,true,.ptr 0 12 γ12 0),(24,true,i b.rows),(25,true,i r),(32,true,i rs.length),(33,true,i p),(40,true,i plan.length),(41,true,i h)],⟨[],(2,0,.box (AC b))::(3,1,.box [KC plan])::(12,γ12,.box [i r,i p])::(30,γ,.vec 209 (rs.map PH))::pl 87 γ8 204 A⟩⟩ =
  some (.exit 4,⟨c,(42,true,.bool false)::[(2,true,.ptr 0 2 0 0),(3,true,.ptr 0 3 1 0),(6,true,.ref (EJ b ws)),(8,true,pv 87 γ8 A),(9,true,i r),(10,true,.vec 0 30 γ rs.length),(11,true,i p),(12,true,.ptr 0 12 γ12 0),(24,true,i b.rows),(25,true,i r),(32,true,i rs.length),(33,true,i p),(40,true,i plan.length),(41,true,i plan.length)],⟨[],(2,0,.box (AC b))::(3,1,.box [KC plan])::(12,γ12,.box [i r,i p])::(30,γ,.vec 209 ((rs.set p ⟨MA b plan r plan.length,(0,0),(0,0)⟩).map PH))::pl 87 γ8 204 A⟩⟩)
 |0,h,c,γ,rs,hd,hl,e,hγ,n,k+1,hk=>by
  have:h=plan.length:=by omega
  subst this;have:rs.set p ⟨MA b plan r plan.length,(0,0),(0,0)⟩=rs:=by
   have hpl:p<rs.length:=by omega
   rw[bj hpl,Option.some.injEq]at e;rw[<-e];exact List.set_getElem_self hpl
  rw[this,AB];simp
 |d+1,h,c,γ,rs,hd,hl,e,hγ,n,k+1,hk=>by
  have hh:h<plan.length:=by omega
  have hla:=hb.la;have hro:=hb.ro;have hpc:=hb.pl;have hsu:=hb.su;have hlen:=hp.len;have hwh:=CB (k:=h) (by omega);obtain⟨r1,r2,r3⟩:=wQ hb hp hh;have hr2:r<plan[h].length:=by omega
  have hpa:E7 plan h r=plan[h][r]:=by unfold E7;rw[show plan.getD h []=plan[h] by rw[bk,bj hh];rfl,bk,bj hr2];rfl
  have q:=fun n=>kOf n b hb (r,p) (by simp only;omega) h (by omega) (E7 plan h r) 0 (by omega);rw[hpa]at q;have hpl:p<rs.length:=by omega
  have ih:=AG6 hb hp r p hr hp2 A γ8 γ12 d (h+1) c γ (rs.set p ⟨MA b plan r (h+1),(0,0),(0,0)⟩) (by omega) (by simpa using hl) (by rw[List.getElem?_set_self hpl]) hγ n k (by omega);rw[List.set_set,List.length_set]at ih;rw[bj hpl,Option.some.injEq]at e;have hs:=Y1 (Y2 b plan r) h;have hsb:0<=MA b plan r h/\MA b plan r h<=h:=by unfold MA;omega
  have hof:(ofB b (r,p) h plan[h][r] 0).sun=if Y2 b plan r h=true then 1 else 0:=by
   have:Y2 b plan r h=decide (b.sun.getD h 0=plan[h][r]):=by unfold Y2;rw[hpa];congr 1;exact propext eq_comm
   rw[this];rfl
  have hst:MA b plan r (h+1)=MA b plan r h+(ofB b (r,p) h plan[h][r] 0).sun:=by rw[AAQ,hof]
  have hw:IntKind.i64.wrap (MA b plan r h+(ofB b (r,p) h plan[h][r] 0).sun)=MA b plan r h+(ofB b (r,p) h plan[h][r] 0).sun:=AY (by rw[hof];split<;>omega) (by rw[hof];split<;>omega);rw[hst]at ih;generalize rs.set p ⟨MA b plan r plan.length,(0,0),(0,0)⟩=F at ih|-;generalize MA b plan r h=S at *;generalize ofB b (r,p) h plan[h][r] 0=O at *;rw[List.map_set]at ih;have heg:(rs.map PH)[p]'(by simpa using hpl)=[i S,i 0,i 0,i 0,i 0]:=by rw[bx,e];rfl
  rw[AB];simp only[AC,AL,V3,PH,EJ]at q ih heg|-;simp at ih;simp[hh,hr2,hwh,AH,AM,AL,q,hpl,heg,hw,hγ,AW,FE,ih]
def MO(b:AN)(ws plan:List (List Int))(r p:Nat):List oP:=(bg b.places.toNat).map fun j=>if j<p then sM b ws plan r j else⟨0,(0,0),(0,0)⟩
def QM(b:AN)(ws plan:List (List Int))(r:Nat):List oP:=(bg b.places.toNat).map (sM b ws plan r)
theorem bU(b:AN)(ws plan:List (List Int))(r p:Nat):(MO b ws plan r p).length=b.places.toNat:=by simp[MO]
theorem AG7{r p:Nat}(h:p<b.places.toNat):(MO b ws plan r p)[p]? = some ⟨0,(0,0),(0,0)⟩:=by simp[MO,h]
theorem AG8{r p:Nat}:(MO b ws plan r p).set p (sM b ws plan r p)=MO b ws plan r (p+1):=by
 apply bz (by simp[MO]);intro j h1 h2;simp only[MO,List.getElem_set,bx,bc];by_cases e:p=j
 ·subst e;simp
 ·rw[if_neg e];have:(j<p)=(j<p+1):=propext ⟨fun h=>by omega,fun h=>by omega⟩;simp only[this]
theorem AAR(b:AN)(ws plan:List (List Int))(r:Nat):MO b ws plan r b.places.toNat=QM b ws plan r:=by
 apply bz (by simp[MO,QM]);intro j h1 h2;have:j<b.places.toNat:=by simpa [MO]using h1
 simp only[MO,QM,bx,bc,if_pos this]
theorem AAS(b:AN)(ws plan:List (List Int))(r:Nat):MO b ws plan r 0=List.replicate b.places.toNat ⟨0,(0,0),(0,0)⟩:=by apply bz (by simp[MO]);intro j h1 h2;simp[MO]
theorem AG9(hb:Valid b)(hp:OL b plan)(hwl:ws.length=b.winds.length)(hok:DL ws)(r:Nat)(hr:(r:Int)<b.rows)(A:List (List V))(γ8 γ:Nat):∀(d p c:Nat),p+d=b.places.toNat->γ<c->∃c',γ<c'/\∀n k,d<k->BT (AF bm ann kn (n+2000) 90) OH (ann 90 (CA OH)) k ⟨c,[(2,true,.ptr 0 2 0 0),(3,true,.ptr 0 3 1 0),(6,true,.ref (EJ b ws)),(8,true,pv 87 γ8 A),(9,true,i r),(10,true,.vec 0 30 γ b.places.toNat),(24,true,i b.rows),(25,true,i r),(32,true,i b.places.toNat),(33,true,i p)],⟨[],(2,0,.box (AC b))::(3,1,.box [KC plan])::(30,γ,.vec 209 ((MO b ws plan r p).map PH))::pl 87 γ8 204 A⟩⟩ =
  some (.exit 2,⟨c',(34,true,.bool false)::[(2,true,.ptr 0 2 0 0),(3,true,.ptr 0 3 1 0),(6,true,.ref (EJ b ws)),(8,true,pv 87 γ8 A),(9,true,i r),(10,true,.vec 0 30 γ b.places.toNat),(24,true,i b.rows),(25,true,i r),(32,true,i b.places.toNat),(33,true,i b.places.toNat)],⟨[],(2,0,.box (AC b))::(3,1,.box [KC plan])::(30,γ,.vec 209 ((QM b ws plan r).map PH))::pl 87 γ8 204 A⟩⟩)
 |0,p,c,hd,hγ=>by
  have:p=b.places.toNat:=by omega
  subst this;refine⟨c,hγ,fun n k hk=>?_⟩;obtain⟨k,rfl⟩:∃k',k=k'+1:=⟨k-1,by omega⟩;rw[AAR,AB];simp
 |d+1,p,c,hd,hγ=>by
  have hpc:=hb.pl;have hla:=hb.la;have hlen:=hp.len;have hw:=CB (k:=p) (by omega);have hp':p<b.places.toNat:=by omega
  obtain⟨c',h1,ih⟩:=AG9 hb hp hwl hok r hr A γ8 γ d (p+1) (c+3) (by omega) (by omega);have q:=AG6 (ws:=ws) hb hp r p hr (by omega) A γ8 c plan.length 0 (c+1) γ (MO b ws plan r p) (by omega) (by rw[bU];omega) (AG7 hp') (by omega);rw[bU]at q;have q:=fun n m=>q n (m+100) (by omega);have qc:=fun n=>oG (ws:=ws) (ff:=156) (sel:=xM.calm) (s:=(r,p)) n hb hp AU0 (fun h w=>YX _) hr (by simp only;omega) hwl hok;have qg:=fun n=>oG (ws:=ws) (ff:=158) (sel:=xM.good) (s:=(r,p)) n hb hp AU1 (fun h w=>YX _) hr (by simp only;omega) hwl hok;have ec:PG b ws plan (r,p) xM.calm ws.length=kH b ws plan r p:=rfl;have eg:PG b ws plan (r,p) xM.good ws.length=WH b ws plan r p:=rfl;rw[ec]at qc;rw[eg]at qg;have hst:((MO b ws plan r p).set p ⟨MA b plan r plan.length,(0,0),(0,0)⟩).set p (sM b ws plan r p)=MO b ws plan r (p+1):=by rw[List.set_set,AG8]
  have hl:=bU b ws plan r p;have hbp:PH (sM b ws plan r p)=[i (MA b plan r plan.length),i (kH b ws plan r p).1,i (kH b ws plan r p).2,i (WH b ws plan r p).1,i (WH b ws plan r p).2]:=rfl;rw[<-hst,List.map_set,hbp]at ih;generalize MO b ws plan r p=R0 at q ih hl|-;generalize sM b ws plan r p=BP at *;generalize kH b ws plan r p=C at *;generalize WH b ws plan r p=G at *;generalize QM b ws plan r=RR at ih|-;generalize MA b plan r plan.length=S at *;generalize b.places.toNat=PP at hp' hl ih q|-;have hpl:p<R0.length:=by omega
  have heg:((R0.set p ⟨S,(0,0),(0,0)⟩).map PH)[p]? = some [i S,i 0,i 0,i 0,i 0]:=by simp[PH,hpl]
  have hle:PP<=R0.length:=by omega
  refine⟨c',h1,fun n k hk=>?_⟩;obtain⟨k,rfl⟩:∃k',k=k'+1:=⟨k-1,by omega⟩;have ih:=ih n k (by omega);rw[AB];generalize hRR:R0.set p ⟨S,(0,0),(0,0)⟩=R1 at *;have hl1:R1.length=PP:=by rw[<-hRR];simpa using hl
  have hpl1:p<R1.length:=by omega
  rw[bj (by simpa using hpl1),Option.some.injEq]at heg;simp only[AC,EJ,NK]at q qc qg ih|-;simp at q ih;simp[hp',hw,AH,AM,AL,q,qc,qg,hpl1,heg,AW,FE,D3,DO,BJ,BH,A0,show Nat.beq 2 1=false from rfl,hl1,show γ<c+1+1+1 by omega,ih]
def FG(b:AN)(ws plan:List (List Int))(n:Nat):List (List oP):=(bg n).map (QM b ws plan)
theorem sN(b:AN)(ws plan:List (List Int))(n:Nat):FG b ws plan (n+1)=FG b ws plan n++[QM b ws plan n]:=by simp[FG,List.range_succ]
def HN(l:List oP):List V:=[.list false (l.map PH)]
theorem A8E{k:Nat}{x:List oP}(h:k<=10000):BZ bm 204 k [HN x]=true:=by rw[CC (by simp[HN]) (by simp)];simp[maxLen,HN];omega
theorem AO2(hb:Valid b)(hp:OL b plan)(hwl:ws.length=b.winds.length)(hok:DL ws):∀(d r c γ8:Nat),r+d=b.rows.toNat->1<c->∃fr c' γ',BS fr 8=some (true,pv 87 γ' ((FG b ws plan b.rows.toNat).map HN))/\∀n k,d<k->BT (AF bm ann kn (n+2200) 90) SM (ann 90 (CA SM)) k ⟨c,[(2,true,.ptr 0 2 0 0),(3,true,.ptr 0 3 1 0),(6,true,.ref (EJ b ws)),(8,true,pv 87 γ8 ((FG b ws plan r).map HN)),(24,true,i b.rows),(25,true,i r)],⟨[],(2,0,.box (AC b))::(3,1,.box [KC plan])::pl 87 γ8 204 ((FG b ws plan r).map HN)⟩⟩ =
  some (.exit 0,⟨c',fr,⟨[],(2,0,.box (AC b))::(3,1,.box [KC plan])::pl 87 γ' 204 ((FG b ws plan b.rows.toNat).map HN)⟩⟩)
 |0,r,c,γ8,hd,hc=>by
  have hr:r=b.rows.toNat:=by omega
  have hro:=hb.ro;have hr':b.rows=(r:Int):=by omega
  rw[<-hr];refine⟨?fr,c,γ8,?g1,fun n k hk=>?g2⟩;case g2=>
   obtain⟨k,rfl⟩:∃k',k=k'+1:=⟨k-1,by omega⟩
   rw[AB]
   simp[AC,hr']
   rfl
  case g1=>simp
 |d+1,r,c,γ8,hd,hc=>by
  have hro:=hb.ro;have hpc:=hb.pl;have hw:=CB (k:=r) (by omega);have hr':(r:Int)<b.rows:=by omega
  obtain⟨c1,h1,q⟩:=AG9 (ws:=ws) hb hp hwl hok r hr' ((FG b ws plan r).map HN) γ8 c b.places.toNat 0 (c+1) (by omega) (by omega);have q:=fun n m=>q n (m+100) (by omega);obtain⟨fr,c',γ',e1,ih⟩:=AO2 hb hp hwl hok d (r+1) (c1+1) c1 (by omega) (by omega);have happ:=A8E (k:=(FG b ws plan r).length) (x:=QM b ws plan r) (by simp[FG];omega);rw[AAS]at q;rw[sN]at ih;refine⟨fr,c',γ',e1,fun n k hk=>?_⟩;obtain⟨k,rfl⟩:∃k',k=k'+1:=⟨k-1,by omega⟩;have ih:=ih n k (by omega);generalize FG b ws plan b.rows.toNat=FF at ih|-;have hRl:(QM b ws plan r).length=b.places.toNat:=by simp[QM]
  generalize QM b ws plan r=RR at ih q happ hRl;obtain⟨PP,hPP⟩:∃P:Nat,b.places=P:=⟨b.places.toNat,by omega⟩;have hP2:b.places.toNat=PP:=by omega
  rw[hP2]at q hRl;subst hRl;rw[AB];simp only[AC,EJ,hPP]at q ih|-;simp[HN]at ih q happ;simp[PH]at q;have m1:RR.length*40<=140737488355328:=by omega
  have m2:RR.length<=maxLen:=by simp[maxLen];omega
  have htl:∀o,GH 0 30 o (pl 87 γ8 204 ((FG b ws plan r).map HN))=pl 87 γ8 204 ((FG b ws plan r).map HN):=fun o=>zR (by decide) _ _ _ (by simp[HN,PH]);simp[hr',hw,HN,q,ih,happ,m1,m2,htl]
def lvB(b:AN)(plan:List (List Int)):AA:=[(2,0,.box (AC b)),(3,1,.box [KC plan])]
theorem sO(hb:Valid b)(plan:List (List Int)):gB b (lvB b plan) 155 [.ptr 0 2 0 0,.ptr 0 3 1 0] 2 (EP b plan):=by intro n d fr;rw[A5 Tryz.func155 b155 rfl (by simp)];have q:=fun n=>ALU n b hb plan;generalize EP b plan=z at q|-;simp only[AC,lvB]at q|-;simp[A1Q,AD,q,AH,AM,AL]
def IC(b:AN)(plan:List (List Int)):List (List oP)×Int:=if DZ b=0 then(if EP b plan=true then(if (FK b [] b.winds []).isEmpty=true then([],11) else(FG b (FJ b) plan b.rows.toNat,0)) else([],2)) else([],DZ b)
theorem oH(n:Nat)(b:AN)(h40:∀l∈b.winds,l.length<=40)(plan:List (List Int)):BA bm kn (AF bm ann kn (n+6200)) 117 [.agg (AC b),KC plan]=some (.tup [sl ((IC b plan).1.map HN),i (IC b plan).2]):=by
 rw[AR rfl,AS Tryz.func117 BCN rfl (by simp[AC,AH,AM,AL])];have hB:∀t:St,1<=t.up.length->AJ t (lvB b plan)=lvB b plan:=fun t ht=>by simp[lvB,AC,AH,AM,AL]
 have slnil:sl ([]:List (List V))=.nil:=rfl;unfold IC;by_cases h:DZ b=0
 ·have hb:=TB h;have hf:=sO hb plan;rw[if_pos h];cases hz:EP b plan with
  |false=>
   rw[hz]at hf
   rw[if_neg (by decide)]
   have q:=fun n=>oZ (ff:=155) (cap:=[.ptr 0 2 0 0,.ptr 0 3 1 0]) hb hB (by simp) (by simp) 2 17 hf [(16,true,.fn 155 [] [.ptr 0 2 0 0,.ptr 0 3 1 0]),(15,true,.agg (AC b)),(2,true,.ptr 0 2 0 0),(3,true,.ptr 0 3 1 0)] (n+190)
   simp only[AC,lvB,bq,slnil]at q|-
   simp[ACG,AD,AH,AM,AL,q]
  |true=>
   rw[hz]at hf
   rw[if_pos rfl]
   by_cases hT:FK b [] b.winds []=[]
   ·obtain⟨c',hc',q⟩:=pB (ff:=155) (cap:=[.ptr 0 2 0 0,.ptr 0 3 1 0]) hb hB (by simp) (by simp) 2 17 hf hT [(16,true,.fn 155 [] [.ptr 0 2 0 0,.ptr 0 3 1 0]),(15,true,.agg (AC b)),(2,true,.ptr 0 2 0 0),(3,true,.ptr 0 3 1 0)];rw[if_pos (by rw[hT];rfl)];have q:=fun n=>q (n+190);simp only[AC,lvB,bq,slnil]at q|-;simp[ACG,AD,AH,AM,AL,q]
   ·obtain⟨c',hc',q⟩:=ADD (ff:=155) (cap:=[.ptr 0 2 0 0,.ptr 0 3 1 0]) hb hB (by simp) (by simp) 2 17 hf hT [(16,true,.fn 155 [] [.ptr 0 2 0 0,.ptr 0 3 1 0]),(15,true,.agg (AC b)),(2,true,.ptr 0 2 0 0),(3,true,.ptr 0 3 1 0)];rw[if_neg (by simpa using hT)];have q:=fun n=>q (n+190);have hro:=hb.ro;obtain⟨fr,c2,γ',e1,q6⟩:=AO2 (ws:=FJ b) hb (AJG hz) (kE _ _) (AAP hb) b.rows.toNat 0 c' 0 (by omega) (by omega);have q6:=fun n k=>q6 n (k+100) (by omega);have e0:FG b (FJ b) plan 0=[]:=rfl;rw[e0]at q6;generalize FG b (FJ b) plan b.rows.toNat=FF at *;simp only[AC,EJ,lvB,List.cons_append,List.nil_append]at q q6|-;simp at q q6;simp[ACG,AD,AH,AM,AL,q,q6,e1];simp[HN,PH]
 ·rw[if_neg h];have q:=fun n=>jY (ff:=155) (cap:=[.ptr 0 2 0 0,.ptr 0 3 1 0]) h40 hB (by simp) h 2 17 [(16,true,.fn 155 [] [.ptr 0 2 0 0,.ptr 0 3 1 0]),(15,true,.agg (AC b)),(2,true,.ptr 0 2 0 0),(3,true,.ptr 0 3 1 0)] (n+190);simp only[AC,lvB,bq,slnil]at q|-;simp[ACG,AD,AH,AM,AL,q,h]
end
end Go.Proofs.Tryz.Op
