/- The walk's ground of function 78: its regions worked out. No condition. -/
import Derived.Test.YtmnlpgjklibndaaGreatGa
open Go renaming Code->bw
open Go.Proofs.Tryz renaming prog->bq
open Int renaming negSucc->bj
set_option maxRecDepth 100000
namespace Go.Proofs.Tryz.Op
open Go Go.Pg
noncomputable section
def KG:=rg Tryz.f78
@[simp] def AJG:bw:=(.seq (KG 559) (.seq (.cond (.tmp 31) .skip (.exit 0)) (.seq (.block 1 (.seq (KG 9007) (.seq (KG 21295) (.seq (.seq (KG 78639) (.cond (.tmp 37) (KG 176943) .skip)) (.seq (KG 95023) (.cond (.tmp 43) (KG 193327) .skip)))))) (KG 3887))))
def SF:=AJG
def c78:bw:=(.seq (KG 2) (.seq (KG 5) (.seq (.seq (KG 19) (.cond (.tmp 20) (.seq (KG 75) .ret) .skip)) (.seq (KG 23) (.seq (.seq (KG 79) (.block 0 (.loop SF))) (.seq (KG 95) (.seq (KG 191) (.seq (KG 383) .ret))))))))
theorem b78:Tryz.f78.body=some c78:=by kernel_rfl
@[simp] theorem AXX:RX 59 (KG 2) (.str [oq 3 (.box (tq 1)),ot 4 false]) (some ([0,1],[])):=rx
@[simp] theorem AXY:RX 59 (KG 5) (.drw [⟨[],[om 12 0,oq 13 (.oth (.nilCheck (tq 12))),oz 14 130 13 1,ol 15 128 14,ol 16 98 3,oq 17 (.oth (.lookup 128 (tq 15) (tq 16) true)),om 11 17,oq 18 (.oth (.extract (tq 11) 0)),oq 19 (.oth (.extract (tq 11) 1)),om 5 18,om 6 19],[]⟩]) (some ([0,3],[3])):=rx
@[simp] theorem AXZ:RX 59 (KG 19) (.str [om 20 6]) (some ([0,3,5,6],[3])):=rx
@[simp] theorem AX0:RX 59 (KG 75) (.str [om 21 5,om 4 21]) (some ([5],[])):=rx
@[simp] theorem AX1:RX 59 (KG 23) (.str [ot 7 false]) (some ([0,3],[3])):=rx
@[simp] theorem AX2:RX 59 (KG 79) (.drw [⟨[],[om 22 0,oq 23 (.oth (.nilCheck (tq 22))),oz 24 130 23 0,ol 25 36 24,oz 26 98 3 0,ol 27 3 26,oq 28 (.oth (.slice 36 (tq 25) none (some (tq 27)) none)),oe 29 28 36,ok 30 0],[]⟩]) (some ([0,3,7],[3])):=rx
@[simp] theorem AJH:RX 59 (KG 559) (.str [ob 31 .lss 3 30 29]) (some ([0,3,7,28,29,30],[3])):=rx
@[simp] theorem AX3:RX 59 (KG 9007) (.str [oi 32 36 28 30,ol 33 96 32,oq 9 (.alloc 96),os (.sto 96 (tq 9) (tq 33))]) (some ([0,3,7,28,29,30],[3])):=rx
@[simp] theorem AX4:RX 59 (KG 21295) (.str [oz 34 96 9 1,ol 35 3 34,om 10 35]) (some ([0,3,7,9,28,29,30],[3,9])):=rx
@[simp] theorem AX5:RX 59 (KG 78639) (.str [oz 36 98 3 1,ol 37 4 36]) (some ([0,3,7,9,10,28,29,30],[3,9])):=rx
@[simp] theorem AMI:RX 59 (KG 176943) (.str [oz 38 96 9 2,ol 39 3 38,om 10 39]) (some ([0,3,7,9,28,29,30],[3,9])):=rx
@[simp] theorem AMJ:RX 59 (KG 95023) (.str [om 40 10,oz 41 98 3 2,ol 42 3 41,ob 43 .eql 3 40 42]) (some ([0,3,7,9,10,28,29,30],[3,9])):=rx
@[simp] theorem AMK:RX 59 (KG 193327) (.str [oz 44 96 9 0,ol 45 3 44,oc 46 .eql 3 45 1,om 7 46]) (some ([0,3,9,28,29,30],[3,9])):=rx
@[simp] theorem AML:RX 59 (KG 3887) (.str [oc 47 .add 3 30 1,om 30 47]) (some ([0,3,7,28,29,30],[3])):=rx
@[simp] theorem AMM:RX 59 (KG 95) (.str [om 48 7,oz 49 98 3 3,ol 50 4 49,ob 51 .eql 4 48 50,om 5 51]) (some ([0,3,7],[3])):=rx
@[simp] theorem AMN:RX 59 (KG 191) (.drw [⟨[],[om 52 0,oq 53 (.oth (.nilCheck (tq 52))),oz 54 130 53 1,ol 55 128 54,ol 56 98 3,om 57 5],[os (.upd 128 (tq 55) (tq 56) (tq 57))]⟩]) (some ([0,3,5],[3])):=rx
@[simp] theorem AMO:RX 59 (KG 383) (.str [om 58 5,om 4 58]) (some ([5],[])):=rx
@[simp] theorem x78:UX 59 SF AJG/\LX 59 SF [0,3,7,28,29,30] [3]:=⟨fun _ _=>rfl,lx⟩
def g48:=rg Tryz.f48
def c48:bw:=(.seq (g48 2) (.seq (g48 5) .ret))
theorem b48:Tryz.f48.body=some c48:=by kernel_rfl
@[simp] theorem x48:SX 15 (g48 2) [ot 6 false] [0,1,2] []/\SX 15 (g48 5) [om 7 0,om 8 1,ob 9 .geq 3 7 8,om 10 9,gm 10 true 11 0,gm 10 true 12 2,gb 10 true 13 .leq 3 11 12,oq 14 (.pick (tq 10) (tq 13) (cb false)),om 6 14] [0,1,2] []:=⟨rx,rx⟩
def AFJ:=rg Tryz.f106
def AX6:bw:=(.seq (AFJ 2) (.seq (AFJ 5) .ret))
theorem A8J:Tryz.f106.body=some AX6:=by kernel_rfl
@[simp] theorem BF6:SX 15 (AFJ 2) [ot 6 false] [0,1,2] []/\SX 15 (AFJ 5) [om 7 1,om 8 0,ob 9 .leq 3 7 8,om 10 9,gm 10 true 11 0,gm 10 true 12 2,gb 10 true 13 .leq 3 11 12,oq 14 (.pick (tq 10) (tq 13) (cb false)),om 6 14] [0,1,2] []:=⟨rx,rx⟩
def AFK:=rg Tryz.f123
def AX7:bw:=(.seq (AFK 2) (.seq (AFK 5) .ret))
theorem A8K:Tryz.f123.body=some AX7:=by kernel_rfl
@[simp] theorem BF7:SX 39 (AFK 2) [oq 2 (.box (tq 0)),oq 3 (.box (tq 1)),ot 4 false] [0,1] [2]/\SX 39 (AFK 5) [oz 5 133 2 0,ol 6 3 5,oc 7 .eql 3 6 0,om 8 7,gz 8 false 9 133 2 0,gl 8 false 10 3 9,gz 8 false 11 133 3 0,gl 8 false 12 3 11,gb 8 false 13 .eql 3 10 12,oq 14 (.pick (tq 8) (cb true) (tq 13)),om 15 14,gz 15 true 16 133 2 1,gl 15 true 17 3 16,gc 15 true 18 .lss 3 17 0,gm 15 true 19 18,gz 19 false 20 133 2 1,gl 19 false 21 3 20,gz 19 false 22 133 3 1,gl 19 false 23 3 22,gb 19 false 24 .eql 3 21 23,og 15 true 25 (.pick (tq 19) (cb true) (tq 24)),oq 26 (.pick (tq 15) (tq 25) (cb false)),om 27 26,gz 27 true 28 133 2 2,gl 27 true 29 3 28,gc 27 true 30 .lss 3 29 0,gm 27 true 31 30,gz 31 false 32 133 2 2,gl 31 false 33 3 32,gz 31 false 34 133 3 2,gl 31 false 35 3 34,gb 31 false 36 .eql 3 33 35,og 27 true 37 (.pick (tq 31) (cb true) (tq 36)),oq 38 (.pick (tq 27) (tq 37) (cb false)),om 4 38] [2,3] [2,3]:=⟨rx,rx⟩
def HC:=rg Tryz.f140
@[simp] def zG:bw:=(lp (HC 1086027) 22 4 5 (.seq (HC 4493899) (.cond (.tmp 30) (HC 10785355) .skip)) (HC 1872459))
def QI:=zG
@[simp] def zH:bw:=(lp (HC 16971) 16 2 3 (.seq (HC 70219) (.block 4 (.loop QI))) (HC 29259))
def U0:=zH
@[simp] def zI:bw:=(lp (HC 267) 10 0 1 (.seq (HC 1099) (.block 2 (.loop U0))) (HC 459))
def U1:=zI
def AX8:bw:=(.seq (HC 2) (.seq (HC 5) (.seq (.seq (HC 19) (.block 0 (.loop U1))) (.seq (HC 23) .ret))))
theorem A8L:Tryz.f140.body=some AX8:=by kernel_rfl
@[simp] theorem BF8:UX 39 QI zG/\UX 39 U0 zH/\UX 39 U1 zI/\SX 39 (HC 2) [oq 2 (.box (tq 0)),oq 3 (.box (tq 1)),oq 4 (.mv (.const (.slice none 0 0)))] [0,1] [2]/\SX 39 (HC 5) [oq 5 (.mv (.const (.slice none 0 0)))] [2,3] [2,3]/\SX 39 (HC 19) [ok 6 1] [2,3,5] [2,3,37]/\SX 39 (HC 267) [om 9 6,oc 10 .leq 3 9 2] [2,3,5,6] [2,3,37]/\SX 39 (HC 1099) [ok 7 0] [2,3,5,6] [2,3,37]/\SX 39 (HC 16971) [om 13 7,oz 14 25 2 0,ol 15 3 14,ob 16 .lss 3 13 15] [2,3,5,6,7] [2,3,37]/\SX 39 (HC 70219) [ok 8 0] [2,3,5,6,7] [2,3,37]/\SX 39 (HC 1086027) [om 19 8,oz 20 25 2 0,ol 21 3 20,ob 22 .lss 3 19 21] [2,3,5,6,7,8] [2,3,37]/\SX 39 (HC 4493899) [ol 25 133 3,om 26 6,om 27 7,om 28 8,oq 29 (.build 133 [(0,tq 26),(1,tq 27),(2,tq 28)]),od 30 123 [tq 25,tq 29]] [2,3,5,6,7,8] [2,3,37]/\SX 39 (HC 10785355) [om 31 5,om 32 6,om 33 7,om 34 8,oq 35 (.build 133 [(0,tq 32),(1,tq 33),(2,tq 34)]),oq 36 (.buildS 22 1 [(0,tq 35)]),oq 37 (.app [tq 31,tq 36] [22,22]),om 5 37] [2,3,5,6,7,8] [2,3,37]/\SX 39 (HC 1872459) [om 23 8,oc 24 .add 3 23 1,om 8 24] [2,3,5,6,7,8] [2,3,37]/\SX 39 (HC 29259) [om 17 7,oc 18 .add 3 17 1,om 7 18] [2,3,5,6,7] [2,3,37]/\SX 39 (HC 459) [om 11 6,oc 12 .add 3 11 1,om 6 12] [2,3,5,6] [2,3,37]/\SX 39 (HC 23) [om 38 5,om 4 38] [5] [37]/\LX 39 U1 [2,3,5,6] [2,3,37]/\LX 39 U0 [2,3,5,6,7] [2,3,37]/\LX 39 QI [2,3,5,6,7,8] [2,3,37]:=by and_intros<;>first|exact rx|exact lx|exact fun _ _=>rfl
def QJ:=rg Tryz.f112
@[simp] def zJ:bw:=(lp (QJ 267) 9 0 1 (QJ 587) (QJ 459))
def U2:=zJ
def AX9:bw:=(.seq (QJ 2) (.seq (QJ 5) (.seq (.seq (QJ 19) (.block 0 (.loop U2))) (.seq (QJ 23) .ret))))
theorem A8M:Tryz.f112.body=some AX9:=by kernel_rfl
@[simp] theorem BF9:UX 24 U2 zJ/\SX 24 (QJ 2) [oq 1 (.box (tq 0)),ok 2 0] [0] [1,19]/\SX 24 (QJ 5) [ok 3 1] [1] [1,19]/\SX 24 (QJ 19) [ok 4 0] [1,3] [1,19]/\SX 24 (QJ 267) [om 5 4,oz 6 25 1 3,ol 7 22 6,oe 8 7 22,ob 9 .lss 3 5 8] [1,3,4] [1,19]/\RX 24 (QJ 587) (.drw [⟨[],[om 12 3,ol 13 25 1,oz 14 25 1 3,ol 15 22 14,om 16 4,oi 17 22 15 16,ol 18 133 17,od 19 140 [tq 13,tq 18],oe 20 19 22,ob 21 .mul 3 12 20,oq 22 (.oth (.call ⟨.builtin .min,#[ci 5000,tq 21],#[3,3]⟩)),om 3 22],[]⟩]) (some ([1,3,4],[1]))/\SX 24 (QJ 459) [om 10 4,oc 11 .add 3 10 1,om 4 11] [1,3,4] [1,19]/\SX 24 (QJ 23) [om 23 3,om 2 23] [3] []/\LX 24 U2 [1,3,4] [1,19]:=⟨fun _ _=>rfl,rx,rx,rx,rx,rx,rx,rx,lx⟩
def EJ:=rg Tryz.f111
@[simp] def zK:bw:=(lp (EJ 535) 37 0 1 (.seq (EJ 2199) (.seq (EJ 5271) (.cond (.tmp 66) (.seq (EJ 19607) .ret) .skip))) (EJ 919))
def U3:=zK
@[simp] def rL:bw:=(lp (EJ 1071) 71 2 3 (.seq (EJ 4399) (.seq (EJ 10543) (.cond (.tmp 106) (.seq (EJ 39215) .ret) .skip))) (EJ 1839))
def QK:=rL
def V5:bw:=(.seq (EJ 2) (.seq (.seq (EJ 9) (.cond (.tmp 16) (.seq (EJ 37) .ret) .skip)) (.seq (.seq (EJ 19) (.cond (.tmp 32) (.seq (EJ 75) .ret) .skip)) (.seq (.seq (EJ 39) (.block 0 (.loop U3))) (.seq (.seq (EJ 79) (.block 2 (.loop QK))) (.seq (.seq (EJ 159) (.cond (.tmp 109) (.seq (EJ 607) .ret) .skip)) (.seq (EJ 191) .ret)))))))
theorem A8N:Tryz.f111.body=some V5:=by kernel_rfl
@[simp] theorem BGA:UX 110 U3 zK/\UX 110 QK rL/\SX 110 (EJ 2) [oq 1 (.box (tq 0)),ok 2 0] [0] [1]/\SX 110 (EJ 9) [oz 7 25 1 3,ol 8 22 7,oe 9 8 22,oc 10 .gtr 3 9 8,om 11 10,gz 11 false 12 25 1 4,gl 11 false 13 23 12,ge 11 false 14 13 23,gc 11 false 15 .gtr 3 14 4,oq 16 (.pick (tq 11) (cb true) (tq 15))] [1] [1]/\SX 110 (EJ 37) [ok 2 3] [] []/\SX 110 (EJ 19) [oz 17 25 1 0,ol 18 3 17,od 19 48 [tq 18,ci 1,ci 4],ou 20 19,om 21 20,gz 21 false 22 25 1 1,gl 21 false 23 3 22,gd 21 false 24 48 [tq 23,ci 1,ci 99],og 21 false 25 (.oth (.unOp .not 4 (tq 24))),oq 26 (.pick (tq 21) (cb true) (tq 25)),om 27 26,gz 27 false 28 25 1 2,gl 27 false 29 3 28,gd 27 false 30 48 [tq 29,ci 0,ci 999],og 27 false 31 (.oth (.unOp .not 4 (tq 30))),oq 32 (.pick (tq 27) (cb true) (tq 31))] [1] [1]/\SX 110 (EJ 75) [ok 2 1] [] []/\SX 110 (EJ 39) [ok 3 0] [1] [1]/\SX 110 (EJ 535) [om 33 3,oz 34 25 1 3,ol 35 22 34,oe 36 35 22,ob 37 .lss 3 33 36] [1,3] [1]/\SX 110 (EJ 2199) [oz 40 25 1 3,ol 41 22 40,om 42 3,oi 43 22 41 42,ol 44 133 43,oq 4 (.alloc 133),os (.sto 133 (tq 4) (tq 44))] [1,3] [1]/\SX 110 (EJ 5271) [oz 45 133 4 0,ol 46 3 45,od 47 48 [tq 46,ci 0,ci 2],ou 48 47,om 49 48,gz 49 false 50 133 4 1,gl 49 false 51 3 50,gz 49 false 52 25 1 0,gl 49 false 53 3 52,gc 49 false 54 .sub 3 53 1,gd 49 false 55 48 [tq 51,.const (.int .i64 (bj 0)),tq 54],og 49 false 56 (.oth (.unOp .not 4 (tq 55))),oq 57 (.pick (tq 49) (cb true) (tq 56)),om 58 57,gz 58 false 59 133 4 2,gl 58 false 60 3 59,gz 58 false 61 25 1 0,gl 58 false 62 3 61,gc 58 false 63 .sub 3 62 1,gd 58 false 64 48 [tq 60,.const (.int .i64 (bj 0)),tq 63],og 58 false 65 (.oth (.unOp .not 4 (tq 64))),oq 66 (.pick (tq 58) (cb true) (tq 65))] [1,3,4] [1,4]/\SX 110 (EJ 19607) [ok 2 1] [] []/\SX 110 (EJ 919) [om 38 3,oc 39 .add 3 38 1,om 3 39] [1,3] [1]/\SX 110 (EJ 79) [ok 5 0] [1] [1]/\SX 110 (EJ 1071) [om 67 5,oz 68 25 1 4,ol 69 23 68,oe 70 69 23,ob 71 .lss 3 67 70] [1,5] [1]/\SX 110 (EJ 4399) [oz 74 25 1 4,ol 75 23 74,om 76 5,oi 77 23 75 76,ol 78 168 77,oq 6 (.alloc 168),os (.sto 168 (tq 6) (tq 78))] [1,5] [1]/\SX 110 (EJ 10543) [oz 79 168 6 0,ol 80 3 79,oz 81 25 1 3,ol 82 22 81,oe 83 82 22,od 84 48 [tq 80,ci 0,tq 83],ou 85 84,om 86 85,gz 86 false 87 168 6 1,gz 86 false 88 166 87 0,gl 86 false 89 3 88,gc 86 false 90 .lss 3 89 0,oq 91 (.pick (tq 86) (cb true) (tq 90)),om 92 91,gz 92 false 93 168 6 1,gz 92 false 94 166 93 0,gl 92 false 95 3 94,gz 92 false 96 168 6 1,gz 92 false 97 166 96 1,gl 92 false 98 3 97,gb 92 false 99 .gtr 3 95 98,oq 100 (.pick (tq 92) (cb true) (tq 99)),om 101 100,gz 101 false 102 168 6 1,gz 101 false 103 166 102 1,gl 101 false 104 3 103,gc 101 false 105 .gtr 3 104 2000,oq 106 (.pick (tq 101) (cb true) (tq 105))] [1,5,6] [1,6]/\SX 110 (EJ 39215) [ok 2 1] [] []/\SX 110 (EJ 1839) [om 72 5,oc 73 .add 3 72 1,om 5 73] [1,5] [1]/\SX 110 (EJ 159) [ol 107 25 1,od 108 112 [tq 107],oc 109 .gtr 3 108 4096] [1] [1]/\SX 110 (EJ 607) [ok 2 3] [] []/\SX 110 (EJ 191) [ok 2 0] [] []/\LX 110 U3 [1,3] [1]/\LX 110 QK [1,5] [1]:=by and_intros<;>first|exact rx|exact lx|exact fun _ _=>rfl
def g64:=rg Tryz.f64
def c64:bw:=(.seq (g64 2) (.seq (g64 5) .ret))
theorem b64:Tryz.f64.body=some c64:=by kernel_rfl
@[simp] theorem x64:SX 23 (g64 2) [oq 1 (.box (tq 0)),ot 2 false] [0] [1]/\SX 23 (g64 5) [oz 3 25 1 3,ol 4 22 3,oe 5 4 22,oc 6 .leq 3 5 10,om 7 6,gz 7 true 8 25 1 4,gl 7 true 9 23 8,ge 7 true 10 9 23,gc 7 true 11 .leq 3 10 6,oq 12 (.pick (tq 7) (tq 11) (cb false)),om 13 12,gl 13 true 14 25 1,gd 13 true 15 111 [tq 14],gc 13 true 16 .neq 3 15 0,gm 13 true 17 16,gl 17 false 18 25 1,gd 17 false 19 112 [tq 18],gc 17 false 20 .leq 3 19 100,og 13 true 21 (.pick (tq 17) (cb true) (tq 20)),oq 22 (.pick (tq 13) (tq 21) (cb false)),om 2 22] [1] [1]:=⟨rx,rx⟩
def AFL:=rg Tryz.f110
def AYB:bw:=(.seq (AFL 2) (.seq (AFL 5) .ret))
theorem A8O:Tryz.f110.body=some AYB:=by kernel_rfl
@[simp] theorem BGC:SX 8 (AFL 2) [oq 1 (.box (tq 0)),oq 2 (.alloc 151)] [0] []/\SX 8 (AFL 5) [oz 3 166 1 0,ol 4 3 3,oz 5 166 1 1,ol 6 3 5,oq 7 (.build 151 [(0,tq 4),(1,tq 6)]),os (.sto 151 (tq 2) (tq 7))] [1,2] [1,2]:=⟨rx,rx⟩
def rM:=rg Tryz.f32
@[simp] def AJI:bw:=(lp (rM 267) 8 0 1 (rM 587) (rM 459))
def cQ:=AJI
def c32:bw:=(.seq (rM 2) (.seq (rM 5) (.seq (.seq (rM 19) (.block 0 (.loop cQ))) (.seq (rM 23) .ret))))
theorem b32:Tryz.f32.body=some c32:=by kernel_rfl
@[simp] theorem x32:UX 31 cQ AJI/\SX 31 (rM 2) [oq 2 (.mv (.const (.slice none 0 0)))] [0] []/\SX 31 (rM 5) [oq 3 (.mv (.const (.slice none 0 0)))] [0] []/\SX 31 (rM 19) [ok 4 0] [0,3] [29]/\SX 31 (rM 267) [om 5 4,om 6 0,oe 7 6 22,ob 8 .lss 3 5 7] [0,3,4] [29]/\RX 31 (rM 587) (.drw [⟨[],[om 11 3,om 12 0,om 13 4,oi 14 22 12 13,oz 15 133 14 0,ol 16 3 15,om 17 0,om 18 4,oi 19 22 17 18,oz 20 133 19 1,ol 21 3 20,om 22 0,om 23 4,oi 24 22 22 23,oz 25 133 24 2,ol 26 3 25,oq 27 (.build 96 [(0,tq 16),(1,tq 21),(2,tq 26)]),oq 28 (.buildS 36 1 [(0,tq 27)]),oq 29 (.app [tq 11,tq 28] [36,36]),om 3 29],[]⟩]) (some ([0,3,4],[29]))/\SX 31 (rM 459) [om 9 4,oc 10 .add 3 9 1,om 4 10] [0,3,4] [29]/\SX 31 (rM 23) [om 30 3,om 2 30] [3] [29]/\LX 31 cQ [0,3,4] [29]:=⟨fun _ _=>rfl,rx,rx,rx,rx,rx,rx,rx,lx⟩
def rN:=rg Tryz.f63
@[simp] def AJJ:bw:=(lp (rN 267) 19 0 1 (rN 587) (rN 459))
def cR:=AJJ
def c63:bw:=(.seq (rN 2) (.seq (rN 5) (.seq (.seq (rN 19) (.block 0 (.loop cR))) (.seq (rN 23) .ret))))
theorem b63:Tryz.f63.body=some c63:=by kernel_rfl
@[simp] theorem x63:UX 42 cR AJJ/\SX 42 (rN 2) [oq 1 (.box (tq 0)),oq 2 (.alloc 39)] [0] [1,2,3,13,39]/\RX 42 (rN 5) (.drw [⟨[3],[oz 5 25 1 0,oq 6 (.ldz 3 (tq 5)),oz 7 25 1 1,oq 8 (.ldz 3 (tq 7)),oz 9 25 1 2,oq 10 (.ldz 3 (tq 9)),oz 11 25 1 3,oq 12 (.ldz 22 (tq 11)),od 13 32 [tq 12],oq 14 (.build 39 [(0,tq 6),(1,tq 8),(2,tq 10),(3,tq 13)]),oq 3 (.alloc 39)],[os (.sto 39 (tq 3) (tq 14))]⟩]) (some ([1,2],[1,2,39]))/\SX 42 (rN 19) [ok 4 0] [1,2,3] [1,2,3,13,39]/\SX 42 (rN 267) [om 15 4,oz 16 25 1 4,ol 17 23 16,oe 18 17 23,ob 19 .lss 3 15 18] [1,2,3,4] [1,2,3,13,39]/\RX 42 (rN 587) (.drw [⟨[],[oz 22 39 3 4,oq 23 (.ldz 37 (tq 22)),oz 24 25 1 4,ol 25 23 24,om 26 4,oi 27 23 25 26,oz 28 168 27 0,ol 29 3 28,oz 30 25 1 4,ol 31 23 30,om 32 4,oi 33 23 31 32,oz 34 168 33 1,ol 35 166 34,od 36 110 [tq 35],oq 37 (.build 171 [(0,tq 29),(1,tq 36)]),oq 38 (.buildS 37 1 [(0,tq 37)]),oq 39 (.app [tq 23,tq 38] [37,37]),oz 40 39 3 4],[os (.sto 37 (tq 40) (tq 39))]⟩]) (some ([1,2,3,4],[1,2,3,13,39]))/\SX 42 (rN 459) [om 20 4,oc 21 .add 3 20 1,om 4 21] [1,2,3,4] [1,2,3,13,39]/\SX 42 (rN 23) [ol 41 39 3,os (.sto 39 (tq 2) (tq 41))] [2,3] [1,2,3,13,39]/\LX 42 cR [1,2,3,4] [1,2,3,13,39]:=⟨fun _ _=>rfl,rx,rx,rx,rx,rx,rx,rx,lx⟩
def OV:=rg Tryz.f173
@[simp] def zL:bw:=(lp (OV 267) 18 0 1 (OV 587) (OV 459))
def U4:=zL
def AMP:bw:=(.seq (OV 2) (.seq (.seq (OV 9) (.cond (.tmp 12) (.seq (OV 37) .ret) .skip)) (.seq (.seq (OV 19) (.block 0 (.loop U4))) (.seq (OV 23) .ret))))
theorem A8P:Tryz.f173.body=some AMP:=by kernel_rfl
@[simp] theorem BGF:UX 26 U4 zL/\SX 26 (OV 2) [oq 8 (.mv (.const (.slice none 0 0)))] [0,1,2,3] []/\SX 26 (OV 9) [om 10 0,om 11 1,ob 12 .neq 3 10 11] [0,1,2,3,8] [24]/\SX 26 (OV 37) [om 13 0,oq 14 (.buildS 32 1 [(0,tq 13)]),om 8 14] [0] []/\SX 26 (OV 19) [om 15 2,om 9 15] [2,3,8] [24]/\SX 26 (OV 267) [om 16 9,om 17 3,ob 18 .leq 3 16 17] [3,8,9] [24]/\SX 26 (OV 587) [om 21 8,om 22 9,oq 23 (.buildS 32 1 [(0,tq 22)]),oq 24 (.app [tq 21,tq 23] [32,32]),om 8 24] [3,8,9] [24]/\SX 26 (OV 459) [om 19 9,oc 20 .add 3 19 1,om 9 20] [3,8,9] [24]/\SX 26 (OV 23) [om 25 8,om 8 25] [8] [24]/\LX 26 U4 [3,8,9] [24]:=⟨fun _ _=>rfl,rx,rx,rx,rx,rx,rx,rx,rx,lx⟩
def GF:=rg Tryz.f142
@[simp] def zM:bw:=(.seq (GF 4613733) (.seq (.cond (.tmp 38) .skip (.exit 4)) (.seq (.block 5 (.seq (GF 73819749) (GF 107374181))) (GF 31876709))))
def U5:=zM
@[simp] def zN:bw:=(.seq (GF 18021) (.seq (.cond (.tmp 27) .skip (.exit 2)) (.seq (.block 3 (.seq (GF 288357) (.seq (GF 681573) (.block 4 (.loop U5))))) (GF 124517))))
def U6:=zN
@[simp] def zO:bw:=(.seq (GF 69) (.seq (.cond (.tmp 16) .skip (.exit 0)) (.seq (.block 1 (.seq (GF 1125) (.seq (GF 2661) (.block 2 (.loop U6))))) (GF 485))))
def U7:=zO
def AMQ:bw:=(.seq (GF 2) (.seq (.seq (GF 9) (.block 0 (.loop U7))) (.seq (GF 11) .ret)))
theorem AYC:Tryz.f142.body=some AMQ:=by kernel_rfl
@[simp] theorem BGG:UX 52 U5 zM/\UX 52 U6 zN/\UX 52 U7 zO/\SX 52 (GF 2) [oq 2 (.box (tq 0)),oq 3 (.box (tq 1)),oq 4 (.mv (.const (.slice none 0 0)))] [0,1] [2]/\SX 52 (GF 9) [oz 11 96 3 0,ol 12 3 11,od 13 173 [tq 12,ci 0,ci 1,ci 2],oe 14 13 32,ok 15 0] [2,3,4] [2,3,47]/\SX 52 (GF 69) [ob 16 .lss 3 15 14] [2,3,4,13,14,15] [2,3,13,47]/\SX 52 (GF 1125) [oi 17 32 13 15,ol 18 3 17,om 6 18] [2,3,4,13,14,15] [2,3,13,47]/\SX 52 (GF 2661) [oz 19 96 3 1,ol 20 3 19,oz 21 39 2 0,ol 22 3 21,oc 23 .sub 3 22 1,od 24 173 [tq 20,.const (.int .i64 (bj 0)),ci 0,tq 23],oe 25 24 32,ok 26 0] [2,3,4,6,13,14,15] [2,3,13,47]/\SX 52 (GF 18021) [ob 27 .lss 3 26 25] [2,3,4,6,13,14,15,24,25,26] [2,3,13,24,47]/\SX 52 (GF 288357) [oi 28 32 24 26,ol 29 3 28,om 8 29] [2,3,4,6,13,14,15,24,25,26] [2,3,13,24,47]/\SX 52 (GF 681573) [oz 30 96 3 2,ol 31 3 30,oz 32 39 2 0,ol 33 3 32,oc 34 .sub 3 33 1,od 35 173 [tq 31,.const (.int .i64 (bj 0)),ci 0,tq 34],oe 36 35 32,ok 37 0] [2,3,4,6,8,13,14,15,24,25,26] [2,3,13,24,47]/\SX 52 (GF 4613733) [ob 38 .lss 3 37 36] [2,3,4,6,8,13,14,15,24,25,26,35,36,37] [2,3,13,24,35,47]/\SX 52 (GF 73819749) [oi 39 32 35 37,ol 40 3 39,om 10 40] [2,3,4,6,8,13,14,15,24,25,26,35,36,37] [2,3,13,24,35,47]/\SX 52 (GF 107374181) [om 41 4,om 42 6,om 43 8,om 44 10,oq 45 (.build 96 [(0,tq 42),(1,tq 43),(2,tq 44)]),oq 46 (.buildS 36 1 [(0,tq 45)]),oq 47 (.app [tq 41,tq 46] [36,36]),om 4 47] [2,3,4,6,8,10,13,14,15,24,25,26,35,36,37] [2,3,13,24,35,47]/\SX 52 (GF 31876709) [oc 48 .add 3 37 1,om 37 48] [2,3,4,6,8,13,14,15,24,25,26,35,36,37] [2,3,13,24,35,47]/\SX 52 (GF 124517) [oc 49 .add 3 26 1,om 26 49] [2,3,4,6,13,14,15,24,25,26] [2,3,13,24,47]/\SX 52 (GF 485) [oc 50 .add 3 15 1,om 15 50] [2,3,4,13,14,15] [2,3,13,47]/\SX 52 (GF 11) [om 51 4,om 4 51] [4] [47]/\LX 52 U7 [2,3,4,13,14,15] [2,3,13,47]/\LX 52 U6 [2,3,4,6,13,14,15,24,25,26] [2,3,13,24,47]/\LX 52 U5 [2,3,4,6,8,13,14,15,24,25,26,35,36,37] [2,3,13,24,35,47]:=by and_intros<;>first|exact rx|exact lx|exact fun _ _=>rfl
def OW:=rg Tryz.f172
@[simp] def zQ:bw:=(.seq (OW 69) (.seq (.cond (.tmp 9) .skip (.exit 0)) (.seq (.block 1 (.seq (OW 1125) (.seq (OW 2661) (.cond (.tmp 16) (.seq (OW 9829) .ret) .skip)))) (OW 485))))
def OB:=zQ
def zR:bw:=(.seq (OW 2) (.seq (.seq (OW 9) (.block 0 (.loop OB))) (.seq (OW 11) .ret)))
theorem b172:Tryz.f172.body=some zR:=by kernel_rfl
@[simp] theorem BGH:UX 19 OB zQ/\SX 19 (OW 2) [ok 4 0] [0,1] []/\SX 19 (OW 9) [om 6 0,oe 7 6 36,ok 8 0] [0,1,2,3] [2,3]/\SX 19 (OW 69) [ob 9 .lss 3 8 7] [0,1,3,7,8] [3]/\SX 19 (OW 1125) [om 10 8,om 5 10] [0,1,3,7,8] [3]/\SX 19 (OW 2661) [om 11 1,om 12 0,om 13 5,oi 14 36 12 13,ol 15 96 14,oq 16 (.call false none (tq 11) [tq 15])] [0,1,3,5,7,8] [3]/\SX 19 (OW 9829) [om 17 5,om 4 17] [5] []/\SX 19 (OW 485) [oc 18 .add 3 8 1,om 8 18] [0,1,3,7,8] [3]/\SX 19 (OW 11) [oq 4 (.mv (.const (.int .i64 (bj 0))))] [] []/\LX 19 OB [0,1,3,7,8] [3]:=⟨fun _ _=>rfl,rx,rx,rx,rx,rx,rx,rx,rx,lx⟩
def AFM:=rg Tryz.f183
def AYD:bw:=(.seq (AFM 2) (.seq (AFM 5) .ret))
theorem b183:Tryz.f183.body=some AYD:=by kernel_rfl
@[simp] theorem BGI:SX 9 (AFM 2) [ot 4 false] [0,1] []/\SX 9 (AFM 5) [om 5 0,om 6 1,od 7 172 [tq 5,tq 6],oc 8 .geq 3 7 0,om 4 8] [0,1,3] [3]:=⟨rx,rx⟩
def OX:=rg Tryz.f190
@[simp] def zS:bw:=(.seq (OX 69) (.seq (.cond (.tmp 9) .skip (.exit 0)) (.seq (.block 1 (.seq (OX 1125) (.seq (OX 2661) (.cond (.tmp 16) (.seq (OX 9829) .ret) .skip)))) (OX 485))))
def QL:=zS
def AMR:bw:=(.seq (OX 2) (.seq (.seq (OX 9) (.block 0 (.loop QL))) (.seq (OX 11) .ret)))
theorem b190:Tryz.f190.body=some AMR:=by kernel_rfl
@[simp] theorem BGJ:UX 19 QL zS/\SX 19 (OX 2) [ok 4 0] [0,1] []/\SX 19 (OX 9) [om 6 0,oe 7 6 37,ok 8 0] [0,1,2,3] [2,3]/\SX 19 (OX 69) [ob 9 .lss 3 8 7] [0,1,3,7,8] [3]/\SX 19 (OX 1125) [om 10 8,om 5 10] [0,1,3,7,8] [3]/\SX 19 (OX 2661) [om 11 1,om 12 0,om 13 5,oi 14 37 12 13,ol 15 171 14,oq 16 (.call false none (tq 11) [tq 15])] [0,1,3,5,7,8] [3]/\SX 19 (OX 9829) [om 17 5,om 4 17] [5] []/\SX 19 (OX 485) [oc 18 .add 3 8 1,om 8 18] [0,1,3,7,8] [3]/\SX 19 (OX 11) [oq 4 (.mv (.const (.int .i64 (bj 0))))] [] []/\LX 19 QL [0,1,3,7,8] [3]:=⟨fun _ _=>rfl,rx,rx,rx,rx,rx,rx,rx,rx,lx⟩
def AFN:=rg Tryz.f185
def AYE:bw:=(.seq (AFN 2) (.seq (AFN 5) .ret))
theorem b185:Tryz.f185.body=some AYE:=by kernel_rfl
@[simp] theorem BGK:SX 9 (AFN 2) [ot 4 false] [0,1] []/\SX 9 (AFN 5) [om 5 0,om 6 1,od 7 190 [tq 5,tq 6],oc 8 .geq 3 7 0,om 4 8] [0,1,3] [3]:=⟨rx,rx⟩
def AFO:=rg Tryz.f164
def AYF:bw:=(.seq (AFO 2) (.seq (AFO 5) .ret))
theorem A8Q:Tryz.f164.body=some AYF:=by kernel_rfl
@[simp] theorem BGL:SX 9 (AFO 2) [oq 3 (.box (tq 1)),ot 4 false] [0,1] [3]/\SX 9 (AFO 5) [om 5 0,oq 6 (.oth (.makeFunc (.func 184) #[] #[tq 3])),od 7 183 [tq 5,tq 6],ou 8 7,om 4 8] [0,1,3] [3]:=⟨rx,rx⟩
def AFP:=rg Tryz.f184
def AYG:bw:=(.seq (AFP 2) (.seq (AFP 5) .ret))
theorem b184:Tryz.f184.body=some AYG:=by kernel_rfl
@[simp] theorem BGM:SX 8 (AFP 2) [oq 2 (.box (tq 0)),ot 3 false] [0,1] []/\SX 8 (AFP 5) [ol 4 198 1,ol 5 96 2,oq 6 (.call false none (tq 4) [tq 5]),ou 7 6,om 3 7] [0,1,2] [2]:=⟨rx,rx⟩
def AFQ:=rg Tryz.f165
def AMS:bw:=(.seq (AFQ 2) (.seq (AFQ 5) .ret))
theorem b165:Tryz.f165.body=some AMS:=by kernel_rfl
@[simp] theorem BGN:SX 9 (AFQ 2) [oq 3 (.box (tq 1)),ot 4 false] [0,1] [3]/\SX 9 (AFQ 5) [om 5 0,oq 6 (.oth (.makeFunc (.func 186) #[] #[tq 3])),od 7 185 [tq 5,tq 6],ou 8 7,om 4 8] [0,1,3] [3]:=⟨rx,rx⟩
def AFR:=rg Tryz.f186
def AMT:bw:=(.seq (AFR 2) (.seq (AFR 5) .ret))
theorem b186:Tryz.f186.body=some AMT:=by kernel_rfl
@[simp] theorem BGO:SX 8 (AFR 2) [oq 2 (.box (tq 0)),ot 3 false] [0,1] []/\SX 8 (AFR 5) [ol 4 216 1,ol 5 171 2,oq 6 (.call false none (tq 4) [tq 5]),ou 7 6,om 3 7] [0,1,2] [2]:=⟨rx,rx⟩
def AFS:=rg Tryz.f166
def AYH:bw:=(.seq (AFS 2) (.seq (AFS 5) .ret))
theorem A8R:Tryz.f166.body=some AYH:=by kernel_rfl
@[simp] theorem BGP:SX 5 (AFS 2) [ok 2 0] [0] []/\SX 5 (AFS 5) [om 3 0,od 4 119 [tq 3],om 2 4] [0,1] [1]:=⟨rx,rx⟩
def M3:=rg Tryz.f119
@[simp] def zT:bw:=(lp (M3 535) 15 0 1 (M3 1175) (M3 919))
def cS:=zT
def AYI:bw:=(.seq (M3 2) (.seq (.seq (M3 9) (.cond (.tmp 7) (M3 21) .skip)) (.seq (M3 11) (.seq (.seq (M3 39) (.block 0 (.loop cS))) (.seq (M3 47) .ret)))))
theorem A8S:Tryz.f119.body=some AYI:=by kernel_rfl
@[simp] theorem BGQ:UX 25 cS zT/\SX 25 (M3 2) [ok 2 0] [0] []/\SX 25 (M3 9) [om 5 0,oe 6 5 32,oc 7 .lss 3 6 1] [0] []/\SX 25 (M3 11) [om 9 0,oq 10 (.oth (.indexAddr 32 (tq 9) (ci 0))),ol 11 3 10,om 3 11] [0] []/\SX 25 (M3 39) [ok 4 1] [0,3] []/\SX 25 (M3 535) [om 12 4,om 13 0,oe 14 13 32,ob 15 .lss 3 12 14] [0,3,4] []/\SX 25 (M3 1175) [om 18 3,om 19 0,om 20 4,oi 21 32 19 20,ol 22 3 21,oq 23 (.oth (.call ⟨.builtin .min,#[tq 18,tq 22],#[3,3]⟩)),om 3 23] [0,1,3,4,5,6] [1,5,16]/\SX 25 (M3 919) [om 16 4,oc 17 .add 3 16 1,om 4 17] [0,3,4] []/\SX 25 (M3 47) [om 24 3,om 2 24] [3,7] [22]/\LX 25 cS [0,3,4] []:=⟨fun _ _=>rfl,rx,rx,rx,rx,rx,rx,rx,rx,lx⟩
def AFT:=rg Tryz.f162
def AYJ:bw:=(.seq (AFT 2) (.seq (AFT 5) .ret))
theorem A8T:Tryz.f162.body=some AYJ:=by kernel_rfl
@[simp] theorem BGR:SX 24 (AFT 2) [oq 2 (.box (tq 0)),oq 3 (.box (tq 1)),ot 4 false] [0,1] [2]/\SX 24 (AFT 5) [oz 5 96 3 0,ol 6 3 5,od 7 106 [tq 6,ci 0,ci 2],om 8 7,gz 8 true 9 96 3 1,gl 8 true 10 3 9,gz 8 true 11 39 2 0,gl 8 true 12 3 11,gc 8 true 13 .sub 3 12 1,gd 8 true 14 106 [tq 10,.const (.int .i64 (bj 0)),tq 13],oq 15 (.pick (tq 8) (tq 14) (cb false)),om 16 15,gz 16 true 17 96 3 2,gl 16 true 18 3 17,gz 16 true 19 39 2 0,gl 16 true 20 3 19,gc 16 true 21 .sub 3 20 1,gd 16 true 22 106 [tq 18,.const (.int .i64 (bj 0)),tq 21],oq 23 (.pick (tq 16) (tq 22) (cb false)),om 4 23] [2,3] [2,3]:=⟨rx,rx⟩
def uG:=rg Tryz.f163
def AYK:bw:=(.seq (uG 2) (.seq (uG 5) (.seq (uG 11) .ret)))
theorem A8U:Tryz.f163.body=some AYK:=by kernel_rfl
@[simp] theorem BGS:SX 31 (uG 2) [oq 2 (.box (tq 0)),oq 3 (.box (tq 1)),ot 4 false] [0,1] [2]/\SX 31 (uG 5) [oz 6 171 3 1,ol 7 151 6,oq 5 (.alloc 151),os (.sto 151 (tq 5) (tq 7))] [2,3] [2,3]/\SX 31 (uG 11) [oz 8 171 3 0,ol 9 3 8,oz 10 39 2 3,ol 11 36 10,oe 12 11 36,od 13 106 [tq 9,ci 0,tq 12],om 14 13,gz 14 true 15 151 5 0,gl 14 true 16 3 15,og 14 true 17 (.bin .leq 3 (ci 0) (tq 16)),oq 18 (.pick (tq 14) (tq 17) (cb false)),om 19 18,gz 19 true 20 151 5 0,gl 19 true 21 3 20,gz 19 true 22 151 5 1,gl 19 true 23 3 22,gb 19 true 24 .leq 3 21 23,oq 25 (.pick (tq 19) (tq 24) (cb false)),om 26 25,gz 26 true 27 151 5 1,gl 26 true 28 3 27,gc 26 true 29 .leq 3 28 2000,oq 30 (.pick (tq 26) (tq 29) (cb false)),om 4 30] [2,3,5] [2,3,5]:=⟨rx,rx,rx⟩
def AFU:=rg Tryz.f176
def AYL:bw:=(.seq (AFU 2) (.seq (AFU 5) .ret))
theorem A8V:Tryz.f176.body=some AYL:=by kernel_rfl
@[simp] theorem BGT:SX 11 (AFU 2) [oq 2 (.box (tq 0)),ot 4 false] [0,1] [2]/\SX 11 (AFU 5) [om 5 1,oz 6 151 2 0,ol 7 3 6,oz 8 151 2 1,ol 9 3 8,od 10 106 [tq 5,tq 7,tq 9],om 4 10] [1,2] [2]:=⟨rx,rx⟩
def GG:=rg Tryz.f137
@[simp] def zU:bw:=(.seq (GG 559) (.seq (.cond (.tmp 58) .skip (.exit 1)) (.seq (.block 2 (.seq (GG 9007) (GG 13103))) (GG 3887))))
def U8:=zU
def cT:bw:=(.seq (GG 2) (.seq (GG 5) (.seq (.block 0 (.seq (GG 35) (.cond (.tmp 12) (.seq (GG 147) .ret) (.seq (GG 179) (.cond (.tmp 23) (.seq (GG 627) .ret) .skip))))) (.seq (GG 23) (.seq (.seq (GG 79) (.block 1 (.loop U8))) (.seq (.seq (GG 159) (.cond (.tmp 71) (.seq (GG 607) .ret) .skip)) (.seq (GG 191) .ret)))))))
theorem A8W:Tryz.f137.body=some cT:=by kernel_rfl
@[simp] theorem BGU:UX 72 U8 zU/\SX 72 (GG 2) [oq 1 (.box (tq 0)),ok 2 0] [0] [1,64]/\RX 72 (GG 5) (.drw [⟨[],[ol 8 39 1,oq 9 (.oth (.makeFunc (.func 162) #[tq 8] #[])),ol 10 39 1,oq 11 (.oth (.makeFunc (.func 163) #[tq 10] #[])),om 3 9,om 4 11],[]⟩]) (some ([1],[1,64]))/\SX 72 (GG 35) [oz 13 39 1 3,ol 14 36 13,oe 15 14 36,oc 16 .gtr 3 15 8,om 17 16,gz 17 false 18 39 1 4,gl 17 false 19 37 18,ge 17 false 20 19 37,gc 17 false 21 .gtr 3 20 4,oq 22 (.pick (tq 17) (cb true) (tq 21)),om 12 22] [1,3,4] [1,64]/\SX 72 (GG 147) [ok 2 3] [] []/\SX 72 (GG 179) [oz 24 39 1 0,ol 25 3 24,od 26 106 [tq 25,ci 1,ci 4],ou 27 26,om 28 27,gz 28 false 29 39 1 1,gl 28 false 30 3 29,gd 28 false 31 106 [tq 30,ci 1,ci 99],og 28 false 32 (.oth (.unOp .not 4 (tq 31))),oq 33 (.pick (tq 28) (cb true) (tq 32)),om 34 33,gz 34 false 35 39 1 2,gl 34 false 36 3 35,gd 34 false 37 106 [tq 36,ci 0,ci 999],og 34 false 38 (.oth (.unOp .not 4 (tq 37))),oq 39 (.pick (tq 34) (cb true) (tq 38)),om 40 39,gz 40 false 41 39 1 3,gl 40 false 42 36 41,gm 40 false 43 3,gd 40 false 44 164 [tq 42,tq 43],og 40 false 45 (.oth (.unOp .not 4 (tq 44))),oq 46 (.pick (tq 40) (cb true) (tq 45)),om 47 46,gz 47 false 48 39 1 4,gl 47 false 49 37 48,gm 47 false 50 4,gd 47 false 51 165 [tq 49,tq 50],og 47 false 52 (.oth (.unOp .not 4 (tq 51))),oq 53 (.pick (tq 47) (cb true) (tq 52)),om 23 53] [1,3,4] [1,64]/\SX 72 (GG 627) [ok 2 1] [] []/\SX 72 (GG 23) [ok 5 1] [1] [1,64]/\SX 72 (GG 79) [oz 54 39 1 3,ol 55 36 54,oe 56 55 36,ok 57 0] [1,5] [1,64]/\SX 72 (GG 559) [ob 58 .lss 3 57 56] [1,5,55,56,57] [1,64]/\SX 72 (GG 9007) [oi 59 36 55 57,ol 60 96 59,oq 7 (.alloc 96),os (.sto 96 (tq 7) (tq 60))] [1,5,55,56,57] [1,64]/\SX 72 (GG 13103) [om 61 5,ol 62 39 1,ol 63 96 7,od 64 142 [tq 62,tq 63],oe 65 64 36,ob 66 .mul 3 61 65,oq 67 (.buildS 32 2 [(0,tq 66),(1,ci 4097)]),od 68 166 [tq 67],om 5 68] [1,5,7,55,56,57] [1,7,64]/\SX 72 (GG 3887) [oc 69 .add 3 57 1,om 57 69] [1,5,55,56,57] [1,64]/\SX 72 (GG 159) [om 70 5,oc 71 .gtr 3 70 4096] [5] []/\SX 72 (GG 607) [ok 2 3] [] []/\SX 72 (GG 191) [ok 2 0] [] []/\LX 72 U8 [1,5,55,56,57] [1,64]:=by and_intros<;>first|exact rx|exact lx|exact fun _ _=>rfl
def AFV:=rg Tryz.f168
def AYM:bw:=(.seq (AFV 2) (.seq (AFV 5) .ret))
theorem A8X:Tryz.f168.body=some AYM:=by kernel_rfl
@[simp] theorem BGV:SX 6 (AFV 2) [oq 1 (.box (tq 0)),oq 2 (.alloc 162)] [0] [1]/\SX 6 (AFV 5) [oz 3 39 1 2,ol 4 3 3,oq 5 (.build 162 [(2,tq 4)]),os (.sto 162 (tq 2) (tq 5))] [0,1,2] [1,2]:=⟨rx,rx⟩
def H1:=rg Tryz.f171
def AYN:bw:=(.seq (H1 2) (.seq (H1 5) (.seq (.seq (H1 19) (.cond (.tmp 31) (.seq (H1 75) .ret) .skip)) (.seq (.seq (H1 39) (.cond (.tmp 33) (.seq (.seq (H1 279) (.cond (.tmp 44) (H1 663) .skip)) (.seq (H1 343) (.seq (H1 727) (.seq (H1 1495) .ret)))) .skip)) (.seq (H1 47) (.seq (H1 95) (.seq (H1 191) .ret)))))))
theorem A8Y:Tryz.f171.body=some AYN:=by kernel_rfl
@[simp] theorem BGW:SX 83 (H1 2) [oq 4 (.box (tq 0)),oq 5 (.box (tq 1)),oq 7 (.box (tq 3)),oq 8 (.alloc 162),ot 9 false] [0,1,2,3] [4]/\SX 83 (H1 5) [oz 11 96 7 0,ol 12 3 11,oc 13 .eql 3 12 2,om 10 13] [2,4,5,7,8] [4,5,7,8]/\SX 83 (H1 19) [oz 14 96 7 1,ol 15 3 14,oz 16 162 5 0,oi 17 160 16 15,ol 18 3 17,oc 19 .neq 3 18 0,om 20 10,ob 21 .neq 4 19 20,om 22 21,gz 22 false 23 96 7 2,gl 22 false 24 3 23,gz 22 false 25 162 5 1,gi 22 false 26 160 25 24,gl 22 false 27 3 26,gc 22 false 28 .neq 3 27 0,gm 22 false 29 10,gb 22 false 30 .neq 4 28 29,oq 31 (.pick (tq 22) (cb true) (tq 30))] [2,4,5,7,8,10] [4,5,7,8]/\SX 83 (H1 75) [ol 32 162 5,os (.sto 162 (tq 8) (tq 32)),ot 9 false] [5,8] [5,8]/\SX 83 (H1 39) [om 33 10] [2,4,5,7,8,10] [4,5,7,8]/\RX 83 (H1 279) (.drw [⟨[],[oz 34 96 7 1,ol 35 3 34,oz 36 162 5 0,oi 37 160 36 35,ol 38 3 37,oz 39 96 7 2,ol 40 3 39,oz 41 162 5 1,oi 42 160 41 40,ol 43 3 42,ob 44 .neq 3 38 43],[]⟩]) (some ([4,5,7,8],[4,5,7,8]))/\SX 83 (H1 663) [oz 45 162 5 3,ol 46 3 45,oc 47 .add 3 46 1,oz 48 162 5 3,os (.sto 3 (tq 48) (tq 47))] [4,5,7,8] [4,5,7,8]/\RX 83 (H1 343) (.drw [⟨[],[oz 49 96 7 1,oq 50 (.ldz 3 (tq 49)),oz 51 96 7 2,ol 52 3 51,oz 53 162 5 0,oi 54 160 53 50,oz 55 162 5 1,os (.sto 3 (tq 54) (ci 0)),oi 56 160 55 52,os (.sto 3 (tq 56) (ci 0))],[]⟩]) (some ([4,5,7,8],[4,5,7,8]))/\SX 83 (H1 727) [oz 57 162 5 2,ol 58 3 57,oz 59 39 4 1,ol 60 3 59,ob 61 .sub 3 58 60,oz 62 162 5 2,os (.sto 3 (tq 62) (tq 61))] [4,5,8] [4,5,8]/\SX 83 (H1 1495) [ol 63 162 5,os (.sto 162 (tq 8) (tq 63)),ot 9 true] [5,8] [5,8]/\RX 83 (H1 47) (.drw [⟨[],[oz 64 96 7 1,oq 65 (.ldz 3 (tq 64)),oz 66 96 7 2,ol 67 3 66,om 68 2,oc 69 .add 3 68 1,om 70 2,oc 71 .add 3 70 1,oz 72 162 5 0,oi 73 160 72 65,oz 74 162 5 1,os (.sto 3 (tq 73) (tq 69)),oi 75 160 74 67,os (.sto 3 (tq 75) (tq 71))],[]⟩]) (some ([2,4,5,7,8],[4,5,7,8]))/\SX 83 (H1 95) [oz 76 162 5 2,ol 77 3 76,oz 78 39 4 1,ol 79 3 78,ob 80 .add 3 77 79,oz 81 162 5 2,os (.sto 3 (tq 81) (tq 80))] [4,5,8] [4,5,8]/\SX 83 (H1 191) [ol 82 162 5,os (.sto 162 (tq 8) (tq 82)),ot 9 true] [5,8] [5,8]:=by and_intros<;>exact rx
def OY:=rg Tryz.f191
@[simp] def zV:bw:=(.seq (OY 69) (.seq (.cond (.tmp 9) .skip (.exit 0)) (.seq (.block 1 (.seq (OY 1125) (.seq (OY 2661) (.cond (.tmp 16) (.seq (OY 9829) .ret) .skip)))) (OY 485))))
def U9:=zV
def AMU:bw:=(.seq (OY 2) (.seq (.seq (OY 9) (.block 0 (.loop U9))) (.seq (OY 11) .ret)))
theorem A8Z:Tryz.f191.body=some AMU:=by kernel_rfl
@[simp] theorem BGX:UX 19 U9 zV/\SX 19 (OY 2) [oq 3 (.box (tq 1)),ok 4 0] [0,1] []/\SX 19 (OY 9) [om 6 0,oe 7 6 36,ok 8 0] [0,1,2,3] [2,3]/\SX 19 (OY 69) [ob 9 .lss 3 8 7] [0,1,3,7,8] [3]/\SX 19 (OY 1125) [om 10 8,om 5 10] [0,1,3,7,8] [3]/\RX 19 (OY 2661) (.drw [⟨[],[ol 11 96 3,om 12 0,om 13 5,oi 14 36 12 13,ol 15 96 14,ob 16 .eql 96 11 15],[]⟩]) (some ([0,1,3,5,7,8],[3]))/\SX 19 (OY 9829) [om 17 5,om 4 17] [5] []/\SX 19 (OY 485) [oc 18 .add 3 8 1,om 8 18] [0,1,3,7,8] [3]/\SX 19 (OY 11) [oq 4 (.mv (.const (.int .i64 (bj 0))))] [] []/\LX 19 U9 [0,1,3,7,8] [3]:=⟨fun _ _=>rfl,rx,rx,rx,rx,rx,rx,rx,rx,lx⟩
def AFW:=rg Tryz.f188
def AYO:bw:=(.seq (AFW 2) (.seq (AFW 5) .ret))
theorem A80:Tryz.f188.body=some AYO:=by kernel_rfl
@[simp] theorem BGY:SX 9 (AFW 2) [oq 3 (.box (tq 1)),ot 4 false] [0,1] [3]/\SX 9 (AFW 5) [om 5 0,ol 6 96 3,od 7 191 [tq 5,tq 6],oc 8 .geq 3 7 0,om 4 8] [0,1,3] [3]:=⟨rx,rx⟩
def AFX:=rg Tryz.f174
def AYP:bw:=(.seq (AFX 2) (.seq (AFX 5) .ret))
theorem A81:Tryz.f174.body=some AYP:=by kernel_rfl
@[simp] theorem BGZ:SX 12 (AFX 2) [oq 3 (.box (tq 0)),oq 4 (.box (tq 1)),oq 5 (.box (tq 2)),ot 6 false] [0,1,2] [3,9]/\RX 12 (AFX 5) (.drw [⟨[],[ol 7 39 3,ol 8 96 4,od 9 142 [tq 7,tq 8],ol 10 96 5],[od 11 188 [tq 9,tq 10]]⟩,⟨[],[om 6 11],[]⟩]) (some ([3,4,5],[3,4,5])):=⟨rx,rx⟩
def OZ:=rg Tryz.f159
@[simp] def zW:bw:=(.seq (OZ 69) (.seq (.cond (.tmp 9) .skip (.exit 0)) (.seq (.block 1 (.seq (OZ 1125) (.seq (OZ 2661) (.cond (.tmp 16) (.seq (OZ 9829) .ret) .skip)))) (OZ 485))))
def QM:=zW
def AMV:bw:=(.seq (OZ 2) (.seq (.seq (OZ 9) (.block 0 (.loop QM))) (.seq (OZ 11) .ret)))
theorem b159:Tryz.f159.body=some AMV:=by kernel_rfl
@[simp] theorem BG0:UX 19 QM zW/\SX 19 (OZ 2) [ok 4 0] [0,1] []/\SX 19 (OZ 9) [om 6 0,oe 7 6 40,ok 8 0] [0,1,2,3] [2,3]/\SX 19 (OZ 69) [ob 9 .lss 3 8 7] [0,1,3,7,8] [3]/\SX 19 (OZ 1125) [om 10 8,om 5 10] [0,1,3,7,8] [3]/\SX 19 (OZ 2661) [om 11 1,om 12 0,om 13 5,oi 14 40 12 13,ol 15 41 14,oq 16 (.call false none (tq 11) [tq 15])] [0,1,3,5,7,8] [3]/\SX 19 (OZ 9829) [om 17 5,om 4 17] [5] []/\SX 19 (OZ 485) [oc 18 .add 3 8 1,om 8 18] [0,1,3,7,8] [3]/\SX 19 (OZ 11) [oq 4 (.mv (.const (.int .i64 (bj 0))))] [] []/\LX 19 QM [0,1,3,7,8] [3]:=⟨fun _ _=>rfl,rx,rx,rx,rx,rx,rx,rx,rx,lx⟩
def AFY:=rg Tryz.f131
def AYQ:bw:=(.seq (AFY 2) (.seq (AFY 5) .ret))
theorem b131:Tryz.f131.body=some AYQ:=by kernel_rfl
@[simp] theorem BG1:SX 9 (AFY 2) [ot 4 false] [0,1] []/\SX 9 (AFY 5) [om 5 0,om 6 1,od 7 159 [tq 5,tq 6],oc 8 .geq 3 7 0,om 4 8] [0,1,3] [3]:=⟨rx,rx⟩
def O0:=rg Tryz.f161
@[simp] def zX:bw:=(.seq (O0 69) (.seq (.cond (.tmp 9) .skip (.exit 0)) (.seq (.block 1 (.seq (O0 1125) (.seq (O0 2661) (.cond (.tmp 16) (.seq (O0 9829) .ret) .skip)))) (O0 485))))
def QN:=zX
def AMW:bw:=(.seq (O0 2) (.seq (.seq (O0 9) (.block 0 (.loop QN))) (.seq (O0 11) .ret)))
theorem b161:Tryz.f161.body=some AMW:=by kernel_rfl
@[simp] theorem BG2:UX 19 QN zX/\SX 19 (O0 2) [ok 4 0] [0,1] []/\SX 19 (O0 9) [om 6 0,oe 7 6 41,ok 8 0] [0,1,2,3] [2,3]/\SX 19 (O0 69) [ob 9 .lss 3 8 7] [0,1,3,7,8] [3]/\SX 19 (O0 1125) [om 10 8,om 5 10] [0,1,3,7,8] [3]/\SX 19 (O0 2661) [om 11 1,om 12 0,om 13 5,oi 14 41 12 13,ol 15 98 14,oq 16 (.call false none (tq 11) [tq 15])] [0,1,3,5,7,8] [3]/\SX 19 (O0 9829) [om 17 5,om 4 17] [5] []/\SX 19 (O0 485) [oc 18 .add 3 8 1,om 8 18] [0,1,3,7,8] [3]/\SX 19 (O0 11) [oq 4 (.mv (.const (.int .i64 (bj 0))))] [] []/\LX 19 QN [0,1,3,7,8] [3]:=⟨fun _ _=>rfl,rx,rx,rx,rx,rx,rx,rx,rx,lx⟩
def AFZ:=rg Tryz.f135
def AYR:bw:=(.seq (AFZ 2) (.seq (AFZ 5) .ret))
theorem b135:Tryz.f135.body=some AYR:=by kernel_rfl
@[simp] theorem BG3:SX 9 (AFZ 2) [ot 4 false] [0,1] []/\SX 9 (AFZ 5) [om 5 0,om 6 1,od 7 161 [tq 5,tq 6],oc 8 .geq 3 7 0,om 4 8] [0,1,3] [3]:=⟨rx,rx⟩
def AF0:=rg Tryz.f101
def AMX:bw:=(.seq (AF0 2) (.seq (AF0 5) .ret))
theorem AYS:Tryz.f101.body=some AMX:=by kernel_rfl
@[simp] theorem BG4:SX 9 (AF0 2) [oq 3 (.box (tq 1)),ot 4 false] [0,1] [3]/\SX 9 (AF0 5) [om 5 0,oq 6 (.oth (.makeFunc (.func 136) #[] #[tq 3])),od 7 135 [tq 5,tq 6],ou 8 7,om 4 8] [0,1,3] [3]:=⟨rx,rx⟩
def AF1:=rg Tryz.f136
def AMY:bw:=(.seq (AF1 2) (.seq (AF1 5) .ret))
theorem b136:Tryz.f136.body=some AMY:=by kernel_rfl
@[simp] theorem BG5:SX 8 (AF1 2) [oq 2 (.box (tq 0)),ot 3 false] [0,1] []/\SX 8 (AF1 5) [ol 4 127 1,ol 5 98 2,oq 6 (.call false none (tq 4) [tq 5]),ou 7 6,om 3 7] [0,1,2] [2]:=⟨rx,rx⟩
def g97:=rg Tryz.f97
def c97:bw:=(.seq (g97 2) (.seq (g97 5) .ret))
theorem b97:Tryz.f97.body=some c97:=by kernel_rfl
@[simp] theorem x97:SX 9 (g97 2) [oq 3 (.box (tq 1)),ot 4 false] [0,1] [3]/\SX 9 (g97 5) [om 5 0,oq 6 (.oth (.makeFunc (.func 132) #[] #[tq 3])),od 7 131 [tq 5,tq 6],ou 8 7,om 4 8] [0,1,3] [3]:=⟨rx,rx⟩
def AF2:=rg Tryz.f132
def AMZ:bw:=(.seq (AF2 2) (.seq (AF2 5) .ret))
theorem b132:Tryz.f132.body=some AMZ:=by kernel_rfl
@[simp] theorem BG6:SX 8 (AF2 2) [ot 3 false] [0,1] []/\SX 8 (AF2 5) [ol 4 113 1,om 5 0,oq 6 (.call false none (tq 4) [tq 5]),ou 7 6,om 3 7] [0,1,2] [2]:=⟨rx,rx⟩
def AF3:=rg Tryz.f145
def AYT:bw:=(.seq (AF3 2) (.seq (AF3 5) .ret))
theorem A83:Tryz.f145.body=some AYT:=by kernel_rfl
@[simp] theorem BG7:SX 11 (AF3 2) [oq 3 (.box (tq 0)),oq 4 (.box (tq 1)),oq 5 (.box (tq 2)),ot 6 false] [0,1,2] [3]/\SX 11 (AF3 5) [oz 7 39 3 4,ol 8 37 7,oq 9 (.oth (.makeFunc (.func 175) #[] #[tq 5,tq 4])),od 10 165 [tq 8,tq 9],om 6 10] [0,1,2,3,4,5,6] [3,4,5,6]:=⟨rx,rx⟩
def AF4:=rg Tryz.f175
def AYU:bw:=(.seq (AF4 2) (.seq (AF4 5) .ret))
theorem b175:Tryz.f175.body=some AYU:=by kernel_rfl
@[simp] theorem BG8:SX 16 (AF4 2) [oq 3 (.box (tq 0)),ot 4 false] [0,1,2] []/\SX 16 (AF4 5) [oz 5 171 3 0,ol 6 3 5,ol 7 3 1,ob 8 .neq 3 6 7,om 9 8,gz 9 false 10 171 3 1,gl 9 false 11 151 10,gz 9 false 12 162 2 2,gl 9 false 13 3 12,gd 9 false 14 176 [tq 11,tq 13],oq 15 (.pick (tq 9) (cb true) (tq 14)),om 4 15] [1,2,3] [3]:=⟨rx,rx⟩
def FA:=rg Tryz.f144
@[simp] def zY:bw:=(.seq (FA 559) (.seq (.cond (.tmp 24) .skip (.exit 0)) (.seq (.block 1 (.seq (FA 9007) (.seq (.seq (FA 37679) (.cond (.tmp 36) (.seq (FA 152367) .ret) .skip)) (.seq (FA 45871) (.seq (.seq (FA 160559) (.seq (FA 357167) (.cond (.tmp 46) (.seq (FA 1274671) .ret) .skip))) (FA 127791)))))) (FA 3887))))
def VA:=zY
def AM0:bw:=(.seq (FA 2) (.seq (.seq (FA 9) (.cond (.tmp 16) (.seq (FA 37) .ret) .skip)) (.seq (FA 11) (.seq (FA 23) (.seq (.seq (FA 79) (.block 0 (.loop VA))) (.seq (FA 95) .ret))))))
theorem A84:Tryz.f144.body=some AM0:=by kernel_rfl
@[simp] theorem BG9:UX 53 VA zY/\SX 53 (FA 2) [oq 2 (.box (tq 0)),oq 4 (.mv (.const (.slice none 0 0))),ot 5 false] [0,1] [2]/\SX 53 (FA 9) [om 11 1,oe 12 11 36,oz 13 39 2 3,ol 14 36 13,oe 15 14 36,ob 16 .neq 3 12 15] [1,2] [2]/\SX 53 (FA 37) [oq 4 (.mv (.const (.slice none 0 0))),ot 5 false] [] []/\SX 53 (FA 11) [ol 17 39 2,oq 18 (.call true none (.func 168) [tq 17]),oq 6 (.alloc 162),os (.sto 162 (tq 6) (tq 18))] [1,2] [2]/\SX 53 (FA 23) [ol 19 162 6,oq 20 (.buildS 193 1 [(0,tq 19)]),om 7 20] [1,2,6] [2,6]/\SX 53 (FA 79) [om 21 1,oe 22 21 36,ok 23 0] [1,2,6,7] [2,6,50]/\SX 53 (FA 559) [ob 24 .lss 3 23 22] [2,6,7,21,22,23] [2,6,50]/\SX 53 (FA 9007) [om 25 23,oi 26 36 21 23,ol 27 96 26,oq 9 (.alloc 96),om 8 25,os (.sto 96 (tq 9) (tq 27))] [2,6,7,21,22,23] [2,6,50]/\RX 53 (FA 37679) (.drw [⟨[],[ol 28 39 2,oz 29 39 2 3,ol 30 36 29,om 31 8,oi 32 36 30 31,ol 33 96 32,ol 34 96 9],[od 35 174 [tq 28,tq 33,tq 34]]⟩,⟨[],[ou 36 35],[]⟩]) (some ([2,6,7,8,9,21,22,23],[2,6,9,50]))/\SX 53 (FA 152367) [oq 4 (.mv (.const (.slice none 0 0))),ot 5 false] [] []/\SX 53 (FA 45871) [ot 10 false] [2,6,7,8,9,21,22,23] [2,6,9,50]/\SX 53 (FA 160559) [ol 38 39 2,ol 39 162 6,om 40 8,ol 41 96 9,od 42 171 [tq 38,tq 39,tq 40,tq 41],om 37 42,oq 43 (.oth (.extract (tq 37) 0)),oq 44 (.oth (.extract (tq 37) 1)),os (.sto 162 (tq 6) (tq 43)),om 10 44] [2,6,7,8,9,21,22,23] [2,6,9,50]/\SX 53 (FA 357167) [om 45 10,ou 46 45] [2,6,7,10,21,22,23] [2,6,50]/\SX 53 (FA 1274671) [oq 4 (.mv (.const (.slice none 0 0))),ot 5 false] [] []/\SX 53 (FA 127791) [om 47 7,ol 48 162 6,oq 49 (.buildS 193 1 [(0,tq 48)]),oq 50 (.app [tq 47,tq 49] [193,193]),om 7 50] [2,6,7,21,22,23] [2,6,50]/\SX 53 (FA 3887) [oc 51 .add 3 23 1,om 23 51] [2,6,7,21,22,23] [2,6,50]/\SX 53 (FA 95) [om 52 7,om 4 52,ot 5 true] [7] [50]/\LX 53 VA [2,6,7,21,22,23] [2,6,50]:=by and_intros<;>first|exact rx|exact lx|exact fun _ _=>rfl
def KH:=rg Tryz.f117
@[simp] def zZ:bw:=(.seq (KH 279) (.seq (.cond (.tmp 21) .skip (.exit 0)) (.seq (.block 1 (.seq (KH 4503) (KH 6551))) (KH 1943))))
def VB:=zZ
def AF5:bw:=(.seq (KH 2) (.seq (.seq (KH 9) (.cond (.tmp 11) (.seq (KH 37) .ret) .skip)) (.seq (KH 11) (.seq (.seq (KH 39) (.block 0 (.loop VB))) (.seq (KH 47) .ret)))))
theorem A85:Tryz.f117.body=some AF5:=by kernel_rfl
@[simp] theorem BHA:UX 34 VB zZ/\SX 34 (KH 2) [oq 2 (.box (tq 0)),ot 4 false] [0,1] [2,15]/\SX 34 (KH 9) [ol 9 39 2,od 10 137 [tq 9],oc 11 .neq 33 10 0] [1,2] [2,15]/\SX 34 (KH 37) [ot 4 false] [] []/\SX 34 (KH 11) [ol 13 39 2,om 14 1,od 15 144 [tq 13,tq 14],om 12 15,oq 16 (.oth (.extract (tq 12) 0)),oq 17 (.oth (.extract (tq 12) 1)),om 5 16,om 6 17] [1,2] [2,15]/\SX 34 (KH 39) [om 18 5,oe 19 18 193,ok 20 0] [2,5,6] [2,15]/\SX 34 (KH 279) [ob 21 .lss 3 20 19] [2,6,18,19,20] [2,15]/\SX 34 (KH 4503) [om 22 20,oi 23 193 18 20,ol 24 162 23,oq 8 (.alloc 162),om 7 22,os (.sto 162 (tq 8) (tq 24))] [2,6,18,19,20] [2,15]/\SX 34 (KH 6551) [om 25 6,om 26 25,gl 26 true 27 39 2,gl 26 true 28 162 8,gm 26 true 29 7,gd 26 true 30 145 [tq 27,tq 28,tq 29],oq 31 (.pick (tq 26) (tq 30) (cb false)),om 6 31] [2,6,7,8,18,19,20] [2,8,15]/\SX 34 (KH 1943) [oc 32 .add 3 20 1,om 20 32] [2,6,18,19,20] [2,15]/\SX 34 (KH 47) [om 33 6,om 4 33] [6] []/\LX 34 VB [2,6,18,19,20] [2,15]:=⟨fun _ _=>rfl,rx,rx,rx,rx,rx,rx,rx,rx,rx,rx,lx⟩
def QO:=rg Tryz.f187
@[simp] def AAA:bw:=(.seq (QO 69) (.seq (.cond (.tmp 7) .skip (.exit 0)) (.seq (.block 1 (.seq (QO 1125) (QO 1637))) (QO 485))))
def cU:=AAA
def AYV:bw:=(.seq (QO 2) (.seq (.seq (QO 9) (.block 0 (.loop cU))) (.seq (QO 11) .ret)))
theorem A86:Tryz.f187.body=some AYV:=by kernel_rfl
@[simp] theorem BHB:UX 17 cU AAA/\SX 17 (QO 2) [oq 1 (.box (tq 0)),oq 2 (.alloc 160)] [0] []/\SX 17 (QO 9) [ol 5 160 1,ok 6 0] [1,2] [1,2]/\SX 17 (QO 69) [oc 7 .lss 3 6 4] [2,5,6] [2]/\SX 17 (QO 1125) [om 8 6,oq 9 (.oth (.index 160 (tq 5) (tq 6))),om 3 8,om 4 9] [2,5,6] [2]/\SX 17 (QO 1637) [om 10 3,om 11 4,oq 12 (.buildS 32 2 [(0,tq 11),(1,ci 1)]),oq 13 (.call true none (.func 166) [tq 12]),oi 14 160 2 10,os (.sto 3 (tq 14) (tq 13))] [2,3,4,5,6] [2]/\SX 17 (QO 485) [oc 15 .add 3 6 1,om 6 15] [2,5,6] [2]/\SX 17 (QO 11) [ol 16 160 2,os (.sto 160 (tq 2) (tq 16))] [2] [2]/\LX 17 cU [2,5,6] [2]:=⟨fun _ _=>rfl,rx,rx,rx,rx,rx,rx,rx,lx⟩
def E2:=rg Tryz.f167
@[simp] def rP:bw:=(.seq (E2 2239) (.seq (.cond (.tmp 64) .skip (.exit 0)) (.seq (.block 1 (.seq (E2 36031) (.seq (E2 85183) (.seq (E2 183487) (.cond (.tmp 85) (.seq (E2 642239) (.exit 0)) .skip))))) (E2 15551))))
def QP:=rP
def gN:bw:=(.seq (E2 2) (.seq (.seq (E2 9) (.cond (.tmp 21) (.seq (E2 37) .ret) .skip)) (.seq (.seq (E2 19) (.cond (.tmp 29) (.seq (E2 75) .ret) .skip)) (.seq (E2 23) (.seq (E2 47) (.seq (.seq (E2 159) (.cond (.tmp 47) (.seq (E2 607) .ret) .skip)) (.seq (.seq (E2 319) (.block 0 (.loop QP))) (.seq (E2 383) (.seq (E2 767) .ret)))))))))
theorem b167:Tryz.f167.body=some gN:=by kernel_rfl
@[simp] theorem BHC:UX 94 QP rP/\SX 94 (E2 2) [oq 4 (.box (tq 1)),ot 6 false] [0,1,2] [61]/\RX 94 (E2 9) (.drw [⟨[],[om 14 0,oq 15 (.oth (.nilCheck (tq 14))),oz 16 222 15 0,ol 17 39 16,ol 18 162 4,om 19 2],[od 20 145 [tq 17,tq 18,tq 19]]⟩,⟨[],[ou 21 20],[]⟩]) (some ([0,2,4],[4,61]))/\SX 94 (E2 37) [ot 6 false] [] []/\SX 94 (E2 19) [om 22 2,om 23 0,oq 24 (.oth (.nilCheck (tq 23))),oz 25 222 24 0,oz 26 39 25 3,ol 27 36 26,oe 28 27 36,ob 29 .eql 3 22 28] [0,2,4] [4,61]/\SX 94 (E2 75) [ot 6 true] [] []/\RX 94 (E2 23) (.drw [⟨[7],[om 30 2,oz 31 162 4 0,oq 32 (.ldz 160 (tq 31)),od 33 187 [tq 32],oz 34 162 4 1,oq 35 (.ldz 160 (tq 34)),od 36 187 [tq 35],oq 37 (.build 239 [(0,tq 30),(1,tq 33),(2,tq 36)]),oq 7 (.alloc 239)],[os (.sto 239 (tq 7) (tq 37))]⟩]) (some ([0,2,4],[4,61]))/\RX 94 (E2 47) (.drw [⟨[],[om 39 0,oq 40 (.oth (.nilCheck (tq 39))),oz 41 222 40 1,ol 42 220 41,ol 43 239 7,oq 44 (.oth (.lookup 220 (tq 42) (tq 43) true)),om 38 44,oq 45 (.oth (.extract (tq 38) 0)),oq 46 (.oth (.extract (tq 38) 1)),om 8 45,om 9 46],[]⟩]) (some ([0,2,4,7],[4,7,61]))/\SX 94 (E2 159) [om 47 9] [0,2,4,7,8,9] [4,7,61]/\SX 94 (E2 607) [om 48 8,om 6 48] [8] []/\RX 94 (E2 319) (.drw [⟨[],[om 49 0,oq 50 (.oth (.nilCheck (tq 49))),oz 51 222 50 0,ol 52 39 51,om 53 0,oq 54 (.oth (.nilCheck (tq 53))),oz 55 222 54 0,oz 56 39 55 3,ol 57 36 56,om 58 2,oi 59 36 57 58,ol 60 96 59,od 61 142 [tq 52,tq 60],oe 62 61 36,ok 63 0],[]⟩]) (some ([0,2,4,7,8],[4,7]))/\SX 94 (E2 2239) [ob 64 .lss 3 63 62] [0,2,4,7,8,61,62,63] [4,7,61]/\SX 94 (E2 36031) [oi 65 36 61 63,ol 66 96 65,oq 11 (.alloc 96),os (.sto 96 (tq 11) (tq 66))] [0,2,4,7,8,61,62,63] [4,7,61]/\RX 94 (E2 85183) (.drw [⟨[12],[om 68 0,oq 69 (.oth (.nilCheck (tq 68))),oz 70 222 69 0,oq 71 (.ldz 39 (tq 70)),oq 72 (.ldz 162 (tq 4)),om 73 2,oq 74 (.ldz 96 (tq 11)),od 75 171 [tq 71,tq 72,tq 73,tq 74],om 67 75,oq 76 (.oth (.extract (tq 67) 0)),oq 77 (.oth (.extract (tq 67) 1)),oq 12 (.alloc 162),os (.sto 162 (tq 12) (tq 76)),om 13 77],[]⟩]) (some ([0,2,4,7,8,11,61,62,63],[4,7,11,61]))/\SX 94 (E2 183487) [om 78 13,om 79 78,gm 79 true 80 0,gl 79 true 81 162 12,gm 79 true 82 2,gc 79 true 83 .add 3 82 1,gd 79 true 84 167 [tq 80,tq 81,tq 83],oq 85 (.pick (tq 79) (tq 84) (cb false))] [0,2,4,7,8,12,13,61,62,63] [4,7,12,61]/\SX 94 (E2 642239) [ot 8 true] [0,7] [7,61]/\SX 94 (E2 15551) [oc 86 .add 3 63 1,om 63 86] [0,2,4,7,8,61,62,63] [4,7,61]/\RX 94 (E2 383) (.drw [⟨[],[om 87 0,oq 88 (.oth (.nilCheck (tq 87))),oz 89 222 88 1,ol 90 220 89,ol 91 239 7,om 92 8],[os (.upd 220 (tq 90) (tq 91) (tq 92))]⟩]) (some ([0,7,8],[7,61]))/\SX 94 (E2 767) [om 93 8,om 6 93] [8] []/\LX 94 QP [0,2,4,7,8,61,62,63] [4,7,61]:=by and_intros<;>first|exact rx|exact lx|exact fun _ _=>rfl
def AF6:=rg Tryz.f138
def AYW:bw:=(.seq (AF6 2) (.seq (AF6 5) .ret))
theorem A87:Tryz.f138.body=some AYW:=by kernel_rfl
@[simp] theorem BHD:SX 10 (AF6 2) [oq 1 (.box (tq 0)),ot 2 false] [0] [1,4,6]/\RX 10 (AF6 5) (.drw [⟨[4,6],[ol 3 39 1,ol 7 39 1,od 8 168 [tq 7],oq 4 (.mkM none),oq 5 (.build 222 [(0,tq 3),(1,tq 4)]),oq 6 (.box (tq 5))],[oq 9 (.callM false 6 (.func 167) [tq 6,tq 8,ci 0])]⟩,⟨[],[om 2 9],[]⟩]) (some ([1],[1])):=⟨rx,rx⟩
def MU:=rg Tryz.f105
def AAB:bw:=(.seq (MU 2) (.seq (.seq (MU 9) (.block 0 (.seq (MU 37) (.cond (.tmp 8) (.seq (MU 149) .ret) (.seq (MU 181) (.cond (.tmp 12) (.seq (MU 629) .ret) (.seq (MU 757) (.cond (.tmp 15) (.seq (MU 2549) .ret) .skip)))))))) (.seq (MU 11) .ret)))
theorem A88:Tryz.f105.body=some AAB:=by kernel_rfl
@[simp] theorem BHE:SX 19 (MU 2) [oq 2 (.box (tq 0)),ok 4 0] [0,1] [2]/\SX 19 (MU 9) [ol 6 39 2,od 7 137 [tq 6],om 5 7] [0,1,2,3] [2,3]/\SX 19 (MU 37) [om 9 5,oc 10 .neq 33 9 0,om 8 10] [1,2,5] [2]/\SX 19 (MU 149) [om 11 5,om 4 11] [5] []/\SX 19 (MU 181) [om 13 1,ou 14 13,om 12 14] [1,2] [2]/\SX 19 (MU 629) [ok 4 2] [] []/\SX 19 (MU 757) [ol 16 39 2,od 17 138 [tq 16],ou 18 17,om 15 18] [2] [2]/\SX 19 (MU 2549) [ok 4 11] [] []/\SX 19 (MU 11) [ok 4 0] [] []:=by and_intros<;>exact rx
def AF7:=rg Tryz.f139
def AYX:bw:=(.seq (AF7 2) (.seq (AF7 5) .ret))
theorem A89:Tryz.f139.body=some AYX:=by kernel_rfl
@[simp] theorem BHF:SX 4 (AF7 2) [oq 1 (.box (tq 0)),oq 2 (.mv (.const .nilFunc))] [0] [1]/\SX 4 (AF7 5) [oq 3 (.oth (.makeFunc (.func 169) #[] #[tq 1])),om 2 3] [1] [1]:=⟨rx,rx⟩
def UI:=rg Tryz.f169
def AYY:bw:=(.seq (UI 2) (.seq (UI 5) (.seq (UI 11) (.seq (UI 23) (.seq (UI 47) (UI 63))))))
theorem b169:Tryz.f169.body=some AYY:=by kernel_rfl
@[simp] theorem BHG:SX 22 (UI 2) [oq 2 (.box (tq 0))] [0,1] [2,3,4,5,9,14]/\RX 22 (UI 5) (.drw [⟨[9,14,3,4],[oz 6 39 1 3,oq 7 (.ldz 36 (tq 6)),oe 8 7 36,oz 10 39 1 3,ol 11 36 10,oe 12 11 36,oc 13 .add 3 12 1,oq 9 (.mkS 36 (tq 8) (tq 8)),oq 14 (.mkS 193 (tq 13) (tq 13)),oq 3 (.alloc 36),oq 4 (.alloc 193),os (.sto 36 (tq 3) (tq 9))],[os (.sto 193 (tq 4) (tq 14))]⟩]) (some ([1,2],[2,5]))/\SX 22 (UI 11) [oq 5 (.alloc 126)] [1,2,3,4] [2,3,4,5,9,14]/\SX 22 (UI 23) [oq 15 (.oth (.makeFunc (.func 170) #[] #[tq 1,tq 4,tq 3,tq 2,tq 5])),os (.sto 126 (tq 5) (tq 15))] [1,2,3,4,5] [2,3,4,5,9,14]/\RX 22 (UI 47) (.drw [⟨[18],[oq 16 (.ldz 193 (tq 4)),oq 17 (.ldz 39 (tq 1)),oq 18 (.call true none (.func 168) [tq 17]),oq 19 (.oth (.indexAddr 193 (tq 16) (ci 0)))],[os (.sto 162 (tq 19) (tq 18))]⟩]) (some ([1,4,5],[2,3,4,5,9,14]))/\SX 22 (UI 63) [ol 20 126 5,oq 21 (.call false none (tq 20) [ci 0])] [5] [2,3,4,5,9,14]:=⟨rx,rx,rx,rx,rx,rx⟩
def GJ:=rg Tryz.f170
@[simp] def AAC:bw:=(.seq (GJ 279) (.seq (.cond (.tmp 37) .skip (.exit 0)) (.seq (.block 1 (.seq (GJ 4503) (.seq (GJ 10647) (.seq (.seq (GJ 39319) (.cond (.tmp 52) (.exit 1) .skip)) (.seq (GJ 47511) (.seq (GJ 96663) (.cond (.tmp 66) (.seq (GJ 326039) .ret) .skip))))))) (GJ 1943))))
def VC:=AAC
def uH:bw:=(.seq (GJ 2) (.seq (.seq (GJ 9) (.cond (.tmp 19) (.seq (GJ 37) .ret) .skip)) (.seq (.seq (GJ 19) (.cond (.tmp 23) (.seq (GJ 75) .ret) .skip)) (.seq (.seq (GJ 39) (.block 0 (.loop VC))) (.seq (GJ 47) .ret)))))
theorem b170:Tryz.f170.body=some uH:=by kernel_rfl
@[simp] theorem BHH:UX 68 VC AAC/\SX 68 (GJ 2) [ot 7 false] [0,1,2,3,4,5] [34]/\RX 68 (GJ 9) (.drw [⟨[],[ol 12 39 1,ol 13 193 2,om 14 0,oi 15 193 13 14,ol 16 162 15,om 17 0],[od 18 145 [tq 12,tq 16,tq 17]]⟩,⟨[],[ou 19 18],[]⟩]) (some ([0,1,2,3,4,5],[34]))/\SX 68 (GJ 37) [ot 7 true] [] []/\SX 68 (GJ 19) [om 20 0,ol 21 36 3,oe 22 21 36,ob 23 .eql 3 20 22] [0,1,2,3,4,5] [34]/\SX 68 (GJ 75) [ol 24 224 4,ol 25 36 3,ol 26 193 2,oq 27 (.call false none (tq 24) [tq 25,tq 26]),om 7 27] [2,3,4] []/\RX 68 (GJ 39) (.drw [⟨[],[ol 28 39 1,oz 29 39 1 3,ol 30 36 29,om 31 0,oi 32 36 30 31,ol 33 96 32,od 34 142 [tq 28,tq 33],oe 35 34 36,ok 36 0],[]⟩]) (some ([0,1,2,3,5],[]))/\SX 68 (GJ 279) [ob 37 .lss 3 36 35] [0,1,2,3,5,34,35,36] [34]/\SX 68 (GJ 4503) [oi 38 36 34 36,ol 39 96 38,oq 9 (.alloc 96),os (.sto 96 (tq 9) (tq 39))] [0,1,2,3,5,34,35,36] [34]/\RX 68 (GJ 10647) (.drw [⟨[10],[oq 41 (.ldz 39 (tq 1)),oq 42 (.ldz 193 (tq 2)),om 43 0,oi 44 193 42 43,oq 45 (.ldz 162 (tq 44)),om 46 0,oq 47 (.ldz 96 (tq 9)),od 48 171 [tq 41,tq 45,tq 46,tq 47],om 40 48,oq 49 (.oth (.extract (tq 40) 0)),oq 50 (.oth (.extract (tq 40) 1)),oq 10 (.alloc 162),os (.sto 162 (tq 10) (tq 49)),om 11 50],[]⟩]) (some ([0,1,2,3,5,9,34,35,36],[9,34]))/\SX 68 (GJ 39319) [om 51 11,ou 52 51] [0,1,2,3,5,9,10,11,34,35,36] [9,10,34]/\RX 68 (GJ 47511) (.drw [⟨[],[oq 53 (.ldz 36 (tq 3)),om 54 0,ol 55 193 2,om 56 0,oc 57 .add 3 56 1,oq 58 (.ldz 96 (tq 9)),ol 59 162 10,oi 60 36 53 54,os (.sto 96 (tq 60) (tq 58)),oi 61 193 55 57],[os (.sto 162 (tq 61) (tq 59))]⟩]) (some ([0,1,2,3,5,9,10,34,35,36],[9,10,34]))/\SX 68 (GJ 96663) [ol 62 126 5,om 63 0,oc 64 .add 3 63 1,oq 65 (.call false none (tq 62) [tq 64]),ou 66 65] [0,1,2,3,5,34,35,36] [34]/\SX 68 (GJ 1943) [oc 67 .add 3 36 1,om 36 67] [0,1,2,3,5,34,35,36] [34]/\SX 68 (GJ 47) [ot 7 true] [] []/\LX 68 VC [0,1,2,3,5,34,35,36] [34]:=by and_intros<;>first|exact rx|exact lx|exact fun _ _=>rfl
def D4:=rg Tryz.f133
def AYZ:bw:=(.seq (D4 2) (.seq (D4 5) (.seq (.seq (D4 19) (.block 0 (.rangeFunc (.tmp 12) #[13,14] (D4 75) (.block 1 (.seq (D4 299) (.seq (.seq (D4 1195) (.cond (.tmp 21) (D4 2731) .skip)) (D4 939))))))) (.seq (D4 23) .ret))))
theorem A9A:Tryz.f133.body=some AYZ:=by kernel_rfl
@[simp] theorem AAD:RX 29 (D4 75) (.str [om 9 14]) (some ([4,5,6,7,14],[4,5,6,7])):=rx
@[simp] theorem BHI:SX 29 (D4 2) [oq 3 (.box (tq 0)),oq 4 (.box (tq 1)),oq 5 (.box (tq 2)),oq 6 (.alloc 151)] [0,1,2] [3,5,12]/\SX 29 (D4 5) [oq 7 (.alloc 4),os (.sto 4 (tq 7) (cb true))] [3,4,5,6] [3,4,5,6,12]/\SX 29 (D4 19) [ol 11 39 3,od 12 139 [tq 11]] [3,4,5,6,7] [3,4,5,6,7,12]/\RX 29 (D4 299) (.drw [⟨[],[ol 15 188 5,om 16 9,ol 17 3 4,oi 18 193 16 17,ol 19 162 18],[oq 20 (.call false none (tq 15) [tq 19])]⟩,⟨[],[om 10 20],[]⟩]) (some ([4,5,6,7,9],[4,5,6,7]))/\SX 29 (D4 1195) [ol 21 4 7] [6,7,10] [6,7]/\SX 29 (D4 2731) [om 22 10,om 23 10,oq 24 (.build 151 [(0,tq 22),(1,tq 23)]),os (.sto 151 (tq 6) (tq 24)),os (.sto 4 (tq 7) (cb false))] [6,7,10] [6,7]/\SX 29 (D4 939) [ol 25 151 6,om 26 10,oq 27 (.call true none (.func 160) [tq 25,tq 26]),os (.sto 151 (tq 6) (tq 27))] [6,10] [6]/\SX 29 (D4 23) [ol 28 151 6,os (.sto 151 (tq 6) (tq 28))] [6] [6]:=by and_intros<;>exact rx
def AF8:=rg Tryz.f134
def AY0:bw:=(.seq (AF8 2) (.seq (AF8 5) .ret))
theorem A9B:Tryz.f134.body=some AY0:=by kernel_rfl
@[simp] theorem BHJ:SX 5 (AF8 2) [oq 1 (.box (tq 0)),ok 2 0] [0] [1]/\SX 5 (AF8 5) [oz 3 162 1 3,ol 4 3 3,om 2 4] [0,1] [1]:=⟨rx,rx⟩
def AF9:=rg Tryz.f160
def AY1:bw:=(.seq (AF9 2) (.seq (AF9 5) .ret))
theorem A9C:Tryz.f160.body=some AY1:=by kernel_rfl
@[simp] theorem BHK:SX 15 (AF9 2) [oq 2 (.box (tq 0)),oq 4 (.alloc 151)] [0,1] []/\RX 15 (AF9 5) (.drw [⟨[],[oz 5 151 2 0,oq 6 (.ldz 3 (tq 5)),om 7 1,oq 8 (.buildS 32 2 [(0,tq 6),(1,tq 7)]),od 9 166 [tq 8],oz 10 151 2 1,oq 11 (.ldz 3 (tq 10)),om 12 1,oq 13 (.oth (.call ⟨.builtin .max,#[tq 11,tq 12],#[3,3]⟩)),oq 14 (.build 151 [(0,tq 9),(1,tq 13)])],[os (.sto 151 (tq 4) (tq 14))]⟩]) (some ([1,2,4],[2,4])):=⟨rx,rx⟩
def g98:=rg Tryz.f98
def c98:bw:=(.seq (g98 2) (.seq (.seq (g98 9) (.seq (g98 21) (.cond (.tmp 8) (.seq (g98 77) .ret) .skip))) (.seq (g98 11) .ret)))
theorem b98:Tryz.f98.body=some c98:=by kernel_rfl
@[simp] theorem x98:SX 16 (g98 2) [oq 1 (.box (tq 0)),oq 2 (.alloc 151),ok 3 0] [0] [1]/\SX 16 (g98 9) [ol 5 39 1,od 6 105 [tq 5,cb true],om 4 6] [1,2] [1,2]/\SX 16 (g98 21) [om 7 4,oc 8 .neq 33 7 0] [1,2,4] [1,2]/\SX 16 (g98 77) [oq 9 (.build 151 []),om 10 4,os (.sto 151 (tq 2) (tq 9)),om 3 10] [2,4] [2]/\SX 16 (g98 11) [ol 11 39 1,oz 12 39 1 3,ol 13 36 12,oe 14 13 36,oq 15 (.call true none (.func 133) [tq 11,tq 14,.func 134]),os (.sto 151 (tq 2) (tq 15)),ok 3 0] [1,2] [1,2]:=⟨rx,rx,rx,rx,rx⟩
def AGA:=rg Tryz.f100
def AY2:bw:=(.seq (AGA 2) (.seq (AGA 5) .ret))
theorem A9E:Tryz.f100.body=some AY2:=by kernel_rfl
@[simp] theorem BHM:SX 15 (AGA 2) [ot 6 false] [0,1,2] []/\SX 15 (AGA 5) [om 7 1,om 8 0,ob 9 .leq 3 7 8,om 10 9,gm 10 true 11 0,gm 10 true 12 2,gb 10 true 13 .leq 3 11 12,oq 14 (.pick (tq 10) (tq 13) (cb false)),om 6 14] [0,1,2] []:=⟨rx,rx⟩
def g99:=rg Tryz.f99
def c99:bw:=(.seq (g99 2) (.seq (g99 5) .ret))
theorem b99:Tryz.f99.body=some c99:=by kernel_rfl
@[simp] theorem x99:SX 21 (g99 2) [oq 2 (.box (tq 0)),oq 3 (.box (tq 1)),ot 4 false] [0,1] [2]/\SX 21 (g99 5) [oz 5 98 3 0,ol 6 3 5,oz 7 43 2 0,oz 8 39 7 3,ol 9 36 8,oe 10 9 36,od 11 100 [tq 6,ci 0,tq 10],om 12 11,gz 12 true 13 98 3 2,gl 12 true 14 3 13,gz 12 true 15 43 2 0,gz 12 true 16 39 15 0,gl 12 true 17 3 16,gc 12 true 18 .sub 3 17 1,gd 12 true 19 100 [tq 14,ci 0,tq 18],oq 20 (.pick (tq 12) (tq 19) (cb false)),om 4 20] [2,3] [2,3]:=⟨rx,rx⟩
def Y7:=rg Tryz.f59
def c59:bw:=(.seq (Y7 2) (.seq (Y7 5) (.seq (.seq (Y7 19) (.cond (.tmp 23) (.seq (Y7 75) .ret) .skip)) (.seq (.seq (Y7 39) (.seq (Y7 87) (.cond (.tmp 31) (.seq (Y7 311) .ret) .skip))) (.seq (Y7 47) (.seq (.seq (Y7 159) (.cond (.tmp 52) (.seq (Y7 607) .ret) .skip)) (.seq (Y7 191) .ret)))))))
theorem b59:Tryz.f59.body=some c59:=by kernel_rfl
@[simp] theorem x59:SX 53 (Y7 2) [oq 1 (.box (tq 0)),ok 2 0] [0] [1,6]/\SX 53 (Y7 5) [oq 3 (.mv (.func 96))] [1] [1,6]/\SX 53 (Y7 19) [oz 7 43 1 1,ol 8 40 7,oe 9 8 40,oc 10 .gtr 3 9 4,om 11 10,gz 11 false 12 43 1 3,gl 11 false 13 41 12,ge 11 false 14 13 41,gc 11 false 15 .gtr 3 14 4,oq 16 (.pick (tq 11) (cb true) (tq 15)),om 17 16,gz 17 false 18 43 1 1,gl 17 false 19 40 18,gm 17 false 20 3,gd 17 false 21 97 [tq 19,tq 20],og 17 false 22 (.oth (.unOp .not 4 (tq 21))),oq 23 (.pick (tq 17) (cb true) (tq 22))] [1,3] [1,6]/\SX 53 (Y7 75) [ok 2 3] [] []/\SX 53 (Y7 39) [oz 25 43 1 0,ol 26 39 25,od 27 98 [tq 26],om 24 27,oq 28 (.oth (.extract (tq 24) 0)),oq 29 (.oth (.extract (tq 24) 1)),oq 4 (.alloc 151),os (.sto 151 (tq 4) (tq 28)),om 5 29] [1] [1,6]/\SX 53 (Y7 87) [om 30 5,oc 31 .neq 33 30 0] [1,5] [1,6]/\SX 53 (Y7 311) [om 32 5,om 2 32] [5] []/\SX 53 (Y7 47) [ol 33 43 1,oq 34 (.oth (.makeFunc (.func 99) #[tq 33] #[])),oq 6 (.alloc 127),os (.sto 127 (tq 6) (tq 34))] [1] [1,6]/\SX 53 (Y7 159) [oz 35 43 1 2,ol 36 3 35,od 37 100 [tq 36,ci 0,ci 4],ou 38 37,om 39 38,gz 39 false 40 43 1 3,gl 39 false 41 41 40,gl 39 false 42 127 6,gd 39 false 43 101 [tq 41,tq 42],og 39 false 44 (.oth (.unOp .not 4 (tq 43))),oq 45 (.pick (tq 39) (cb true) (tq 44)),om 46 45,gz 46 false 47 43 1 1,gl 46 false 48 40 47,og 46 false 49 (.oth (.makeFunc (.func 102) #[] #[tq 6])),gd 46 false 50 97 [tq 48,tq 49],og 46 false 51 (.oth (.unOp .not 4 (tq 50))),oq 52 (.pick (tq 46) (cb true) (tq 51))] [1,6] [1,6]/\SX 53 (Y7 607) [ok 2 1] [] []/\SX 53 (Y7 191) [ok 2 0] [] []:=by and_intros<;>exact rx
def g96:=rg Tryz.f96
def c96:bw:=(.seq (g96 2) (.seq (g96 5) .ret))
theorem b96:Tryz.f96.body=some c96:=by kernel_rfl
@[simp] theorem x96:SX 6 (g96 2) [ot 2 false] [0] []/\SX 6 (g96 5) [om 3 0,oe 4 3 41,oc 5 .leq 3 4 4,om 2 5] [0,1,2] [1,2]:=⟨rx,rx⟩
def AGB:=rg Tryz.f102
def AY3:bw:=(.seq (AGB 2) (.seq (AGB 5) .ret))
theorem b102:Tryz.f102.body=some AY3:=by kernel_rfl
@[simp] theorem BHQ:SX 7 (AGB 2) [ot 3 false] [0,1] []/\SX 7 (AGB 5) [om 4 0,ol 5 127 1,od 6 101 [tq 4,tq 5],om 3 6] [0,1,2] [2]:=⟨rx,rx⟩
def g68:=rg Tryz.f68
def c68:bw:=(.seq (g68 2) (.seq (g68 5) .ret))
theorem b68:Tryz.f68.body=some c68:=by kernel_rfl
@[simp] theorem x68:SX 10 (g68 2) [ot 4 false] [0,1] []/\SX 10 (g68 5) [om 5 1,om 6 0,oq 7 (.oth (.makeFunc (.func 78) #[tq 6] #[])),od 8 101 [tq 5,tq 7],ou 9 8,om 4 9] [0,1,2,3] [2,3]:=⟨rx,rx⟩
def mJ:=rg Tryz.f72
@[simp] def AJL:bw:=(.seq (mJ 69) (.seq (.cond (.tmp 11) .skip (.exit 0)) (.seq (.block 1 (.seq (mJ 1125) (.seq (mJ 2661) (.cond (.tmp 16) (mJ 5733) .skip)))) (mJ 485))))
def V6:=AJL
def c72:bw:=(.seq (mJ 2) (.seq (.seq (mJ 9) (.block 0 (.loop V6))) (.seq (mJ 11) .ret)))
theorem b72:Tryz.f72.body=some c72:=by kernel_rfl
@[simp] theorem x72:UX 21 V6 AJL/\SX 21 (mJ 2) [oq 2 (.box (tq 0)),ok 4 0] [0,1] [2]/\SX 21 (mJ 9) [oz 7 43 2 1,ol 8 40 7,oe 9 8 40,ok 10 0] [1,2,4] [2]/\SX 21 (mJ 69) [ob 11 .lss 3 10 9] [1,4,8,9,10] [2]/\SX 21 (mJ 1125) [oi 12 40 8 10,ol 13 41 12,om 6 13] [1,4,8,9,10] [2]/\SX 21 (mJ 2661) [om 14 1,om 15 6,od 16 68 [tq 14,tq 15]] [1,4,6,8,9,10] [2]/\SX 21 (mJ 5733) [om 17 4,oc 18 .add 3 17 1,om 4 18] [1,4,8,9,10] [2]/\SX 21 (mJ 485) [oc 19 .add 3 10 1,om 10 19] [1,4,8,9,10] [2]/\SX 21 (mJ 11) [om 20 4,om 4 20] [4] []/\LX 21 V6 [1,4,8,9,10] [2]:=⟨fun _ _=>rfl,rx,rx,rx,rx,rx,rx,rx,rx,lx⟩
def mW:=rg Tryz.f118
def AY4:bw:=(.seq (mW 2) (.seq (.seq (mW 9) (.cond (.tmp 4) (.seq (mW 37) .ret) .skip)) (.seq (mW 11) .ret)))
theorem A9F:Tryz.f118.body=some AY4:=by kernel_rfl
@[simp] theorem BHT:SX 8 (mW 2) [oq 2 (.mv (.const (.slice none 0 0)))] [0] []/\SX 8 (mW 9) [om 3 0,oq 4 (.bin .eql 36 (tq 3) (.const (.slice none 0 0)))] [0] []/\SX 8 (mW 11) [oq 5 (.buildS 36 0 []),om 6 0,oq 7 (.app [tq 5,tq 6] [36,36]),om 2 7] [0] []:=⟨rx,rx,rx⟩
def g58:=rg Tryz.f58
def c58:bw:=(.seq (g58 2) (.seq (.seq (g58 9) (.cond (.tmp 9) (.seq (g58 37) .ret) .skip)) (.seq (g58 11) (.seq (g58 23) .ret))))
def aD:=rg Tryz.f84
@[simp] def AJM:bw:=(lp (aD 267) 11 0 1 (.seq (aD 1099) (.cond (.tmp 20) (.seq (aD 4683) (.seq (aD 10827) (.cond (.tmp 26) (aD 23115) .skip))) .skip)) (aD 459))
def cV:=AJM
def c84:bw:=(.seq (aD 2) (.seq (aD 5) (.seq (.seq (aD 19) (.block 0 (.loop cV))) (.seq (aD 23) .ret))))
theorem b84:Tryz.f84.body=some c84:=by kernel_rfl
@[simp] theorem x84:UX 29 cV AJM/\SX 29 (aD 2) [ok 6 0] [0,1,2] []/\SX 29 (aD 5) [oq 7 (.mv (.const (.int .i64 (bj 0))))] [0,1,2] []/\SX 29 (aD 19) [ok 8 0] [0,1,2,7] []/\SX 29 (aD 267) [om 9 8,om 10 1,ob 11 .lss 3 9 10] [0,1,2,7,8] []/\SX 29 (aD 1099) [om 14 0,om 15 8,oi 16 22 14 15,oz 17 133 16 1,ol 18 3 17,om 19 2,ob 20 .eql 3 18 19] [0,1,2,7,8] []/\SX 29 (aD 4683) [oq 7 (.mv (.const (.int .i64 (bj 0))))] [0,1,2,8] []/\SX 29 (aD 10827) [om 21 0,om 22 8,oi 23 22 21 22,oz 24 133 23 0,ol 25 3 24,oc 26 .eql 3 25 1] [0,1,2,7,8] []/\SX 29 (aD 23115) [om 27 8,om 7 27] [0,1,2,8] []/\SX 29 (aD 459) [om 12 8,oc 13 .add 3 12 1,om 8 13] [0,1,2,7,8] []/\SX 29 (aD 23) [om 28 7,om 6 28] [7] []/\LX 29 cV [0,1,2,7,8] []:=⟨fun _ _=>rfl,rx,rx,rx,rx,rx,rx,rx,rx,rx,rx,lx⟩
def aE:=rg Tryz.f83
@[simp] def AJN:bw:=(lp (aE 267) 11 0 1 (.seq (aE 1099) (.cond (.tmp 20) (.seq (aE 4683) (.seq (aE 10827) (.cond (.tmp 26) (aE 23115) .skip))) .skip)) (aE 459))
def cW:=AJN
def c83:bw:=(.seq (aE 2) (.seq (aE 5) (.seq (.seq (aE 19) (.block 0 (.loop cW))) (.seq (aE 23) .ret))))
theorem b83:Tryz.f83.body=some c83:=by kernel_rfl
@[simp] theorem x83:UX 29 cW AJN/\SX 29 (aE 2) [ok 6 0] [0,1,2] []/\SX 29 (aE 5) [oq 7 (.mv (.const (.int .i64 (bj 0))))] [0,1,2] []/\SX 29 (aE 19) [ok 8 0] [0,1,2,7] []/\SX 29 (aE 267) [om 9 8,om 10 1,ob 11 .lss 3 9 10] [0,1,2,7,8] []/\SX 29 (aE 1099) [om 14 0,om 15 8,oi 16 22 14 15,oz 17 133 16 2,ol 18 3 17,om 19 2,ob 20 .eql 3 18 19] [0,1,2,7,8] []/\SX 29 (aE 4683) [oq 7 (.mv (.const (.int .i64 (bj 0))))] [0,1,2,8] []/\SX 29 (aE 10827) [om 21 0,om 22 8,oi 23 22 21 22,oz 24 133 23 0,ol 25 3 24,oc 26 .eql 3 25 1] [0,1,2,7,8] []/\SX 29 (aE 23115) [om 27 8,om 7 27] [0,1,2,8] []/\SX 29 (aE 459) [om 12 8,oc 13 .add 3 12 1,om 8 13] [0,1,2,7,8] []/\SX 29 (aE 23) [om 28 7,om 6 28] [7] []/\LX 29 cW [0,1,2,7,8] []:=⟨fun _ _=>rfl,rx,rx,rx,rx,rx,rx,rx,rx,rx,rx,lx⟩
def MV:=rg Tryz.f124
@[simp] def AAE:bw:=(lp (MV 267) 13 0 1 (.seq (MV 1099) (.cond (.tmp 21) (MV 2635) (MV 3659))) (MV 459))
def VD:=AAE
def AY6:bw:=(.seq (MV 2) (.seq (MV 5) (.seq (.seq (MV 19) (.block 0 (.loop VD))) (.seq (MV 23) .ret))))
theorem A9G:Tryz.f124.body=some AY6:=by kernel_rfl
@[simp] theorem BHW:UX 31 VD AAE/\SX 31 (MV 2) [oq 3 (.box (tq 0)),ok 6 0] [0,1,2] [3]/\SX 31 (MV 5) [oz 9 25 3 2,ol 10 3 9,om 7 10] [1,2,3] [3]/\SX 31 (MV 19) [ok 8 0] [1,2,3,7] [3]/\SX 31 (MV 267) [om 11 8,om 12 2,ob 13 .lss 3 11 12] [1,2,3,7,8] [3]/\SX 31 (MV 1099) [om 16 1,om 17 8,oi 18 22 16 17,oz 19 133 18 0,ol 20 3 19,oc 21 .eql 3 20 1] [1,2,3,7,8] [3]/\SX 31 (MV 2635) [om 22 7,oz 23 25 3 1,ol 24 3 23,ob 25 .add 3 22 24,om 7 25] [1,2,3,7,8] [3]/\SX 31 (MV 3659) [om 26 7,oz 27 25 3 1,ol 28 3 27,ob 29 .sub 3 26 28,om 7 29] [1,2,3,7,8] [3]/\SX 31 (MV 459) [om 14 8,oc 15 .add 3 14 1,om 8 15] [1,2,3,7,8] [3]/\SX 31 (MV 23) [om 30 7,om 6 30] [7] []/\LX 31 VD [1,2,3,7,8] [3]:=⟨fun _ _=>rfl,rx,rx,rx,rx,rx,rx,rx,rx,rx,lx⟩
def g80:=rg Tryz.f80
@[simp] def AJO:bw:=(lp (g80 267) 16 0 1 (.seq (g80 1099) (.seq (g80 2635) (.cond (.tmp 54) (.seq (g80 9803) .ret) .skip))) (g80 459))
def mX:=AJO
def c80:bw:=(.seq (g80 2) (.seq (.seq (g80 9) (.cond (.tmp 12) (.seq (g80 37) .ret) .skip)) (.seq (.seq (g80 19) (.block 0 (.loop mX))) (.seq (g80 23) .ret))))
@[simp] theorem x80:UX 55 mX AJO/\LX 55 mX [1,2,5] [2]:=⟨fun _ _=>rfl,lx⟩
def fR:=rg Tryz.f81
@[simp] def AJP:bw:=(lp (fR 133) 10 0 1 (.seq (fR 549) (.seq (fR 1317) (.seq (fR 2853) (.cond (.tmp 44) (.seq (fR 10021) .ret) .skip)))) (fR 229))
def cX:=AJP
def c81:bw:=(.seq (fR 2) (.seq (.seq (fR 9) (.block 0 (.loop cX))) (.seq (fR 11) .ret)))
theorem b81:Tryz.f81.body=some c81:=by kernel_rfl
@[simp] theorem x81:UX 45 cX AJP/\SX 45 (fR 2) [ot 2 false] [0] []/\SX 45 (fR 9) [ok 3 0] [0] []/\SX 45 (fR 133) [om 7 3,om 8 0,oe 9 8 22,ob 10 .lss 3 7 9] [0,3] []/\RX 45 (fR 549) (.drw [⟨[],[om 13 0,om 14 3,om 15 0,om 16 3,oi 17 22 15 16,oz 18 133 17 1,ol 19 3 18,od 20 84 [tq 13,tq 14,tq 19],oc 21 .geq 3 20 0,om 22 0,om 23 3,om 24 0,om 25 3,oi 26 22 24 25,oz 27 133 26 2,ol 28 3 27,od 29 83 [tq 22,tq 23,tq 28],oc 30 .geq 3 29 0,om 4 21,om 5 30],[]⟩]) (some ([0,3],[]))/\SX 45 (fR 1317) [om 31 0,om 32 3,oi 33 22 31 32,oz 34 133 33 0,ol 35 3 34,oc 36 .eql 3 35 2,om 6 36] [0,3,4,5] []/\SX 45 (fR 2853) [om 37 4,om 38 6,ob 39 .neq 4 37 38,om 40 39,gm 40 false 41 5,gm 40 false 42 6,gb 40 false 43 .neq 4 41 42,oq 44 (.pick (tq 40) (cb true) (tq 43))] [0,3,4,5,6] []/\SX 45 (fR 10021) [ot 2 false] [] []/\SX 45 (fR 229) [om 11 3,oc 12 .add 3 11 1,om 3 12] [0,3] []/\SX 45 (fR 11) [ot 2 true] [] []/\LX 45 cX [0,3] []:=⟨fun _ _=>rfl,rx,rx,rx,rx,rx,rx,rx,rx,rx,lx⟩
def mK:=rg Tryz.f82
@[simp] def AJQ:bw:=(lp (mK 133) 11 0 1 (.seq (mK 549) (.seq (mK 1317) (.cond (.tmp 31) (.seq (mK 4901) .ret) .skip))) (mK 229))
def cY:=AJQ
def c82:bw:=(.seq (mK 2) (.seq (.seq (mK 9) (.block 0 (.loop cY))) (.seq (mK 11) .ret)))
theorem b82:Tryz.f82.body=some c82:=by kernel_rfl
@[simp] theorem x82:UX 32 cY AJQ/\SX 32 (mK 2) [oq 2 (.box (tq 0)),ot 4 false] [0,1] [2]/\SX 32 (mK 9) [ok 5 0] [1,2] [2]/\SX 32 (mK 133) [om 7 5,oz 8 25 2 4,ol 9 23 8,oe 10 9 23,ob 11 .lss 3 7 10] [1,2,5] [2]/\SX 32 (mK 549) [oz 14 25 2 4,ol 15 23 14,om 16 5,oi 17 23 15 16,ol 18 168 17,oq 6 (.alloc 168),os (.sto 168 (tq 6) (tq 18))] [1,2,5] [2]/\RX 32 (mK 1317) (.drw [⟨[],[ol 19 25 2,om 20 1,oz 21 168 6 0,ol 22 3 21,od 23 124 [tq 19,tq 20,tq 22],oz 24 168 6 1,oz 25 166 24 0,ol 26 3 25,oz 27 168 6 1,oz 28 166 27 1,ol 29 3 28],[od 30 48 [tq 23,tq 26,tq 29]]⟩,⟨[],[ou 31 30],[]⟩]) (some ([1,2,5,6],[2,6]))/\SX 32 (mK 4901) [ot 4 false] [] []/\SX 32 (mK 229) [om 12 5,oc 13 .add 3 12 1,om 5 13] [1,2,5] [2]/\SX 32 (mK 11) [ot 4 true] [] []/\LX 32 cY [1,2,5] [2]:=⟨fun _ _=>rfl,rx,rx,rx,rx,rx,rx,rx,rx,lx⟩
def O1:=rg Tryz.f122
@[simp] def AAF:bw:=(lp (O1 267) 12 0 1 (.seq (O1 1099) (O1 1611)) (O1 459))
def VE:=AAF
def AY7:bw:=(.seq (O1 2) (.seq (O1 5) (.seq (.seq (O1 19) (.block 0 (.loop VE))) (.seq (O1 23) .ret))))
theorem A9H:Tryz.f122.body=some AY7:=by kernel_rfl
@[simp] theorem BHZ:UX 37 VE AAF/\SX 37 (O1 2) [oq 2 (.box (tq 0)),oq 4 (.mv (.const (.slice none 0 0)))] [0,1] [2,21]/\SX 37 (O1 5) [oq 5 (.mv (.const (.slice none 0 0)))] [1,2] [2,21]/\SX 37 (O1 19) [ok 6 0] [1,2,5] [2,21,31]/\SX 37 (O1 267) [om 8 6,oz 9 25 2 3,ol 10 22 9,oe 11 10 22,ob 12 .lss 3 8 11] [1,2,5,6] [2,21,31]/\RX 37 (O1 1099) (.drw [⟨[],[ol 15 25 2,oz 16 25 2 3,ol 17 22 16,om 18 6,oi 19 22 17 18,ol 20 133 19],[od 21 140 [tq 15,tq 20]]⟩,⟨[],[om 7 21],[]⟩]) (some ([1,2,5,6],[2,31]))/\RX 37 (O1 1611) (.drw [⟨[],[om 22 5,om 23 7,om 24 1,om 25 7,oe 26 25 22,ob 27 .rem 3 24 26,oi 28 22 23 27,ol 29 133 28,oq 30 (.buildS 22 1 [(0,tq 29)]),om 32 1,om 33 7,oe 34 33 22,ob 35 .quo 3 32 34,oq 31 (.app [tq 22,tq 30] [22,22]),om 5 31,om 1 35],[]⟩]) (some ([1,2,5,6,7],[2,21,31]))/\SX 37 (O1 459) [om 13 6,oc 14 .add 3 13 1,om 6 14] [1,2,5,6] [2,21,31]/\SX 37 (O1 23) [om 36 5,om 4 36] [5] [31]/\LX 37 VE [1,2,5,6] [2,21,31]:=⟨fun _ _=>rfl,rx,rx,rx,rx,rx,rx,rx,rx,lx⟩
def g74:=rg Tryz.f74
@[simp] def AJR:bw:=(lp (g74 267) 9 0 1 (.seq (g74 1099) (.seq (g74 2635) (.cond (.tmp 21) (g74 5707) .skip))) (g74 459))
def mY:=AJR
def c74:bw:=(.seq (g74 2) (.seq (g74 5) (.seq (.seq (g74 19) (.block 0 (.loop mY))) (.seq (g74 23) .ret))))
@[simp] theorem x74:UX 27 mY AJR/\LX 27 mY [1,3,4] [1,14,25]:=⟨fun _ _=>rfl,lx⟩
def O2:=rg Tryz.f120
@[simp] def AAG:bw:=(lp (O2 133) 8 0 1 (.seq (O2 549) (.seq (O2 1317) (.cond (.tmp 20) (.seq (O2 4901) .ret) .skip))) (O2 229))
def VF:=AAG
def AM1:bw:=(.seq (O2 2) (.seq (.seq (O2 9) (.block 0 (.loop VF))) (.seq (O2 11) .ret)))
theorem A9I:Tryz.f120.body=some AM1:=by kernel_rfl
@[simp] theorem BH0:UX 21 VF AAG/\SX 21 (O2 2) [oq 1 (.box (tq 0)),ot 2 false] [0] [1,13]/\SX 21 (O2 9) [ok 3 0] [1] [1,13]/\SX 21 (O2 133) [om 5 3,ol 6 25 1,od 7 112 [tq 6],ob 8 .lss 3 5 7] [1,3] [1,13]/\SX 21 (O2 549) [ol 11 25 1,om 12 3,od 13 122 [tq 11,tq 12],om 4 13] [1,3] [1,13]/\SX 21 (O2 1317) [om 14 4,od 15 81 [tq 14],om 16 15,gl 16 true 17 25 1,gm 16 true 18 4,gd 16 true 19 82 [tq 17,tq 18],oq 20 (.pick (tq 16) (tq 19) (cb false))] [1,3,4] [1,13]/\SX 21 (O2 4901) [ot 2 true] [] []/\SX 21 (O2 229) [om 9 3,oc 10 .add 3 9 1,om 3 10] [1,3] [1,13]/\SX 21 (O2 11) [ot 2 false] [] []/\LX 21 VF [1,3] [1,13]:=⟨fun _ _=>rfl,rx,rx,rx,rx,rx,rx,rx,rx,lx⟩
def AGD:=rg Tryz.f121
def AY8:bw:=(.seq (AGD 2) (.seq (AGD 5) .ret))
theorem A9J:Tryz.f121.body=some AY8:=by kernel_rfl
@[simp] theorem BH1:SX 21 (AGD 2) [oq 2 (.box (tq 0)),oq 3 (.box (tq 1)),ot 4 false] [0,1] [2]/\SX 21 (AGD 5) [oz 5 54 3 0,ol 6 3 5,oz 7 29 2 0,oz 8 25 7 3,ol 9 22 8,oe 10 9 22,od 11 48 [tq 6,ci 0,tq 10],om 12 11,gz 12 true 13 54 3 2,gl 12 true 14 3 13,gz 12 true 15 29 2 0,gz 12 true 16 25 15 0,gl 12 true 17 3 16,gc 12 true 18 .sub 3 17 1,gd 12 true 19 48 [tq 14,ci 0,tq 18],oq 20 (.pick (tq 12) (tq 19) (cb false)),om 4 20] [2,3] [2,3]:=⟨rx,rx⟩
def g35:=rg Tryz.f35
@[simp] def AJT:bw:=(lp (g35 267) 11 0 1 (.seq (g35 1099) (.cond (.tmp 20) (g35 2635) .skip)) (g35 459))
def mZ:=AJT
def c35:bw:=(.seq (g35 2) (.seq (g35 5) (.seq (.seq (g35 19) (.block 0 (.loop mZ))) (.seq (g35 23) .ret))))
@[simp] theorem x35:UX 24 mZ AJT/\LX 24 mZ [1,2,5,6] [2]:=⟨fun _ _=>rfl,lx⟩
def HB:=rg Tryz.f73
@[simp] def AJU:bw:=(lp (HB 267) 22 0 1 (.seq (HB 1099) (.cond (.tmp 31) (.seq (HB 4683) .ret) .skip)) (HB 459))
def V7:=AJU
@[simp] def AAH:bw:=(lp (HB 4287) 50 2 3 (.seq (HB 17599) (.cond (.tmp 60) (.seq (HB 74943) .ret) .skip)) (HB 7359))
def QQ:=AAH
@[simp] def AAI:bw:=(lp (HB 543103) 75 6 7 (.seq (HB 2247039) (.cond (.tmp 88) (.seq (HB 9587071) .ret) .skip)) (HB 936319))
def QR:=AAI
@[simp] def AAJ:bw:=(lp (HB 8575) 65 4 5 (.seq (HB 35199) (.block 6 (.loop QR))) (HB 14719))
def QS:=AAJ
def c73:bw:=(.seq (HB 2) (.seq (.seq (HB 9) (.cond (.tmp 17) (.seq (HB 37) .ret) .skip)) (.seq (.seq (HB 19) (.block 0 (.loop V7))) (.seq (.seq (HB 39) (.seq (HB 87) (.cond (.tmp 36) (.seq (HB 311) .ret) .skip))) (.seq (.seq (HB 79) (.cond (.tmp 41) (.seq (HB 303) .ret) .skip)) (.seq (.seq (HB 159) (.cond (.tmp 45) (.seq (HB 607) .ret) .skip)) (.seq (.seq (HB 319) (.block 2 (.loop QQ))) (.seq (.seq (HB 639) (.block 4 (.loop QS))) (.seq (HB 767) .ret)))))))))
theorem b73:Tryz.f73.body=some c73:=by kernel_rfl
@[simp] theorem x73:UX 89 V7 AJU/\UX 89 QQ AAH/\UX 89 QR AAI/\UX 89 QS AAJ/\SX 89 (HB 2) [oq 1 (.box (tq 0)),ok 2 0] [0] [1]/\SX 89 (HB 9) [oz 8 29 1 1,ol 9 26 8,oe 10 9 26,oc 11 .gtr 3 10 4,om 12 11,gz 12 false 13 29 1 3,gl 12 false 14 27 13,ge 12 false 15 14 27,gc 12 false 16 .gtr 3 15 4,oq 17 (.pick (tq 12) (cb true) (tq 16))] [1] [1]/\SX 89 (HB 37) [ok 2 3] [] []/\SX 89 (HB 19) [ok 3 0] [1] [1]/\SX 89 (HB 267) [om 18 3,oz 19 29 1 1,ol 20 26 19,oe 21 20 26,ob 22 .lss 3 18 21] [1,3] [1]/\SX 89 (HB 1099) [oz 25 29 1 1,ol 26 26 25,om 27 3,oi 28 26 26 27,ol 29 27 28,oe 30 29 27,oc 31 .gtr 3 30 4] [1,3] [1]/\SX 89 (HB 4683) [ok 2 3] [] []/\SX 89 (HB 459) [om 23 3,oc 24 .add 3 23 1,om 3 24] [1,3] [1]/\SX 89 (HB 39) [oz 32 29 1 0,ol 33 25 32,od 34 111 [tq 33],om 4 34] [1] [1]/\SX 89 (HB 87) [om 35 4,oc 36 .neq 3 35 0] [1,4] [1]/\SX 89 (HB 311) [om 37 4,om 2 37] [4] []/\SX 89 (HB 79) [oz 38 29 1 0,ol 39 25 38,od 40 120 [tq 39],ou 41 40] [1] [1]/\SX 89 (HB 303) [ok 2 11] [] []/\SX 89 (HB 159) [oz 42 29 1 2,ol 43 3 42,od 44 48 [tq 43,ci 0,ci 4],ou 45 44] [1] [1]/\SX 89 (HB 607) [ok 2 1] [] []/\SX 89 (HB 319) [ok 5 0] [1] [1]/\SX 89 (HB 4287) [om 46 5,oz 47 29 1 3,ol 48 27 47,oe 49 48 27,ob 50 .lss 3 46 49] [1,5] [1]/\RX 89 (HB 17599) (.drw [⟨[],[ol 53 29 1,oz 54 29 1 3,ol 55 27 54,om 56 5,oi 57 27 55 56,ol 58 54 57],[od 59 121 [tq 53,tq 58]]⟩,⟨[],[ou 60 59],[]⟩]) (some ([1,5],[1]))/\SX 89 (HB 74943) [ok 2 1] [] []/\SX 89 (HB 7359) [om 51 5,oc 52 .add 3 51 1,om 5 52] [1,5] [1]/\SX 89 (HB 639) [ok 6 0] [1] [1]/\SX 89 (HB 8575) [om 61 6,oz 62 29 1 1,ol 63 26 62,oe 64 63 26,ob 65 .lss 3 61 64] [1,6] [1]/\SX 89 (HB 35199) [ok 7 0] [1,6] [1]/\SX 89 (HB 543103) [om 68 7,oz 69 29 1 1,ol 70 26 69,om 71 6,oi 72 26 70 71,ol 73 27 72,oe 74 73 27,ob 75 .lss 3 68 74] [1,6,7] [1]/\RX 89 (HB 2247039) (.drw [⟨[],[ol 78 29 1,oz 79 29 1 1,ol 80 26 79,om 81 6,oi 82 26 80 81,ol 83 27 82,om 84 7,oi 85 27 83 84,ol 86 54 85],[od 87 121 [tq 78,tq 86]]⟩,⟨[],[ou 88 87],[]⟩]) (some ([1,6,7],[1]))/\SX 89 (HB 9587071) [ok 2 1] [] []/\SX 89 (HB 936319) [om 76 7,oc 77 .add 3 76 1,om 7 77] [1,6,7] [1]/\SX 89 (HB 14719) [om 66 6,oc 67 .add 3 66 1,om 6 67] [1,6] [1]/\SX 89 (HB 767) [ok 2 0] [] []/\LX 89 V7 [1,3] [1]/\LX 89 QQ [1,5] [1]/\LX 89 QS [1,6] [1]/\LX 89 QR [1,6,7] [1]:=by and_intros<;>first|exact rx|exact lx|exact fun _ _=>rfl
def rQ:=rg Tryz.f67
@[simp] def AJV:bw:=(lp (rQ 267) 8 0 1 (rQ 587) (rQ 459))
def V8:=AJV
def c67:bw:=(.seq (rQ 2) (.seq (rQ 5) (.seq (.seq (rQ 19) (.block 0 (.loop V8))) (.seq (rQ 23) .ret))))
theorem b67:Tryz.f67.body=some c67:=by kernel_rfl
@[simp] theorem x67:UX 36 V8 AJV/\SX 36 (rQ 2) [oq 2 (.mv (.const (.slice none 0 0)))] [0] []/\SX 36 (rQ 5) [oq 3 (.mv (.const (.slice none 0 0)))] [0] []/\SX 36 (rQ 19) [ok 4 0] [0,3] [34]/\SX 36 (rQ 267) [om 5 4,om 6 0,oe 7 6 27,ob 8 .lss 3 5 7] [0,3,4] [34]/\RX 36 (rQ 587) (.drw [⟨[],[om 11 3,om 12 0,om 13 4,oi 14 27 12 13,oz 15 54 14 0,ol 16 3 15,om 17 0,om 18 4,oi 19 27 17 18,oz 20 54 19 1,ol 21 4 20,om 22 0,om 23 4,oi 24 27 22 23,oz 25 54 24 2,ol 26 3 25,om 27 0,om 28 4,oi 29 27 27 28,oz 30 54 29 3,ol 31 4 30,oq 32 (.build 98 [(0,tq 16),(1,tq 21),(2,tq 26),(3,tq 31)]),oq 33 (.buildS 41 1 [(0,tq 32)]),oq 34 (.app [tq 11,tq 33] [41,41]),om 3 34],[]⟩]) (some ([0,3,4],[34]))/\SX 36 (rQ 459) [om 9 4,oc 10 .add 3 9 1,om 4 10] [0,3,4] [34]/\SX 36 (rQ 23) [om 35 3,om 2 35] [3] [34]/\LX 36 V8 [0,3,4] [34]:=⟨fun _ _=>rfl,rx,rx,rx,rx,rx,rx,rx,lx⟩
def rR:=rg Tryz.f22
@[simp] def AJW:bw:=(lp (rR 267) 18 0 1 (rR 587) (rR 459))
def V9:=AJW
def c22:bw:=(.seq (rR 2) (.seq (rR 5) (.seq (.seq (rR 19) (.block 0 (.loop V9))) (.seq (rR 23) .ret))))
theorem b22:Tryz.f22.body=some c22:=by kernel_rfl
@[simp] theorem BDM(n:Nat)(st:XS):AG bq ann kn (n+1) 33 (rR 459) st=S2 (O8 bq (BR bq ann kn n) (.str [om 19 4,oc 20 .add 3 19 1,om 4 20]) (CN (some ([1,2,3,4],[1,2,3,7,12,28,30])) (ZB [2000000000000030] st))) :=
 TG (by kernel_rfl) (by kernel_rfl) (by kernel_rfl) (by kernel_rfl) (by kernel_rfl)
@[simp] theorem x22:UX 33 V9 AJW/\SX 33 (rR 2) [oq 1 (.box (tq 0)),oq 2 (.alloc 43)] [0] [1,2,3,7,12,28,30]/\RX 33 (rR 5) (.drw [⟨[3],[oz 5 29 1 0,oq 6 (.ldz 25 (tq 5)),od 7 63 [tq 6],oz 8 29 1 2,oq 9 (.ldz 3 (tq 8)),oz 10 29 1 3,oq 11 (.ldz 27 (tq 10)),od 12 67 [tq 11],oq 13 (.build 43 [(0,tq 7),(2,tq 9),(3,tq 12)]),oq 3 (.alloc 43)],[os (.sto 43 (tq 3) (tq 13))]⟩]) (some ([1,2],[1,2,28,30]))/\SX 33 (rR 19) [ok 4 0] [1,2,3] [1,2,3,7,12,28,30]/\SX 33 (rR 267) [om 14 4,oz 15 29 1 1,ol 16 26 15,oe 17 16 26,ob 18 .lss 3 14 17] [1,2,3,4] [1,2,3,7,12,28,30]/\RX 33 (rR 587) (.drw [⟨[],[oz 21 43 3 1,oq 22 (.ldz 40 (tq 21)),oz 23 29 1 1,ol 24 26 23,om 25 4,oi 26 26 24 25,ol 27 27 26,od 28 67 [tq 27],oq 29 (.buildS 40 1 [(0,tq 28)]),oq 30 (.app [tq 22,tq 29] [40,40]),oz 31 43 3 1],[os (.sto 40 (tq 31) (tq 30))]⟩]) (some ([1,2,3,4],[1,2,3,7,12,30]))/\SX 33 (rR 23) [ol 32 43 3,os (.sto 43 (tq 2) (tq 32))] [2,3] [1,2,3,7,12,28,30]/\LX 33 V9 [1,2,3,4] [1,2,3,7,12,28,30]:=⟨fun _ _=>rfl,rx,rx,rx,rx,rx,rx,lx⟩
def fS:=rg Tryz.f19
@[simp] def AJX:bw:=(lp (fS 267) 24 0 1 (.seq (fS 1099) (.cond (.tmp 33) (.seq (fS 4683) .ret) .skip)) (fS 459))
def WA:=AJX
def c19:bw:=(.seq (fS 2) (.seq (.seq (fS 9) (.cond (.tmp 19) (.seq (fS 37) .ret) .skip)) (.seq (.seq (fS 19) (.block 0 (.loop WA))) (.seq (fS 23) .ret))))
theorem b19:Tryz.f19.body=some c19:=by kernel_rfl
@[simp] theorem x19:UX 34 WA AJX/\SX 34 (fS 2) [oq 1 (.box (tq 0)),ot 2 false] [0] [1]/\SX 34 (fS 9) [oz 4 29 1 0,ol 5 25 4,od 6 64 [tq 5],ou 7 6,om 8 7,gz 8 false 9 29 1 1,gl 8 false 10 26 9,ge 8 false 11 10 26,gc 8 false 12 .gtr 3 11 6,oq 13 (.pick (tq 8) (cb true) (tq 12)),om 14 13,gz 14 false 15 29 1 3,gl 14 false 16 27 15,ge 14 false 17 16 27,gc 14 false 18 .gtr 3 17 6,oq 19 (.pick (tq 14) (cb true) (tq 18))] [1] [1]/\SX 34 (fS 37) [ot 2 false] [] []/\SX 34 (fS 19) [ok 3 0] [1] [1]/\SX 34 (fS 267) [om 20 3,oz 21 29 1 1,ol 22 26 21,oe 23 22 26,ob 24 .lss 3 20 23] [1,3] [1]/\SX 34 (fS 1099) [oz 27 29 1 1,ol 28 26 27,om 29 3,oi 30 26 28 29,ol 31 27 30,oe 32 31 27,oc 33 .gtr 3 32 6] [1,3] [1]/\SX 34 (fS 4683) [ot 2 false] [] []/\SX 34 (fS 459) [om 25 3,oc 26 .add 3 25 1,om 3 26] [1,3] [1]/\SX 34 (fS 23) [ot 2 true] [] []/\LX 34 WA [1,3] [1]:=⟨fun _ _=>rfl,rx,rx,rx,rx,rx,rx,rx,rx,rx,lx⟩
def GK:=rg Tryz.f115
def AM2:bw:=(.seq (GK 2) (.seq (.seq (GK 9) (.seq (GK 21) (.cond (.tmp 18) (.seq (GK 77) .ret) .skip))) (.seq (GK 11) (.seq (.seq (GK 39) (.block 0 (.rangeFunc (.tmp 22) #[23,24] (GK 151) (.block 1 (GK 343))))) (.seq (GK 47) .ret)))))
theorem A9L:Tryz.f115.body=some AM2:=by kernel_rfl
@[simp] theorem AM3:RX 39 (GK 151) (.str [om 8 23]) (some ([3,7,23],[2,3,7,20,22,36,38])):=rx
@[simp] theorem BH6:SX 39 (GK 2) [oq 2 (.box (tq 0)),oq 3 (.box (tq 1)),oq 4 (.mv (.const (.slice none 0 0))),ok 5 0] [0,1] [2,7,20,22,36,38]/\RX 39 (GK 9) (.drw [⟨[],[ol 9 39 2,ol 10 3 3,oz 11 39 2 3,ol 12 36 11,oe 13 12 36,oc 14 .sub 3 13 1,od 15 106 [tq 10,ci 0,tq 14]],[od 16 105 [tq 9,tq 15]]⟩,⟨[],[om 6 16],[]⟩]) (some ([2,3],[2,3,7,20,22,36,38]))/\SX 39 (GK 21) [om 17 6,oc 18 .neq 33 17 0] [2,3,6] [2,3,7,20,22,36,38]/\SX 39 (GK 77) [om 19 6,oq 4 (.mv (.const (.slice none 0 0))),om 5 19] [6] []/\SX 39 (GK 11) [oq 20 (.mkM none),oq 7 (.alloc 195),os (.sto 195 (tq 7) (tq 20))] [2,3] [2,3,7,20,22,36,38]/\SX 39 (GK 39) [ol 21 39 2,od 22 139 [tq 21]] [2,3,7] [2,3,7,20,22,36,38]/\RX 39 (GK 343) (.drw [⟨[],[ol 25 195 7,om 26 8,ol 27 3 3,oi 28 36 26 27,ol 29 96 28],[os (.upd 195 (tq 25) (tq 29) (cb true))]⟩]) (some ([3,7,8],[2,3,7,20,22,36,38]))/\RX 39 (GK 47) (.drw [⟨[36],[ol 30 39 2,oz 31 39 2 3,ol 32 36 31,ol 33 3 3,oi 34 36 32 33,ol 35 96 34,oq 37 (.oth (.makeFunc (.func 143) #[] #[tq 7])),oq 36 (.call true none (.func 142) [tq 30,tq 35])],[od 38 141 [tq 36,tq 37]]⟩,⟨[],[om 4 38,ok 5 0],[]⟩]) (some ([2,3,7],[2,3,7,20,22])):=by and_intros<;>exact rx
def AGF:=rg Tryz.f143
def AZA:bw:=(.seq (AGF 2) (.seq (AGF 5) .ret))
theorem b143:Tryz.f143.body=some AZA:=by kernel_rfl
@[simp] theorem BH7:SX 8 (AGF 2) [oq 2 (.box (tq 0)),ot 3 false] [0,1] []/\SX 8 (AGF 5) [ol 4 195 1,ol 5 96 2,oq 6 (.oth (.lookup 195 (tq 4) (tq 5) false)),ou 7 6,om 3 7] [0,1,2] [2]:=⟨rx,rx⟩
def H2:=rg Tryz.f141
@[simp] def AAK:bw:=(lp (H2 535) 19 0 1 (.seq (H2 2199) (.seq (H2 5271) (.cond (.tmp 29) (.seq (H2 19607) (H2 27799)) .skip))) (H2 919))
def VG:=AAK
def AM4:bw:=(.seq (H2 2) (.seq (H2 5) (.seq (.seq (H2 19) (.cond (.tmp 12) (.seq (H2 75) .ret) .skip)) (.seq (.seq (H2 39) (.block 0 (.loop VG))) (.seq (H2 47) (.seq (H2 95) .ret))))))
theorem b141:Tryz.f141.body=some AM4:=by kernel_rfl
@[simp] theorem BH8:UX 42 VG AAK/\SX 42 (H2 2) [oq 4 (.mv (.const (.slice none 0 0)))] [0,1] []/\SX 42 (H2 5) [om 8 0,om 9 1,od 10 172 [tq 8,tq 9],om 5 10] [0,1] []/\SX 42 (H2 19) [om 11 5,oq 12 (.bin .eql 3 (tq 11) (.const (.int .i64 (bj 0))))] [0,1,5] []/\SX 42 (H2 75) [om 13 0,om 4 13] [0] []/\SX 42 (H2 39) [om 14 5,oc 15 .add 3 14 1,om 6 15] [0,1,5] []/\SX 42 (H2 535) [om 16 6,om 17 0,oe 18 17 36,ob 19 .lss 3 16 18] [0,1,5,6] []/\SX 42 (H2 2199) [om 22 0,om 23 6,oi 24 36 22 23,ol 25 96 24,oq 7 (.alloc 96),os (.sto 96 (tq 7) (tq 25))] [0,1,5,6] []/\SX 42 (H2 5271) [om 26 1,ol 27 96 7,oq 28 (.call false none (tq 26) [tq 27]),ou 29 28] [0,1,5,6,7] [7]/\SX 42 (H2 19607) [om 30 0,om 31 5,ol 32 96 7,oi 33 36 30 31,os (.sto 96 (tq 33) (tq 32))] [0,1,5,6,7] [7]/\SX 42 (H2 27799) [om 34 5,oc 35 .add 3 34 1,om 5 35] [0,1,5,6] []/\SX 42 (H2 919) [om 20 6,oc 21 .add 3 20 1,om 6 21] [0,1,5,6] []/\SX 42 (H2 47) [om 36 0,om 37 5,oq 38 (.oth (.slice 36 (tq 36) (some (tq 37)) none none)),os (.clr [tq 38] [36])] [0,5] []/\SX 42 (H2 95) [om 39 0,om 40 5,oq 41 (.oth (.slice 36 (tq 39) none (some (tq 40)) none)),om 4 41] [0,5] []/\LX 42 VG [0,1,5,6] []:=⟨fun _ _=>rfl,rx,rx,rx,rx,rx,rx,rx,rx,rx,rx,rx,rx,rx,lx⟩
def g70:=rg Tryz.f70
def c70:bw:=(.seq (g70 2) (.seq (g70 5) .ret))
theorem b70:Tryz.f70.body=some c70:=by kernel_rfl
@[simp] theorem x70:SX 4 (g70 2) [oq 1 (.box (tq 0)),oq 2 (.mv (.const .nilFunc))] [0] [1]/\SX 4 (g70 5) [oq 3 (.oth (.makeFunc (.func 114) #[] #[tq 1])),om 2 3] [1] [1]:=⟨rx,rx⟩
def IX:=rg Tryz.f114
@[simp] def AAL:bw:=(.seq (IX 139) (.seq (.cond (.tmp 14) .skip (.exit 0)) (.seq (.block 1 (.seq (IX 2251) (.seq (IX 5323) (IX 7371)))) (IX 971))))
def K8:=AAL
def AM5:bw:=(.seq (IX 2) (.seq (IX 5) (.seq (.seq (IX 19) (.block 0 (.loop K8))) (.seq (IX 23) (.seq (IX 47) (.seq (IX 95) (IX 127)))))))
theorem b114:Tryz.f114.body=some AM5:=by kernel_rfl
@[simp] theorem BIA:UX 34 K8 AAL/\SX 34 (IX 2) [oq 2 (.box (tq 0))] [0,1] [2,3,7,8,20,26,30]/\SX 34 (IX 5) [oq 3 (.alloc 173)] [1,2] [2,3,7,8,20,26,30]/\SX 34 (IX 19) [oz 9 43 1 0,oz 10 39 9 3,ol 11 36 10,oe 12 11 36,ok 13 0] [1,2,3] [2,3,7,8,20,26,30]/\SX 34 (IX 139) [ob 14 .lss 3 13 12] [1,2,3,12,13] [2,3,7,8,20,26,30]/\SX 34 (IX 2251) [om 15 13,om 4 15] [1,2,3,12,13] [2,3,7,8,20,26,30]/\SX 34 (IX 5323) [oz 17 43 1 0,ol 18 39 17,om 19 4,od 20 115 [tq 18,tq 19],om 16 20,oq 21 (.oth (.extract (tq 16) 0)),oq 22 (.oth (.extract (tq 16) 1)),om 5 21,om 6 22] [1,2,3,4,12,13] [2,3,7,8,20,26,30]/\SX 34 (IX 7371) [ol 23 173 3,om 24 5,oq 25 (.buildS 173 1 [(0,tq 24)]),oq 26 (.app [tq 23,tq 25] [173,173]),os (.sto 173 (tq 3) (tq 26))] [1,2,3,5,12,13] [2,3,7,8,20,26,30]/\SX 34 (IX 971) [oc 27 .add 3 13 1,om 13 27] [1,2,3,12,13] [2,3,7,8,20,26,30]/\SX 34 (IX 23) [ol 28 173 3,oe 29 28 173,oq 30 (.mkS 36 (tq 29) (tq 29)),oq 7 (.alloc 36),os (.sto 36 (tq 7) (tq 30))] [1,2,3] [2,3,7,8,20,26,30]/\SX 34 (IX 47) [oq 8 (.alloc 126)] [1,2,3,7] [2,3,7,8,20,26,30]/\SX 34 (IX 95) [oq 31 (.oth (.makeFunc (.func 116) #[] #[tq 3,tq 1,tq 7,tq 2,tq 8])),os (.sto 126 (tq 8) (tq 31))] [1,2,3,7,8] [2,3,7,8,20,26,30]/\SX 34 (IX 127) [ol 32 126 8,oq 33 (.call false none (tq 32) [ci 0])] [8] [2,3,7,8,20,26,30]/\LX 34 K8 [1,2,3,12,13] [2,3,7,8,20,26,30]:=⟨fun _ _=>rfl,rx,rx,rx,rx,rx,rx,rx,rx,rx,rx,rx,rx,lx⟩
def J6:=rg Tryz.f116
@[simp] def AAM:bw:=(.seq (J6 139) (.seq (.cond (.tmp 34) .skip (.exit 0)) (.seq (.block 1 (.seq (J6 2251) (.seq (J6 5323) (.seq (J6 11467) (.cond (.tmp 45) (.seq (J6 40139) .ret) .skip))))) (J6 971))))
def K9:=AAM
def cZ:bw:=(.seq (J6 2) (.seq (.seq (J6 9) (.cond (.tmp 13) (.seq (J6 37) .ret) .skip)) (.seq (.seq (J6 19) (.block 0 (.loop K9))) (.seq (J6 23) .ret))))
theorem b116:Tryz.f116.body=some cZ:=by kernel_rfl
@[simp] theorem A9M(n:Nat)(st:XS):AG bq ann kn (n+1) 47 (J6 37) st=S2 (O8 bq (cfU [20030,30030] (BR bq ann kn n)) (.drw [⟨[],[oz 14 43 2 0,ol 15 39 14,ol 16 36 3],[od 17 117 [tq 15,tq 16]]⟩,⟨[23,25],[ou 18 17,om 19 18,gl 19 false 20 138 4,gl 19 false 21 36 3,gd 19 false 22 118 [tq 21],og 19 false 23 (.mkM none),og 19 false 24 (.build 130 [(0,tq 22),(1,tq 23)]),og 19 false 25 (.box (tq 24))],[og 19 false 26 (.callM false 25 (tq 20) [tq 25])]⟩,⟨[],[oq 27 (.pick (tq 19) (cb true) (tq 26)),om 7 27],[]⟩]) (CN (some ([2,3,4],[])) (ZB [] st))) :=
 bX (by kernel_rfl) (by kernel_rfl) (by kernel_rfl) (by kernel_rfl) (by kernel_rfl) (by kernel_rfl)
@[simp] theorem BIB:UX 47 K9 AAM/\SX 47 (J6 2) [ot 7 false] [0,1,2,3,4,5] [22,23,25]/\SX 47 (J6 9) [om 10 0,ol 11 173 1,oe 12 11 173,ob 13 .eql 3 10 12] [0,1,2,3,4,5] [22,23,25]/\SX 47 (J6 19) [ol 28 173 1,om 29 0,oi 30 173 28 29,ol 31 36 30,oe 32 31 36,ok 33 0] [0,1,3,5] [22,23,25]/\SX 47 (J6 139) [ob 34 .lss 3 33 32] [0,3,5,31,32,33] [22,23,25]/\SX 47 (J6 2251) [oi 35 36 31 33,ol 36 96 35,oq 9 (.alloc 96),os (.sto 96 (tq 9) (tq 36))] [0,3,5,31,32,33] [22,23,25]/\SX 47 (J6 5323) [ol 37 36 3,om 38 0,ol 39 96 9,oi 40 36 37 38,os (.sto 96 (tq 40) (tq 39))] [0,3,5,9,31,32,33] [9,22,23,25]/\SX 47 (J6 11467) [ol 41 126 5,om 42 0,oc 43 .add 3 42 1,oq 44 (.call false none (tq 41) [tq 43]),ou 45 44] [0,3,5,31,32,33] [22,23,25]/\SX 47 (J6 971) [oc 46 .add 3 33 1,om 33 46] [0,3,5,31,32,33] [22,23,25]/\SX 47 (J6 23) [ot 7 true] [] []/\LX 47 K9 [0,3,5,31,32,33] [22,23,25]:=⟨fun _ _=>rfl,rx,rx,rx,rx,rx,rx,rx,rx,rx,lx⟩
def AGG:=rg Tryz.f113
def AZB:bw:=(.seq (AGG 2) (.seq (AGG 5) .ret))
theorem A9N:Tryz.f113.body=some AZB:=by kernel_rfl
@[simp] theorem BIC:SX 9 (AGG 2) [ot 4 false] [0,1] []/\SX 9 (AGG 5) [om 5 1,om 6 0,oq 7 (.oth (.makeFunc (.func 78) #[tq 6] #[])),od 8 101 [tq 5,tq 7],om 4 8] [0,1,3] [3]:=⟨rx,rx⟩
def Y8:=rg Tryz.f69
@[simp] def AJY:bw:=(.seq (Y8 139) (.seq (.cond (.tmp 20) .skip (.exit 0)) (.seq (.block 1 (.seq (Y8 2251) (.seq (Y8 5323) (.cond (.tmp 29) (.seq (Y8 19659) .ret) .skip)))) (Y8 971))))
def WB:=AJY
def c69:bw:=(.seq (Y8 2) (.seq (Y8 5) (.seq (.seq (Y8 19) (.block 0 (.loop WB))) (.seq (.seq (Y8 39) (.cond (.tmp 31) (.seq (Y8 151) .ret) .skip)) (.seq (Y8 47) .ret)))))
theorem b69:Tryz.f69.body=some c69:=by kernel_rfl
@[simp] theorem x69:UX 32 WB AJY/\SX 32 (Y8 2) [oq 3 (.box (tq 0)),ok 6 0] [0,1,2] [3]/\RX 32 (Y8 5) (.drw [⟨[],[oz 10 116 3 0,ol 11 112 10,om 12 1,oq 13 (.oth (.indexAddr 108 (tq 12) (ci 0))),ol 14 114 13,om 15 2],[oq 16 (.call false none (tq 11) [tq 14,tq 15])]⟩,⟨[],[om 7 16],[]⟩]) (some ([1,2,3],[3]))/\SX 32 (Y8 19) [om 17 1,oe 18 17 108,ok 19 0] [1,2,3,7] [3]/\SX 32 (Y8 139) [ob 20 .lss 3 19 18] [2,3,7,17,18,19] [3]/\SX 32 (Y8 2251) [oi 21 108 17 19,ol 22 114 21,om 9 22] [2,3,7,17,18,19] [3]/\SX 32 (Y8 5323) [oz 23 116 3 0,ol 24 112 23,om 25 9,om 26 2,oq 27 (.call false none (tq 24) [tq 25,tq 26]),om 28 7,ob 29 .neq 4 27 28] [2,3,7,9,17,18,19] [3]/\SX 32 (Y8 19659) [ok 6 3] [] []/\SX 32 (Y8 971) [oc 30 .add 3 19 1,om 19 30] [2,3,7,17,18,19] [3]/\SX 32 (Y8 39) [om 31 7] [7] []/\SX 32 (Y8 151) [ok 6 1] [] []/\SX 32 (Y8 47) [ok 6 2] [] []/\LX 32 WB [2,3,7,17,18,19] [3]:=⟨fun _ _=>rfl,rx,rx,rx,rx,rx,rx,rx,rx,rx,rx,rx,lx⟩
def g66:=rg Tryz.f66
def c66:bw:=(.seq (g66 2) (.seq (g66 5) .ret))
theorem b66:Tryz.f66.body=some c66:=by kernel_rfl
@[simp] theorem x66:SX 10 (g66 2) [oq 3 (.box (tq 1)),ok 4 0] [0,1] []/\SX 10 (g66 5) [oq 5 (.build 116 [(0,.func 113)]),om 6 0,ol 7 98 3,oq 8 (.buildS 41 1 [(0,tq 7)]),od 9 69 [tq 5,tq 6,tq 8],om 4 9] [0,1,2,3] [2,3]:=⟨rx,rx⟩
def IB:=rg Tryz.f65
def c65:bw:=(.seq (IB 2) (.seq (.seq (IB 9) (.seq (IB 21) (.cond (.tmp 12) (.seq (IB 77) .ret) .skip))) (.seq (.seq (IB 19) (.cond (.tmp 15) (.seq (IB 75) .ret) .skip)) (.seq (IB 23) (.seq (.seq (IB 79) (.block 0 (.rangeFunc (.tmp 20) #[21] (IB 303) (.block 1 (.seq (IB 1199) (.cond (.tmp 27) (IB 2735) .skip)))))) (.seq (.seq (IB 159) (.cond (.tmp 43) (.seq (IB 607) .ret) .skip)) (.seq (IB 191) .ret)))))))
theorem b65:Tryz.f65.body=some c65:=by kernel_rfl
@[simp] theorem AAN:RX 45 (IB 303) (.str [om 8 21]) (some ([2,7,21],[2,7,18,20,35,850])):=rx
@[simp] theorem A9P(n:Nat)(st:XS):AG bq ann kn (n+1) 45 (IB 2735) st=S2 (gpO [19008000851035] (O8 bq (BR bq ann kn n) (.drw [⟨[],[ol 28 104 7,ol 29 104 7,oq 30 (.oth (.nilCheck (tq 29))),oz 31 110 30 1,oq 32 (.ldz 108 (tq 31)),om 33 8,oq 34 (.buildS 108 1 [(0,tq 33)]),oq 35 (.app [tq 32,tq 34] [108,108]),oq 36 (.oth (.nilCheck (tq 28))),oz 37 110 36 1,os (.sto 108 (tq 37) (tq 35))],[]⟩]) (CN (some ([7,8],[2,7,18,20,35,850])) st))) :=
 xA (by kernel_rfl) (by kernel_rfl) (by kernel_rfl) (by kernel_rfl) (by kernel_rfl) (by kernel_rfl)
@[simp] theorem x65:SX 45 (IB 2) [oq 2 (.box (tq 0)),oq 4 (.mv (.const (.pointer none))),ok 5 0] [0,1] [2,7,18,20,35,850]/\SX 45 (IB 9) [ol 9 43 2,od 10 59 [tq 9],om 6 10] [1,2] [2,7,18,20,35,850]/\SX 45 (IB 21) [om 11 6,oc 12 .neq 33 11 0] [1,2,6] [2,7,18,20,35,850]/\SX 45 (IB 77) [om 13 6,oq 4 (.mv (.const (.pointer none))),om 5 13] [6] []/\SX 45 (IB 19) [om 14 1,ou 15 14] [1,2] [2,7,18,20,35,850]/\SX 45 (IB 75) [oq 4 (.mv (.const (.pointer none))),ok 5 2] [] []/\SX 45 (IB 23) [ol 16 43 2,oq 17 (.build 110 [(0,tq 16)]),oq 18 (.box (tq 17)),oq 7 (.alloc 104),os (.sto 104 (tq 7) (tq 18))] [2] [2,7,18,20,35,850]/\SX 45 (IB 79) [ol 19 43 2,od 20 70 [tq 19]] [2,7] [2,7,18,20,35,850]/\RX 45 (IB 1199) (.drw [⟨[],[ol 22 43 2,om 23 8,od 24 72 [tq 22,tq 23],oz 25 43 2 2,ol 26 3 25,ob 27 .leq 3 24 26],[]⟩]) (some ([2,7,8],[2,7,18,20,35,850]))/\SX 45 (IB 159) [ol 38 104 7,oq 39 (.oth (.nilCheck (tq 38))),oz 40 110 39 1,ol 41 108 40,oe 42 41 108,oc 43 .eql 3 42 0] [7] [2,7,18,20,35,850]/\SX 45 (IB 607) [oq 4 (.mv (.const (.pointer none))),ok 5 11] [] []:=by and_intros<;>exact rx
@[simp] theorem A9Q(n:Nat)(st:XS):AG bq ann kn (n+1) 45 (IB 191) st=S2 (O8 bq (BR bq ann kn n) (.str [ol 44 104 7,om 4 44,ok 5 0]) (CN (some ([7],[2,7,18,20,35,850])) (ZB [850,18] st))) :=
 TG (by kernel_rfl) (by kernel_rfl) (by kernel_rfl) (by kernel_rfl) (by kernel_rfl)
def Y9:=rg Tryz.f21
@[simp] def AJZ:bw:=(.seq (Y9 559) (.seq (.cond (.tmp 21) .skip (.exit 0)) (.seq (.block 1 (.seq (Y9 9007) (Y9 13103))) (Y9 3887))))
def WC:=AJZ
def c21:bw:=(.seq (Y9 2) (.seq (Y9 5) (.seq (.seq (Y9 19) (.cond (.tmp 15) (.seq (Y9 75) .ret) .skip)) (.seq (Y9 23) (.seq (.seq (Y9 79) (.block 0 (.loop WC))) (.seq (Y9 95) .ret))))))
theorem b21:Tryz.f21.body=some c21:=by kernel_rfl
@[simp] theorem x21:UX 35 WC AJZ/\SX 35 (Y9 2) [oq 1 (.box (tq 0)),oq 2 (.mv (.const (.slice none 0 0))),ok 3 0] [0] [1,11]/\SX 35 (Y9 5) [ol 10 43 1,od 11 65 [tq 10,cb true],om 9 11,oq 12 (.oth (.extract (tq 9) 0)),oq 13 (.oth (.extract (tq 9) 1)),om 4 12,om 5 13] [1] [1,11]/\SX 35 (Y9 19) [om 14 5,oc 15 .neq 33 14 0] [1,4,5] [1,11]/\SX 35 (Y9 75) [om 16 5,oq 2 (.mv (.const (.slice none 0 0))),om 3 16] [5] []/\SX 35 (Y9 23) [oq 6 (.mv (.const (.slice none 0 0)))] [1,4] [1,11]/\SX 35 (Y9 79) [oz 17 43 1 3,ol 18 41 17,oe 19 18 41,ok 20 0] [1,4,6] [1,11,32]/\SX 35 (Y9 559) [ob 21 .lss 3 20 19] [4,6,18,19,20] [1,11,32]/\SX 35 (Y9 9007) [oi 22 41 18 20,ol 23 98 22,oq 8 (.alloc 98),os (.sto 98 (tq 8) (tq 23))] [4,6,18,19,20] [1,11,32]/\RX 35 (Y9 13103) (.drw [⟨[],[om 24 6,om 25 4,oq 26 (.oth (.nilCheck (tq 25))),oz 27 110 26 1,ol 28 108 27,ol 29 98 8,od 30 66 [tq 28,tq 29],oq 31 (.buildS 32 1 [(0,tq 30)]),oq 32 (.app [tq 24,tq 31] [32,32]),om 6 32],[]⟩]) (some ([4,6,8,18,19,20],[1,8,11,32]))/\SX 35 (Y9 3887) [oc 33 .add 3 20 1,om 20 33] [4,6,18,19,20] [1,11,32]/\SX 35 (Y9 95) [om 34 6,om 2 34,ok 3 0] [6] [32]/\LX 35 WC [4,6,18,19,20] [1,11,32]:=⟨fun _ _=>rfl,rx,rx,rx,rx,rx,rx,rx,rx,rx,rx,rx,lx⟩
def QT:=rg Tryz.f24
def c24:bw:=(.seq (QT 2) (.seq (.seq (QT 9) (.seq (QT 21) (.cond (.tmp 10) (.seq (QT 77) .ret) .skip))) (.seq (QT 11) (.seq (.seq (QT 39) (.block 0 (.rangeFunc (.tmp 16) #[17] (QT 151) (.block 1 (QT 343))))) (.seq (QT 47) .ret)))))
theorem b24:Tryz.f24.body=some c24:=by kernel_rfl
@[simp] theorem AZC:RX 25 (QT 151) (.str [om 6 17]) (some ([1,5,17],[1,5,16])):=rx
@[simp] theorem x24:SX 25 (QT 2) [oq 1 (.box (tq 0)),ok 2 0,ok 3 0] [0] [1,16]/\SX 25 (QT 9) [ol 7 43 1,od 8 59 [tq 7],om 4 8] [1,2] [1,2,13,16]/\SX 25 (QT 21) [om 9 4,oc 10 .neq 33 9 0] [1,4] [1,16]/\SX 25 (QT 77) [om 11 4,ok 2 0,om 3 11] [4] []/\SX 25 (QT 11) [oz 12 43 1 1,ol 13 40 12,oe 14 13 40,oq 5 (.alloc 3),os (.sto 3 (tq 5) (tq 14))] [1] [1,16]/\SX 25 (QT 39) [ol 15 43 1,od 16 70 [tq 15]] [1,5] [1,5,16]/\RX 25 (QT 343) (.drw [⟨[],[oq 18 (.ldz 3 (tq 5)),oq 19 (.ldz 43 (tq 1)),om 20 6,od 21 72 [tq 19,tq 20],oq 22 (.buildS 32 2 [(0,tq 18),(1,tq 21)])],[oq 23 (.call true none (.func 71) [tq 22])]⟩,⟨[],[],[os (.sto 3 (tq 5) (tq 23))]⟩]) (some ([0,1,3,4,5,6],[1,5,16]))/\SX 25 (QT 47) [ol 24 3 5,om 2 24,ok 3 0] [5] [5]:=by and_intros<;>exact rx
def g71:=rg Tryz.f71
def c71:bw:=(.seq (g71 2) (.seq (g71 5) .ret))
theorem b71:Tryz.f71.body=some c71:=by kernel_rfl
@[simp] theorem x71:SX 5 (g71 2) [ok 2 0] [0] []/\SX 5 (g71 5) [om 3 0,od 4 119 [tq 3],om 2 4] [0,1] [1]:=⟨rx,rx⟩
def g45:=rg Tryz.f45
def c45:bw:=(.seq (g45 2) (.seq (g45 5) .ret))
theorem b45:Tryz.f45.body=some c45:=by kernel_rfl
@[simp] theorem x45:SX 10 (g45 2) [oq 1 (.box (tq 0)),ot 2 false] [0] [1,4,6]/\SX 10 (g45 5) [ol 3 29 1,od 4 19 [tq 3],om 5 4,gl 5 true 6 29 1,gd 5 true 7 73 [tq 6],gc 5 true 8 .eql 3 7 0,oq 9 (.pick (tq 5) (tq 8) (cb false)),om 2 9] [1] [1]:=⟨rx,rx⟩
def rS:=rg Tryz.f46
@[simp] def AJ0:bw:=(lp (rS 133) 15 0 1 (.seq (rS 549) (.cond (.tmp 33) (.seq (rS 2341) .ret) .skip)) (rS 229))
def WD:=AJ0
def c46:bw:=(.seq (rS 2) (.seq (.seq (rS 9) (.block 0 (.loop WD))) (.seq (rS 11) .ret)))
theorem b46:Tryz.f46.body=some c46:=by kernel_rfl
@[simp] theorem x46:UX 34 WD AJ0/\SX 34 (rS 2) [ot 4 false] [0,1] []/\SX 34 (rS 9) [ok 5 0] [0,1] []/\SX 34 (rS 133) [om 6 5,om 7 0,oe 8 7 32,ob 9 .lss 3 6 8,om 10 9,gm 10 true 11 5,gm 10 true 12 1,ge 10 true 13 12 32,gb 10 true 14 .lss 3 11 13,oq 15 (.pick (tq 10) (tq 14) (cb false))] [0,1,5] []/\RX 34 (rS 549) (.drw [⟨[],[om 18 0,om 19 5,oi 20 32 18 19,ol 21 3 20,oc 22 .neq 3 21 3,om 23 22,gm 23 true 24 0,gm 23 true 25 5,gi 23 true 26 32 24 25,gl 23 true 27 3 26,gm 23 true 28 1,gm 23 true 29 5,gi 23 true 30 32 28 29,gl 23 true 31 3 30,gb 23 true 32 .neq 3 27 31,oq 33 (.pick (tq 23) (tq 32) (cb false))],[]⟩]) (some ([0,1,5],[]))/\SX 34 (rS 2341) [ot 4 false] [] []/\SX 34 (rS 229) [om 16 5,oc 17 .add 3 16 1,om 5 17] [0,1,5] []/\SX 34 (rS 11) [ot 4 true] [] []/\LX 34 WD [0,1,5] []:=⟨fun _ _=>rfl,rx,rx,rx,rx,rx,rx,rx,lx⟩
def g7:=rg Tryz.f7
def c7:bw:=(.seq (g7 2) (.seq (g7 5) (.seq (g7 11) (.seq (.seq (g7 39) (.cond (.tmp 28) (.seq (g7 151) .ret) .skip)) (.seq (g7 47) (.seq (g7 95) (.seq (g7 191) (.seq (.seq (g7 639) (.cond (.tmp 77) (.seq (g7 2431) .ret) .skip)) (.seq (.seq (g7 1279) (.cond (.tmp 79) (.seq (g7 4863) .ret) .skip)) (.seq (g7 1535) .ret))))))))))
theorem b7:Tryz.f7.body=some c7:=by kernel_rfl
@[simp] theorem x7:SX 106 (g7 2) [oq 2 (.box (tq 0)),ot 4 false] [0,1] [2,5,32,38,39,44,45]/\SX 106 (g7 5) [ol 12 29 2,oq 5 (.alloc 29),os (.sto 29 (tq 5) (tq 12))] [1,2] [2,5,32,38,39,44,45]/\SX 106 (g7 11) [oz 13 29 2 2,ol 14 3 13,om 15 1,oq 16 (.oth (.convert 5 3 (tq 15))),oc 17 .rem 3 16 3,ob 18 .add 3 14 17,oq 19 (.oth (.call ⟨.builtin .min,#[ci 4,tq 18],#[3,3]⟩)),oz 20 29 5 2,os (.sto 3 (tq 20) (tq 19))] [1,2,5] [2,5,32,38,39,44,45]/\SX 106 (g7 39) [ol 21 29 2,od 22 45 [tq 21],ou 23 22,om 24 23,gl 24 false 25 29 5,gd 24 false 26 45 [tq 25],og 24 false 27 (.oth (.unOp .not 4 (tq 26))),oq 28 (.pick (tq 24) (cb true) (tq 27))] [2,5] [2,5,32,38,39,44,45]/\SX 106 (g7 151) [od 29 20 [],om 4 29] [] []/\SX 106 (g7 47) [ol 31 29 2,od 32 22 [tq 31],od 33 24 [tq 32],om 30 33,oq 34 (.oth (.extract (tq 30) 0)),oq 35 (.oth (.extract (tq 30) 1)),om 6 34,om 7 35] [2,5] [2,5,32,38,39,44,45]/\SX 106 (g7 95) [ol 37 29 2,od 38 22 [tq 37],od 39 21 [tq 38],om 36 39,oq 40 (.oth (.extract (tq 36) 0)),oq 41 (.oth (.extract (tq 36) 1)),om 8 40,om 9 41] [2,5,6,7] [2,5,32,38,39,44,45]/\SX 106 (g7 191) [ol 43 29 5,od 44 22 [tq 43],od 45 21 [tq 44],om 42 45,oq 46 (.oth (.extract (tq 42) 0)),oq 47 (.oth (.extract (tq 42) 1)),om 10 46,om 11 47] [2,5,6,7,8,9] [2,5,32,38,39,44,45]/\SX 106 (g7 639) [om 48 7,oc 49 .neq 33 48 0,om 50 49,gm 50 false 51 6,gc 50 false 52 .lss 3 51 0,oq 53 (.pick (tq 50) (cb true) (tq 52)),om 54 53,gm 54 false 55 6,gz 54 false 56 29 2 1,gl 54 false 57 26 56,ge 54 false 58 57 26,gb 54 false 59 .gtr 3 55 58,oq 60 (.pick (tq 54) (cb true) (tq 59)),om 61 60,gm 61 false 62 9,gc 61 false 63 .eql 33 62 0,gm 61 false 64 6,gz 61 false 65 29 2 2,gl 61 false 66 3 65,gb 61 false 67 .leq 3 64 66,gb 61 false 68 .neq 4 63 67,oq 69 (.pick (tq 61) (cb true) (tq 68)),om 70 69,gm 70 false 71 9,gc 70 false 72 .neq 33 71 0,gm 70 false 73 72,gm 73 true 74 9,gc 73 true 75 .neq 33 74 11,og 70 false 76 (.pick (tq 73) (tq 75) (cb false)),oq 77 (.pick (tq 70) (cb true) (tq 76))] [2,6,7,8,9,10,11] [2,5,32,38,39,44,45]/\SX 106 (g7 1279) [om 78 9,oc 79 .neq 33 78 0] [2,8,9,10,11] [2,5,32,38,39,44,45]/\SX 106 (g7 4863) [od 80 20 [],om 4 80] [] []/\SX 106 (g7 1535) [om 81 11,oc 82 .eql 33 81 0,om 83 82,gm 83 true 84 8,ge 83 true 85 84 32,gz 83 true 86 29 2 3,gl 83 true 87 27 86,ge 83 true 88 87 27,gb 83 true 89 .eql 3 85 88,oq 90 (.pick (tq 83) (tq 89) (cb false)),om 91 90,gm 91 true 92 10,ge 91 true 93 92 32,gm 91 true 94 8,ge 91 true 95 94 32,gb 91 true 96 .eql 3 93 95,oq 97 (.pick (tq 91) (tq 96) (cb false)),om 98 97,gm 98 true 99 10,gm 98 true 100 8,gd 98 true 101 46 [tq 99,tq 100],oq 102 (.pick (tq 98) (tq 101) (cb false)),om 103 102,gd 103 true 104 20 [],oq 105 (.pick (tq 103) (tq 104) (cb false)),om 4 105] [2,8,10,11] [2,5,32,38,39,44,45]:=by and_intros<;>exact rx
end
end Go.Proofs.Tryz.Op
