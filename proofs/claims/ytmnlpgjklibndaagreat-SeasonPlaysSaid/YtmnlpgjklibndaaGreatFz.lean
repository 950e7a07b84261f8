/- The walk's ground of function 78: its regions worked out. No condition. -/
import Derived.Test.YtmnlpgjklibndaaGreatGa
open Go renaming Code->bw
open Int renaming negSucc->bj
set_option maxRecDepth 100000
namespace Go.Proofs.Tryz.Op
open Go Go.Pg
noncomputable section
def JV:=rg Tryz.f78
@[simp] def AFP:bw:=(.seq (JV 559) (.seq (.cond (.tmp 31) .skip (.exit 0)) (.seq (.block 1 (.seq (JV 9007) (.seq (JV 21295) (.seq (.seq (JV 78639) (.cond (.tmp 37) (JV 176943) .skip)) (.seq (JV 95023) (.cond (.tmp 43) (JV 193327) .skip)))))) (JV 3887))))
def RB:=AFP
def c78:bw:=(.seq (JV 2) (.seq (JV 5) (.seq (.seq (JV 19) (.cond (.tmp 20) (.seq (JV 75) .ret) .skip)) (.seq (JV 23) (.seq (.seq (JV 79) (.block 0 (.loop RB))) (.seq (JV 95) (.seq (JV 191) (.seq (JV 383) .ret))))))))
theorem b78:Tryz.f78.body=some c78:=by kernel_rfl
@[simp] theorem AS3:RX 59 (JV 2) (.str [oq 3 (.box (tq 1)),ot 4 false]) (some ([0,1],[])):=rx
@[simp] theorem AS4:RX 59 (JV 5) (.drw [⟨[],[om 12 0,oq 13 (.oth (.nilCheck (tq 12))),oz 14 130 13 1,ol 15 128 14,ol 16 98 3,oq 17 (.oth (.lookup 128 (tq 15) (tq 16) true)),om 11 17,oq 18 (.oth (.extract (tq 11) 0)),oq 19 (.oth (.extract (tq 11) 1)),om 5 18,om 6 19],[]⟩]) (some ([0,3],[3])):=rx
@[simp] theorem AS5:RX 59 (JV 19) (.str [om 20 6]) (some ([0,3,5,6],[3])):=rx
@[simp] theorem AS6:RX 59 (JV 75) (.str [om 21 5,om 4 21]) (some ([5],[])):=rx
@[simp] theorem AS7:RX 59 (JV 23) (.str [ot 7 false]) (some ([0,3],[3])):=rx
@[simp] theorem AS8:RX 59 (JV 79) (.drw [⟨[],[om 22 0,oq 23 (.oth (.nilCheck (tq 22))),oz 24 130 23 0,ol 25 36 24,oz 26 98 3 0,ol 27 3 26,oq 28 (.oth (.slice 36 (tq 25) none (some (tq 27)) none)),oe 29 28 36,ok 30 0],[]⟩]) (some ([0,3,7],[3])):=rx
@[simp] theorem AFQ:RX 59 (JV 559) (.str [ob 31 .lss 3 30 29]) (some ([0,3,7,28,29,30],[3])):=rx
@[simp] theorem AS9:RX 59 (JV 9007) (.str [oi 32 36 28 30,ol 33 96 32,oq 9 (.alloc 96),os (.sto 96 (tq 9) (tq 33))]) (some ([0,3,7,28,29,30],[3])):=rx
@[simp] theorem ATA:RX 59 (JV 21295) (.str [oz 34 96 9 1,ol 35 3 34,om 10 35]) (some ([0,3,7,9,28,29,30],[3,9])):=rx
@[simp] theorem ATB:RX 59 (JV 78639) (.str [oz 36 98 3 1,ol 37 4 36]) (some ([0,3,7,9,10,28,29,30],[3,9])):=rx
@[simp] theorem AIH:RX 59 (JV 176943) (.str [oz 38 96 9 2,ol 39 3 38,om 10 39]) (some ([0,3,7,9,28,29,30],[3,9])):=rx
@[simp] theorem AII:RX 59 (JV 95023) (.str [om 40 10,oz 41 98 3 2,ol 42 3 41,ob 43 .eql 3 40 42]) (some ([0,3,7,9,10,28,29,30],[3,9])):=rx
@[simp] theorem AIJ:RX 59 (JV 193327) (.str [oz 44 96 9 0,ol 45 3 44,oc 46 .eql 3 45 1,om 7 46]) (some ([0,3,9,28,29,30],[3,9])):=rx
@[simp] theorem AIK:RX 59 (JV 3887) (.str [oc 47 .add 3 30 1,om 30 47]) (some ([0,3,7,28,29,30],[3])):=rx
@[simp] theorem AIL:RX 59 (JV 95) (.str [om 48 7,oz 49 98 3 3,ol 50 4 49,ob 51 .eql 4 48 50,om 5 51]) (some ([0,3,7],[3])):=rx
@[simp] theorem AIM:RX 59 (JV 191) (.drw [⟨[],[om 52 0,oq 53 (.oth (.nilCheck (tq 52))),oz 54 130 53 1,ol 55 128 54,ol 56 98 3,om 57 5],[os (.upd 128 (tq 55) (tq 56) (tq 57))]⟩]) (some ([0,3,5],[3])):=rx
@[simp] theorem AIN:RX 59 (JV 383) (.str [om 58 5,om 4 58]) (some ([5],[])):=rx
@[simp] theorem x78:UX 59 RB AFP/\LX 59 RB [0,3,7,28,29,30] [3]:=⟨fun _ _=>rfl,lx⟩
def g48:=rg Tryz.f48
def c48:bw:=(.seq (g48 2) (.seq (g48 5) .ret))
theorem b48:Tryz.f48.body=some c48:=by kernel_rfl
@[simp] theorem x48:SX 15 (g48 2) [ot 6 false] [0,1,2] []/\SX 15 (g48 5) [om 7 0,om 8 1,ob 9 .geq 3 7 8,om 10 9,gm 10 true 11 0,gm 10 true 12 2,gb 10 true 13 .leq 3 11 12,oq 14 (.pick (tq 10) (tq 13) (cb false)),om 6 14] [0,1,2] []:=⟨rx,rx⟩
def ABV:=rg Tryz.f106
def ATC:bw:=(.seq (ABV 2) (.seq (ABV 5) .ret))
theorem A3H:Tryz.f106.body=some ATC:=by kernel_rfl
@[simp] theorem BAS:SX 15 (ABV 2) [ot 6 false] [0,1,2] []/\SX 15 (ABV 5) [om 7 1,om 8 0,ob 9 .leq 3 7 8,om 10 9,gm 10 true 11 0,gm 10 true 12 2,gb 10 true 13 .leq 3 11 12,oq 14 (.pick (tq 10) (tq 13) (cb false)),om 6 14] [0,1,2] []:=⟨rx,rx⟩
def ABW:=rg Tryz.f123
def ATD:bw:=(.seq (ABW 2) (.seq (ABW 5) .ret))
theorem A3I:Tryz.f123.body=some ATD:=by kernel_rfl
@[simp] theorem BAT:SX 39 (ABW 2) [oq 2 (.box (tq 0)),oq 3 (.box (tq 1)),ot 4 false] [0,1] [2]/\SX 39 (ABW 5) [oz 5 133 2 0,ol 6 3 5,oc 7 .eql 3 6 0,om 8 7,gz 8 false 9 133 2 0,gl 8 false 10 3 9,gz 8 false 11 133 3 0,gl 8 false 12 3 11,gb 8 false 13 .eql 3 10 12,oq 14 (.pick (tq 8) (cb true) (tq 13)),om 15 14,gz 15 true 16 133 2 1,gl 15 true 17 3 16,gc 15 true 18 .lss 3 17 0,gm 15 true 19 18,gz 19 false 20 133 2 1,gl 19 false 21 3 20,gz 19 false 22 133 3 1,gl 19 false 23 3 22,gb 19 false 24 .eql 3 21 23,og 15 true 25 (.pick (tq 19) (cb true) (tq 24)),oq 26 (.pick (tq 15) (tq 25) (cb false)),om 27 26,gz 27 true 28 133 2 2,gl 27 true 29 3 28,gc 27 true 30 .lss 3 29 0,gm 27 true 31 30,gz 31 false 32 133 2 2,gl 31 false 33 3 32,gz 31 false 34 133 3 2,gl 31 false 35 3 34,gb 31 false 36 .eql 3 33 35,og 27 true 37 (.pick (tq 31) (cb true) (tq 36)),oq 38 (.pick (tq 27) (tq 37) (cb false)),om 4 38] [2,3] [2,3]:=⟨rx,rx⟩
def GO:=rg Tryz.f140
@[simp] def vA:bw:=(lp (GO 1086027) 22 4 5 (.seq (GO 4493899) (.cond (.tmp 30) (GO 10785355) .skip)) (GO 1872459))
def PD:=vA
@[simp] def vB:bw:=(lp (GO 16971) 16 2 3 (.seq (GO 70219) (.block 4 (.loop PD))) (GO 29259))
def TK:=vB
@[simp] def vC:bw:=(lp (GO 267) 10 0 1 (.seq (GO 1099) (.block 2 (.loop TK))) (GO 459))
def TL:=vC
def ATE:bw:=(.seq (GO 2) (.seq (GO 5) (.seq (.seq (GO 19) (.block 0 (.loop TL))) (.seq (GO 23) .ret))))
theorem A3J:Tryz.f140.body=some ATE:=by kernel_rfl
@[simp] theorem BAU:UX 39 PD vA/\UX 39 TK vB/\UX 39 TL vC/\SX 39 (GO 2) [oq 2 (.box (tq 0)),oq 3 (.box (tq 1)),oq 4 (.mv (.const (.slice none 0 0)))] [0,1] [2]/\SX 39 (GO 5) [oq 5 (.mv (.const (.slice none 0 0)))] [2,3] [2,3]/\SX 39 (GO 19) [ok 6 1] [2,3,5] [2,3,37]/\SX 39 (GO 267) [om 9 6,oc 10 .leq 3 9 2] [2,3,5,6] [2,3,37]/\SX 39 (GO 1099) [ok 7 0] [2,3,5,6] [2,3,37]/\SX 39 (GO 16971) [om 13 7,oz 14 25 2 0,ol 15 3 14,ob 16 .lss 3 13 15] [2,3,5,6,7] [2,3,37]/\SX 39 (GO 70219) [ok 8 0] [2,3,5,6,7] [2,3,37]/\SX 39 (GO 1086027) [om 19 8,oz 20 25 2 0,ol 21 3 20,ob 22 .lss 3 19 21] [2,3,5,6,7,8] [2,3,37]/\SX 39 (GO 4493899) [ol 25 133 3,om 26 6,om 27 7,om 28 8,oq 29 (.build 133 [(0,tq 26),(1,tq 27),(2,tq 28)]),od 30 123 [tq 25,tq 29]] [2,3,5,6,7,8] [2,3,37]/\SX 39 (GO 10785355) [om 31 5,om 32 6,om 33 7,om 34 8,oq 35 (.build 133 [(0,tq 32),(1,tq 33),(2,tq 34)]),oq 36 (.buildS 22 1 [(0,tq 35)]),oq 37 (.app [tq 31,tq 36] [22,22]),om 5 37] [2,3,5,6,7,8] [2,3,37]/\SX 39 (GO 1872459) [om 23 8,oc 24 .add 3 23 1,om 8 24] [2,3,5,6,7,8] [2,3,37]/\SX 39 (GO 29259) [om 17 7,oc 18 .add 3 17 1,om 7 18] [2,3,5,6,7] [2,3,37]/\SX 39 (GO 459) [om 11 6,oc 12 .add 3 11 1,om 6 12] [2,3,5,6] [2,3,37]/\SX 39 (GO 23) [om 38 5,om 4 38] [5] [37]/\LX 39 TL [2,3,5,6] [2,3,37]/\LX 39 TK [2,3,5,6,7] [2,3,37]/\LX 39 PD [2,3,5,6,7,8] [2,3,37]:=by and_intros<;>first|exact rx|exact lx|exact fun _ _=>rfl
def PE:=rg Tryz.f112
@[simp] def vD:bw:=(lp (PE 267) 9 0 1 (PE 587) (PE 459))
def TM:=vD
def ATF:bw:=(.seq (PE 2) (.seq (PE 5) (.seq (.seq (PE 19) (.block 0 (.loop TM))) (.seq (PE 23) .ret))))
theorem A3K:Tryz.f112.body=some ATF:=by kernel_rfl
@[simp] theorem BAV:UX 24 TM vD/\SX 24 (PE 2) [oq 1 (.box (tq 0)),ok 2 0] [0] [1,19]/\SX 24 (PE 5) [ok 3 1] [1] [1,19]/\SX 24 (PE 19) [ok 4 0] [1,3] [1,19]/\SX 24 (PE 267) [om 5 4,oz 6 25 1 3,ol 7 22 6,oe 8 7 22,ob 9 .lss 3 5 8] [1,3,4] [1,19]/\RX 24 (PE 587) (.drw [⟨[],[om 12 3,ol 13 25 1,oz 14 25 1 3,ol 15 22 14,om 16 4,oi 17 22 15 16,ol 18 133 17,od 19 140 [tq 13,tq 18],oe 20 19 22,ob 21 .mul 3 12 20,oq 22 (.oth (.call ⟨.builtin .min,#[ci 5000,tq 21],#[3,3]⟩)),om 3 22],[]⟩]) (some ([1,3,4],[1]))/\SX 24 (PE 459) [om 10 4,oc 11 .add 3 10 1,om 4 11] [1,3,4] [1,19]/\SX 24 (PE 23) [om 23 3,om 2 23] [3] []/\LX 24 TM [1,3,4] [1,19]:=⟨fun _ _=>rfl,rx,rx,rx,rx,rx,rx,rx,lx⟩
def D6:=rg Tryz.f111
@[simp] def vE:bw:=(lp (D6 535) 37 0 1 (.seq (D6 2199) (.seq (D6 5271) (.cond (.tmp 66) (.seq (D6 19607) .ret) .skip))) (D6 919))
def TN:=vE
@[simp] def nG:bw:=(lp (D6 1071) 71 2 3 (.seq (D6 4399) (.seq (D6 10543) (.cond (.tmp 106) (.seq (D6 39215) .ret) .skip))) (D6 1839))
def PF:=nG
def UJ:bw:=(.seq (D6 2) (.seq (.seq (D6 9) (.cond (.tmp 16) (.seq (D6 37) .ret) .skip)) (.seq (.seq (D6 19) (.cond (.tmp 32) (.seq (D6 75) .ret) .skip)) (.seq (.seq (D6 39) (.block 0 (.loop TN))) (.seq (.seq (D6 79) (.block 2 (.loop PF))) (.seq (.seq (D6 159) (.cond (.tmp 109) (.seq (D6 607) .ret) .skip)) (.seq (D6 191) .ret)))))))
theorem A3L:Tryz.f111.body=some UJ:=by kernel_rfl
@[simp] theorem BAW:UX 110 TN vE/\UX 110 PF nG/\SX 110 (D6 2) [oq 1 (.box (tq 0)),ok 2 0] [0] [1]/\SX 110 (D6 9) [oz 7 25 1 3,ol 8 22 7,oe 9 8 22,oc 10 .gtr 3 9 8,om 11 10,gz 11 false 12 25 1 4,gl 11 false 13 23 12,ge 11 false 14 13 23,gc 11 false 15 .gtr 3 14 4,oq 16 (.pick (tq 11) (cb true) (tq 15))] [1] [1]/\SX 110 (D6 37) [ok 2 3] [] []/\SX 110 (D6 19) [oz 17 25 1 0,ol 18 3 17,od 19 48 [tq 18,ci 1,ci 4],ou 20 19,om 21 20,gz 21 false 22 25 1 1,gl 21 false 23 3 22,gd 21 false 24 48 [tq 23,ci 1,ci 99],og 21 false 25 (.oth (.unOp .not 4 (tq 24))),oq 26 (.pick (tq 21) (cb true) (tq 25)),om 27 26,gz 27 false 28 25 1 2,gl 27 false 29 3 28,gd 27 false 30 48 [tq 29,ci 0,ci 999],og 27 false 31 (.oth (.unOp .not 4 (tq 30))),oq 32 (.pick (tq 27) (cb true) (tq 31))] [1] [1]/\SX 110 (D6 75) [ok 2 1] [] []/\SX 110 (D6 39) [ok 3 0] [1] [1]/\SX 110 (D6 535) [om 33 3,oz 34 25 1 3,ol 35 22 34,oe 36 35 22,ob 37 .lss 3 33 36] [1,3] [1]/\SX 110 (D6 2199) [oz 40 25 1 3,ol 41 22 40,om 42 3,oi 43 22 41 42,ol 44 133 43,oq 4 (.alloc 133),os (.sto 133 (tq 4) (tq 44))] [1,3] [1]/\SX 110 (D6 5271) [oz 45 133 4 0,ol 46 3 45,od 47 48 [tq 46,ci 0,ci 2],ou 48 47,om 49 48,gz 49 false 50 133 4 1,gl 49 false 51 3 50,gz 49 false 52 25 1 0,gl 49 false 53 3 52,gc 49 false 54 .sub 3 53 1,gd 49 false 55 48 [tq 51,.const (.int .i64 (bj 0)),tq 54],og 49 false 56 (.oth (.unOp .not 4 (tq 55))),oq 57 (.pick (tq 49) (cb true) (tq 56)),om 58 57,gz 58 false 59 133 4 2,gl 58 false 60 3 59,gz 58 false 61 25 1 0,gl 58 false 62 3 61,gc 58 false 63 .sub 3 62 1,gd 58 false 64 48 [tq 60,.const (.int .i64 (bj 0)),tq 63],og 58 false 65 (.oth (.unOp .not 4 (tq 64))),oq 66 (.pick (tq 58) (cb true) (tq 65))] [1,3,4] [1,4]/\SX 110 (D6 19607) [ok 2 1] [] []/\SX 110 (D6 919) [om 38 3,oc 39 .add 3 38 1,om 3 39] [1,3] [1]/\SX 110 (D6 79) [ok 5 0] [1] [1]/\SX 110 (D6 1071) [om 67 5,oz 68 25 1 4,ol 69 23 68,oe 70 69 23,ob 71 .lss 3 67 70] [1,5] [1]/\SX 110 (D6 4399) [oz 74 25 1 4,ol 75 23 74,om 76 5,oi 77 23 75 76,ol 78 168 77,oq 6 (.alloc 168),os (.sto 168 (tq 6) (tq 78))] [1,5] [1]/\SX 110 (D6 10543) [oz 79 168 6 0,ol 80 3 79,oz 81 25 1 3,ol 82 22 81,oe 83 82 22,od 84 48 [tq 80,ci 0,tq 83],ou 85 84,om 86 85,gz 86 false 87 168 6 1,gz 86 false 88 166 87 0,gl 86 false 89 3 88,gc 86 false 90 .lss 3 89 0,oq 91 (.pick (tq 86) (cb true) (tq 90)),om 92 91,gz 92 false 93 168 6 1,gz 92 false 94 166 93 0,gl 92 false 95 3 94,gz 92 false 96 168 6 1,gz 92 false 97 166 96 1,gl 92 false 98 3 97,gb 92 false 99 .gtr 3 95 98,oq 100 (.pick (tq 92) (cb true) (tq 99)),om 101 100,gz 101 false 102 168 6 1,gz 101 false 103 166 102 1,gl 101 false 104 3 103,gc 101 false 105 .gtr 3 104 2000,oq 106 (.pick (tq 101) (cb true) (tq 105))] [1,5,6] [1,6]/\SX 110 (D6 39215) [ok 2 1] [] []/\SX 110 (D6 1839) [om 72 5,oc 73 .add 3 72 1,om 5 73] [1,5] [1]/\SX 110 (D6 159) [ol 107 25 1,od 108 112 [tq 107],oc 109 .gtr 3 108 4096] [1] [1]/\SX 110 (D6 607) [ok 2 3] [] []/\SX 110 (D6 191) [ok 2 0] [] []/\LX 110 TN [1,3] [1]/\LX 110 PF [1,5] [1]:=by and_intros<;>first|exact rx|exact lx|exact fun _ _=>rfl
def g64:=rg Tryz.f64
def c64:bw:=(.seq (g64 2) (.seq (g64 5) .ret))
theorem b64:Tryz.f64.body=some c64:=by kernel_rfl
@[simp] theorem x64:SX 23 (g64 2) [oq 1 (.box (tq 0)),ot 2 false] [0] [1]/\SX 23 (g64 5) [oz 3 25 1 3,ol 4 22 3,oe 5 4 22,oc 6 .leq 3 5 10,om 7 6,gz 7 true 8 25 1 4,gl 7 true 9 23 8,ge 7 true 10 9 23,gc 7 true 11 .leq 3 10 6,oq 12 (.pick (tq 7) (tq 11) (cb false)),om 13 12,gl 13 true 14 25 1,gd 13 true 15 111 [tq 14],gc 13 true 16 .neq 3 15 0,gm 13 true 17 16,gl 17 false 18 25 1,gd 17 false 19 112 [tq 18],gc 17 false 20 .leq 3 19 100,og 13 true 21 (.pick (tq 17) (cb true) (tq 20)),oq 22 (.pick (tq 13) (tq 21) (cb false)),om 2 22] [1] [1]:=⟨rx,rx⟩
def ABX:=rg Tryz.f110
def ATH:bw:=(.seq (ABX 2) (.seq (ABX 5) .ret))
theorem A3M:Tryz.f110.body=some ATH:=by kernel_rfl
@[simp] theorem BAY:SX 8 (ABX 2) [oq 1 (.box (tq 0)),oq 2 (.alloc 151)] [0] []/\SX 8 (ABX 5) [oz 3 166 1 0,ol 4 3 3,oz 5 166 1 1,ol 6 3 5,oq 7 (.build 151 [(0,tq 4),(1,tq 6)]),os (.sto 151 (tq 2) (tq 7))] [1,2] [1,2]:=⟨rx,rx⟩
def nH:=rg Tryz.f32
@[simp] def AFR:bw:=(lp (nH 267) 8 0 1 (nH 587) (nH 459))
def Z4:=AFR
def c32:bw:=(.seq (nH 2) (.seq (nH 5) (.seq (.seq (nH 19) (.block 0 (.loop Z4))) (.seq (nH 23) .ret))))
theorem b32:Tryz.f32.body=some c32:=by kernel_rfl
@[simp] theorem x32:UX 31 Z4 AFR/\SX 31 (nH 2) [oq 2 (.mv (.const (.slice none 0 0)))] [0] []/\SX 31 (nH 5) [oq 3 (.mv (.const (.slice none 0 0)))] [0] []/\SX 31 (nH 19) [ok 4 0] [0,3] [29]/\SX 31 (nH 267) [om 5 4,om 6 0,oe 7 6 22,ob 8 .lss 3 5 7] [0,3,4] [29]/\RX 31 (nH 587) (.drw [⟨[],[om 11 3,om 12 0,om 13 4,oi 14 22 12 13,oz 15 133 14 0,ol 16 3 15,om 17 0,om 18 4,oi 19 22 17 18,oz 20 133 19 1,ol 21 3 20,om 22 0,om 23 4,oi 24 22 22 23,oz 25 133 24 2,ol 26 3 25,oq 27 (.build 96 [(0,tq 16),(1,tq 21),(2,tq 26)]),oq 28 (.buildS 36 1 [(0,tq 27)]),oq 29 (.app [tq 11,tq 28] [36,36]),om 3 29],[]⟩]) (some ([0,3,4],[29]))/\SX 31 (nH 459) [om 9 4,oc 10 .add 3 9 1,om 4 10] [0,3,4] [29]/\SX 31 (nH 23) [om 30 3,om 2 30] [3] [29]/\LX 31 Z4 [0,3,4] [29]:=⟨fun _ _=>rfl,rx,rx,rx,rx,rx,rx,rx,lx⟩
def nI:=rg Tryz.f63
@[simp] def AFS:bw:=(lp (nI 267) 19 0 1 (nI 587) (nI 459))
def Z5:=AFS
def c63:bw:=(.seq (nI 2) (.seq (nI 5) (.seq (.seq (nI 19) (.block 0 (.loop Z5))) (.seq (nI 23) .ret))))
theorem b63:Tryz.f63.body=some c63:=by kernel_rfl
@[simp] theorem x63:UX 42 Z5 AFS/\SX 42 (nI 2) [oq 1 (.box (tq 0)),oq 2 (.alloc 39)] [0] [1,2,3,13,39]/\RX 42 (nI 5) (.drw [⟨[3],[oz 5 25 1 0,oq 6 (.ldz 3 (tq 5)),oz 7 25 1 1,oq 8 (.ldz 3 (tq 7)),oz 9 25 1 2,oq 10 (.ldz 3 (tq 9)),oz 11 25 1 3,oq 12 (.ldz 22 (tq 11)),od 13 32 [tq 12],oq 14 (.build 39 [(0,tq 6),(1,tq 8),(2,tq 10),(3,tq 13)]),oq 3 (.alloc 39)],[os (.sto 39 (tq 3) (tq 14))]⟩]) (some ([1,2],[1,2,39]))/\SX 42 (nI 19) [ok 4 0] [1,2,3] [1,2,3,13,39]/\SX 42 (nI 267) [om 15 4,oz 16 25 1 4,ol 17 23 16,oe 18 17 23,ob 19 .lss 3 15 18] [1,2,3,4] [1,2,3,13,39]/\RX 42 (nI 587) (.drw [⟨[],[oz 22 39 3 4,oq 23 (.ldz 37 (tq 22)),oz 24 25 1 4,ol 25 23 24,om 26 4,oi 27 23 25 26,oz 28 168 27 0,ol 29 3 28,oz 30 25 1 4,ol 31 23 30,om 32 4,oi 33 23 31 32,oz 34 168 33 1,ol 35 166 34,od 36 110 [tq 35],oq 37 (.build 171 [(0,tq 29),(1,tq 36)]),oq 38 (.buildS 37 1 [(0,tq 37)]),oq 39 (.app [tq 23,tq 38] [37,37]),oz 40 39 3 4],[os (.sto 37 (tq 40) (tq 39))]⟩]) (some ([1,2,3,4],[1,2,3,13,39]))/\SX 42 (nI 459) [om 20 4,oc 21 .add 3 20 1,om 4 21] [1,2,3,4] [1,2,3,13,39]/\SX 42 (nI 23) [ol 41 39 3,os (.sto 39 (tq 2) (tq 41))] [2,3] [1,2,3,13,39]/\LX 42 Z5 [1,2,3,4] [1,2,3,13,39]:=⟨fun _ _=>rfl,rx,rx,rx,rx,rx,rx,rx,lx⟩
def NW:=rg Tryz.f173
@[simp] def vF:bw:=(lp (NW 267) 18 0 1 (NW 587) (NW 459))
def TO:=vF
def AIO:bw:=(.seq (NW 2) (.seq (.seq (NW 9) (.cond (.tmp 12) (.seq (NW 37) .ret) .skip)) (.seq (.seq (NW 19) (.block 0 (.loop TO))) (.seq (NW 23) .ret))))
theorem A3N:Tryz.f173.body=some AIO:=by kernel_rfl
@[simp] theorem BA1:UX 26 TO vF/\SX 26 (NW 2) [oq 8 (.mv (.const (.slice none 0 0)))] [0,1,2,3] []/\SX 26 (NW 9) [om 10 0,om 11 1,ob 12 .neq 3 10 11] [0,1,2,3,8] [24]/\SX 26 (NW 37) [om 13 0,oq 14 (.buildS 32 1 [(0,tq 13)]),om 8 14] [0] []/\SX 26 (NW 19) [om 15 2,om 9 15] [2,3,8] [24]/\SX 26 (NW 267) [om 16 9,om 17 3,ob 18 .leq 3 16 17] [3,8,9] [24]/\SX 26 (NW 587) [om 21 8,om 22 9,oq 23 (.buildS 32 1 [(0,tq 22)]),oq 24 (.app [tq 21,tq 23] [32,32]),om 8 24] [3,8,9] [24]/\SX 26 (NW 459) [om 19 9,oc 20 .add 3 19 1,om 9 20] [3,8,9] [24]/\SX 26 (NW 23) [om 25 8,om 8 25] [8] [24]/\LX 26 TO [3,8,9] [24]:=⟨fun _ _=>rfl,rx,rx,rx,rx,rx,rx,rx,rx,lx⟩
def FZ:=rg Tryz.f142
@[simp] def vG:bw:=(.seq (FZ 4613733) (.seq (.cond (.tmp 38) .skip (.exit 4)) (.seq (.block 5 (.seq (FZ 73819749) (FZ 107374181))) (FZ 31876709))))
def TP:=vG
@[simp] def vH:bw:=(.seq (FZ 18021) (.seq (.cond (.tmp 27) .skip (.exit 2)) (.seq (.block 3 (.seq (FZ 288357) (.seq (FZ 681573) (.block 4 (.loop TP))))) (FZ 124517))))
def TQ:=vH
@[simp] def vI:bw:=(.seq (FZ 69) (.seq (.cond (.tmp 16) .skip (.exit 0)) (.seq (.block 1 (.seq (FZ 1125) (.seq (FZ 2661) (.block 2 (.loop TQ))))) (FZ 485))))
def TR:=vI
def ATI:bw:=(.seq (FZ 2) (.seq (.seq (FZ 9) (.block 0 (.loop TR))) (.seq (FZ 11) .ret)))
theorem A3O:Tryz.f142.body=some ATI:=by kernel_rfl
@[simp] theorem BA2:UX 52 TP vG/\UX 52 TQ vH/\UX 52 TR vI/\SX 52 (FZ 2) [oq 2 (.box (tq 0)),oq 3 (.box (tq 1)),oq 4 (.mv (.const (.slice none 0 0)))] [0,1] [2]/\SX 52 (FZ 9) [oz 11 96 3 0,ol 12 3 11,od 13 173 [tq 12,ci 0,ci 1,ci 2],oe 14 13 32,ok 15 0] [2,3,4] [2,3,47]/\SX 52 (FZ 69) [ob 16 .lss 3 15 14] [2,3,4,13,14,15] [2,3,13,47]/\SX 52 (FZ 1125) [oi 17 32 13 15,ol 18 3 17,om 6 18] [2,3,4,13,14,15] [2,3,13,47]/\SX 52 (FZ 2661) [oz 19 96 3 1,ol 20 3 19,oz 21 39 2 0,ol 22 3 21,oc 23 .sub 3 22 1,od 24 173 [tq 20,.const (.int .i64 (bj 0)),ci 0,tq 23],oe 25 24 32,ok 26 0] [2,3,4,6,13,14,15] [2,3,13,47]/\SX 52 (FZ 18021) [ob 27 .lss 3 26 25] [2,3,4,6,13,14,15,24,25,26] [2,3,13,24,47]/\SX 52 (FZ 288357) [oi 28 32 24 26,ol 29 3 28,om 8 29] [2,3,4,6,13,14,15,24,25,26] [2,3,13,24,47]/\SX 52 (FZ 681573) [oz 30 96 3 2,ol 31 3 30,oz 32 39 2 0,ol 33 3 32,oc 34 .sub 3 33 1,od 35 173 [tq 31,.const (.int .i64 (bj 0)),ci 0,tq 34],oe 36 35 32,ok 37 0] [2,3,4,6,8,13,14,15,24,25,26] [2,3,13,24,47]/\SX 52 (FZ 4613733) [ob 38 .lss 3 37 36] [2,3,4,6,8,13,14,15,24,25,26,35,36,37] [2,3,13,24,35,47]/\SX 52 (FZ 73819749) [oi 39 32 35 37,ol 40 3 39,om 10 40] [2,3,4,6,8,13,14,15,24,25,26,35,36,37] [2,3,13,24,35,47]/\SX 52 (FZ 107374181) [om 41 4,om 42 6,om 43 8,om 44 10,oq 45 (.build 96 [(0,tq 42),(1,tq 43),(2,tq 44)]),oq 46 (.buildS 36 1 [(0,tq 45)]),oq 47 (.app [tq 41,tq 46] [36,36]),om 4 47] [2,3,4,6,8,10,13,14,15,24,25,26,35,36,37] [2,3,13,24,35,47]/\SX 52 (FZ 31876709) [oc 48 .add 3 37 1,om 37 48] [2,3,4,6,8,13,14,15,24,25,26,35,36,37] [2,3,13,24,35,47]/\SX 52 (FZ 124517) [oc 49 .add 3 26 1,om 26 49] [2,3,4,6,13,14,15,24,25,26] [2,3,13,24,47]/\SX 52 (FZ 485) [oc 50 .add 3 15 1,om 15 50] [2,3,4,13,14,15] [2,3,13,47]/\SX 52 (FZ 11) [om 51 4,om 4 51] [4] [47]/\LX 52 TR [2,3,4,13,14,15] [2,3,13,47]/\LX 52 TQ [2,3,4,6,13,14,15,24,25,26] [2,3,13,24,47]/\LX 52 TP [2,3,4,6,8,13,14,15,24,25,26,35,36,37] [2,3,13,24,35,47]:=by and_intros<;>first|exact rx|exact lx|exact fun _ _=>rfl
def NX:=rg Tryz.f172
@[simp] def vJ:bw:=(.seq (NX 69) (.seq (.cond (.tmp 9) .skip (.exit 0)) (.seq (.block 1 (.seq (NX 1125) (.seq (NX 2661) (.cond (.tmp 16) (.seq (NX 9829) .ret) .skip)))) (NX 485))))
def PG:=vJ
def AIP:bw:=(.seq (NX 2) (.seq (.seq (NX 9) (.block 0 (.loop PG))) (.seq (NX 11) .ret)))
theorem b172:Tryz.f172.body=some AIP:=by kernel_rfl
@[simp] theorem BA3:UX 19 PG vJ/\SX 19 (NX 2) [ok 4 0] [0,1] []/\SX 19 (NX 9) [om 6 0,oe 7 6 36,ok 8 0] [0,1,2,3] [2,3]/\SX 19 (NX 69) [ob 9 .lss 3 8 7] [0,1,3,7,8] [3]/\SX 19 (NX 1125) [om 10 8,om 5 10] [0,1,3,7,8] [3]/\SX 19 (NX 2661) [om 11 1,om 12 0,om 13 5,oi 14 36 12 13,ol 15 96 14,oq 16 (.call false none (tq 11) [tq 15])] [0,1,3,5,7,8] [3]/\SX 19 (NX 9829) [om 17 5,om 4 17] [5] []/\SX 19 (NX 485) [oc 18 .add 3 8 1,om 8 18] [0,1,3,7,8] [3]/\SX 19 (NX 11) [oq 4 (.mv (.const (.int .i64 (bj 0))))] [] []/\LX 19 PG [0,1,3,7,8] [3]:=⟨fun _ _=>rfl,rx,rx,rx,rx,rx,rx,rx,rx,lx⟩
def ABY:=rg Tryz.f183
def ATJ:bw:=(.seq (ABY 2) (.seq (ABY 5) .ret))
theorem b183:Tryz.f183.body=some ATJ:=by kernel_rfl
@[simp] theorem BA4:SX 9 (ABY 2) [ot 4 false] [0,1] []/\SX 9 (ABY 5) [om 5 0,om 6 1,od 7 172 [tq 5,tq 6],oc 8 .geq 3 7 0,om 4 8] [0,1,3] [3]:=⟨rx,rx⟩
def NY:=rg Tryz.f190
@[simp] def vK:bw:=(.seq (NY 69) (.seq (.cond (.tmp 9) .skip (.exit 0)) (.seq (.block 1 (.seq (NY 1125) (.seq (NY 2661) (.cond (.tmp 16) (.seq (NY 9829) .ret) .skip)))) (NY 485))))
def PH:=vK
def AIQ:bw:=(.seq (NY 2) (.seq (.seq (NY 9) (.block 0 (.loop PH))) (.seq (NY 11) .ret)))
theorem b190:Tryz.f190.body=some AIQ:=by kernel_rfl
@[simp] theorem BA5:UX 19 PH vK/\SX 19 (NY 2) [ok 4 0] [0,1] []/\SX 19 (NY 9) [om 6 0,oe 7 6 37,ok 8 0] [0,1,2,3] [2,3]/\SX 19 (NY 69) [ob 9 .lss 3 8 7] [0,1,3,7,8] [3]/\SX 19 (NY 1125) [om 10 8,om 5 10] [0,1,3,7,8] [3]/\SX 19 (NY 2661) [om 11 1,om 12 0,om 13 5,oi 14 37 12 13,ol 15 171 14,oq 16 (.call false none (tq 11) [tq 15])] [0,1,3,5,7,8] [3]/\SX 19 (NY 9829) [om 17 5,om 4 17] [5] []/\SX 19 (NY 485) [oc 18 .add 3 8 1,om 8 18] [0,1,3,7,8] [3]/\SX 19 (NY 11) [oq 4 (.mv (.const (.int .i64 (bj 0))))] [] []/\LX 19 PH [0,1,3,7,8] [3]:=⟨fun _ _=>rfl,rx,rx,rx,rx,rx,rx,rx,rx,lx⟩
def ABZ:=rg Tryz.f185
def ATK:bw:=(.seq (ABZ 2) (.seq (ABZ 5) .ret))
theorem b185:Tryz.f185.body=some ATK:=by kernel_rfl
@[simp] theorem BA6:SX 9 (ABZ 2) [ot 4 false] [0,1] []/\SX 9 (ABZ 5) [om 5 0,om 6 1,od 7 190 [tq 5,tq 6],oc 8 .geq 3 7 0,om 4 8] [0,1,3] [3]:=⟨rx,rx⟩
def AB0:=rg Tryz.f164
def ATL:bw:=(.seq (AB0 2) (.seq (AB0 5) .ret))
theorem A3P:Tryz.f164.body=some ATL:=by kernel_rfl
@[simp] theorem BA7:SX 9 (AB0 2) [oq 3 (.box (tq 1)),ot 4 false] [0,1] [3]/\SX 9 (AB0 5) [om 5 0,oq 6 (.oth (.makeFunc (.func 184) #[] #[tq 3])),od 7 183 [tq 5,tq 6],ou 8 7,om 4 8] [0,1,3] [3]:=⟨rx,rx⟩
def AB1:=rg Tryz.f184
def ATM:bw:=(.seq (AB1 2) (.seq (AB1 5) .ret))
theorem b184:Tryz.f184.body=some ATM:=by kernel_rfl
@[simp] theorem BA8:SX 8 (AB1 2) [oq 2 (.box (tq 0)),ot 3 false] [0,1] []/\SX 8 (AB1 5) [ol 4 198 1,ol 5 96 2,oq 6 (.call false none (tq 4) [tq 5]),ou 7 6,om 3 7] [0,1,2] [2]:=⟨rx,rx⟩
def AB2:=rg Tryz.f165
def AIR:bw:=(.seq (AB2 2) (.seq (AB2 5) .ret))
theorem b165:Tryz.f165.body=some AIR:=by kernel_rfl
@[simp] theorem BA9:SX 9 (AB2 2) [oq 3 (.box (tq 1)),ot 4 false] [0,1] [3]/\SX 9 (AB2 5) [om 5 0,oq 6 (.oth (.makeFunc (.func 186) #[] #[tq 3])),od 7 185 [tq 5,tq 6],ou 8 7,om 4 8] [0,1,3] [3]:=⟨rx,rx⟩
def AB3:=rg Tryz.f186
def AIS:bw:=(.seq (AB3 2) (.seq (AB3 5) .ret))
theorem b186:Tryz.f186.body=some AIS:=by kernel_rfl
@[simp] theorem BBA:SX 8 (AB3 2) [oq 2 (.box (tq 0)),ot 3 false] [0,1] []/\SX 8 (AB3 5) [ol 4 216 1,ol 5 171 2,oq 6 (.call false none (tq 4) [tq 5]),ou 7 6,om 3 7] [0,1,2] [2]:=⟨rx,rx⟩
def AB4:=rg Tryz.f166
def ATN:bw:=(.seq (AB4 2) (.seq (AB4 5) .ret))
theorem A3Q:Tryz.f166.body=some ATN:=by kernel_rfl
@[simp] theorem BBB:SX 5 (AB4 2) [ok 2 0] [0] []/\SX 5 (AB4 5) [om 3 0,od 4 119 [tq 3],om 2 4] [0,1] [1]:=⟨rx,rx⟩
def L6:=rg Tryz.f119
@[simp] def vL:bw:=(lp (L6 535) 15 0 1 (L6 1175) (L6 919))
def Z6:=vL
def ATO:bw:=(.seq (L6 2) (.seq (.seq (L6 9) (.cond (.tmp 7) (L6 21) .skip)) (.seq (L6 11) (.seq (.seq (L6 39) (.block 0 (.loop Z6))) (.seq (L6 47) .ret)))))
theorem A3R:Tryz.f119.body=some ATO:=by kernel_rfl
@[simp] theorem BBC:UX 25 Z6 vL/\SX 25 (L6 2) [ok 2 0] [0] []/\SX 25 (L6 9) [om 5 0,oe 6 5 32,oc 7 .lss 3 6 1] [0] []/\SX 25 (L6 11) [om 9 0,oq 10 (.oth (.indexAddr 32 (tq 9) (ci 0))),ol 11 3 10,om 3 11] [0] []/\SX 25 (L6 39) [ok 4 1] [0,3] []/\SX 25 (L6 535) [om 12 4,om 13 0,oe 14 13 32,ob 15 .lss 3 12 14] [0,3,4] []/\SX 25 (L6 1175) [om 18 3,om 19 0,om 20 4,oi 21 32 19 20,ol 22 3 21,oq 23 (.oth (.call ⟨.builtin .min,#[tq 18,tq 22],#[3,3]⟩)),om 3 23] [0,1,3,4,5,6] [1,5,16]/\SX 25 (L6 919) [om 16 4,oc 17 .add 3 16 1,om 4 17] [0,3,4] []/\SX 25 (L6 47) [om 24 3,om 2 24] [3,7] [22]/\LX 25 Z6 [0,3,4] []:=⟨fun _ _=>rfl,rx,rx,rx,rx,rx,rx,rx,rx,lx⟩
def AB5:=rg Tryz.f162
def ATP:bw:=(.seq (AB5 2) (.seq (AB5 5) .ret))
theorem A3S:Tryz.f162.body=some ATP:=by kernel_rfl
@[simp] theorem BBD:SX 24 (AB5 2) [oq 2 (.box (tq 0)),oq 3 (.box (tq 1)),ot 4 false] [0,1] [2]/\SX 24 (AB5 5) [oz 5 96 3 0,ol 6 3 5,od 7 106 [tq 6,ci 0,ci 2],om 8 7,gz 8 true 9 96 3 1,gl 8 true 10 3 9,gz 8 true 11 39 2 0,gl 8 true 12 3 11,gc 8 true 13 .sub 3 12 1,gd 8 true 14 106 [tq 10,.const (.int .i64 (bj 0)),tq 13],oq 15 (.pick (tq 8) (tq 14) (cb false)),om 16 15,gz 16 true 17 96 3 2,gl 16 true 18 3 17,gz 16 true 19 39 2 0,gl 16 true 20 3 19,gc 16 true 21 .sub 3 20 1,gd 16 true 22 106 [tq 18,.const (.int .i64 (bj 0)),tq 21],oq 23 (.pick (tq 16) (tq 22) (cb false)),om 4 23] [2,3] [2,3]:=⟨rx,rx⟩
def pR:=rg Tryz.f163
def ATQ:bw:=(.seq (pR 2) (.seq (pR 5) (.seq (pR 11) .ret)))
theorem A3T:Tryz.f163.body=some ATQ:=by kernel_rfl
@[simp] theorem BBE:SX 31 (pR 2) [oq 2 (.box (tq 0)),oq 3 (.box (tq 1)),ot 4 false] [0,1] [2]/\SX 31 (pR 5) [oz 6 171 3 1,ol 7 151 6,oq 5 (.alloc 151),os (.sto 151 (tq 5) (tq 7))] [2,3] [2,3]/\SX 31 (pR 11) [oz 8 171 3 0,ol 9 3 8,oz 10 39 2 3,ol 11 36 10,oe 12 11 36,od 13 106 [tq 9,ci 0,tq 12],om 14 13,gz 14 true 15 151 5 0,gl 14 true 16 3 15,og 14 true 17 (.bin .leq 3 (ci 0) (tq 16)),oq 18 (.pick (tq 14) (tq 17) (cb false)),om 19 18,gz 19 true 20 151 5 0,gl 19 true 21 3 20,gz 19 true 22 151 5 1,gl 19 true 23 3 22,gb 19 true 24 .leq 3 21 23,oq 25 (.pick (tq 19) (tq 24) (cb false)),om 26 25,gz 26 true 27 151 5 1,gl 26 true 28 3 27,gc 26 true 29 .leq 3 28 2000,oq 30 (.pick (tq 26) (tq 29) (cb false)),om 4 30] [2,3,5] [2,3,5]:=⟨rx,rx,rx⟩
def AB6:=rg Tryz.f176
def ATR:bw:=(.seq (AB6 2) (.seq (AB6 5) .ret))
theorem A3U:Tryz.f176.body=some ATR:=by kernel_rfl
@[simp] theorem BBF:SX 11 (AB6 2) [oq 2 (.box (tq 0)),ot 4 false] [0,1] [2]/\SX 11 (AB6 5) [om 5 1,oz 6 151 2 0,ol 7 3 6,oz 8 151 2 1,ol 9 3 8,od 10 106 [tq 5,tq 7,tq 9],om 4 10] [1,2] [2]:=⟨rx,rx⟩
def F0:=rg Tryz.f137
@[simp] def vM:bw:=(.seq (F0 559) (.seq (.cond (.tmp 58) .skip (.exit 1)) (.seq (.block 2 (.seq (F0 9007) (F0 13103))) (F0 3887))))
def TS:=vM
def Z7:bw:=(.seq (F0 2) (.seq (F0 5) (.seq (.block 0 (.seq (F0 35) (.cond (.tmp 12) (.seq (F0 147) .ret) (.seq (F0 179) (.cond (.tmp 23) (.seq (F0 627) .ret) .skip))))) (.seq (F0 23) (.seq (.seq (F0 79) (.block 1 (.loop TS))) (.seq (.seq (F0 159) (.cond (.tmp 71) (.seq (F0 607) .ret) .skip)) (.seq (F0 191) .ret)))))))
theorem A3V:Tryz.f137.body=some Z7:=by kernel_rfl
@[simp] theorem BBG:UX 72 TS vM/\SX 72 (F0 2) [oq 1 (.box (tq 0)),ok 2 0] [0] [1,64]/\RX 72 (F0 5) (.drw [⟨[],[ol 8 39 1,oq 9 (.oth (.makeFunc (.func 162) #[tq 8] #[])),ol 10 39 1,oq 11 (.oth (.makeFunc (.func 163) #[tq 10] #[])),om 3 9,om 4 11],[]⟩]) (some ([1],[1,64]))/\SX 72 (F0 35) [oz 13 39 1 3,ol 14 36 13,oe 15 14 36,oc 16 .gtr 3 15 8,om 17 16,gz 17 false 18 39 1 4,gl 17 false 19 37 18,ge 17 false 20 19 37,gc 17 false 21 .gtr 3 20 4,oq 22 (.pick (tq 17) (cb true) (tq 21)),om 12 22] [1,3,4] [1,64]/\SX 72 (F0 147) [ok 2 3] [] []/\SX 72 (F0 179) [oz 24 39 1 0,ol 25 3 24,od 26 106 [tq 25,ci 1,ci 4],ou 27 26,om 28 27,gz 28 false 29 39 1 1,gl 28 false 30 3 29,gd 28 false 31 106 [tq 30,ci 1,ci 99],og 28 false 32 (.oth (.unOp .not 4 (tq 31))),oq 33 (.pick (tq 28) (cb true) (tq 32)),om 34 33,gz 34 false 35 39 1 2,gl 34 false 36 3 35,gd 34 false 37 106 [tq 36,ci 0,ci 999],og 34 false 38 (.oth (.unOp .not 4 (tq 37))),oq 39 (.pick (tq 34) (cb true) (tq 38)),om 40 39,gz 40 false 41 39 1 3,gl 40 false 42 36 41,gm 40 false 43 3,gd 40 false 44 164 [tq 42,tq 43],og 40 false 45 (.oth (.unOp .not 4 (tq 44))),oq 46 (.pick (tq 40) (cb true) (tq 45)),om 47 46,gz 47 false 48 39 1 4,gl 47 false 49 37 48,gm 47 false 50 4,gd 47 false 51 165 [tq 49,tq 50],og 47 false 52 (.oth (.unOp .not 4 (tq 51))),oq 53 (.pick (tq 47) (cb true) (tq 52)),om 23 53] [1,3,4] [1,64]/\SX 72 (F0 627) [ok 2 1] [] []/\SX 72 (F0 23) [ok 5 1] [1] [1,64]/\SX 72 (F0 79) [oz 54 39 1 3,ol 55 36 54,oe 56 55 36,ok 57 0] [1,5] [1,64]/\SX 72 (F0 559) [ob 58 .lss 3 57 56] [1,5,55,56,57] [1,64]/\SX 72 (F0 9007) [oi 59 36 55 57,ol 60 96 59,oq 7 (.alloc 96),os (.sto 96 (tq 7) (tq 60))] [1,5,55,56,57] [1,64]/\SX 72 (F0 13103) [om 61 5,ol 62 39 1,ol 63 96 7,od 64 142 [tq 62,tq 63],oe 65 64 36,ob 66 .mul 3 61 65,oq 67 (.buildS 32 2 [(0,tq 66),(1,ci 4097)]),od 68 166 [tq 67],om 5 68] [1,5,7,55,56,57] [1,7,64]/\SX 72 (F0 3887) [oc 69 .add 3 57 1,om 57 69] [1,5,55,56,57] [1,64]/\SX 72 (F0 159) [om 70 5,oc 71 .gtr 3 70 4096] [5] []/\SX 72 (F0 607) [ok 2 3] [] []/\SX 72 (F0 191) [ok 2 0] [] []/\LX 72 TS [1,5,55,56,57] [1,64]:=by and_intros<;>first|exact rx|exact lx|exact fun _ _=>rfl
def AB7:=rg Tryz.f168
def ATS:bw:=(.seq (AB7 2) (.seq (AB7 5) .ret))
theorem A3W:Tryz.f168.body=some ATS:=by kernel_rfl
@[simp] theorem BBH:SX 6 (AB7 2) [oq 1 (.box (tq 0)),oq 2 (.alloc 162)] [0] [1]/\SX 6 (AB7 5) [oz 3 39 1 2,ol 4 3 3,oq 5 (.build 162 [(2,tq 4)]),os (.sto 162 (tq 2) (tq 5))] [0,1,2] [1,2]:=⟨rx,rx⟩
def HJ:=rg Tryz.f171
def ATT:bw:=(.seq (HJ 2) (.seq (HJ 5) (.seq (.seq (HJ 19) (.cond (.tmp 31) (.seq (HJ 75) .ret) .skip)) (.seq (.seq (HJ 39) (.cond (.tmp 33) (.seq (.seq (HJ 279) (.cond (.tmp 44) (HJ 663) .skip)) (.seq (HJ 343) (.seq (HJ 727) (.seq (HJ 1495) .ret)))) .skip)) (.seq (HJ 47) (.seq (HJ 95) (.seq (HJ 191) .ret)))))))
theorem A3X:Tryz.f171.body=some ATT:=by kernel_rfl
@[simp] theorem BBI:SX 83 (HJ 2) [oq 4 (.box (tq 0)),oq 5 (.box (tq 1)),oq 7 (.box (tq 3)),oq 8 (.alloc 162),ot 9 false] [0,1,2,3] [4]/\SX 83 (HJ 5) [oz 11 96 7 0,ol 12 3 11,oc 13 .eql 3 12 2,om 10 13] [2,4,5,7,8] [4,5,7,8]/\SX 83 (HJ 19) [oz 14 96 7 1,ol 15 3 14,oz 16 162 5 0,oi 17 160 16 15,ol 18 3 17,oc 19 .neq 3 18 0,om 20 10,ob 21 .neq 4 19 20,om 22 21,gz 22 false 23 96 7 2,gl 22 false 24 3 23,gz 22 false 25 162 5 1,gi 22 false 26 160 25 24,gl 22 false 27 3 26,gc 22 false 28 .neq 3 27 0,gm 22 false 29 10,gb 22 false 30 .neq 4 28 29,oq 31 (.pick (tq 22) (cb true) (tq 30))] [2,4,5,7,8,10] [4,5,7,8]/\SX 83 (HJ 75) [ol 32 162 5,os (.sto 162 (tq 8) (tq 32)),ot 9 false] [5,8] [5,8]/\SX 83 (HJ 39) [om 33 10] [2,4,5,7,8,10] [4,5,7,8]/\RX 83 (HJ 279) (.drw [⟨[],[oz 34 96 7 1,ol 35 3 34,oz 36 162 5 0,oi 37 160 36 35,ol 38 3 37,oz 39 96 7 2,ol 40 3 39,oz 41 162 5 1,oi 42 160 41 40,ol 43 3 42,ob 44 .neq 3 38 43],[]⟩]) (some ([4,5,7,8],[4,5,7,8]))/\SX 83 (HJ 663) [oz 45 162 5 3,ol 46 3 45,oc 47 .add 3 46 1,oz 48 162 5 3,os (.sto 3 (tq 48) (tq 47))] [4,5,7,8] [4,5,7,8]/\RX 83 (HJ 343) (.drw [⟨[],[oz 49 96 7 1,oq 50 (.ldz 3 (tq 49)),oz 51 96 7 2,ol 52 3 51,oz 53 162 5 0,oi 54 160 53 50,oz 55 162 5 1,os (.sto 3 (tq 54) (ci 0)),oi 56 160 55 52,os (.sto 3 (tq 56) (ci 0))],[]⟩]) (some ([4,5,7,8],[4,5,7,8]))/\SX 83 (HJ 727) [oz 57 162 5 2,ol 58 3 57,oz 59 39 4 1,ol 60 3 59,ob 61 .sub 3 58 60,oz 62 162 5 2,os (.sto 3 (tq 62) (tq 61))] [4,5,8] [4,5,8]/\SX 83 (HJ 1495) [ol 63 162 5,os (.sto 162 (tq 8) (tq 63)),ot 9 true] [5,8] [5,8]/\RX 83 (HJ 47) (.drw [⟨[],[oz 64 96 7 1,oq 65 (.ldz 3 (tq 64)),oz 66 96 7 2,ol 67 3 66,om 68 2,oc 69 .add 3 68 1,om 70 2,oc 71 .add 3 70 1,oz 72 162 5 0,oi 73 160 72 65,oz 74 162 5 1,os (.sto 3 (tq 73) (tq 69)),oi 75 160 74 67,os (.sto 3 (tq 75) (tq 71))],[]⟩]) (some ([2,4,5,7,8],[4,5,7,8]))/\SX 83 (HJ 95) [oz 76 162 5 2,ol 77 3 76,oz 78 39 4 1,ol 79 3 78,ob 80 .add 3 77 79,oz 81 162 5 2,os (.sto 3 (tq 81) (tq 80))] [4,5,8] [4,5,8]/\SX 83 (HJ 191) [ol 82 162 5,os (.sto 162 (tq 8) (tq 82)),ot 9 true] [5,8] [5,8]:=by and_intros<;>exact rx
def N3:=rg Tryz.f191
@[simp] def vN:bw:=(.seq (N3 69) (.seq (.cond (.tmp 9) .skip (.exit 0)) (.seq (.block 1 (.seq (N3 1125) (.seq (N3 2661) (.cond (.tmp 16) (.seq (N3 9829) .ret) .skip)))) (N3 485))))
def TT:=vN
def AIT:bw:=(.seq (N3 2) (.seq (.seq (N3 9) (.block 0 (.loop TT))) (.seq (N3 11) .ret)))
theorem A3Y:Tryz.f191.body=some AIT:=by kernel_rfl
@[simp] theorem BBJ:UX 19 TT vN/\SX 19 (N3 2) [oq 3 (.box (tq 1)),ok 4 0] [0,1] []/\SX 19 (N3 9) [om 6 0,oe 7 6 36,ok 8 0] [0,1,2,3] [2,3]/\SX 19 (N3 69) [ob 9 .lss 3 8 7] [0,1,3,7,8] [3]/\SX 19 (N3 1125) [om 10 8,om 5 10] [0,1,3,7,8] [3]/\RX 19 (N3 2661) (.drw [⟨[],[ol 11 96 3,om 12 0,om 13 5,oi 14 36 12 13,ol 15 96 14,ob 16 .eql 96 11 15],[]⟩]) (some ([0,1,3,5,7,8],[3]))/\SX 19 (N3 9829) [om 17 5,om 4 17] [5] []/\SX 19 (N3 485) [oc 18 .add 3 8 1,om 8 18] [0,1,3,7,8] [3]/\SX 19 (N3 11) [oq 4 (.mv (.const (.int .i64 (bj 0))))] [] []/\LX 19 TT [0,1,3,7,8] [3]:=⟨fun _ _=>rfl,rx,rx,rx,rx,rx,rx,rx,rx,lx⟩
def AB8:=rg Tryz.f188
def ATU:bw:=(.seq (AB8 2) (.seq (AB8 5) .ret))
theorem A3Z:Tryz.f188.body=some ATU:=by kernel_rfl
@[simp] theorem BBK:SX 9 (AB8 2) [oq 3 (.box (tq 1)),ot 4 false] [0,1] [3]/\SX 9 (AB8 5) [om 5 0,ol 6 96 3,od 7 191 [tq 5,tq 6],oc 8 .geq 3 7 0,om 4 8] [0,1,3] [3]:=⟨rx,rx⟩
def AB9:=rg Tryz.f174
def ATV:bw:=(.seq (AB9 2) (.seq (AB9 5) .ret))
theorem A30:Tryz.f174.body=some ATV:=by kernel_rfl
@[simp] theorem BBL:SX 12 (AB9 2) [oq 3 (.box (tq 0)),oq 4 (.box (tq 1)),oq 5 (.box (tq 2)),ot 6 false] [0,1,2] [3,9]/\RX 12 (AB9 5) (.drw [⟨[],[ol 7 39 3,ol 8 96 4,od 9 142 [tq 7,tq 8],ol 10 96 5],[od 11 188 [tq 9,tq 10]]⟩,⟨[],[om 6 11],[]⟩]) (some ([3,4,5],[3,4,5])):=⟨rx,rx⟩
def N4:=rg Tryz.f159
@[simp] def vO:bw:=(.seq (N4 69) (.seq (.cond (.tmp 9) .skip (.exit 0)) (.seq (.block 1 (.seq (N4 1125) (.seq (N4 2661) (.cond (.tmp 16) (.seq (N4 9829) .ret) .skip)))) (N4 485))))
def PI:=vO
def AIU:bw:=(.seq (N4 2) (.seq (.seq (N4 9) (.block 0 (.loop PI))) (.seq (N4 11) .ret)))
theorem b159:Tryz.f159.body=some AIU:=by kernel_rfl
@[simp] theorem BBM:UX 19 PI vO/\SX 19 (N4 2) [ok 4 0] [0,1] []/\SX 19 (N4 9) [om 6 0,oe 7 6 40,ok 8 0] [0,1,2,3] [2,3]/\SX 19 (N4 69) [ob 9 .lss 3 8 7] [0,1,3,7,8] [3]/\SX 19 (N4 1125) [om 10 8,om 5 10] [0,1,3,7,8] [3]/\SX 19 (N4 2661) [om 11 1,om 12 0,om 13 5,oi 14 40 12 13,ol 15 41 14,oq 16 (.call false none (tq 11) [tq 15])] [0,1,3,5,7,8] [3]/\SX 19 (N4 9829) [om 17 5,om 4 17] [5] []/\SX 19 (N4 485) [oc 18 .add 3 8 1,om 8 18] [0,1,3,7,8] [3]/\SX 19 (N4 11) [oq 4 (.mv (.const (.int .i64 (bj 0))))] [] []/\LX 19 PI [0,1,3,7,8] [3]:=⟨fun _ _=>rfl,rx,rx,rx,rx,rx,rx,rx,rx,lx⟩
def ACA:=rg Tryz.f131
def ATW:bw:=(.seq (ACA 2) (.seq (ACA 5) .ret))
theorem b131:Tryz.f131.body=some ATW:=by kernel_rfl
@[simp] theorem BBN:SX 9 (ACA 2) [ot 4 false] [0,1] []/\SX 9 (ACA 5) [om 5 0,om 6 1,od 7 159 [tq 5,tq 6],oc 8 .geq 3 7 0,om 4 8] [0,1,3] [3]:=⟨rx,rx⟩
def N5:=rg Tryz.f161
@[simp] def vP:bw:=(.seq (N5 69) (.seq (.cond (.tmp 9) .skip (.exit 0)) (.seq (.block 1 (.seq (N5 1125) (.seq (N5 2661) (.cond (.tmp 16) (.seq (N5 9829) .ret) .skip)))) (N5 485))))
def PJ:=vP
def AIV:bw:=(.seq (N5 2) (.seq (.seq (N5 9) (.block 0 (.loop PJ))) (.seq (N5 11) .ret)))
theorem b161:Tryz.f161.body=some AIV:=by kernel_rfl
@[simp] theorem BBO:UX 19 PJ vP/\SX 19 (N5 2) [ok 4 0] [0,1] []/\SX 19 (N5 9) [om 6 0,oe 7 6 41,ok 8 0] [0,1,2,3] [2,3]/\SX 19 (N5 69) [ob 9 .lss 3 8 7] [0,1,3,7,8] [3]/\SX 19 (N5 1125) [om 10 8,om 5 10] [0,1,3,7,8] [3]/\SX 19 (N5 2661) [om 11 1,om 12 0,om 13 5,oi 14 41 12 13,ol 15 98 14,oq 16 (.call false none (tq 11) [tq 15])] [0,1,3,5,7,8] [3]/\SX 19 (N5 9829) [om 17 5,om 4 17] [5] []/\SX 19 (N5 485) [oc 18 .add 3 8 1,om 8 18] [0,1,3,7,8] [3]/\SX 19 (N5 11) [oq 4 (.mv (.const (.int .i64 (bj 0))))] [] []/\LX 19 PJ [0,1,3,7,8] [3]:=⟨fun _ _=>rfl,rx,rx,rx,rx,rx,rx,rx,rx,lx⟩
def ACB:=rg Tryz.f135
def ATX:bw:=(.seq (ACB 2) (.seq (ACB 5) .ret))
theorem b135:Tryz.f135.body=some ATX:=by kernel_rfl
@[simp] theorem BBP:SX 9 (ACB 2) [ot 4 false] [0,1] []/\SX 9 (ACB 5) [om 5 0,om 6 1,od 7 161 [tq 5,tq 6],oc 8 .geq 3 7 0,om 4 8] [0,1,3] [3]:=⟨rx,rx⟩
def ACC:=rg Tryz.f101
def AIW:bw:=(.seq (ACC 2) (.seq (ACC 5) .ret))
theorem ATY:Tryz.f101.body=some AIW:=by kernel_rfl
@[simp] theorem BBQ:SX 9 (ACC 2) [oq 3 (.box (tq 1)),ot 4 false] [0,1] [3]/\SX 9 (ACC 5) [om 5 0,oq 6 (.oth (.makeFunc (.func 136) #[] #[tq 3])),od 7 135 [tq 5,tq 6],ou 8 7,om 4 8] [0,1,3] [3]:=⟨rx,rx⟩
def ACD:=rg Tryz.f136
def AIX:bw:=(.seq (ACD 2) (.seq (ACD 5) .ret))
theorem b136:Tryz.f136.body=some AIX:=by kernel_rfl
@[simp] theorem BBR:SX 8 (ACD 2) [oq 2 (.box (tq 0)),ot 3 false] [0,1] []/\SX 8 (ACD 5) [ol 4 127 1,ol 5 98 2,oq 6 (.call false none (tq 4) [tq 5]),ou 7 6,om 3 7] [0,1,2] [2]:=⟨rx,rx⟩
def g97:=rg Tryz.f97
def c97:bw:=(.seq (g97 2) (.seq (g97 5) .ret))
theorem b97:Tryz.f97.body=some c97:=by kernel_rfl
@[simp] theorem x97:SX 9 (g97 2) [oq 3 (.box (tq 1)),ot 4 false] [0,1] [3]/\SX 9 (g97 5) [om 5 0,oq 6 (.oth (.makeFunc (.func 132) #[] #[tq 3])),od 7 131 [tq 5,tq 6],ou 8 7,om 4 8] [0,1,3] [3]:=⟨rx,rx⟩
def ACE:=rg Tryz.f132
def AIY:bw:=(.seq (ACE 2) (.seq (ACE 5) .ret))
theorem b132:Tryz.f132.body=some AIY:=by kernel_rfl
@[simp] theorem BBS:SX 8 (ACE 2) [ot 3 false] [0,1] []/\SX 8 (ACE 5) [ol 4 113 1,om 5 0,oq 6 (.call false none (tq 4) [tq 5]),ou 7 6,om 3 7] [0,1,2] [2]:=⟨rx,rx⟩
def ACF:=rg Tryz.f145
def ATZ:bw:=(.seq (ACF 2) (.seq (ACF 5) .ret))
theorem A32:Tryz.f145.body=some ATZ:=by kernel_rfl
@[simp] theorem BBT:SX 11 (ACF 2) [oq 3 (.box (tq 0)),oq 4 (.box (tq 1)),oq 5 (.box (tq 2)),ot 6 false] [0,1,2] [3]/\SX 11 (ACF 5) [oz 7 39 3 4,ol 8 37 7,oq 9 (.oth (.makeFunc (.func 175) #[] #[tq 5,tq 4])),od 10 165 [tq 8,tq 9],om 6 10] [0,1,2,3,4,5,6] [3,4,5,6]:=⟨rx,rx⟩
def ACG:=rg Tryz.f175
def AT0:bw:=(.seq (ACG 2) (.seq (ACG 5) .ret))
theorem b175:Tryz.f175.body=some AT0:=by kernel_rfl
@[simp] theorem BBU:SX 16 (ACG 2) [oq 3 (.box (tq 0)),ot 4 false] [0,1,2] []/\SX 16 (ACG 5) [oz 5 171 3 0,ol 6 3 5,ol 7 3 1,ob 8 .neq 3 6 7,om 9 8,gz 9 false 10 171 3 1,gl 9 false 11 151 10,gz 9 false 12 162 2 2,gl 9 false 13 3 12,gd 9 false 14 176 [tq 11,tq 13],oq 15 (.pick (tq 9) (cb true) (tq 14)),om 4 15] [1,2,3] [3]:=⟨rx,rx⟩
def EZ:=rg Tryz.f144
@[simp] def vQ:bw:=(.seq (EZ 559) (.seq (.cond (.tmp 24) .skip (.exit 0)) (.seq (.block 1 (.seq (EZ 9007) (.seq (.seq (EZ 37679) (.cond (.tmp 36) (.seq (EZ 152367) .ret) .skip)) (.seq (EZ 45871) (.seq (.seq (EZ 160559) (.seq (EZ 357167) (.cond (.tmp 46) (.seq (EZ 1274671) .ret) .skip))) (EZ 127791)))))) (EZ 3887))))
def TU:=vQ
def AIZ:bw:=(.seq (EZ 2) (.seq (.seq (EZ 9) (.cond (.tmp 16) (.seq (EZ 37) .ret) .skip)) (.seq (EZ 11) (.seq (EZ 23) (.seq (.seq (EZ 79) (.block 0 (.loop TU))) (.seq (EZ 95) .ret))))))
theorem A33:Tryz.f144.body=some AIZ:=by kernel_rfl
@[simp] theorem BBV:UX 53 TU vQ/\SX 53 (EZ 2) [oq 2 (.box (tq 0)),oq 4 (.mv (.const (.slice none 0 0))),ot 5 false] [0,1] [2]/\SX 53 (EZ 9) [om 11 1,oe 12 11 36,oz 13 39 2 3,ol 14 36 13,oe 15 14 36,ob 16 .neq 3 12 15] [1,2] [2]/\SX 53 (EZ 37) [oq 4 (.mv (.const (.slice none 0 0))),ot 5 false] [] []/\SX 53 (EZ 11) [ol 17 39 2,oq 18 (.call true none (.func 168) [tq 17]),oq 6 (.alloc 162),os (.sto 162 (tq 6) (tq 18))] [1,2] [2]/\SX 53 (EZ 23) [ol 19 162 6,oq 20 (.buildS 193 1 [(0,tq 19)]),om 7 20] [1,2,6] [2,6]/\SX 53 (EZ 79) [om 21 1,oe 22 21 36,ok 23 0] [1,2,6,7] [2,6,50]/\SX 53 (EZ 559) [ob 24 .lss 3 23 22] [2,6,7,21,22,23] [2,6,50]/\SX 53 (EZ 9007) [om 25 23,oi 26 36 21 23,ol 27 96 26,oq 9 (.alloc 96),om 8 25,os (.sto 96 (tq 9) (tq 27))] [2,6,7,21,22,23] [2,6,50]/\RX 53 (EZ 37679) (.drw [⟨[],[ol 28 39 2,oz 29 39 2 3,ol 30 36 29,om 31 8,oi 32 36 30 31,ol 33 96 32,ol 34 96 9],[od 35 174 [tq 28,tq 33,tq 34]]⟩,⟨[],[ou 36 35],[]⟩]) (some ([2,6,7,8,9,21,22,23],[2,6,9,50]))/\SX 53 (EZ 152367) [oq 4 (.mv (.const (.slice none 0 0))),ot 5 false] [] []/\SX 53 (EZ 45871) [ot 10 false] [2,6,7,8,9,21,22,23] [2,6,9,50]/\SX 53 (EZ 160559) [ol 38 39 2,ol 39 162 6,om 40 8,ol 41 96 9,od 42 171 [tq 38,tq 39,tq 40,tq 41],om 37 42,oq 43 (.oth (.extract (tq 37) 0)),oq 44 (.oth (.extract (tq 37) 1)),os (.sto 162 (tq 6) (tq 43)),om 10 44] [2,6,7,8,9,21,22,23] [2,6,9,50]/\SX 53 (EZ 357167) [om 45 10,ou 46 45] [2,6,7,10,21,22,23] [2,6,50]/\SX 53 (EZ 1274671) [oq 4 (.mv (.const (.slice none 0 0))),ot 5 false] [] []/\SX 53 (EZ 127791) [om 47 7,ol 48 162 6,oq 49 (.buildS 193 1 [(0,tq 48)]),oq 50 (.app [tq 47,tq 49] [193,193]),om 7 50] [2,6,7,21,22,23] [2,6,50]/\SX 53 (EZ 3887) [oc 51 .add 3 23 1,om 23 51] [2,6,7,21,22,23] [2,6,50]/\SX 53 (EZ 95) [om 52 7,om 4 52,ot 5 true] [7] [50]/\LX 53 TU [2,6,7,21,22,23] [2,6,50]:=by and_intros<;>first|exact rx|exact lx|exact fun _ _=>rfl
def JW:=rg Tryz.f117
@[simp] def vR:bw:=(.seq (JW 279) (.seq (.cond (.tmp 21) .skip (.exit 0)) (.seq (.block 1 (.seq (JW 4503) (JW 6551))) (JW 1943))))
def TV:=vR
def ACH:bw:=(.seq (JW 2) (.seq (.seq (JW 9) (.cond (.tmp 11) (.seq (JW 37) .ret) .skip)) (.seq (JW 11) (.seq (.seq (JW 39) (.block 0 (.loop TV))) (.seq (JW 47) .ret)))))
theorem A34:Tryz.f117.body=some ACH:=by kernel_rfl
@[simp] theorem BBW:UX 34 TV vR/\SX 34 (JW 2) [oq 2 (.box (tq 0)),ot 4 false] [0,1] [2,15]/\SX 34 (JW 9) [ol 9 39 2,od 10 137 [tq 9],oc 11 .neq 33 10 0] [1,2] [2,15]/\SX 34 (JW 37) [ot 4 false] [] []/\SX 34 (JW 11) [ol 13 39 2,om 14 1,od 15 144 [tq 13,tq 14],om 12 15,oq 16 (.oth (.extract (tq 12) 0)),oq 17 (.oth (.extract (tq 12) 1)),om 5 16,om 6 17] [1,2] [2,15]/\SX 34 (JW 39) [om 18 5,oe 19 18 193,ok 20 0] [2,5,6] [2,15]/\SX 34 (JW 279) [ob 21 .lss 3 20 19] [2,6,18,19,20] [2,15]/\SX 34 (JW 4503) [om 22 20,oi 23 193 18 20,ol 24 162 23,oq 8 (.alloc 162),om 7 22,os (.sto 162 (tq 8) (tq 24))] [2,6,18,19,20] [2,15]/\SX 34 (JW 6551) [om 25 6,om 26 25,gl 26 true 27 39 2,gl 26 true 28 162 8,gm 26 true 29 7,gd 26 true 30 145 [tq 27,tq 28,tq 29],oq 31 (.pick (tq 26) (tq 30) (cb false)),om 6 31] [2,6,7,8,18,19,20] [2,8,15]/\SX 34 (JW 1943) [oc 32 .add 3 20 1,om 20 32] [2,6,18,19,20] [2,15]/\SX 34 (JW 47) [om 33 6,om 4 33] [6] []/\LX 34 TV [2,6,18,19,20] [2,15]:=⟨fun _ _=>rfl,rx,rx,rx,rx,rx,rx,rx,rx,rx,rx,lx⟩
def PK:=rg Tryz.f187
@[simp] def vS:bw:=(.seq (PK 69) (.seq (.cond (.tmp 7) .skip (.exit 0)) (.seq (.block 1 (.seq (PK 1125) (PK 1637))) (PK 485))))
def Z8:=vS
def AT1:bw:=(.seq (PK 2) (.seq (.seq (PK 9) (.block 0 (.loop Z8))) (.seq (PK 11) .ret)))
theorem A35:Tryz.f187.body=some AT1:=by kernel_rfl
@[simp] theorem BBX:UX 17 Z8 vS/\SX 17 (PK 2) [oq 1 (.box (tq 0)),oq 2 (.alloc 160)] [0] []/\SX 17 (PK 9) [ol 5 160 1,ok 6 0] [1,2] [1,2]/\SX 17 (PK 69) [oc 7 .lss 3 6 4] [2,5,6] [2]/\SX 17 (PK 1125) [om 8 6,oq 9 (.oth (.index 160 (tq 5) (tq 6))),om 3 8,om 4 9] [2,5,6] [2]/\SX 17 (PK 1637) [om 10 3,om 11 4,oq 12 (.buildS 32 2 [(0,tq 11),(1,ci 1)]),oq 13 (.call true none (.func 166) [tq 12]),oi 14 160 2 10,os (.sto 3 (tq 14) (tq 13))] [2,3,4,5,6] [2]/\SX 17 (PK 485) [oc 15 .add 3 6 1,om 6 15] [2,5,6] [2]/\SX 17 (PK 11) [ol 16 160 2,os (.sto 160 (tq 2) (tq 16))] [2] [2]/\LX 17 Z8 [2,5,6] [2]:=⟨fun _ _=>rfl,rx,rx,rx,rx,rx,rx,rx,lx⟩
def EQ:=rg Tryz.f167
@[simp] def nJ:bw:=(.seq (EQ 2239) (.seq (.cond (.tmp 64) .skip (.exit 0)) (.seq (.block 1 (.seq (EQ 36031) (.seq (EQ 85183) (.seq (EQ 183487) (.cond (.tmp 85) (.seq (EQ 642239) (.exit 0)) .skip))))) (EQ 15551))))
def PL:=nJ
def dG:bw:=(.seq (EQ 2) (.seq (.seq (EQ 9) (.cond (.tmp 21) (.seq (EQ 37) .ret) .skip)) (.seq (.seq (EQ 19) (.cond (.tmp 29) (.seq (EQ 75) .ret) .skip)) (.seq (EQ 23) (.seq (EQ 47) (.seq (.seq (EQ 159) (.cond (.tmp 47) (.seq (EQ 607) .ret) .skip)) (.seq (.seq (EQ 319) (.block 0 (.loop PL))) (.seq (EQ 383) (.seq (EQ 767) .ret)))))))))
theorem b167:Tryz.f167.body=some dG:=by kernel_rfl
@[simp] theorem BBY:UX 94 PL nJ/\SX 94 (EQ 2) [oq 4 (.box (tq 1)),ot 6 false] [0,1,2] [61]/\RX 94 (EQ 9) (.drw [⟨[],[om 14 0,oq 15 (.oth (.nilCheck (tq 14))),oz 16 222 15 0,ol 17 39 16,ol 18 162 4,om 19 2],[od 20 145 [tq 17,tq 18,tq 19]]⟩,⟨[],[ou 21 20],[]⟩]) (some ([0,2,4],[4,61]))/\SX 94 (EQ 37) [ot 6 false] [] []/\SX 94 (EQ 19) [om 22 2,om 23 0,oq 24 (.oth (.nilCheck (tq 23))),oz 25 222 24 0,oz 26 39 25 3,ol 27 36 26,oe 28 27 36,ob 29 .eql 3 22 28] [0,2,4] [4,61]/\SX 94 (EQ 75) [ot 6 true] [] []/\RX 94 (EQ 23) (.drw [⟨[7],[om 30 2,oz 31 162 4 0,oq 32 (.ldz 160 (tq 31)),od 33 187 [tq 32],oz 34 162 4 1,oq 35 (.ldz 160 (tq 34)),od 36 187 [tq 35],oq 37 (.build 239 [(0,tq 30),(1,tq 33),(2,tq 36)]),oq 7 (.alloc 239)],[os (.sto 239 (tq 7) (tq 37))]⟩]) (some ([0,2,4],[4,61]))/\RX 94 (EQ 47) (.drw [⟨[],[om 39 0,oq 40 (.oth (.nilCheck (tq 39))),oz 41 222 40 1,ol 42 220 41,ol 43 239 7,oq 44 (.oth (.lookup 220 (tq 42) (tq 43) true)),om 38 44,oq 45 (.oth (.extract (tq 38) 0)),oq 46 (.oth (.extract (tq 38) 1)),om 8 45,om 9 46],[]⟩]) (some ([0,2,4,7],[4,7,61]))/\SX 94 (EQ 159) [om 47 9] [0,2,4,7,8,9] [4,7,61]/\SX 94 (EQ 607) [om 48 8,om 6 48] [8] []/\RX 94 (EQ 319) (.drw [⟨[],[om 49 0,oq 50 (.oth (.nilCheck (tq 49))),oz 51 222 50 0,ol 52 39 51,om 53 0,oq 54 (.oth (.nilCheck (tq 53))),oz 55 222 54 0,oz 56 39 55 3,ol 57 36 56,om 58 2,oi 59 36 57 58,ol 60 96 59,od 61 142 [tq 52,tq 60],oe 62 61 36,ok 63 0],[]⟩]) (some ([0,2,4,7,8],[4,7]))/\SX 94 (EQ 2239) [ob 64 .lss 3 63 62] [0,2,4,7,8,61,62,63] [4,7,61]/\SX 94 (EQ 36031) [oi 65 36 61 63,ol 66 96 65,oq 11 (.alloc 96),os (.sto 96 (tq 11) (tq 66))] [0,2,4,7,8,61,62,63] [4,7,61]/\RX 94 (EQ 85183) (.drw [⟨[12],[om 68 0,oq 69 (.oth (.nilCheck (tq 68))),oz 70 222 69 0,oq 71 (.ldz 39 (tq 70)),oq 72 (.ldz 162 (tq 4)),om 73 2,oq 74 (.ldz 96 (tq 11)),od 75 171 [tq 71,tq 72,tq 73,tq 74],om 67 75,oq 76 (.oth (.extract (tq 67) 0)),oq 77 (.oth (.extract (tq 67) 1)),oq 12 (.alloc 162),os (.sto 162 (tq 12) (tq 76)),om 13 77],[]⟩]) (some ([0,2,4,7,8,11,61,62,63],[4,7,11,61]))/\SX 94 (EQ 183487) [om 78 13,om 79 78,gm 79 true 80 0,gl 79 true 81 162 12,gm 79 true 82 2,gc 79 true 83 .add 3 82 1,gd 79 true 84 167 [tq 80,tq 81,tq 83],oq 85 (.pick (tq 79) (tq 84) (cb false))] [0,2,4,7,8,12,13,61,62,63] [4,7,12,61]/\SX 94 (EQ 642239) [ot 8 true] [0,7] [7,61]/\SX 94 (EQ 15551) [oc 86 .add 3 63 1,om 63 86] [0,2,4,7,8,61,62,63] [4,7,61]/\RX 94 (EQ 383) (.drw [⟨[],[om 87 0,oq 88 (.oth (.nilCheck (tq 87))),oz 89 222 88 1,ol 90 220 89,ol 91 239 7,om 92 8],[os (.upd 220 (tq 90) (tq 91) (tq 92))]⟩]) (some ([0,7,8],[7,61]))/\SX 94 (EQ 767) [om 93 8,om 6 93] [8] []/\LX 94 PL [0,2,4,7,8,61,62,63] [4,7,61]:=by and_intros<;>first|exact rx|exact lx|exact fun _ _=>rfl
def ACI:=rg Tryz.f138
def AT2:bw:=(.seq (ACI 2) (.seq (ACI 5) .ret))
theorem A36:Tryz.f138.body=some AT2:=by kernel_rfl
@[simp] theorem BBZ:SX 10 (ACI 2) [oq 1 (.box (tq 0)),ot 2 false] [0] [1,4,6]/\RX 10 (ACI 5) (.drw [⟨[4,6],[ol 3 39 1,ol 7 39 1,od 8 168 [tq 7],oq 4 (.mkM none),oq 5 (.build 222 [(0,tq 3),(1,tq 4)]),oq 6 (.box (tq 5))],[oq 9 (.callM false 6 (.func 167) [tq 6,tq 8,ci 0])]⟩,⟨[],[om 2 9],[]⟩]) (some ([1],[1])):=⟨rx,rx⟩
def LR:=rg Tryz.f105
def vT:bw:=(.seq (LR 2) (.seq (.seq (LR 9) (.block 0 (.seq (LR 37) (.cond (.tmp 8) (.seq (LR 149) .ret) (.seq (LR 181) (.cond (.tmp 12) (.seq (LR 629) .ret) (.seq (LR 757) (.cond (.tmp 15) (.seq (LR 2549) .ret) .skip)))))))) (.seq (LR 11) .ret)))
theorem A37:Tryz.f105.body=some vT:=by kernel_rfl
@[simp] theorem BB0:SX 19 (LR 2) [oq 2 (.box (tq 0)),ok 4 0] [0,1] [2]/\SX 19 (LR 9) [ol 6 39 2,od 7 137 [tq 6],om 5 7] [0,1,2,3] [2,3]/\SX 19 (LR 37) [om 9 5,oc 10 .neq 33 9 0,om 8 10] [1,2,5] [2]/\SX 19 (LR 149) [om 11 5,om 4 11] [5] []/\SX 19 (LR 181) [om 13 1,ou 14 13,om 12 14] [1,2] [2]/\SX 19 (LR 629) [ok 4 2] [] []/\SX 19 (LR 757) [ol 16 39 2,od 17 138 [tq 16],ou 18 17,om 15 18] [2] [2]/\SX 19 (LR 2549) [ok 4 11] [] []/\SX 19 (LR 11) [ok 4 0] [] []:=by and_intros<;>exact rx
def ACJ:=rg Tryz.f139
def AT3:bw:=(.seq (ACJ 2) (.seq (ACJ 5) .ret))
theorem A38:Tryz.f139.body=some AT3:=by kernel_rfl
@[simp] theorem BB1:SX 4 (ACJ 2) [oq 1 (.box (tq 0)),oq 2 (.mv (.const .nilFunc))] [0] [1]/\SX 4 (ACJ 5) [oq 3 (.oth (.makeFunc (.func 169) #[] #[tq 1])),om 2 3] [1] [1]:=⟨rx,rx⟩
def S5:=rg Tryz.f169
def AT4:bw:=(.seq (S5 2) (.seq (S5 5) (.seq (S5 11) (.seq (S5 23) (.seq (S5 47) (S5 63))))))
theorem b169:Tryz.f169.body=some AT4:=by kernel_rfl
@[simp] theorem BB2:SX 22 (S5 2) [oq 2 (.box (tq 0))] [0,1] [2,3,4,5,9,14]/\RX 22 (S5 5) (.drw [⟨[9,14,3,4],[oz 6 39 1 3,oq 7 (.ldz 36 (tq 6)),oe 8 7 36,oz 10 39 1 3,ol 11 36 10,oe 12 11 36,oc 13 .add 3 12 1,oq 9 (.mkS 36 (tq 8) (tq 8)),oq 14 (.mkS 193 (tq 13) (tq 13)),oq 3 (.alloc 36),oq 4 (.alloc 193),os (.sto 36 (tq 3) (tq 9))],[os (.sto 193 (tq 4) (tq 14))]⟩]) (some ([1,2],[2,5]))/\SX 22 (S5 11) [oq 5 (.alloc 126)] [1,2,3,4] [2,3,4,5,9,14]/\SX 22 (S5 23) [oq 15 (.oth (.makeFunc (.func 170) #[] #[tq 1,tq 4,tq 3,tq 2,tq 5])),os (.sto 126 (tq 5) (tq 15))] [1,2,3,4,5] [2,3,4,5,9,14]/\RX 22 (S5 47) (.drw [⟨[18],[oq 16 (.ldz 193 (tq 4)),oq 17 (.ldz 39 (tq 1)),oq 18 (.call true none (.func 168) [tq 17]),oq 19 (.oth (.indexAddr 193 (tq 16) (ci 0)))],[os (.sto 162 (tq 19) (tq 18))]⟩]) (some ([1,4,5],[2,3,4,5,9,14]))/\SX 22 (S5 63) [ol 20 126 5,oq 21 (.call false none (tq 20) [ci 0])] [5] [2,3,4,5,9,14]:=⟨rx,rx,rx,rx,rx,rx⟩
def F3:=rg Tryz.f170
@[simp] def vU:bw:=(.seq (F3 279) (.seq (.cond (.tmp 37) .skip (.exit 0)) (.seq (.block 1 (.seq (F3 4503) (.seq (F3 10647) (.seq (.seq (F3 39319) (.cond (.tmp 52) (.exit 1) .skip)) (.seq (F3 47511) (.seq (F3 96663) (.cond (.tmp 66) (.seq (F3 326039) .ret) .skip))))))) (F3 1943))))
def TW:=vU
def pS:bw:=(.seq (F3 2) (.seq (.seq (F3 9) (.cond (.tmp 19) (.seq (F3 37) .ret) .skip)) (.seq (.seq (F3 19) (.cond (.tmp 23) (.seq (F3 75) .ret) .skip)) (.seq (.seq (F3 39) (.block 0 (.loop TW))) (.seq (F3 47) .ret)))))
theorem b170:Tryz.f170.body=some pS:=by kernel_rfl
@[simp] theorem BB3:UX 68 TW vU/\SX 68 (F3 2) [ot 7 false] [0,1,2,3,4,5] [34]/\RX 68 (F3 9) (.drw [⟨[],[ol 12 39 1,ol 13 193 2,om 14 0,oi 15 193 13 14,ol 16 162 15,om 17 0],[od 18 145 [tq 12,tq 16,tq 17]]⟩,⟨[],[ou 19 18],[]⟩]) (some ([0,1,2,3,4,5],[34]))/\SX 68 (F3 37) [ot 7 true] [] []/\SX 68 (F3 19) [om 20 0,ol 21 36 3,oe 22 21 36,ob 23 .eql 3 20 22] [0,1,2,3,4,5] [34]/\SX 68 (F3 75) [ol 24 224 4,ol 25 36 3,ol 26 193 2,oq 27 (.call false none (tq 24) [tq 25,tq 26]),om 7 27] [2,3,4] []/\RX 68 (F3 39) (.drw [⟨[],[ol 28 39 1,oz 29 39 1 3,ol 30 36 29,om 31 0,oi 32 36 30 31,ol 33 96 32,od 34 142 [tq 28,tq 33],oe 35 34 36,ok 36 0],[]⟩]) (some ([0,1,2,3,5],[]))/\SX 68 (F3 279) [ob 37 .lss 3 36 35] [0,1,2,3,5,34,35,36] [34]/\SX 68 (F3 4503) [oi 38 36 34 36,ol 39 96 38,oq 9 (.alloc 96),os (.sto 96 (tq 9) (tq 39))] [0,1,2,3,5,34,35,36] [34]/\RX 68 (F3 10647) (.drw [⟨[10],[oq 41 (.ldz 39 (tq 1)),oq 42 (.ldz 193 (tq 2)),om 43 0,oi 44 193 42 43,oq 45 (.ldz 162 (tq 44)),om 46 0,oq 47 (.ldz 96 (tq 9)),od 48 171 [tq 41,tq 45,tq 46,tq 47],om 40 48,oq 49 (.oth (.extract (tq 40) 0)),oq 50 (.oth (.extract (tq 40) 1)),oq 10 (.alloc 162),os (.sto 162 (tq 10) (tq 49)),om 11 50],[]⟩]) (some ([0,1,2,3,5,9,34,35,36],[9,34]))/\SX 68 (F3 39319) [om 51 11,ou 52 51] [0,1,2,3,5,9,10,11,34,35,36] [9,10,34]/\RX 68 (F3 47511) (.drw [⟨[],[oq 53 (.ldz 36 (tq 3)),om 54 0,ol 55 193 2,om 56 0,oc 57 .add 3 56 1,oq 58 (.ldz 96 (tq 9)),ol 59 162 10,oi 60 36 53 54,os (.sto 96 (tq 60) (tq 58)),oi 61 193 55 57],[os (.sto 162 (tq 61) (tq 59))]⟩]) (some ([0,1,2,3,5,9,10,34,35,36],[9,10,34]))/\SX 68 (F3 96663) [ol 62 126 5,om 63 0,oc 64 .add 3 63 1,oq 65 (.call false none (tq 62) [tq 64]),ou 66 65] [0,1,2,3,5,34,35,36] [34]/\SX 68 (F3 1943) [oc 67 .add 3 36 1,om 36 67] [0,1,2,3,5,34,35,36] [34]/\SX 68 (F3 47) [ot 7 true] [] []/\LX 68 TW [0,1,2,3,5,34,35,36] [34]:=by and_intros<;>first|exact rx|exact lx|exact fun _ _=>rfl
def DS:=rg Tryz.f133
def AT5:bw:=(.seq (DS 2) (.seq (DS 5) (.seq (.seq (DS 19) (.block 0 (.rangeFunc (.tmp 12) #[13,14] (DS 75) (.block 1 (.seq (DS 299) (.seq (.seq (DS 1195) (.cond (.tmp 21) (DS 2731) .skip)) (DS 939))))))) (.seq (DS 23) .ret))))
theorem A39:Tryz.f133.body=some AT5:=by kernel_rfl
@[simp] theorem vV:RX 29 (DS 75) (.str [om 9 14]) (some ([4,5,6,7,14],[4,5,6,7])):=rx
@[simp] theorem BB4:SX 29 (DS 2) [oq 3 (.box (tq 0)),oq 4 (.box (tq 1)),oq 5 (.box (tq 2)),oq 6 (.alloc 151)] [0,1,2] [3,5,12]/\SX 29 (DS 5) [oq 7 (.alloc 4),os (.sto 4 (tq 7) (cb true))] [3,4,5,6] [3,4,5,6,12]/\SX 29 (DS 19) [ol 11 39 3,od 12 139 [tq 11]] [3,4,5,6,7] [3,4,5,6,7,12]/\RX 29 (DS 299) (.drw [⟨[],[ol 15 188 5,om 16 9,ol 17 3 4,oi 18 193 16 17,ol 19 162 18],[oq 20 (.call false none (tq 15) [tq 19])]⟩,⟨[],[om 10 20],[]⟩]) (some ([4,5,6,7,9],[4,5,6,7]))/\SX 29 (DS 1195) [ol 21 4 7] [6,7,10] [6,7]/\SX 29 (DS 2731) [om 22 10,om 23 10,oq 24 (.build 151 [(0,tq 22),(1,tq 23)]),os (.sto 151 (tq 6) (tq 24)),os (.sto 4 (tq 7) (cb false))] [6,7,10] [6,7]/\SX 29 (DS 939) [ol 25 151 6,om 26 10,oq 27 (.call true none (.func 160) [tq 25,tq 26]),os (.sto 151 (tq 6) (tq 27))] [6,10] [6]/\SX 29 (DS 23) [ol 28 151 6,os (.sto 151 (tq 6) (tq 28))] [6] [6]:=by and_intros<;>exact rx
def ACK:=rg Tryz.f134
def AT6:bw:=(.seq (ACK 2) (.seq (ACK 5) .ret))
theorem A4A:Tryz.f134.body=some AT6:=by kernel_rfl
@[simp] theorem BB5:SX 5 (ACK 2) [oq 1 (.box (tq 0)),ok 2 0] [0] [1]/\SX 5 (ACK 5) [oz 3 162 1 3,ol 4 3 3,om 2 4] [0,1] [1]:=⟨rx,rx⟩
def ACL:=rg Tryz.f160
def AT7:bw:=(.seq (ACL 2) (.seq (ACL 5) .ret))
theorem A4B:Tryz.f160.body=some AT7:=by kernel_rfl
@[simp] theorem BB6:SX 15 (ACL 2) [oq 2 (.box (tq 0)),oq 4 (.alloc 151)] [0,1] []/\RX 15 (ACL 5) (.drw [⟨[],[oz 5 151 2 0,oq 6 (.ldz 3 (tq 5)),om 7 1,oq 8 (.buildS 32 2 [(0,tq 6),(1,tq 7)]),od 9 166 [tq 8],oz 10 151 2 1,oq 11 (.ldz 3 (tq 10)),om 12 1,oq 13 (.oth (.call ⟨.builtin .max,#[tq 11,tq 12],#[3,3]⟩)),oq 14 (.build 151 [(0,tq 9),(1,tq 13)])],[os (.sto 151 (tq 4) (tq 14))]⟩]) (some ([1,2,4],[2,4])):=⟨rx,rx⟩
def g98:=rg Tryz.f98
def c98:bw:=(.seq (g98 2) (.seq (.seq (g98 9) (.seq (g98 21) (.cond (.tmp 8) (.seq (g98 77) .ret) .skip))) (.seq (g98 11) .ret)))
theorem b98:Tryz.f98.body=some c98:=by kernel_rfl
@[simp] theorem x98:SX 16 (g98 2) [oq 1 (.box (tq 0)),oq 2 (.alloc 151),ok 3 0] [0] [1]/\SX 16 (g98 9) [ol 5 39 1,od 6 105 [tq 5,cb true],om 4 6] [1,2] [1,2]/\SX 16 (g98 21) [om 7 4,oc 8 .neq 33 7 0] [1,2,4] [1,2]/\SX 16 (g98 77) [oq 9 (.build 151 []),om 10 4,os (.sto 151 (tq 2) (tq 9)),om 3 10] [2,4] [2]/\SX 16 (g98 11) [ol 11 39 1,oz 12 39 1 3,ol 13 36 12,oe 14 13 36,oq 15 (.call true none (.func 133) [tq 11,tq 14,.func 134]),os (.sto 151 (tq 2) (tq 15)),ok 3 0] [1,2] [1,2]:=⟨rx,rx,rx,rx,rx⟩
def ACM:=rg Tryz.f100
def AT8:bw:=(.seq (ACM 2) (.seq (ACM 5) .ret))
theorem A4D:Tryz.f100.body=some AT8:=by kernel_rfl
@[simp] theorem BB8:SX 15 (ACM 2) [ot 6 false] [0,1,2] []/\SX 15 (ACM 5) [om 7 1,om 8 0,ob 9 .leq 3 7 8,om 10 9,gm 10 true 11 0,gm 10 true 12 2,gb 10 true 13 .leq 3 11 12,oq 14 (.pick (tq 10) (tq 13) (cb false)),om 6 14] [0,1,2] []:=⟨rx,rx⟩
def g99:=rg Tryz.f99
def c99:bw:=(.seq (g99 2) (.seq (g99 5) .ret))
theorem b99:Tryz.f99.body=some c99:=by kernel_rfl
@[simp] theorem x99:SX 21 (g99 2) [oq 2 (.box (tq 0)),oq 3 (.box (tq 1)),ot 4 false] [0,1] [2]/\SX 21 (g99 5) [oz 5 98 3 0,ol 6 3 5,oz 7 43 2 0,oz 8 39 7 3,ol 9 36 8,oe 10 9 36,od 11 100 [tq 6,ci 0,tq 10],om 12 11,gz 12 true 13 98 3 2,gl 12 true 14 3 13,gz 12 true 15 43 2 0,gz 12 true 16 39 15 0,gl 12 true 17 3 16,gc 12 true 18 .sub 3 17 1,gd 12 true 19 100 [tq 14,ci 0,tq 18],oq 20 (.pick (tq 12) (tq 19) (cb false)),om 4 20] [2,3] [2,3]:=⟨rx,rx⟩
def XI:=rg Tryz.f59
def c59:bw:=(.seq (XI 2) (.seq (XI 5) (.seq (.seq (XI 19) (.cond (.tmp 23) (.seq (XI 75) .ret) .skip)) (.seq (.seq (XI 39) (.seq (XI 87) (.cond (.tmp 31) (.seq (XI 311) .ret) .skip))) (.seq (XI 47) (.seq (.seq (XI 159) (.cond (.tmp 52) (.seq (XI 607) .ret) .skip)) (.seq (XI 191) .ret)))))))
theorem b59:Tryz.f59.body=some c59:=by kernel_rfl
@[simp] theorem x59:SX 53 (XI 2) [oq 1 (.box (tq 0)),ok 2 0] [0] [1,6]/\SX 53 (XI 5) [oq 3 (.mv (.func 96))] [1] [1,6]/\SX 53 (XI 19) [oz 7 43 1 1,ol 8 40 7,oe 9 8 40,oc 10 .gtr 3 9 4,om 11 10,gz 11 false 12 43 1 3,gl 11 false 13 41 12,ge 11 false 14 13 41,gc 11 false 15 .gtr 3 14 4,oq 16 (.pick (tq 11) (cb true) (tq 15)),om 17 16,gz 17 false 18 43 1 1,gl 17 false 19 40 18,gm 17 false 20 3,gd 17 false 21 97 [tq 19,tq 20],og 17 false 22 (.oth (.unOp .not 4 (tq 21))),oq 23 (.pick (tq 17) (cb true) (tq 22))] [1,3] [1,6]/\SX 53 (XI 75) [ok 2 3] [] []/\SX 53 (XI 39) [oz 25 43 1 0,ol 26 39 25,od 27 98 [tq 26],om 24 27,oq 28 (.oth (.extract (tq 24) 0)),oq 29 (.oth (.extract (tq 24) 1)),oq 4 (.alloc 151),os (.sto 151 (tq 4) (tq 28)),om 5 29] [1] [1,6]/\SX 53 (XI 87) [om 30 5,oc 31 .neq 33 30 0] [1,5] [1,6]/\SX 53 (XI 311) [om 32 5,om 2 32] [5] []/\SX 53 (XI 47) [ol 33 43 1,oq 34 (.oth (.makeFunc (.func 99) #[tq 33] #[])),oq 6 (.alloc 127),os (.sto 127 (tq 6) (tq 34))] [1] [1,6]/\SX 53 (XI 159) [oz 35 43 1 2,ol 36 3 35,od 37 100 [tq 36,ci 0,ci 4],ou 38 37,om 39 38,gz 39 false 40 43 1 3,gl 39 false 41 41 40,gl 39 false 42 127 6,gd 39 false 43 101 [tq 41,tq 42],og 39 false 44 (.oth (.unOp .not 4 (tq 43))),oq 45 (.pick (tq 39) (cb true) (tq 44)),om 46 45,gz 46 false 47 43 1 1,gl 46 false 48 40 47,og 46 false 49 (.oth (.makeFunc (.func 102) #[] #[tq 6])),gd 46 false 50 97 [tq 48,tq 49],og 46 false 51 (.oth (.unOp .not 4 (tq 50))),oq 52 (.pick (tq 46) (cb true) (tq 51))] [1,6] [1,6]/\SX 53 (XI 607) [ok 2 1] [] []/\SX 53 (XI 191) [ok 2 0] [] []:=by and_intros<;>exact rx
def g96:=rg Tryz.f96
def c96:bw:=(.seq (g96 2) (.seq (g96 5) .ret))
theorem b96:Tryz.f96.body=some c96:=by kernel_rfl
@[simp] theorem x96:SX 6 (g96 2) [ot 2 false] [0] []/\SX 6 (g96 5) [om 3 0,oe 4 3 41,oc 5 .leq 3 4 4,om 2 5] [0,1,2] [1,2]:=⟨rx,rx⟩
def ACN:=rg Tryz.f102
def AT9:bw:=(.seq (ACN 2) (.seq (ACN 5) .ret))
theorem b102:Tryz.f102.body=some AT9:=by kernel_rfl
@[simp] theorem BCC:SX 7 (ACN 2) [ot 3 false] [0,1] []/\SX 7 (ACN 5) [om 4 0,ol 5 127 1,od 6 101 [tq 4,tq 5],om 3 6] [0,1,2] [2]:=⟨rx,rx⟩
def g68:=rg Tryz.f68
def c68:bw:=(.seq (g68 2) (.seq (g68 5) .ret))
theorem b68:Tryz.f68.body=some c68:=by kernel_rfl
@[simp] theorem x68:SX 10 (g68 2) [ot 4 false] [0,1] []/\SX 10 (g68 5) [om 5 1,om 6 0,oq 7 (.oth (.makeFunc (.func 78) #[tq 6] #[])),od 8 101 [tq 5,tq 7],ou 9 8,om 4 9] [0,1,2,3] [2,3]:=⟨rx,rx⟩
def iQ:=rg Tryz.f72
@[simp] def AFU:bw:=(.seq (iQ 69) (.seq (.cond (.tmp 11) .skip (.exit 0)) (.seq (.block 1 (.seq (iQ 1125) (.seq (iQ 2661) (.cond (.tmp 16) (iQ 5733) .skip)))) (iQ 485))))
def UK:=AFU
def c72:bw:=(.seq (iQ 2) (.seq (.seq (iQ 9) (.block 0 (.loop UK))) (.seq (iQ 11) .ret)))
theorem b72:Tryz.f72.body=some c72:=by kernel_rfl
@[simp] theorem x72:UX 21 UK AFU/\SX 21 (iQ 2) [oq 2 (.box (tq 0)),ok 4 0] [0,1] [2]/\SX 21 (iQ 9) [oz 7 43 2 1,ol 8 40 7,oe 9 8 40,ok 10 0] [1,2,4] [2]/\SX 21 (iQ 69) [ob 11 .lss 3 10 9] [1,4,8,9,10] [2]/\SX 21 (iQ 1125) [oi 12 40 8 10,ol 13 41 12,om 6 13] [1,4,8,9,10] [2]/\SX 21 (iQ 2661) [om 14 1,om 15 6,od 16 68 [tq 14,tq 15]] [1,4,6,8,9,10] [2]/\SX 21 (iQ 5733) [om 17 4,oc 18 .add 3 17 1,om 4 18] [1,4,8,9,10] [2]/\SX 21 (iQ 485) [oc 19 .add 3 10 1,om 10 19] [1,4,8,9,10] [2]/\SX 21 (iQ 11) [om 20 4,om 4 20] [4] []/\LX 21 UK [1,4,8,9,10] [2]:=⟨fun _ _=>rfl,rx,rx,rx,rx,rx,rx,rx,rx,lx⟩
def iZ:=rg Tryz.f118
def AUA:bw:=(.seq (iZ 2) (.seq (.seq (iZ 9) (.cond (.tmp 4) (.seq (iZ 37) .ret) .skip)) (.seq (iZ 11) .ret)))
theorem A4E:Tryz.f118.body=some AUA:=by kernel_rfl
@[simp] theorem BCF:SX 8 (iZ 2) [oq 2 (.mv (.const (.slice none 0 0)))] [0] []/\SX 8 (iZ 9) [om 3 0,oq 4 (.bin .eql 36 (tq 3) (.const (.slice none 0 0)))] [0] []/\SX 8 (iZ 11) [oq 5 (.buildS 36 0 []),om 6 0,oq 7 (.app [tq 5,tq 6] [36,36]),om 2 7] [0] []:=⟨rx,rx,rx⟩
def g79:=rg Tryz.f79
def c79:bw:=(.seq (g79 2) (.seq (g79 5) .ret))
theorem b79:Tryz.f79.body=some c79:=by kernel_rfl
@[simp] theorem x79:SX 15 (g79 2) [oq 2 (.box (tq 0)),oq 4 (.mv (.const (.pointer none))),ot 5 false] [0,1] [2,7,8,10]:=rx
@[simp] theorem A77(n:Nat)(st:XS):AF Tryz.prog ann kn (n+1) 15 (g79 5) st=TD (gpO [3000000000010008,10] (QR Tryz.prog (BU Tryz.prog ann kn n) (.drw [⟨[8,10],[om 6 1,od 7 118 [tq 6],oz 11 43 2 0,ol 12 39 11,om 13 1,od 14 117 [tq 12,tq 13],oq 8 (.mkM none),oq 9 (.build 130 [(0,tq 7),(1,tq 8)]),oq 10 (.box (tq 9)),om 4 10,om 5 14],[]⟩]) (CS (some ([1,2],[2])) st))) :=
 tI (by kernel_rfl) (by kernel_rfl) (by kernel_rfl) (by kernel_rfl) (by kernel_rfl) (by kernel_rfl)
def g58:=rg Tryz.f58
def c58:bw:=(.seq (g58 2) (.seq (.seq (g58 9) (.cond (.tmp 9) (.seq (g58 37) .ret) .skip)) (.seq (g58 11) (.seq (g58 23) .ret))))
theorem b58:Tryz.f58.body=some c58:=by kernel_rfl
@[simp] theorem x58:SX 25 (g58 2) [oq 2 (.box (tq 0)),ot 4 false] [0,1] [2,13]/\SX 25 (g58 9) [ol 7 43 2,od 8 59 [tq 7],oc 9 .neq 33 8 0] [1,2] [1,2,13,16]/\SX 25 (g58 37) [ot 4 false] [] []/\SX 25 (g58 11) [ol 11 43 2,om 12 1,od 13 79 [tq 11,tq 12],om 10 13,oq 14 (.oth (.extract (tq 10) 0)),oq 15 (.oth (.extract (tq 10) 1)),om 5 14,om 6 15] [1,2] [2,13]/\RX 25 (g58 23) (.drw [⟨[],[om 16 6,om 17 16,gl 17 true 18 43 2,gm 17 true 19 5,gd 17 true 20 72 [tq 18,tq 19],gz 17 true 21 43 2 2,gl 17 true 22 3 21,gb 17 true 23 .leq 3 20 22,oq 24 (.pick (tq 17) (tq 23) (cb false)),om 4 24],[]⟩]) (some ([2,5,6],[2,13])):=⟨rx,rx,rx,rx,rx⟩
def LZ:=rg Tryz.f57
@[simp] def AFV:bw:=(.seq (LZ 559) (.seq (.cond (.tmp 31) .skip (.exit 0)) (.seq (.block 1 (.seq (LZ 9007) (LZ 13103))) (LZ 3887))))
def UL:=AFV
@[simp] def vW:bw:=(.seq (LZ 1119) (.seq (.cond (.tmp 45) .skip (.exit 2)) (.seq (.block 3 (.seq (LZ 18015) (LZ 26207))) (LZ 7775))))
def PM:=vW
def c57:bw:=(.seq (LZ 2) (.seq (.seq (LZ 9) (.seq (LZ 21) (.cond (.tmp 17) (.seq (LZ 77) .ret) .skip))) (.seq (LZ 11) (.seq (.seq (LZ 39) (.cond (.tmp 26) (.seq (LZ 151) .ret) .skip)) (.seq (.seq (LZ 79) (.block 0 (.loop UL))) (.seq (.seq (LZ 159) (.block 2 (.loop PM))) (.seq (LZ 191) .ret)))))))
theorem b57:Tryz.f57.body=some c57:=by kernel_rfl
@[simp] theorem x57:UX 57 UL AFV/\UX 57 PM vW/\SX 57 (LZ 2) [oq 2 (.box (tq 0)),oq 4 (.mv (.const (.slice none 0 0))),oq 5 (.mv (.const (.slice none 0 0))),ok 6 0] [0,1] [2,22]/\SX 57 (LZ 9) [ol 14 43 2,od 15 59 [tq 14],om 7 15] [1,2,4,5] [2,22,39,53]/\SX 57 (LZ 21) [om 16 7,oc 17 .neq 33 16 0] [1,2,4,5,7] [2,22,39,53]/\SX 57 (LZ 77) [om 18 7,oq 4 (.mv (.const (.slice none 0 0))),oq 5 (.mv (.const (.slice none 0 0))),om 6 18] [7] []/\SX 57 (LZ 11) [ol 20 43 2,om 21 1,od 22 79 [tq 20,tq 21],om 19 22,oq 23 (.oth (.extract (tq 19) 0)),oq 24 (.oth (.extract (tq 19) 1)),om 8 23,om 9 24] [1,2,4,5] [2,22,39,53]/\SX 57 (LZ 39) [om 25 9,ou 26 25] [2,4,5,8,9] [2,22,39,53]/\SX 57 (LZ 151) [oq 4 (.mv (.const (.slice none 0 0))),oq 5 (.mv (.const (.slice none 0 0))),ok 6 2] [] []/\SX 57 (LZ 79) [oz 27 43 2 3,ol 28 41 27,oe 29 28 41,ok 30 0] [2,4,5,8] [2,22,39,53]/\SX 57 (LZ 559) [ob 31 .lss 3 30 29] [2,4,5,8,28,29,30] [2,22,39,53]/\SX 57 (LZ 9007) [oi 32 41 28 30,ol 33 98 32,oq 11 (.alloc 98),os (.sto 98 (tq 11) (tq 33))] [2,4,5,8,28,29,30] [2,22,39,53]/\SX 57 (LZ 13103) [om 34 4,om 35 8,ol 36 98 11,od 37 78 [tq 35,tq 36],oq 38 (.buildS 89 1 [(0,tq 37)]),oq 39 (.app [tq 34,tq 38] [89,89]),om 4 39] [2,4,5,8,11,28,29,30] [2,11,22,39,53]/\SX 57 (LZ 3887) [oc 40 .add 3 30 1,om 30 40] [2,4,5,8,28,29,30] [2,22,39,53]/\SX 57 (LZ 159) [oz 41 43 2 1,ol 42 40 41,oe 43 42 40,ok 44 0] [2,4,5,8] [2,22,39,53]/\SX 57 (LZ 1119) [ob 45 .lss 3 44 43] [4,5,8,42,43,44] [2,22,39,53]/\SX 57 (LZ 18015) [oi 46 40 42 44,ol 47 41 46,om 13 47] [4,5,8,42,43,44] [2,22,39,53]/\SX 57 (LZ 26207) [om 48 5,om 49 8,om 50 13,od 51 68 [tq 49,tq 50],oq 52 (.buildS 89 1 [(0,tq 51)]),oq 53 (.app [tq 48,tq 52] [89,89]),om 5 53] [4,5,8,13,42,43,44] [2,22,39,53]/\SX 57 (LZ 7775) [oc 54 .add 3 44 1,om 44 54] [4,5,8,42,43,44] [2,22,39,53]/\SX 57 (LZ 191) [om 55 4,om 56 5,om 4 55,om 5 56,ok 6 0] [4,5] [39,53]/\LX 57 UL [2,4,5,8,28,29,30] [2,22,39,53]/\LX 57 PM [4,5,8,42,43,44] [2,22,39,53]:=by and_intros<;>first|exact rx|exact lx|exact fun _ _=>rfl
def YC:=rg Tryz.f84
@[simp] def AFW:bw:=(lp (YC 267) 11 0 1 (.seq (YC 1099) (.cond (.tmp 20) (.seq (YC 4683) (.seq (YC 10827) (.cond (.tmp 26) (YC 23115) .skip))) .skip)) (YC 459))
def Z9:=AFW
def c84:bw:=(.seq (YC 2) (.seq (YC 5) (.seq (.seq (YC 19) (.block 0 (.loop Z9))) (.seq (YC 23) .ret))))
theorem b84:Tryz.f84.body=some c84:=by kernel_rfl
@[simp] theorem x84:UX 29 Z9 AFW/\SX 29 (YC 2) [ok 6 0] [0,1,2] []/\SX 29 (YC 5) [oq 7 (.mv (.const (.int .i64 (bj 0))))] [0,1,2] []/\SX 29 (YC 19) [ok 8 0] [0,1,2,7] []/\SX 29 (YC 267) [om 9 8,om 10 1,ob 11 .lss 3 9 10] [0,1,2,7,8] []/\SX 29 (YC 1099) [om 14 0,om 15 8,oi 16 22 14 15,oz 17 133 16 1,ol 18 3 17,om 19 2,ob 20 .eql 3 18 19] [0,1,2,7,8] []/\SX 29 (YC 4683) [oq 7 (.mv (.const (.int .i64 (bj 0))))] [0,1,2,8] []/\SX 29 (YC 10827) [om 21 0,om 22 8,oi 23 22 21 22,oz 24 133 23 0,ol 25 3 24,oc 26 .eql 3 25 1] [0,1,2,7,8] []/\SX 29 (YC 23115) [om 27 8,om 7 27] [0,1,2,8] []/\SX 29 (YC 459) [om 12 8,oc 13 .add 3 12 1,om 8 13] [0,1,2,7,8] []/\SX 29 (YC 23) [om 28 7,om 6 28] [7] []/\LX 29 Z9 [0,1,2,7,8] []:=⟨fun _ _=>rfl,rx,rx,rx,rx,rx,rx,rx,rx,rx,rx,lx⟩
def YD:=rg Tryz.f83
@[simp] def AFX:bw:=(lp (YD 267) 11 0 1 (.seq (YD 1099) (.cond (.tmp 20) (.seq (YD 4683) (.seq (YD 10827) (.cond (.tmp 26) (YD 23115) .skip))) .skip)) (YD 459))
def aA:=AFX
def c83:bw:=(.seq (YD 2) (.seq (YD 5) (.seq (.seq (YD 19) (.block 0 (.loop aA))) (.seq (YD 23) .ret))))
theorem b83:Tryz.f83.body=some c83:=by kernel_rfl
@[simp] theorem x83:UX 29 aA AFX/\SX 29 (YD 2) [ok 6 0] [0,1,2] []/\SX 29 (YD 5) [oq 7 (.mv (.const (.int .i64 (bj 0))))] [0,1,2] []/\SX 29 (YD 19) [ok 8 0] [0,1,2,7] []/\SX 29 (YD 267) [om 9 8,om 10 1,ob 11 .lss 3 9 10] [0,1,2,7,8] []/\SX 29 (YD 1099) [om 14 0,om 15 8,oi 16 22 14 15,oz 17 133 16 2,ol 18 3 17,om 19 2,ob 20 .eql 3 18 19] [0,1,2,7,8] []/\SX 29 (YD 4683) [oq 7 (.mv (.const (.int .i64 (bj 0))))] [0,1,2,8] []/\SX 29 (YD 10827) [om 21 0,om 22 8,oi 23 22 21 22,oz 24 133 23 0,ol 25 3 24,oc 26 .eql 3 25 1] [0,1,2,7,8] []/\SX 29 (YD 23115) [om 27 8,om 7 27] [0,1,2,8] []/\SX 29 (YD 459) [om 12 8,oc 13 .add 3 12 1,om 8 13] [0,1,2,7,8] []/\SX 29 (YD 23) [om 28 7,om 6 28] [7] []/\LX 29 aA [0,1,2,7,8] []:=⟨fun _ _=>rfl,rx,rx,rx,rx,rx,rx,rx,rx,rx,rx,lx⟩
def LU:=rg Tryz.f124
@[simp] def vX:bw:=(lp (LU 267) 13 0 1 (.seq (LU 1099) (.cond (.tmp 21) (LU 2635) (LU 3659))) (LU 459))
def TX:=vX
def AUB:bw:=(.seq (LU 2) (.seq (LU 5) (.seq (.seq (LU 19) (.block 0 (.loop TX))) (.seq (LU 23) .ret))))
theorem A4F:Tryz.f124.body=some AUB:=by kernel_rfl
@[simp] theorem BCL:UX 31 TX vX/\SX 31 (LU 2) [oq 3 (.box (tq 0)),ok 6 0] [0,1,2] [3]/\SX 31 (LU 5) [oz 9 25 3 2,ol 10 3 9,om 7 10] [1,2,3] [3]/\SX 31 (LU 19) [ok 8 0] [1,2,3,7] [3]/\SX 31 (LU 267) [om 11 8,om 12 2,ob 13 .lss 3 11 12] [1,2,3,7,8] [3]/\SX 31 (LU 1099) [om 16 1,om 17 8,oi 18 22 16 17,oz 19 133 18 0,ol 20 3 19,oc 21 .eql 3 20 1] [1,2,3,7,8] [3]/\SX 31 (LU 2635) [om 22 7,oz 23 25 3 1,ol 24 3 23,ob 25 .add 3 22 24,om 7 25] [1,2,3,7,8] [3]/\SX 31 (LU 3659) [om 26 7,oz 27 25 3 1,ol 28 3 27,ob 29 .sub 3 26 28,om 7 29] [1,2,3,7,8] [3]/\SX 31 (LU 459) [om 14 8,oc 15 .add 3 14 1,om 8 15] [1,2,3,7,8] [3]/\SX 31 (LU 23) [om 30 7,om 6 30] [7] []/\LX 31 TX [1,2,3,7,8] [3]:=⟨fun _ _=>rfl,rx,rx,rx,rx,rx,rx,rx,rx,rx,lx⟩
def YE:=rg Tryz.f80
@[simp] def AFY:bw:=(lp (YE 267) 16 0 1 (.seq (YE 1099) (.seq (YE 2635) (.cond (.tmp 54) (.seq (YE 9803) .ret) .skip))) (YE 459))
def aB:=AFY
def c80:bw:=(.seq (YE 2) (.seq (.seq (YE 9) (.cond (.tmp 12) (.seq (YE 37) .ret) .skip)) (.seq (.seq (YE 19) (.block 0 (.loop aB))) (.seq (YE 23) .ret))))
theorem b80:Tryz.f80.body=some c80:=by kernel_rfl
@[simp] theorem x80:UX 55 aB AFY/\SX 55 (YE 2) [oq 2 (.box (tq 0)),ot 4 false] [0,1] [2]/\SX 55 (YE 9) [om 7 1,oe 8 7 22,oz 9 25 2 3,ol 10 22 9,oe 11 10 22,ob 12 .neq 3 8 11] [1,2] [2]/\SX 55 (YE 37) [ot 4 false] [] []/\SX 55 (YE 19) [ok 5 0] [1,2] [2]/\SX 55 (YE 267) [om 13 5,om 14 1,oe 15 14 22,ob 16 .lss 3 13 15] [1,2,5] [2]/\SX 55 (YE 1099) [om 19 1,om 20 5,oi 21 22 19 20,ol 22 133 21,oq 6 (.alloc 133),os (.sto 133 (tq 6) (tq 22))] [1,2,5] [2]/\RX 55 (YE 2635) (.drw [⟨[],[oz 23 133 6 0,ol 24 3 23],[od 25 48 [tq 24,ci 1,ci 2]]⟩,⟨[],[ou 26 25,om 27 26,gz 27 false 28 133 6 1,gl 27 false 29 3 28,gz 27 false 30 25 2 0,gl 27 false 31 3 30,gc 27 false 32 .sub 3 31 1],[gd 27 false 33 48 [tq 29,ci 0,tq 32]]⟩,⟨[],[og 27 false 34 (.oth (.unOp .not 4 (tq 33))),oq 35 (.pick (tq 27) (cb true) (tq 34)),om 36 35,gz 36 false 37 133 6 2,gl 36 false 38 3 37,gz 36 false 39 25 2 0,gl 36 false 40 3 39,gc 36 false 41 .sub 3 40 1],[gd 36 false 42 48 [tq 38,ci 0,tq 41]]⟩,⟨[],[og 36 false 43 (.oth (.unOp .not 4 (tq 42))),oq 44 (.pick (tq 36) (cb true) (tq 43)),om 45 44,gz 45 false 46 25 2 3,gl 45 false 47 22 46,gm 45 false 48 5,gi 45 false 49 22 47 48,gl 45 false 50 133 49,gl 45 false 51 133 6],[gd 45 false 52 123 [tq 50,tq 51]]⟩,⟨[],[og 45 false 53 (.oth (.unOp .not 4 (tq 52))),oq 54 (.pick (tq 45) (cb true) (tq 53))],[]⟩]) (some ([1,2,5,6],[2,6]))/\SX 55 (YE 9803) [ot 4 false] [] []/\SX 55 (YE 459) [om 17 5,oc 18 .add 3 17 1,om 5 18] [1,2,5] [2]/\SX 55 (YE 23) [ot 4 true] [] []/\LX 55 aB [1,2,5] [2]:=⟨fun _ _=>rfl,rx,rx,rx,rx,rx,rx,rx,rx,rx,rx,lx⟩
def cS:=rg Tryz.f81
@[simp] def AFZ:bw:=(lp (cS 133) 10 0 1 (.seq (cS 549) (.seq (cS 1317) (.seq (cS 2853) (.cond (.tmp 44) (.seq (cS 10021) .ret) .skip)))) (cS 229))
def aC:=AFZ
def c81:bw:=(.seq (cS 2) (.seq (.seq (cS 9) (.block 0 (.loop aC))) (.seq (cS 11) .ret)))
theorem b81:Tryz.f81.body=some c81:=by kernel_rfl
@[simp] theorem x81:UX 45 aC AFZ/\SX 45 (cS 2) [ot 2 false] [0] []/\SX 45 (cS 9) [ok 3 0] [0] []/\SX 45 (cS 133) [om 7 3,om 8 0,oe 9 8 22,ob 10 .lss 3 7 9] [0,3] []/\RX 45 (cS 549) (.drw [⟨[],[om 13 0,om 14 3,om 15 0,om 16 3,oi 17 22 15 16,oz 18 133 17 1,ol 19 3 18,od 20 84 [tq 13,tq 14,tq 19],oc 21 .geq 3 20 0,om 22 0,om 23 3,om 24 0,om 25 3,oi 26 22 24 25,oz 27 133 26 2,ol 28 3 27,od 29 83 [tq 22,tq 23,tq 28],oc 30 .geq 3 29 0,om 4 21,om 5 30],[]⟩]) (some ([0,3],[]))/\SX 45 (cS 1317) [om 31 0,om 32 3,oi 33 22 31 32,oz 34 133 33 0,ol 35 3 34,oc 36 .eql 3 35 2,om 6 36] [0,3,4,5] []/\SX 45 (cS 2853) [om 37 4,om 38 6,ob 39 .neq 4 37 38,om 40 39,gm 40 false 41 5,gm 40 false 42 6,gb 40 false 43 .neq 4 41 42,oq 44 (.pick (tq 40) (cb true) (tq 43))] [0,3,4,5,6] []/\SX 45 (cS 10021) [ot 2 false] [] []/\SX 45 (cS 229) [om 11 3,oc 12 .add 3 11 1,om 3 12] [0,3] []/\SX 45 (cS 11) [ot 2 true] [] []/\LX 45 aC [0,3] []:=⟨fun _ _=>rfl,rx,rx,rx,rx,rx,rx,rx,rx,rx,lx⟩
def iR:=rg Tryz.f82
@[simp] def AF0:bw:=(lp (iR 133) 11 0 1 (.seq (iR 549) (.seq (iR 1317) (.cond (.tmp 31) (.seq (iR 4901) .ret) .skip))) (iR 229))
def aD:=AF0
def c82:bw:=(.seq (iR 2) (.seq (.seq (iR 9) (.block 0 (.loop aD))) (.seq (iR 11) .ret)))
theorem b82:Tryz.f82.body=some c82:=by kernel_rfl
@[simp] theorem x82:UX 32 aD AF0/\SX 32 (iR 2) [oq 2 (.box (tq 0)),ot 4 false] [0,1] [2]/\SX 32 (iR 9) [ok 5 0] [1,2] [2]/\SX 32 (iR 133) [om 7 5,oz 8 25 2 4,ol 9 23 8,oe 10 9 23,ob 11 .lss 3 7 10] [1,2,5] [2]/\SX 32 (iR 549) [oz 14 25 2 4,ol 15 23 14,om 16 5,oi 17 23 15 16,ol 18 168 17,oq 6 (.alloc 168),os (.sto 168 (tq 6) (tq 18))] [1,2,5] [2]/\RX 32 (iR 1317) (.drw [⟨[],[ol 19 25 2,om 20 1,oz 21 168 6 0,ol 22 3 21,od 23 124 [tq 19,tq 20,tq 22],oz 24 168 6 1,oz 25 166 24 0,ol 26 3 25,oz 27 168 6 1,oz 28 166 27 1,ol 29 3 28],[od 30 48 [tq 23,tq 26,tq 29]]⟩,⟨[],[ou 31 30],[]⟩]) (some ([1,2,5,6],[2,6]))/\SX 32 (iR 4901) [ot 4 false] [] []/\SX 32 (iR 229) [om 12 5,oc 13 .add 3 12 1,om 5 13] [1,2,5] [2]/\SX 32 (iR 11) [ot 4 true] [] []/\LX 32 aD [1,2,5] [2]:=⟨fun _ _=>rfl,rx,rx,rx,rx,rx,rx,rx,rx,lx⟩
def g34:=rg Tryz.f34
def c34:bw:=(.seq (g34 2) (.seq (g34 5) .ret))
theorem b34:Tryz.f34.body=some c34:=by kernel_rfl
@[simp] theorem x34:SX 17 (g34 2) [oq 2 (.box (tq 0)),ot 4 false] [0,1] [2]/\SX 17 (g34 5) [ol 5 25 2,om 6 1,od 7 80 [tq 5,tq 6],om 8 7,gm 8 true 9 1,gd 8 true 10 81 [tq 9],oq 11 (.pick (tq 8) (tq 10) (cb false)),om 12 11,gl 12 true 13 25 2,gm 12 true 14 1,gd 12 true 15 82 [tq 13,tq 14],oq 16 (.pick (tq 12) (tq 15) (cb false)),om 4 16] [1,2] [2]:=⟨rx,rx⟩
def N6:=rg Tryz.f122
@[simp] def vY:bw:=(lp (N6 267) 12 0 1 (.seq (N6 1099) (N6 1611)) (N6 459))
def TY:=vY
def AUC:bw:=(.seq (N6 2) (.seq (N6 5) (.seq (.seq (N6 19) (.block 0 (.loop TY))) (.seq (N6 23) .ret))))
theorem A4H:Tryz.f122.body=some AUC:=by kernel_rfl
@[simp] theorem BCQ:UX 37 TY vY/\SX 37 (N6 2) [oq 2 (.box (tq 0)),oq 4 (.mv (.const (.slice none 0 0)))] [0,1] [2,21]/\SX 37 (N6 5) [oq 5 (.mv (.const (.slice none 0 0)))] [1,2] [2,21]/\SX 37 (N6 19) [ok 6 0] [1,2,5] [2,21,31]/\SX 37 (N6 267) [om 8 6,oz 9 25 2 3,ol 10 22 9,oe 11 10 22,ob 12 .lss 3 8 11] [1,2,5,6] [2,21,31]/\RX 37 (N6 1099) (.drw [⟨[],[ol 15 25 2,oz 16 25 2 3,ol 17 22 16,om 18 6,oi 19 22 17 18,ol 20 133 19],[od 21 140 [tq 15,tq 20]]⟩,⟨[],[om 7 21],[]⟩]) (some ([1,2,5,6],[2,31]))/\RX 37 (N6 1611) (.drw [⟨[],[om 22 5,om 23 7,om 24 1,om 25 7,oe 26 25 22,ob 27 .rem 3 24 26,oi 28 22 23 27,ol 29 133 28,oq 30 (.buildS 22 1 [(0,tq 29)]),om 32 1,om 33 7,oe 34 33 22,ob 35 .quo 3 32 34,oq 31 (.app [tq 22,tq 30] [22,22]),om 5 31,om 1 35],[]⟩]) (some ([1,2,5,6,7],[2,21,31]))/\SX 37 (N6 459) [om 13 6,oc 14 .add 3 13 1,om 6 14] [1,2,5,6] [2,21,31]/\SX 37 (N6 23) [om 36 5,om 4 36] [5] [31]/\LX 37 TY [1,2,5,6] [2,21,31]:=⟨fun _ _=>rfl,rx,rx,rx,rx,rx,rx,rx,rx,lx⟩
def g74:=rg Tryz.f74
@[simp] def AF1:bw:=(lp (g74 267) 9 0 1 (.seq (g74 1099) (.seq (g74 2635) (.cond (.tmp 21) (g74 5707) .skip))) (g74 459))
def jA:=AF1
def c74:bw:=(.seq (g74 2) (.seq (g74 5) (.seq (.seq (g74 19) (.block 0 (.loop jA))) (.seq (g74 23) .ret))))
@[simp] theorem x74:UX 27 jA AF1/\LX 27 jA [1,3,4] [1,14,25]:=⟨fun _ _=>rfl,lx⟩
def N7:=rg Tryz.f120
@[simp] def vZ:bw:=(lp (N7 133) 8 0 1 (.seq (N7 549) (.seq (N7 1317) (.cond (.tmp 20) (.seq (N7 4901) .ret) .skip))) (N7 229))
def TZ:=vZ
def AI0:bw:=(.seq (N7 2) (.seq (.seq (N7 9) (.block 0 (.loop TZ))) (.seq (N7 11) .ret)))
theorem A4I:Tryz.f120.body=some AI0:=by kernel_rfl
@[simp] theorem BCR:UX 21 TZ vZ/\SX 21 (N7 2) [oq 1 (.box (tq 0)),ot 2 false] [0] [1,13]/\SX 21 (N7 9) [ok 3 0] [1] [1,13]/\SX 21 (N7 133) [om 5 3,ol 6 25 1,od 7 112 [tq 6],ob 8 .lss 3 5 7] [1,3] [1,13]/\SX 21 (N7 549) [ol 11 25 1,om 12 3,od 13 122 [tq 11,tq 12],om 4 13] [1,3] [1,13]/\SX 21 (N7 1317) [om 14 4,od 15 81 [tq 14],om 16 15,gl 16 true 17 25 1,gm 16 true 18 4,gd 16 true 19 82 [tq 17,tq 18],oq 20 (.pick (tq 16) (tq 19) (cb false))] [1,3,4] [1,13]/\SX 21 (N7 4901) [ot 2 true] [] []/\SX 21 (N7 229) [om 9 3,oc 10 .add 3 9 1,om 3 10] [1,3] [1,13]/\SX 21 (N7 11) [ot 2 false] [] []/\LX 21 TZ [1,3] [1,13]:=⟨fun _ _=>rfl,rx,rx,rx,rx,rx,rx,rx,rx,lx⟩
def ACP:=rg Tryz.f121
def AUD:bw:=(.seq (ACP 2) (.seq (ACP 5) .ret))
theorem A4J:Tryz.f121.body=some AUD:=by kernel_rfl
@[simp] theorem BCS:SX 21 (ACP 2) [oq 2 (.box (tq 0)),oq 3 (.box (tq 1)),ot 4 false] [0,1] [2]/\SX 21 (ACP 5) [oz 5 54 3 0,ol 6 3 5,oz 7 29 2 0,oz 8 25 7 3,ol 9 22 8,oe 10 9 22,od 11 48 [tq 6,ci 0,tq 10],om 12 11,gz 12 true 13 54 3 2,gl 12 true 14 3 13,gz 12 true 15 29 2 0,gz 12 true 16 25 15 0,gl 12 true 17 3 16,gc 12 true 18 .sub 3 17 1,gd 12 true 19 48 [tq 14,ci 0,tq 18],oq 20 (.pick (tq 12) (tq 19) (cb false)),om 4 20] [2,3] [2,3]:=⟨rx,rx⟩
def g36:=rg Tryz.f36
def c36:bw:=(.seq (g36 2) (.seq (.seq (g36 9) (.cond (.tmp 6) (.seq (g36 37) .ret) .skip)) (.seq (g36 11) .ret)))
theorem b36:Tryz.f36.body=some c36:=by kernel_rfl
@[simp] theorem x36:SX 27 (g36 2) [oq 3 (.box (tq 1)),ot 4 false] [0,1] []/\SX 27 (g36 9) [oz 5 54 3 1,ol 6 4 5] [0,3] [3]/\RX 27 (g36 37) (.drw [⟨[],[om 7 0,oz 8 54 3 0,ol 9 3 8,oz 10 54 3 2,ol 11 3 10,od 12 83 [tq 7,tq 9,tq 11],oc 13 .geq 3 12 0,oz 14 54 3 3,ol 15 4 14,ob 16 .eql 4 13 15,om 4 16],[]⟩]) (some ([0,3],[3]))/\RX 27 (g36 11) (.drw [⟨[],[om 17 0,oz 18 54 3 0,ol 19 3 18,oz 20 54 3 2,ol 21 3 20,od 22 84 [tq 17,tq 19,tq 21],oc 23 .geq 3 22 0,oz 24 54 3 3,ol 25 4 24,ob 26 .eql 4 23 25,om 4 26],[]⟩]) (some ([0,3],[3])):=⟨rx,rx,rx,rx⟩
def nK:=rg Tryz.f49
@[simp] def AF3:bw:=(lp (nK 133) 9 0 1 (.seq (nK 549) (.cond (.tmp 18) (.seq (nK 2341) .ret) .skip)) (nK 229))
def UM:=AF3
def c49:bw:=(.seq (nK 2) (.seq (.seq (nK 9) (.block 0 (.loop UM))) (.seq (nK 11) .ret)))
theorem b49:Tryz.f49.body=some c49:=by kernel_rfl
@[simp] theorem x49:UX 19 UM AF3/\SX 19 (nK 2) [ot 4 false] [0,1] []/\SX 19 (nK 9) [ok 5 0] [0,1] []/\SX 19 (nK 133) [om 6 5,om 7 1,oe 8 7 27,ob 9 .lss 3 6 8] [0,1,5] []/\SX 19 (nK 549) [om 12 0,om 13 1,om 14 5,oi 15 27 13 14,ol 16 54 15,od 17 36 [tq 12,tq 16],ou 18 17] [0,1,5] []/\SX 19 (nK 2341) [ot 4 true] [] []/\SX 19 (nK 229) [om 10 5,oc 11 .add 3 10 1,om 5 11] [0,1,5] []/\SX 19 (nK 11) [ot 4 false] [] []/\LX 19 UM [0,1,5] []:=⟨fun _ _=>rfl,rx,rx,rx,rx,rx,rx,rx,lx⟩
def iS:=rg Tryz.f35
@[simp] def AF4:bw:=(lp (iS 267) 11 0 1 (.seq (iS 1099) (.cond (.tmp 20) (iS 2635) .skip)) (iS 459))
def UN:=AF4
def c35:bw:=(.seq (iS 2) (.seq (iS 5) (.seq (.seq (iS 19) (.block 0 (.loop UN))) (.seq (iS 23) .ret))))
theorem b35:Tryz.f35.body=some c35:=by kernel_rfl
@[simp] theorem x35:UX 24 UN AF4/\SX 24 (iS 2) [oq 2 (.box (tq 0)),ok 4 0] [0,1] [2]/\SX 24 (iS 5) [ok 5 0] [1,2] [2]/\SX 24 (iS 19) [ok 6 0] [1,2,5] [2]/\SX 24 (iS 267) [om 7 6,oz 8 29 2 1,ol 9 26 8,oe 10 9 26,ob 11 .lss 3 7 10] [1,2,5,6] [2]/\SX 24 (iS 1099) [om 14 1,oz 15 29 2 1,ol 16 26 15,om 17 6,oi 18 26 16 17,ol 19 27 18,od 20 49 [tq 14,tq 19]] [1,2,5,6] [2]/\SX 24 (iS 2635) [om 21 5,oc 22 .add 3 21 1,om 5 22] [1,2,5,6] [2]/\SX 24 (iS 459) [om 12 6,oc 13 .add 3 12 1,om 6 13] [1,2,5,6] [2]/\SX 24 (iS 23) [om 23 5,om 4 23] [5] []/\LX 24 UN [1,2,5,6] [2]:=⟨fun _ _=>rfl,rx,rx,rx,rx,rx,rx,rx,rx,lx⟩
def GN:=rg Tryz.f73
@[simp] def AF5:bw:=(lp (GN 267) 22 0 1 (.seq (GN 1099) (.cond (.tmp 31) (.seq (GN 4683) .ret) .skip)) (GN 459))
def UO:=AF5
@[simp] def wA:bw:=(lp (GN 4287) 50 2 3 (.seq (GN 17599) (.cond (.tmp 60) (.seq (GN 74943) .ret) .skip)) (GN 7359))
def PN:=wA
@[simp] def wB:bw:=(lp (GN 543103) 75 6 7 (.seq (GN 2247039) (.cond (.tmp 88) (.seq (GN 9587071) .ret) .skip)) (GN 936319))
def PO:=wB
@[simp] def wC:bw:=(lp (GN 8575) 65 4 5 (.seq (GN 35199) (.block 6 (.loop PO))) (GN 14719))
def PP:=wC
def c73:bw:=(.seq (GN 2) (.seq (.seq (GN 9) (.cond (.tmp 17) (.seq (GN 37) .ret) .skip)) (.seq (.seq (GN 19) (.block 0 (.loop UO))) (.seq (.seq (GN 39) (.seq (GN 87) (.cond (.tmp 36) (.seq (GN 311) .ret) .skip))) (.seq (.seq (GN 79) (.cond (.tmp 41) (.seq (GN 303) .ret) .skip)) (.seq (.seq (GN 159) (.cond (.tmp 45) (.seq (GN 607) .ret) .skip)) (.seq (.seq (GN 319) (.block 2 (.loop PN))) (.seq (.seq (GN 639) (.block 4 (.loop PP))) (.seq (GN 767) .ret)))))))))
theorem b73:Tryz.f73.body=some c73:=by kernel_rfl
@[simp] theorem x73:UX 89 UO AF5/\UX 89 PN wA/\UX 89 PO wB/\UX 89 PP wC/\SX 89 (GN 2) [oq 1 (.box (tq 0)),ok 2 0] [0] [1]/\SX 89 (GN 9) [oz 8 29 1 1,ol 9 26 8,oe 10 9 26,oc 11 .gtr 3 10 4,om 12 11,gz 12 false 13 29 1 3,gl 12 false 14 27 13,ge 12 false 15 14 27,gc 12 false 16 .gtr 3 15 4,oq 17 (.pick (tq 12) (cb true) (tq 16))] [1] [1]/\SX 89 (GN 37) [ok 2 3] [] []/\SX 89 (GN 19) [ok 3 0] [1] [1]/\SX 89 (GN 267) [om 18 3,oz 19 29 1 1,ol 20 26 19,oe 21 20 26,ob 22 .lss 3 18 21] [1,3] [1]/\SX 89 (GN 1099) [oz 25 29 1 1,ol 26 26 25,om 27 3,oi 28 26 26 27,ol 29 27 28,oe 30 29 27,oc 31 .gtr 3 30 4] [1,3] [1]/\SX 89 (GN 4683) [ok 2 3] [] []/\SX 89 (GN 459) [om 23 3,oc 24 .add 3 23 1,om 3 24] [1,3] [1]/\SX 89 (GN 39) [oz 32 29 1 0,ol 33 25 32,od 34 111 [tq 33],om 4 34] [1] [1]/\SX 89 (GN 87) [om 35 4,oc 36 .neq 3 35 0] [1,4] [1]/\SX 89 (GN 311) [om 37 4,om 2 37] [4] []/\SX 89 (GN 79) [oz 38 29 1 0,ol 39 25 38,od 40 120 [tq 39],ou 41 40] [1] [1]/\SX 89 (GN 303) [ok 2 11] [] []/\SX 89 (GN 159) [oz 42 29 1 2,ol 43 3 42,od 44 48 [tq 43,ci 0,ci 4],ou 45 44] [1] [1]/\SX 89 (GN 607) [ok 2 1] [] []/\SX 89 (GN 319) [ok 5 0] [1] [1]/\SX 89 (GN 4287) [om 46 5,oz 47 29 1 3,ol 48 27 47,oe 49 48 27,ob 50 .lss 3 46 49] [1,5] [1]/\RX 89 (GN 17599) (.drw [⟨[],[ol 53 29 1,oz 54 29 1 3,ol 55 27 54,om 56 5,oi 57 27 55 56,ol 58 54 57],[od 59 121 [tq 53,tq 58]]⟩,⟨[],[ou 60 59],[]⟩]) (some ([1,5],[1]))/\SX 89 (GN 74943) [ok 2 1] [] []/\SX 89 (GN 7359) [om 51 5,oc 52 .add 3 51 1,om 5 52] [1,5] [1]/\SX 89 (GN 639) [ok 6 0] [1] [1]/\SX 89 (GN 8575) [om 61 6,oz 62 29 1 1,ol 63 26 62,oe 64 63 26,ob 65 .lss 3 61 64] [1,6] [1]/\SX 89 (GN 35199) [ok 7 0] [1,6] [1]/\SX 89 (GN 543103) [om 68 7,oz 69 29 1 1,ol 70 26 69,om 71 6,oi 72 26 70 71,ol 73 27 72,oe 74 73 27,ob 75 .lss 3 68 74] [1,6,7] [1]/\RX 89 (GN 2247039) (.drw [⟨[],[ol 78 29 1,oz 79 29 1 1,ol 80 26 79,om 81 6,oi 82 26 80 81,ol 83 27 82,om 84 7,oi 85 27 83 84,ol 86 54 85],[od 87 121 [tq 78,tq 86]]⟩,⟨[],[ou 88 87],[]⟩]) (some ([1,6,7],[1]))/\SX 89 (GN 9587071) [ok 2 1] [] []/\SX 89 (GN 936319) [om 76 7,oc 77 .add 3 76 1,om 7 77] [1,6,7] [1]/\SX 89 (GN 14719) [om 66 6,oc 67 .add 3 66 1,om 6 67] [1,6] [1]/\SX 89 (GN 767) [ok 2 0] [] []/\LX 89 UO [1,3] [1]/\LX 89 PN [1,5] [1]/\LX 89 PP [1,6] [1]/\LX 89 PO [1,6,7] [1]:=by and_intros<;>first|exact rx|exact lx|exact fun _ _=>rfl
def nL:=rg Tryz.f67
@[simp] def AF6:bw:=(lp (nL 267) 8 0 1 (nL 587) (nL 459))
def UP:=AF6
def c67:bw:=(.seq (nL 2) (.seq (nL 5) (.seq (.seq (nL 19) (.block 0 (.loop UP))) (.seq (nL 23) .ret))))
theorem b67:Tryz.f67.body=some c67:=by kernel_rfl
@[simp] theorem x67:UX 36 UP AF6/\SX 36 (nL 2) [oq 2 (.mv (.const (.slice none 0 0)))] [0] []/\SX 36 (nL 5) [oq 3 (.mv (.const (.slice none 0 0)))] [0] []/\SX 36 (nL 19) [ok 4 0] [0,3] [34]/\SX 36 (nL 267) [om 5 4,om 6 0,oe 7 6 27,ob 8 .lss 3 5 7] [0,3,4] [34]/\RX 36 (nL 587) (.drw [⟨[],[om 11 3,om 12 0,om 13 4,oi 14 27 12 13,oz 15 54 14 0,ol 16 3 15,om 17 0,om 18 4,oi 19 27 17 18,oz 20 54 19 1,ol 21 4 20,om 22 0,om 23 4,oi 24 27 22 23,oz 25 54 24 2,ol 26 3 25,om 27 0,om 28 4,oi 29 27 27 28,oz 30 54 29 3,ol 31 4 30,oq 32 (.build 98 [(0,tq 16),(1,tq 21),(2,tq 26),(3,tq 31)]),oq 33 (.buildS 41 1 [(0,tq 32)]),oq 34 (.app [tq 11,tq 33] [41,41]),om 3 34],[]⟩]) (some ([0,3,4],[34]))/\SX 36 (nL 459) [om 9 4,oc 10 .add 3 9 1,om 4 10] [0,3,4] [34]/\SX 36 (nL 23) [om 35 3,om 2 35] [3] [34]/\LX 36 UP [0,3,4] [34]:=⟨fun _ _=>rfl,rx,rx,rx,rx,rx,rx,rx,lx⟩
def nM:=rg Tryz.f22
@[simp] def AF7:bw:=(lp (nM 267) 18 0 1 (nM 587) (nM 459))
def UQ:=AF7
def c22:bw:=(.seq (nM 2) (.seq (nM 5) (.seq (.seq (nM 19) (.block 0 (.loop UQ))) (.seq (nM 23) .ret))))
theorem b22:Tryz.f22.body=some c22:=by kernel_rfl
@[simp] theorem A8F(n:Nat)(st:XS):AF Tryz.prog ann kn (n+1) 33 (nM 459) st=TD (QR Tryz.prog (BU Tryz.prog ann kn n) (.str [om 19 4,oc 20 .add 3 19 1,om 4 20]) (CS (some ([1,2,3,4],[1,2,3,7,12,28,30])) (bP [2000000000000030] st))) :=
 ZK (by kernel_rfl) (by kernel_rfl) (by kernel_rfl) (by kernel_rfl) (by kernel_rfl)
@[simp] theorem x22:UX 33 UQ AF7/\SX 33 (nM 2) [oq 1 (.box (tq 0)),oq 2 (.alloc 43)] [0] [1,2,3,7,12,28,30]/\RX 33 (nM 5) (.drw [⟨[3],[oz 5 29 1 0,oq 6 (.ldz 25 (tq 5)),od 7 63 [tq 6],oz 8 29 1 2,oq 9 (.ldz 3 (tq 8)),oz 10 29 1 3,oq 11 (.ldz 27 (tq 10)),od 12 67 [tq 11],oq 13 (.build 43 [(0,tq 7),(2,tq 9),(3,tq 12)]),oq 3 (.alloc 43)],[os (.sto 43 (tq 3) (tq 13))]⟩]) (some ([1,2],[1,2,28,30]))/\SX 33 (nM 19) [ok 4 0] [1,2,3] [1,2,3,7,12,28,30]/\SX 33 (nM 267) [om 14 4,oz 15 29 1 1,ol 16 26 15,oe 17 16 26,ob 18 .lss 3 14 17] [1,2,3,4] [1,2,3,7,12,28,30]/\RX 33 (nM 587) (.drw [⟨[],[oz 21 43 3 1,oq 22 (.ldz 40 (tq 21)),oz 23 29 1 1,ol 24 26 23,om 25 4,oi 26 26 24 25,ol 27 27 26,od 28 67 [tq 27],oq 29 (.buildS 40 1 [(0,tq 28)]),oq 30 (.app [tq 22,tq 29] [40,40]),oz 31 43 3 1],[os (.sto 40 (tq 31) (tq 30))]⟩]) (some ([1,2,3,4],[1,2,3,7,12,30]))/\SX 33 (nM 23) [ol 32 43 3,os (.sto 43 (tq 2) (tq 32))] [2,3] [1,2,3,7,12,28,30]/\LX 33 UQ [1,2,3,4] [1,2,3,7,12,28,30]:=⟨fun _ _=>rfl,rx,rx,rx,rx,rx,rx,lx⟩
def cT:=rg Tryz.f19
@[simp] def AF8:bw:=(lp (cT 267) 24 0 1 (.seq (cT 1099) (.cond (.tmp 33) (.seq (cT 4683) .ret) .skip)) (cT 459))
def UR:=AF8
def c19:bw:=(.seq (cT 2) (.seq (.seq (cT 9) (.cond (.tmp 19) (.seq (cT 37) .ret) .skip)) (.seq (.seq (cT 19) (.block 0 (.loop UR))) (.seq (cT 23) .ret))))
theorem b19:Tryz.f19.body=some c19:=by kernel_rfl
@[simp] theorem x19:UX 34 UR AF8/\SX 34 (cT 2) [oq 1 (.box (tq 0)),ot 2 false] [0] [1]/\SX 34 (cT 9) [oz 4 29 1 0,ol 5 25 4,od 6 64 [tq 5],ou 7 6,om 8 7,gz 8 false 9 29 1 1,gl 8 false 10 26 9,ge 8 false 11 10 26,gc 8 false 12 .gtr 3 11 6,oq 13 (.pick (tq 8) (cb true) (tq 12)),om 14 13,gz 14 false 15 29 1 3,gl 14 false 16 27 15,ge 14 false 17 16 27,gc 14 false 18 .gtr 3 17 6,oq 19 (.pick (tq 14) (cb true) (tq 18))] [1] [1]/\SX 34 (cT 37) [ot 2 false] [] []/\SX 34 (cT 19) [ok 3 0] [1] [1]/\SX 34 (cT 267) [om 20 3,oz 21 29 1 1,ol 22 26 21,oe 23 22 26,ob 24 .lss 3 20 23] [1,3] [1]/\SX 34 (cT 1099) [oz 27 29 1 1,ol 28 26 27,om 29 3,oi 30 26 28 29,ol 31 27 30,oe 32 31 27,oc 33 .gtr 3 32 6] [1,3] [1]/\SX 34 (cT 4683) [ot 2 false] [] []/\SX 34 (cT 459) [om 25 3,oc 26 .add 3 25 1,om 3 26] [1,3] [1]/\SX 34 (cT 23) [ot 2 true] [] []/\LX 34 UR [1,3] [1]:=⟨fun _ _=>rfl,rx,rx,rx,rx,rx,rx,rx,rx,rx,lx⟩
def g25:=rg Tryz.f25
def c25:bw:=(.seq (g25 2) (.seq (g25 5) .ret))
theorem b25:Tryz.f25.body=some c25:=by kernel_rfl
@[simp] theorem x25:SX 5 (g25 2) [oq 1 (.box (tq 0)),ok 2 0] [0] [1]/\SX 5 (g25 5) [ol 3 29 1,od 4 73 [tq 3],om 2 4] [0,1] [1]:=⟨rx,rx⟩
def JB:=rg Tryz.f15
@[simp] def wD:bw:=(lp (JB 34303) 102 0 1 (.seq (JB 140799) (.cond (.tmp 116) (.seq (JB 599551) .ret) .skip)) (JB 58879))
def PQ:=wD
@[simp] def wE:bw:=(lp (JB 68607) 120 2 3 (.seq (JB 281599) (.cond (.tmp 134) (.seq (JB 1199103) .ret) .skip)) (JB 117759))
def PR:=wE
def c15:bw:=(.seq (JB 2) (.seq (.seq (JB 9) (.cond (.tmp 19) (.seq (JB 37) .ret) .skip)) (.seq (JB 11) (.seq (JB 23) (.seq (JB 47) (.seq (.seq (JB 159) (.cond (.tmp 41) (.seq (JB 607) .ret) .skip)) (.seq (.seq (JB 319) (.cond (.tmp 50) (JB 703) .skip)) (.seq (.seq (JB 639) (.cond (.tmp 52) (.seq (JB 2431) .ret) .skip)) (.seq (.seq (JB 1279) (.cond (.tmp 98) (.seq (JB 4863) .ret) .skip)) (.seq (.seq (JB 2559) (.block 0 (.loop PQ))) (.seq (.seq (JB 5119) (.block 2 (.loop PR))) (.seq (JB 6143) .ret))))))))))))
theorem b15:Tryz.f15.body=some c15:=by kernel_rfl
@[simp] theorem x15:UX 136 PQ wD/\UX 136 PR wE/\SX 136 (JB 2) [oq 2 (.box (tq 0)),ot 4 false] [0,1] [2,23,25,26,31,33,38]/\SX 136 (JB 9) [ol 12 29 2,od 13 19 [tq 12],ou 14 13,om 15 14,gm 15 false 16 1,ge 15 false 17 16 22,gc 15 false 18 .gtr 3 17 11,oq 19 (.pick (tq 15) (cb true) (tq 18))] [1,2] [2,23,25,26,31,33,38]/\SX 136 (JB 37) [od 20 20 [],om 4 20] [] []/\SX 136 (JB 11) [ol 22 29 2,od 23 22 [tq 22],om 24 1,od 25 32 [tq 24],od 26 57 [tq 23,tq 25],om 21 26,oq 27 (.oth (.extract (tq 21) 0)),oq 28 (.oth (.extract (tq 21) 1)),oq 29 (.oth (.extract (tq 21) 2)),om 5 27,om 6 28,om 7 29] [1,2] [2,23,25,26,31,33,38]/\SX 136 (JB 23) [ol 30 29 2,od 31 22 [tq 30],om 32 1,od 33 32 [tq 32],od 34 58 [tq 31,tq 33],om 8 34] [1,2,5,6,7] [2,23,25,26,31,33,38]/\SX 136 (JB 47) [ol 35 29 2,od 36 25 [tq 35],om 9 36] [1,2,5,6,7,8] [2,23,25,26,31,33,38]/\SX 136 (JB 159) [ol 37 29 2,od 38 22 [tq 37],od 39 59 [tq 38],om 40 9,ob 41 .neq 33 39 40] [1,2,5,6,7,8,9] [2,23,25,26,31,33,38]/\SX 136 (JB 319) [om 42 9,oc 43 .eql 33 42 0,om 44 43,gz 44 true 45 29 2 0,gl 44 true 46 25 45,gm 44 true 47 1,gd 44 true 48 34 [tq 46,tq 47],og 44 true 49 (.oth (.unOp .not 4 (tq 48))),oq 50 (.pick (tq 44) (tq 49) (cb false))] [1,2,5,6,7,8,9] [2,23,25,26,31,33,38]/\SX 136 (JB 703) [ok 9 2] [1,2,5,6,7,8] [2,23,25,26,31,33,38]/\SX 136 (JB 639) [om 51 9,oc 52 .neq 33 51 0] [1,2,5,6,7,8,9] [2,23,25,26,31,33,38]/\SX 136 (JB 2431) [om 53 7,om 54 9,ob 55 .eql 33 53 54,om 56 55,gm 56 true 57 5,ge 56 true 58 57 89,gm 56 true 59 6,ge 56 true 60 59 89,gb 56 true 61 .add 3 58 60,gc 56 true 62 .eql 3 61 0,oq 63 (.pick (tq 56) (tq 62) (cb false)),om 64 63,gm 64 true 65 8,og 64 true 66 (.oth (.unOp .not 4 (tq 65))),oq 67 (.pick (tq 64) (tq 66) (cb false)),om 68 67,gd 68 true 69 20 [],oq 70 (.pick (tq 68) (tq 69) (cb false)),om 4 70] [5,6,7,8,9] [2,23,25,26,31,33,38]/\RX 136 (JB 1279) (.drw [⟨[],[om 71 7,oc 72 .neq 33 71 0,om 73 72,gm 73 false 74 5,ge 73 false 75 74 89,gz 73 false 76 29 2 3,gl 73 false 77 27 76,ge 73 false 78 77 27,gb 73 false 79 .neq 3 75 78,oq 80 (.pick (tq 73) (cb true) (tq 79)),om 81 80,gm 81 false 82 6,ge 81 false 83 82 89,gz 81 false 84 29 2 1,gl 81 false 85 26 84,ge 81 false 86 85 26,gb 81 false 87 .neq 3 83 86,oq 88 (.pick (tq 81) (cb true) (tq 87)),om 89 88,gm 89 false 90 8,gl 89 false 91 29 2,gm 89 false 92 1,gd 89 false 93 35 [tq 91,tq 92],gz 89 false 94 29 2 2,gl 89 false 95 3 94,gb 89 false 96 .leq 3 93 95,gb 89 false 97 .neq 4 90 96,oq 98 (.pick (tq 89) (cb true) (tq 97))],[]⟩]) (some ([1,2,5,6,7,8],[2,23,25,26,31,33,38]))/\SX 136 (JB 2559) [ok 10 0] [1,2,5,6] [2,23,25,26,31,33,38]/\SX 136 (JB 34303) [om 99 10,om 100 5,oe 101 100 89,ob 102 .lss 3 99 101] [1,2,5,6,10] [2,23,25,26,31,33,38]/\RX 136 (JB 140799) (.drw [⟨[],[om 105 5,om 106 10,oi 107 89 105 106,ol 108 4 107,om 109 1,oz 110 29 2 3,ol 111 27 110,om 112 10,oi 113 27 111 112,ol 114 54 113,od 115 36 [tq 109,tq 114],ob 116 .neq 4 108 115],[]⟩]) (some ([1,2,5,6,10],[2,23,25,26,31,33,38]))/\SX 136 (JB 58879) [om 103 10,oc 104 .add 3 103 1,om 10 104] [1,2,5,6,10] [2,23,25,26,31,33,38]/\SX 136 (JB 5119) [ok 11 0] [1,2,6] [2,23,25,26,31,33,38]/\SX 136 (JB 68607) [om 117 11,om 118 6,oe 119 118 89,ob 120 .lss 3 117 119] [1,2,6,11] [2,23,25,26,31,33,38]/\RX 136 (JB 281599) (.drw [⟨[],[om 123 6,om 124 11,oi 125 89 123 124,ol 126 4 125,om 127 1,oz 128 29 2 1,ol 129 26 128,om 130 11,oi 131 26 129 130,ol 132 27 131,od 133 49 [tq 127,tq 132],ob 134 .neq 4 126 133],[]⟩]) (some ([1,2,6,11],[2,23,25,26,31,33,38]))/\SX 136 (JB 117759) [om 121 11,oc 122 .add 3 121 1,om 11 122] [1,2,6,11] [2,23,25,26,31,33,38]/\SX 136 (JB 6143) [od 135 20 [],om 4 135] [] []/\LX 136 PQ [1,2,5,6,10] [2,23,25,26,31,33,38]/\LX 136 PR [1,2,6,11] [2,23,25,26,31,33,38]:=by and_intros<;>first|exact rx|exact lx|exact fun _ _=>rfl
end
end Go.Proofs.Tryz.Op
