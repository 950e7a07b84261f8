/- The walk's ground of function 17: its regions worked out. No condition. -/
import Derived.Test.YtanlhbmliegjeaaGreatGa
open Go renaming Code->bq
open Go.Proofs.Tryz renaming prog->bk
open Int renaming negSucc->bj
set_option maxRecDepth 100000
namespace Go.Proofs.Tryz.Op
open Go Go.Pg
noncomputable section
def g17:=rg Tryz.f17
def c17:bq:=(.seq (g17 2) (.seq (g17 5) .ret))
theorem b17:Tryz.f17.body=some c17:=by kernel_rfl
@[simp] theorem x17:SX 15 (g17 2) [ot 6 false] [0,1,2] []/\SX 15 (g17 5) [om 7 0,om 8 1,ob 9 .geq 3 7 8,om 10 9,gm 10 true 11 0,gm 10 true 12 2,gb 10 true 13 .leq 3 11 12,oq 14 (.pick (tq 10) (tq 13) (cb false)),om 6 14] [0,1,2] []:=⟨rx,rx⟩
def tU:=rg Tryz.f38
@[simp] def AK9:bq:=(lp (tU 133) 9 0 1 (.seq (tU 549) (.cond (.tmp 18) (.seq (tU 2341) .ret) .skip)) (tU 229))
def W7:=AK9
def c38:bq:=(.seq (tU 2) (.seq (.seq (tU 9) (.block 0 (.loop W7))) (.seq (tU 11) .ret)))
theorem b38:Tryz.f38.body=some c38:=by kernel_rfl
@[simp] theorem x38:UX 19 W7 AK9/\SX 19 (tU 2) [ot 4 false] [0,1] []/\SX 19 (tU 9) [ok 5 0] [0,1] []/\SX 19 (tU 133) [om 6 5,om 7 0,oe 8 7 22,ob 9 .lss 3 6 8] [0,1,5] []/\SX 19 (tU 549) [om 12 0,om 13 5,oi 14 22 12 13,ol 15 3 14,om 16 1,od 17 17 [tq 15,tq 16,ci 3],ou 18 17] [0,1,5] []/\SX 19 (tU 2341) [ot 4 false] [] []/\SX 19 (tU 229) [om 10 5,oc 11 .add 3 10 1,om 5 11] [0,1,5] []/\SX 19 (tU 11) [ot 4 true] [] []/\LX 19 W7 [0,1,5] []:=⟨fun _ _=>rfl,rx,rx,rx,rx,rx,rx,rx,lx⟩
def g39:=rg Tryz.f39
def c39:bq:=(.seq (g39 2) (.seq (g39 5) .ret))
theorem b39:Tryz.f39.body=some c39:=by kernel_rfl
@[simp] theorem x39:SX 19 (g39 2) [oq 2 (.box (tq 0)),oq 3 (.box (tq 1)),ot 4 false] [0,1] [2]/\SX 19 (g39 5) [oz 5 89 3 0,ol 6 3 5,oz 7 27 2 1,ol 8 3 7,oc 9 .sub 3 8 1,od 10 17 [tq 6,ci 0,tq 9],om 11 10,gz 11 true 12 89 3 1,gl 11 true 13 3 12,gz 11 true 14 27 2 2,gl 11 true 15 3 14,gc 11 true 16 .sub 3 15 1,gd 11 true 17 17 [tq 13,ci 0,tq 16],oq 18 (.pick (tq 11) (tq 17) (cb false)),om 4 18] [2,3] [2,3]:=⟨rx,rx⟩
def tV:=rg Tryz.f83
@[simp] def ALA:bq:=(lp (tV 133) 9 0 1 (.seq (tV 549) (.cond (.tmp 17) (.seq (tV 2341) .ret) .skip)) (tV 229))
def W8:=ALA
def c83:bq:=(.seq (tV 2) (.seq (.seq (tV 9) (.block 0 (.loop W8))) (.seq (tV 11) .ret)))
theorem b83:Tryz.f83.body=some c83:=by kernel_rfl
@[simp] theorem x83:UX 18 W8 ALA/\SX 18 (tV 2) [ot 4 false] [0,1] []/\SX 18 (tV 9) [ok 5 0] [0,1] []/\SX 18 (tV 133) [om 6 5,om 7 0,oe 8 7 22,ob 9 .lss 3 6 8] [0,1,5] []/\SX 18 (tV 549) [om 12 0,om 13 5,oi 14 22 12 13,ol 15 3 14,om 16 1,ob 17 .eql 3 15 16] [0,1,5] []/\SX 18 (tV 2341) [ot 4 true] [] []/\SX 18 (tV 229) [om 10 5,oc 11 .add 3 10 1,om 5 11] [0,1,5] []/\SX 18 (tV 11) [ot 4 false] [] []/\LX 18 W8 [0,1,5] []:=⟨fun _ _=>rfl,rx,rx,rx,rx,rx,rx,rx,lx⟩
def g28:=rg Tryz.f28
def c28:bq:=(.seq (g28 2) (.seq (g28 5) .ret))
theorem b28:Tryz.f28.body=some c28:=by kernel_rfl
@[simp] theorem x28:SX 6 (g28 2) [oq 2 (.mv (.const (.slice none 0 0)))] [0,1] []/\SX 6 (g28 5) [oq 3 (.buildS 22 0 []),om 4 0,oq 5 (.app [tq 3,tq 4] [22,22]),om 2 5] [0,1] []:=⟨rx,rx⟩
def tW:=rg Tryz.f29
@[simp] def ALB:bq:=(lp (tW 267) 9 0 1 (tW 587) (tW 459))
def W9:=ALB
def c29:bq:=(.seq (tW 2) (.seq (tW 5) (.seq (.seq (tW 19) (.block 0 (.loop W9))) (.seq (tW 23) .ret))))
theorem b29:Tryz.f29.body=some c29:=by kernel_rfl
@[simp] theorem x29:UX 21 W9 ALB/\SX 21 (tW 2) [oq 2 (.mv (.const (.slice none 0 0)))] [0] [17]/\SX 21 (tW 5) [oq 5 (.buildS 23 0 []),om 3 5] [0] [17]/\SX 21 (tW 19) [ok 4 0] [0,1,3] [1,17,19]/\SX 21 (tW 267) [om 6 4,om 7 0,oe 8 7 23,ob 9 .lss 3 6 8] [0,3,4] [17,19]/\SX 21 (tW 587) [om 12 3,om 13 0,om 14 4,oi 15 23 13 14,ol 16 22 15,od 17 28 [tq 16],oq 18 (.buildS 23 1 [(0,tq 17)]),oq 19 (.app [tq 12,tq 18] [23,23]),om 3 19] [0,1,3,4] [1,17,19]/\SX 21 (tW 459) [om 10 4,oc 11 .add 3 10 1,om 4 11] [0,1,3,4] [1,17,19]/\SX 21 (tW 23) [om 20 3,om 2 20] [3] [19]/\LX 21 W9 [0,3,4] [17,19]:=⟨fun _ _=>rfl,rx,rx,rx,rx,rx,rx,rx,lx⟩
def g30:=rg Tryz.f30
def c30:bq:=(.seq (g30 2) (.seq (g30 5) .ret))
theorem b30:Tryz.f30.body=some c30:=by kernel_rfl
@[simp] theorem x30:SX 8 (g30 2) [oq 1 (.box (tq 0)),oq 2 (.alloc 87)] [0] []/\SX 8 (g30 5) [oz 3 89 1 0,ol 4 3 3,oz 5 89 1 1,ol 6 3 5,oq 7 (.build 87 [(0,tq 4),(1,tq 6)]),os (.sto 87 (tq 2) (tq 7))] [1,2] [1,2]:=⟨rx,rx⟩
def tX:=rg Tryz.f37
@[simp] def ALC:bq:=(lp (tX 133) 11 0 1 (.seq (tX 549) (.cond (.tmp 19) (.seq (tX 2341) .ret) .skip)) (tX 229))
def XA:=ALC
def c37:bq:=(.seq (tX 2) (.seq (.seq (tX 9) (.block 0 (.loop XA))) (.seq (tX 11) .ret)))
theorem b37:Tryz.f37.body=some c37:=by kernel_rfl
@[simp] theorem x37:UX 23 XA ALC/\SX 23 (tX 2) [ot 2 false] [0] []/\SX 23 (tX 9) [ok 3 0] [0,1] [1,14]/\SX 23 (tX 133) [om 4 3,om 5 0,oe 6 5 23,ob 7 .lss 3 4 6,om 8 7,gm 8 true 9 3,gc 8 true 10 .lss 3 9 8,oq 11 (.pick (tq 8) (tq 10) (cb false))] [0,3] []/\SX 23 (tX 549) [om 14 0,om 15 3,oi 16 23 14 15,ol 17 22 16,oe 18 17 22,oc 19 .gtr 3 18 5] [0,3] []/\SX 23 (tX 2341) [ot 2 false] [] []/\SX 23 (tX 229) [om 12 3,oc 13 .add 3 12 1,om 3 13] [0,3] []/\SX 23 (tX 11) [om 20 0,oe 21 20 23,oc 22 .leq 3 21 7,om 2 22] [0] []/\LX 23 XA [0,3] []:=⟨fun _ _=>rfl,rx,rx,rx,rx,rx,rx,rx,lx⟩
def tY:=rg Tryz.f21
@[simp] def ALD:bq:=(lp (tY 267) 9 0 1 (tY 587) (tY 459))
def XB:=ALD
def c21:bq:=(.seq (tY 2) (.seq (tY 5) (.seq (.seq (tY 19) (.block 0 (.loop XB))) (.seq (tY 23) .ret))))
theorem b21:Tryz.f21.body=some c21:=by kernel_rfl
@[simp] theorem x21:UX 21 XB ALD/\SX 21 (tY 2) [oq 1 (.box (tq 0)),ok 2 0] [0] [1]/\SX 21 (tY 5) [ok 3 1] [1] [1]/\SX 21 (tY 19) [ok 4 0] [0,1,3] [1,17,19]/\SX 21 (tY 267) [om 5 4,oz 6 27 1 6,ol 7 23 6,oe 8 7 23,ob 9 .lss 3 5 8] [1,3,4] [1]/\SX 21 (tY 587) [om 12 3,oz 13 27 1 6,ol 14 23 13,om 15 4,oi 16 23 14 15,ol 17 22 16,oe 18 17 22,ob 19 .mul 3 12 18,om 3 19] [0,1,3,4] [1,17,19]/\SX 21 (tY 459) [om 10 4,oc 11 .add 3 10 1,om 4 11] [0,1,3,4] [1,17,19]/\SX 21 (tY 23) [om 20 3,om 2 20] [3] [19]/\LX 21 XB [1,3,4] [1]:=⟨fun _ _=>rfl,rx,rx,rx,rx,rx,rx,rx,lx⟩
def I8:=rg Tryz.f15
@[simp] def ABK:bq:=(lp (I8 68759) 118 2 3 (.seq (I8 281751) (.cond (.tmp 138) (.seq (I8 1199255) .ret) .skip)) (I8 117911))
def RC:=ABK
@[simp] def ALE:bq:=(lp (I8 535) 92 0 1 (.seq (.seq (I8 4247) (.cond (.tmp 110) (.seq (I8 18583) .ret) .skip)) (.seq (I8 5271) (.block 2 (.loop RC)))) (I8 919))
def XC:=ALE
@[simp] def ABL:bq:=(lp (I8 1071) 143 4 5 (.seq (I8 4399) (.cond (.tmp 153) (.seq (I8 18735) .ret) .skip)) (I8 1839))
def RD:=ABL
@[simp] def ABM:bq:=(lp (I8 2143) 158 6 7 (.seq (I8 8799) (.cond (.tmp 180) (.seq (I8 37471) .ret) .skip)) (I8 3679))
def RE:=ABM
def iT:bq:=(.seq (I8 2) (.seq (.seq (I8 9) (.cond (.tmp 31) (.seq (I8 37) .ret) .skip)) (.seq (.seq (I8 19) (.cond (.tmp 88) (.seq (I8 75) .ret) .skip)) (.seq (.seq (I8 39) (.block 0 (.loop XC))) (.seq (.seq (I8 79) (.block 4 (.loop RD))) (.seq (.seq (I8 159) (.block 6 (.loop RE))) (.seq (I8 191) .ret)))))))
theorem b15:Tryz.f15.body=some iT:=by kernel_rfl
@[simp] theorem x15:UX 181 RC ABK/\UX 181 XC ALE/\UX 181 RD ABL/\UX 181 RE ABM/\SX 181 (I8 2) [oq 1 (.box (tq 0)),ok 2 0] [0] [1]/\SX 181 (I8 9) [oz 7 27 1 0,ol 8 3 7,oc 9 .gtr 3 8 4,om 10 9,gz 10 false 11 27 1 1,gl 10 false 12 3 11,gc 10 false 13 .gtr 3 12 3,oq 14 (.pick (tq 10) (cb true) (tq 13)),om 15 14,gz 15 false 16 27 1 2,gl 15 false 17 3 16,gc 15 false 18 .gtr 3 17 5,oq 19 (.pick (tq 15) (cb true) (tq 18)),om 20 19,gz 20 false 21 27 1 7,gl 20 false 22 24 21,ge 20 false 23 22 24,gc 20 false 24 .gtr 3 23 4,oq 25 (.pick (tq 20) (cb true) (tq 24)),om 26 25,gz 26 false 27 27 1 8,gl 26 false 28 25 27,ge 26 false 29 28 25,gc 26 false 30 .gtr 3 29 5,oq 31 (.pick (tq 26) (cb true) (tq 30))] [1] [1]/\SX 181 (I8 37) [ok 2 3] [] []/\SX 181 (I8 19) [oz 32 27 1 0,ol 33 3 32,oc 34 .lss 3 33 0,om 35 34,gz 35 false 36 27 1 1,gl 35 false 37 3 36,gc 35 false 38 .lss 3 37 1,oq 39 (.pick (tq 35) (cb true) (tq 38)),om 40 39,gz 40 false 41 27 1 2,gl 40 false 42 3 41,gc 40 false 43 .lss 3 42 1,oq 44 (.pick (tq 40) (cb true) (tq 43)),om 45 44,gz 45 false 46 27 1 3,gl 45 false 47 3 46,gd 45 false 48 17 [tq 47,ci 0,ci 4],og 45 false 49 (.oth (.unOp .not 4 (tq 48))),oq 50 (.pick (tq 45) (cb true) (tq 49)),om 51 50,gz 51 false 52 27 1 4,gl 51 false 53 22 52,ge 51 false 54 53 22,gz 51 false 55 27 1 1,gl 51 false 56 3 55,gb 51 false 57 .neq 3 54 56,oq 58 (.pick (tq 51) (cb true) (tq 57)),om 59 58,gz 59 false 60 27 1 5,gl 59 false 61 22 60,ge 59 false 62 61 22,gz 59 false 63 27 1 0,gl 59 false 64 3 63,gc 59 false 65 .add 3 64 1,gb 59 false 66 .neq 3 62 65,oq 67 (.pick (tq 59) (cb true) (tq 66)),om 68 67,gz 68 false 69 27 1 6,gl 68 false 70 23 69,ge 68 false 71 70 23,gz 68 false 72 27 1 0,gl 68 false 73 3 72,gc 68 false 74 .add 3 73 1,gb 68 false 75 .neq 3 71 74,oq 76 (.pick (tq 68) (cb true) (tq 75)),om 77 76,gz 77 false 78 27 1 4,gl 77 false 79 22 78,gd 77 false 80 38 [tq 79,ci 0],og 77 false 81 (.oth (.unOp .not 4 (tq 80))),oq 82 (.pick (tq 77) (cb true) (tq 81)),om 83 82,gz 83 false 84 27 1 5,gl 83 false 85 22 84,gd 83 false 86 38 [tq 85,.const (.int .i64 (bj 0))],og 83 false 87 (.oth (.unOp .not 4 (tq 86))),oq 88 (.pick (tq 83) (cb true) (tq 87))] [1] [1]/\SX 181 (I8 75) [ok 2 1] [] []/\SX 181 (I8 39) [ok 3 0] [1] [1]/\SX 181 (I8 535) [om 89 3,oz 90 27 1 0,ol 91 3 90,ob 92 .leq 3 89 91] [1,3] [1]/\SX 181 (I8 4247) [oz 95 27 1 6,ol 96 23 95,om 97 3,oi 98 23 96 97,ol 99 22 98,oe 100 99 22,oc 101 .eql 3 100 0,om 102 101,gz 102 false 103 27 1 6,gl 102 false 104 23 103,gm 102 false 105 3,gi 102 false 106 23 104 105,gl 102 false 107 22 106,gd 102 false 108 38 [tq 107,ci 0],og 102 false 109 (.oth (.unOp .not 4 (tq 108))),oq 110 (.pick (tq 102) (cb true) (tq 109))] [1,3] [1]/\SX 181 (I8 18583) [ok 2 1] [] []/\SX 181 (I8 5271) [ok 4 1] [1,3] [1]/\SX 181 (I8 68759) [om 111 4,oz 112 27 1 6,ol 113 23 112,om 114 3,oi 115 23 113 114,ol 116 22 115,oe 117 116 22,ob 118 .lss 3 111 117] [1,3,4] [1]/\RX 181 (I8 281751) (.drw [⟨[],[oz 121 27 1 6,ol 122 23 121,om 123 3,oi 124 23 122 123,ol 125 22 124,om 126 4,oi 127 22 125 126,ol 128 3 127,oz 129 27 1 6,ol 130 23 129,om 131 3,oi 132 23 130 131,ol 133 22 132,om 134 4,oc 135 .sub 3 134 1,oi 136 22 133 135,ol 137 3 136,ob 138 .leq 3 128 137],[]⟩]) (some ([1,3,4],[1]))/\SX 181 (I8 1199255) [ok 2 1] [] []/\SX 181 (I8 117911) [om 119 4,oc 120 .add 3 119 1,om 4 120] [1,3,4] [1]/\SX 181 (I8 919) [om 93 3,oc 94 .add 3 93 1,om 3 94] [1,3] [1]/\SX 181 (I8 79) [ok 5 0] [1] [1]/\SX 181 (I8 1071) [om 139 5,oz 140 27 1 7,ol 141 24 140,oe 142 141 24,ob 143 .lss 3 139 142] [1,5] [1]/\RX 181 (I8 4399) (.drw [⟨[],[ol 146 27 1,oz 147 27 1 7,ol 148 24 147,om 149 5,oi 150 24 148 149,ol 151 89 150],[od 152 39 [tq 146,tq 151]]⟩,⟨[],[ou 153 152],[]⟩]) (some ([1,5],[1]))/\SX 181 (I8 18735) [ok 2 1] [] []/\SX 181 (I8 1839) [om 144 5,oc 145 .add 3 144 1,om 5 145] [1,5] [1]/\SX 181 (I8 159) [ok 6 0] [1] [1]/\SX 181 (I8 2143) [om 154 6,oz 155 27 1 8,ol 156 25 155,oe 157 156 25,ob 158 .lss 3 154 157] [1,6] [1]/\RX 181 (I8 8799) (.drw [⟨[],[oz 161 27 1 8,ol 162 25 161,om 163 6,oi 164 25 162 163,oz 165 91 164 0,ol 166 3 165,oz 167 27 1 0,ol 168 3 167],[od 169 17 [tq 166,ci 0,tq 168]]⟩,⟨[],[ou 170 169,om 171 170,gz 171 false 172 27 1 8,gl 171 false 173 25 172,gm 171 false 174 6,gi 171 false 175 25 173 174,gz 171 false 176 91 175 1,gl 171 false 177 3 176],[gd 171 false 178 17 [tq 177,ci 0,ci 3]]⟩,⟨[],[og 171 false 179 (.oth (.unOp .not 4 (tq 178))),oq 180 (.pick (tq 171) (cb true) (tq 179))],[]⟩]) (some ([1,6],[1]))/\SX 181 (I8 37471) [ok 2 1] [] []/\SX 181 (I8 3679) [om 159 6,oc 160 .add 3 159 1,om 6 160] [1,6] [1]/\SX 181 (I8 191) [ok 2 0] [] []/\LX 181 XC [1,3] [1]/\LX 181 RC [1,3,4] [1]/\LX 181 RD [1,5] [1]/\LX 181 RE [1,6] [1]:=by and_intros<;>first|exact rx|exact lx|exact fun _ _=>rfl
def g14:=rg Tryz.f14
def c14:bq:=(.seq (g14 2) (.seq (.seq (g14 9) (.cond (.tmp 30) (.seq (g14 37) .ret) .skip)) (.seq (g14 11) .ret)))
theorem b14:Tryz.f14.body=some c14:=by kernel_rfl
@[simp] theorem x14:SX 39 (g14 2) [oq 1 (.box (tq 0)),ot 2 false] [0] [1]/\SX 39 (g14 9) [oz 3 27 1 4,ol 4 22 3,oe 5 4 22,oc 6 .gtr 3 5 5,om 7 6,gz 7 false 8 27 1 5,gl 7 false 9 22 8,ge 7 false 10 9 22,gc 7 false 11 .gtr 3 10 7,oq 12 (.pick (tq 7) (cb true) (tq 11)),om 13 12,gz 13 false 14 27 1 6,gl 13 false 15 23 14,gd 13 false 16 37 [tq 15],og 13 false 17 (.oth (.unOp .not 4 (tq 16))),oq 18 (.pick (tq 13) (cb true) (tq 17)),om 19 18,gz 19 false 20 27 1 7,gl 19 false 21 24 20,ge 19 false 22 21 24,gc 19 false 23 .gtr 3 22 6,oq 24 (.pick (tq 19) (cb true) (tq 23)),om 25 24,gz 25 false 26 27 1 8,gl 25 false 27 25 26,ge 25 false 28 27 25,gc 25 false 29 .gtr 3 28 7,oq 30 (.pick (tq 25) (cb true) (tq 29))] [1] [1]/\SX 39 (g14 37) [ot 2 false] [] []/\SX 39 (g14 11) [ol 31 27 1,od 32 15 [tq 31],oc 33 .neq 3 32 0,om 34 33,gl 34 false 35 27 1,gd 34 false 36 21 [tq 35],gc 34 false 37 .leq 3 36 80,oq 38 (.pick (tq 34) (cb true) (tq 37)),om 2 38] [1] [1]:=⟨rx,rx,rx,rx⟩
def PR:=rg Tryz.f108
@[simp] def ABN:bq:=(.seq (PR 69) (.seq (.cond (.tmp 9) .skip (.exit 0)) (.seq (.block 1 (.seq (PR 1125) (.seq (PR 2661) (.cond (.tmp 16) (.seq (PR 9829) .ret) .skip)))) (PR 485))))
def RF:=ABN
def AO9:bq:=(.seq (PR 2) (.seq (.seq (PR 9) (.block 0 (.loop RF))) (.seq (PR 11) .ret)))
theorem b108:Tryz.f108.body=some AO9:=by kernel_rfl
@[simp] theorem BIG:UX 19 RF ABN/\SX 19 (PR 2) [ok 4 0] [0,1] []/\SX 19 (PR 9) [om 6 0,oe 7 6 22,ok 8 0] [0,1] []/\SX 19 (PR 69) [ob 9 .lss 3 8 7] [0,1,7,8] []/\SX 19 (PR 1125) [om 10 8,om 5 10] [0,1,7,8] []/\SX 19 (PR 2661) [om 11 1,om 12 0,om 13 5,oi 14 22 12 13,ol 15 3 14,oq 16 (.call false none (tq 11) [tq 15])] [0,1,5,7,8] []/\SX 19 (PR 9829) [om 17 5,om 4 17] [5] []/\SX 19 (PR 485) [oc 18 .add 3 8 1,om 8 18] [0,1,7,8] []/\SX 19 (PR 11) [oq 4 (.mv (.const (.int .i64 (bj 0))))] [] []/\LX 19 RF [0,1,7,8] []:=⟨fun _ _=>rfl,rx,rx,rx,rx,rx,rx,rx,rx,lx⟩
def g90:=rg Tryz.f90
def c90:bq:=(.seq (g90 2) (.seq (g90 5) .ret))
theorem b90:Tryz.f90.body=some c90:=by kernel_rfl
@[simp] theorem x90:SX 9 (g90 2) [ot 4 false] [0,1] []/\SX 9 (g90 5) [om 5 0,om 6 1,od 7 108 [tq 5,tq 6],oc 8 .geq 3 7 0,om 4 8] [0,1,2,3] [2,3]:=⟨rx,rx⟩
def g53:=rg Tryz.f53
def c53:bq:=(.seq (g53 2) (.seq (g53 5) .ret))
theorem b53:Tryz.f53.body=some c53:=by kernel_rfl
@[simp] theorem x53:SX 9 (g53 2) [oq 3 (.box (tq 1)),ot 4 false] [0,1,2] [3]/\SX 9 (g53 5) [om 5 0,oq 6 (.oth (.makeFunc (.func 91) #[] #[tq 3])),od 7 90 [tq 5,tq 6],ou 8 7,om 4 8] [0,1,2,3] [2,3]:=⟨rx,rx⟩
def g91:=rg Tryz.f91
def c91:bq:=(.seq (g91 2) (.seq (g91 5) .ret))
theorem b91:Tryz.f91.body=some c91:=by kernel_rfl
@[simp] theorem x91:SX 8 (g91 2) [ot 3 false] [0,1] []/\SX 8 (g91 5) [ol 4 139 1,om 5 0,oq 6 (.call false none (tq 4) [tq 5]),ou 7 6,om 3 7] [0,1,2] [2]:=⟨rx,rx⟩
def PS:=rg Tryz.f107
@[simp] def ABO:bq:=(.seq (PS 69) (.seq (.cond (.tmp 9) .skip (.exit 0)) (.seq (.block 1 (.seq (PS 1125) (.seq (PS 2661) (.cond (.tmp 16) (.seq (PS 9829) .ret) .skip)))) (PS 485))))
def RG:=ABO
def APA:bq:=(.seq (PS 2) (.seq (.seq (PS 9) (.block 0 (.loop RG))) (.seq (PS 11) .ret)))
theorem b107:Tryz.f107.body=some APA:=by kernel_rfl
@[simp] theorem BIH:UX 19 RG ABO/\SX 19 (PS 2) [ok 4 0] [0,1] []/\SX 19 (PS 9) [om 6 0,oe 7 6 23,ok 8 0] [0,1] []/\SX 19 (PS 69) [ob 9 .lss 3 8 7] [0,1,7,8] []/\SX 19 (PS 1125) [om 10 8,om 5 10] [0,1,7,8] []/\SX 19 (PS 2661) [om 11 1,om 12 0,om 13 5,oi 14 23 12 13,ol 15 22 14,oq 16 (.call false none (tq 11) [tq 15])] [0,1,5,7,8] []/\SX 19 (PS 9829) [om 17 5,om 4 17] [5] []/\SX 19 (PS 485) [oc 18 .add 3 8 1,om 8 18] [0,1,7,8] []/\SX 19 (PS 11) [oq 4 (.mv (.const (.int .i64 (bj 0))))] [] []/\LX 19 RG [0,1,7,8] []:=⟨fun _ _=>rfl,rx,rx,rx,rx,rx,rx,rx,rx,lx⟩
def g88:=rg Tryz.f88
def c88:bq:=(.seq (g88 2) (.seq (g88 5) .ret))
theorem b88:Tryz.f88.body=some c88:=by kernel_rfl
@[simp] theorem x88:SX 9 (g88 2) [ot 4 false] [0,1] []/\SX 9 (g88 5) [om 5 0,om 6 1,od 7 107 [tq 5,tq 6],oc 8 .geq 3 7 0,om 4 8] [0,1,2,3] [2,3]:=⟨rx,rx⟩
def g51:=rg Tryz.f51
def c51:bq:=(.seq (g51 2) (.seq (g51 5) .ret))
theorem b51:Tryz.f51.body=some c51:=by kernel_rfl
@[simp] theorem x51:SX 9 (g51 2) [oq 3 (.box (tq 1)),ot 4 false] [0,1,2] [3]/\SX 9 (g51 5) [om 5 0,oq 6 (.oth (.makeFunc (.func 89) #[] #[tq 3])),od 7 88 [tq 5,tq 6],ou 8 7,om 4 8] [0,1,2,3] [2,3]:=⟨rx,rx⟩
def g89:=rg Tryz.f89
def c89:bq:=(.seq (g89 2) (.seq (g89 5) .ret))
theorem b89:Tryz.f89.body=some c89:=by kernel_rfl
@[simp] theorem x89:SX 8 (g89 2) [ot 3 false] [0,1] []/\SX 8 (g89 5) [ol 4 99 1,om 5 0,oq 6 (.call false none (tq 4) [tq 5]),ou 7 6,om 3 7] [0,1,2] [2]:=⟨rx,rx⟩
def g60:=rg Tryz.f60
def c60:bq:=(.seq (g60 2) (.seq (g60 5) .ret))
theorem b60:Tryz.f60.body=some c60:=by kernel_rfl
@[simp] theorem x60:SX 15 (g60 2) [ot 6 false] [0,1,2] []/\SX 15 (g60 5) [om 7 1,om 8 0,ob 9 .leq 3 7 8,om 10 9,gm 10 true 11 0,gm 10 true 12 2,gb 10 true 13 .leq 3 11 12,oq 14 (.pick (tq 10) (tq 13) (cb false)),om 6 14] [0,1,2] []:=⟨rx,rx⟩
def g54:=rg Tryz.f54
def c54:bq:=(.seq (g54 2) (.seq (g54 5) .ret))
theorem b54:Tryz.f54.body=some c54:=by kernel_rfl
@[simp] theorem x54:SX 5 (g54 2) [ot 2 false] [0] []/\SX 5 (g54 5) [om 3 0,od 4 60 [tq 3,ci 0,ci 3],om 2 4] [0,1] [1]:=⟨rx,rx⟩
def g61:=rg Tryz.f61
def c61:bq:=(.seq (g61 2) (.seq (g61 5) .ret))
theorem b61:Tryz.f61.body=some c61:=by kernel_rfl
@[simp] theorem x61:SX 5 (g61 2) [ot 2 false] [0] []/\SX 5 (g61 5) [om 3 0,od 4 60 [tq 3,.const (.int .i64 (bj 0)),ci 3],om 2 4] [0,1] [1]:=⟨rx,rx⟩
def g62:=rg Tryz.f62
def c62:bq:=(.seq (g62 2) (.seq (g62 5) (.seq (g62 11) .ret)))
theorem b62:Tryz.f62.body=some c62:=by kernel_rfl
@[simp] theorem x62:SX 12 (g62 2) [ot 2 false] [0] []/\SX 12 (g62 5) [oq 3 (.alloc 3),os (.sto 3 (tq 3) (.const (.int .i64 (bj 0))))] [0] []/\SX 12 (g62 11) [om 4 0,oe 5 4 22,oc 6 .gtr 3 5 0,om 7 6,gm 7 true 8 0,og 7 true 9 (.oth (.makeFunc (.func 96) #[] #[tq 3])),gd 7 true 10 53 [tq 8,tq 9],oq 11 (.pick (tq 7) (tq 10) (cb false)),om 2 11] [0,3] [3]:=⟨rx,rx,rx⟩
def g96:=rg Tryz.f96
def c96:bq:=(.seq (g96 2) (.seq (g96 5) (.seq (g96 11) (.seq (g96 23) .ret))))
theorem b96:Tryz.f96.body=some c96:=by kernel_rfl
@[simp] theorem x96:SX 11 (g96 2) [ot 3 false] [0,1] []/\SX 11 (g96 5) [om 5 0,ol 6 3 1,oc 7 .add 3 6 1,od 8 60 [tq 5,tq 7,ci 3],om 4 8] [0,1] []/\SX 11 (g96 11) [om 9 0,os (.sto 3 (tq 1) (tq 9))] [0,1,4] []/\SX 11 (g96 23) [om 10 4,om 3 10] [4] []:=⟨rx,rx,rx,rx⟩
def g95:=rg Tryz.f95
def c95:bq:=(.seq (g95 2) (.seq (g95 5) .ret))
theorem b95:Tryz.f95.body=some c95:=by kernel_rfl
@[simp] theorem x95:SX 9 (g95 2) [oq 2 (.box (tq 0)),ot 4 false] [0,1] [2]/\SX 9 (g95 5) [om 5 1,oz 6 42 2 0,ol 7 3 6,od 8 60 [tq 5,ci 0,tq 7],om 4 8] [0,1,2,3] [2,3]:=⟨rx,rx⟩
def g58:=rg Tryz.f58
def c58:bq:=(.seq (g58 2) (.seq (g58 5) .ret))
theorem b58:Tryz.f58.body=some c58:=by kernel_rfl
@[simp] theorem x58:SX 19 (g58 2) [oq 2 (.box (tq 0)),oq 3 (.box (tq 1)),ot 4 false] [0,1] [2]/\SX 19 (g58 5) [oz 5 87 3 0,ol 6 3 5,oz 7 42 2 1,ol 8 3 7,oc 9 .sub 3 8 1,od 10 60 [tq 6,ci 0,tq 9],om 11 10,gz 11 true 12 87 3 1,gl 11 true 13 3 12,gz 11 true 14 42 2 2,gl 11 true 15 3 14,gc 11 true 16 .sub 3 15 1,gd 11 true 17 60 [tq 13,ci 0,tq 16],oq 18 (.pick (tq 11) (tq 17) (cb false)),om 4 18] [2,3] [2,3]:=⟨rx,rx⟩
def g59:=rg Tryz.f59
def c59:bq:=(.seq (g59 2) (.seq (g59 5) .ret))
theorem b59:Tryz.f59.body=some c59:=by kernel_rfl
@[simp] theorem x59:SX 14 (g59 2) [oq 2 (.box (tq 0)),oq 3 (.box (tq 1)),ot 4 false] [0,1] [2]/\SX 14 (g59 5) [ol 5 42 2,oz 6 92 3 0,ol 7 3 6,od 8 95 [tq 5,tq 7],om 9 8,gz 9 true 10 92 3 1,gl 9 true 11 3 10,gd 9 true 12 54 [tq 11],oq 13 (.pick (tq 9) (tq 12) (cb false)),om 4 13] [2,3] [2,3]:=⟨rx,rx⟩
def PT:=rg Tryz.f110
@[simp] def ABP:bq:=(.seq (PT 69) (.seq (.cond (.tmp 9) .skip (.exit 0)) (.seq (.block 1 (.seq (PT 1125) (.seq (PT 2661) (.cond (.tmp 16) (.seq (PT 9829) .ret) .skip)))) (PT 485))))
def RH:=ABP
def APB:bq:=(.seq (PT 2) (.seq (.seq (PT 9) (.block 0 (.loop RH))) (.seq (PT 11) .ret)))
theorem b110:Tryz.f110.body=some APB:=by kernel_rfl
@[simp] theorem BIP:UX 19 RH ABP/\SX 19 (PT 2) [ok 4 0] [0,1] []/\SX 19 (PT 9) [om 6 0,oe 7 6 36,ok 8 0] [0,1] []/\SX 19 (PT 69) [ob 9 .lss 3 8 7] [0,1,7,8] []/\SX 19 (PT 1125) [om 10 8,om 5 10] [0,1,7,8] []/\SX 19 (PT 2661) [om 11 1,om 12 0,om 13 5,oi 14 36 12 13,ol 15 87 14,oq 16 (.call false none (tq 11) [tq 15])] [0,1,5,7,8] []/\SX 19 (PT 9829) [om 17 5,om 4 17] [5] []/\SX 19 (PT 485) [oc 18 .add 3 8 1,om 8 18] [0,1,7,8] []/\SX 19 (PT 11) [oq 4 (.mv (.const (.int .i64 (bj 0))))] [] []/\LX 19 RH [0,1,7,8] []:=⟨fun _ _=>rfl,rx,rx,rx,rx,rx,rx,rx,rx,lx⟩
def g97:=rg Tryz.f97
def c97:bq:=(.seq (g97 2) (.seq (g97 5) .ret))
theorem b97:Tryz.f97.body=some c97:=by kernel_rfl
@[simp] theorem x97:SX 9 (g97 2) [ot 4 false] [0,1] []/\SX 9 (g97 5) [om 5 0,om 6 1,od 7 110 [tq 5,tq 6],oc 8 .geq 3 7 0,om 4 8] [0,1,2,3] [2,3]:=⟨rx,rx⟩
def g63:=rg Tryz.f63
def c63:bq:=(.seq (g63 2) (.seq (g63 5) .ret))
theorem b63:Tryz.f63.body=some c63:=by kernel_rfl
@[simp] theorem x63:SX 9 (g63 2) [oq 3 (.box (tq 1)),ot 4 false] [0,1,2] [3]/\SX 9 (g63 5) [om 5 0,oq 6 (.oth (.makeFunc (.func 98) #[] #[tq 3])),od 7 97 [tq 5,tq 6],ou 8 7,om 4 8] [0,1,2,3] [2,3]:=⟨rx,rx⟩
def g98:=rg Tryz.f98
def c98:bq:=(.seq (g98 2) (.seq (g98 5) .ret))
theorem b98:Tryz.f98.body=some c98:=by kernel_rfl
@[simp] theorem x98:SX 8 (g98 2) [oq 2 (.box (tq 0)),ot 3 false] [0,1] []/\SX 8 (g98 5) [ol 4 145 1,ol 5 87 2,oq 6 (.call false none (tq 4) [tq 5]),ou 7 6,om 3 7] [0,1,2] [2]:=⟨rx,rx⟩
def PU:=rg Tryz.f111
@[simp] def ABQ:bq:=(.seq (PU 69) (.seq (.cond (.tmp 9) .skip (.exit 0)) (.seq (.block 1 (.seq (PU 1125) (.seq (PU 2661) (.cond (.tmp 16) (.seq (PU 9829) .ret) .skip)))) (PU 485))))
def RI:=ABQ
def APC:bq:=(.seq (PU 2) (.seq (.seq (PU 9) (.block 0 (.loop RI))) (.seq (PU 11) .ret)))
theorem b111:Tryz.f111.body=some APC:=by kernel_rfl
@[simp] theorem BIR:UX 19 RI ABQ/\SX 19 (PU 2) [ok 4 0] [0,1] []/\SX 19 (PU 9) [om 6 0,oe 7 6 40,ok 8 0] [0,1] []/\SX 19 (PU 69) [ob 9 .lss 3 8 7] [0,1,7,8] []/\SX 19 (PU 1125) [om 10 8,om 5 10] [0,1,7,8] []/\SX 19 (PU 2661) [om 11 1,om 12 0,om 13 5,oi 14 40 12 13,ol 15 92 14,oq 16 (.call false none (tq 11) [tq 15])] [0,1,5,7,8] []/\SX 19 (PU 9829) [om 17 5,om 4 17] [5] []/\SX 19 (PU 485) [oc 18 .add 3 8 1,om 8 18] [0,1,7,8] []/\SX 19 (PU 11) [oq 4 (.mv (.const (.int .i64 (bj 0))))] [] []/\LX 19 RI [0,1,7,8] []:=⟨fun _ _=>rfl,rx,rx,rx,rx,rx,rx,rx,rx,lx⟩
def g99:=rg Tryz.f99
def c99:bq:=(.seq (g99 2) (.seq (g99 5) .ret))
theorem b99:Tryz.f99.body=some c99:=by kernel_rfl
@[simp] theorem x99:SX 9 (g99 2) [ot 4 false] [0,1] []/\SX 9 (g99 5) [om 5 0,om 6 1,od 7 111 [tq 5,tq 6],oc 8 .geq 3 7 0,om 4 8] [0,1,2,3] [2,3]:=⟨rx,rx⟩
def g64:=rg Tryz.f64
def c64:bq:=(.seq (g64 2) (.seq (g64 5) .ret))
theorem b64:Tryz.f64.body=some c64:=by kernel_rfl
@[simp] theorem x64:SX 9 (g64 2) [oq 3 (.box (tq 1)),ot 4 false] [0,1,2] [3]/\SX 9 (g64 5) [om 5 0,oq 6 (.oth (.makeFunc (.func 100) #[] #[tq 3])),od 7 99 [tq 5,tq 6],ou 8 7,om 4 8] [0,1,2,3] [2,3]:=⟨rx,rx⟩
def AHK:=rg Tryz.f100
def AZ5:bq:=(.seq (AHK 2) (.seq (AHK 5) .ret))
theorem b100:Tryz.f100.body=some AZ5:=by kernel_rfl
@[simp] theorem BIT:SX 8 (AHK 2) [oq 2 (.box (tq 0)),ot 3 false] [0,1] []/\SX 8 (AHK 5) [ol 4 146 1,ol 5 92 2,oq 6 (.call false none (tq 4) [tq 5]),ou 7 6,om 3 7] [0,1,2] [2]:=⟨rx,rx⟩
def iU:=rg Tryz.f34
def iV:bq:=(.seq (iU 2) (.seq (iU 5) (.seq (.block 0 (.seq (iU 35) (.cond (.tmp 9) (.seq (iU 147) .ret) (.seq (iU 179) (.cond (.tmp 35) (.seq (iU 627) .ret) (.seq (iU 755) (.cond (.tmp 81) (.seq (iU 2547) .ret) .skip))))))) (.seq (iU 23) .ret))))
theorem b34:Tryz.f34.body=some iV:=by kernel_rfl
@[simp] theorem x34:SX 112 (iU 2) [oq 1 (.box (tq 0)),ok 2 0] [0] [1]/\RX 112 (iU 5) (.drw [⟨[],[ol 5 42 1,oq 6 (.oth (.makeFunc (.func 58) #[tq 5] #[])),ol 7 42 1,oq 8 (.oth (.makeFunc (.func 59) #[tq 7] #[])),om 3 6,om 4 8],[]⟩]) (some ([1],[1]))/\SX 112 (iU 35) [oz 10 42 1 0,ol 11 3 10,oc 12 .gtr 3 11 4,om 13 12,gz 13 false 14 42 1 1,gl 13 false 15 3 14,gc 13 false 16 .gtr 3 15 3,oq 17 (.pick (tq 13) (cb true) (tq 16)),om 18 17,gz 18 false 19 42 1 2,gl 18 false 20 3 19,gc 18 false 21 .gtr 3 20 5,oq 22 (.pick (tq 18) (cb true) (tq 21)),om 23 22,gz 23 false 24 42 1 7,gl 23 false 25 36 24,ge 23 false 26 25 36,gc 23 false 27 .gtr 3 26 4,oq 28 (.pick (tq 23) (cb true) (tq 27)),om 29 28,gz 29 false 30 42 1 8,gl 29 false 31 40 30,ge 29 false 32 31 40,gc 29 false 33 .gtr 3 32 5,oq 34 (.pick (tq 29) (cb true) (tq 33)),om 9 34] [1,3,4] [1]/\SX 112 (iU 147) [ok 2 3] [] []/\SX 112 (iU 179) [oz 36 42 1 0,ol 37 3 36,oc 38 .lss 3 37 0,om 39 38,gz 39 false 40 42 1 1,gl 39 false 41 3 40,gc 39 false 42 .lss 3 41 1,oq 43 (.pick (tq 39) (cb true) (tq 42)),om 44 43,gz 44 false 45 42 1 2,gl 44 false 46 3 45,gc 44 false 47 .lss 3 46 1,oq 48 (.pick (tq 44) (cb true) (tq 47)),om 49 48,gz 49 false 50 42 1 3,gl 49 false 51 3 50,gd 49 false 52 60 [tq 51,ci 0,ci 4],og 49 false 53 (.oth (.unOp .not 4 (tq 52))),oq 54 (.pick (tq 49) (cb true) (tq 53)),om 55 54,gz 55 false 56 42 1 4,gl 55 false 57 22 56,ge 55 false 58 57 22,gz 55 false 59 42 1 1,gl 55 false 60 3 59,gb 55 false 61 .neq 3 58 60,oq 62 (.pick (tq 55) (cb true) (tq 61)),om 63 62,gz 63 false 64 42 1 5,gl 63 false 65 22 64,ge 63 false 66 65 22,gz 63 false 67 42 1 0,gl 63 false 68 3 67,gc 63 false 69 .add 3 68 1,gb 63 false 70 .neq 3 66 69,oq 71 (.pick (tq 63) (cb true) (tq 70)),om 72 71,gz 72 false 73 42 1 6,gl 72 false 74 23 73,ge 72 false 75 74 23,gz 72 false 76 42 1 0,gl 72 false 77 3 76,gc 72 false 78 .add 3 77 1,gb 72 false 79 .neq 3 75 78,oq 80 (.pick (tq 72) (cb true) (tq 79)),om 35 80] [1,3,4] [1]/\SX 112 (iU 627) [ok 2 1] [] []/\SX 112 (iU 755) [oz 82 42 1 4,ol 83 22 82,od 84 53 [tq 83,.func 54],ou 85 84,om 86 85,gz 86 false 87 42 1 5,gl 86 false 88 22 87,gd 86 false 89 53 [tq 88,.func 61],og 86 false 90 (.oth (.unOp .not 4 (tq 89))),oq 91 (.pick (tq 86) (cb true) (tq 90)),om 92 91,gz 92 false 93 42 1 6,gl 92 false 94 23 93,gd 92 false 95 51 [tq 94,.func 62],og 92 false 96 (.oth (.unOp .not 4 (tq 95))),oq 97 (.pick (tq 92) (cb true) (tq 96)),om 98 97,gz 98 false 99 42 1 7,gl 98 false 100 36 99,gm 98 false 101 3,gd 98 false 102 63 [tq 100,tq 101],og 98 false 103 (.oth (.unOp .not 4 (tq 102))),oq 104 (.pick (tq 98) (cb true) (tq 103)),om 105 104,gz 105 false 106 42 1 8,gl 105 false 107 40 106,gm 105 false 108 4,gd 105 false 109 64 [tq 107,tq 108],og 105 false 110 (.oth (.unOp .not 4 (tq 109))),oq 111 (.pick (tq 105) (cb true) (tq 110)),om 81 111] [1,3,4] [1]/\SX 112 (iU 2547) [ok 2 1] [] []/\SX 112 (iU 23) [ok 2 0] [] []:=by and_intros<;>exact rx
def g26:=rg Tryz.f26
def c26:bq:=(.seq (g26 2) (.seq (g26 5) .ret))
theorem b26:Tryz.f26.body=some c26:=by kernel_rfl
@[simp] theorem x26:SX 16 (g26 2) [oq 2 (.box (tq 0)),ot 4 false] [0,1] [2]/\SX 16 (g26 5) [om 5 1,oe 6 5 23,oz 7 42 2 0,ol 8 3 7,oc 9 .add 3 8 1,ob 10 .eql 3 6 9,om 11 10,gm 11 true 12 1,og 11 true 13 (.oth (.makeFunc (.func 52) #[] #[tq 2])),gd 11 true 14 51 [tq 12,tq 13],oq 15 (.pick (tq 11) (tq 14) (cb false)),om 4 15] [1,2] [2]:=⟨rx,rx⟩
def g52:=rg Tryz.f52
def c52:bq:=(.seq (g52 2) (.seq (g52 5) .ret))
theorem b52:Tryz.f52.body=some c52:=by kernel_rfl
@[simp] theorem x52:SX 13 (g52 2) [ot 3 false] [0,1,2] [3,4,5,9]/\SX 13 (g52 5) [om 4 0,oe 5 4 22,oz 6 42 1 1,ol 7 3 6,ob 8 .eql 3 5 7,om 9 8,gm 9 true 10 0,gd 9 true 11 53 [tq 10,.func 54],oq 12 (.pick (tq 9) (tq 11) (cb false)),om 3 12] [0,1] []:=⟨rx,rx⟩
def AHL:=rg Tryz.f112
def AZ6:bq:=(.seq (AHL 2) (.seq (AHL 5) .ret))
theorem BBR:Tryz.f112.body=some AZ6:=by kernel_rfl
@[simp] theorem BIW:SX 6 (AHL 2) [ok 2 0] [0,1] []/\SX 6 (AHL 5) [om 3 0,oc 4 .add 3 3 2,oc 5 .rem 3 4 4,om 2 5] [0,1] []:=⟨rx,rx⟩
def AHM:=rg Tryz.f113
def AZ7:bq:=(.seq (AHM 2) (.seq (AHM 5) .ret))
theorem BBS:Tryz.f113.body=some AZ7:=by kernel_rfl
@[simp] theorem BIX:SX 11 (AHM 2) [oq 3 (.box (tq 0)),oq 4 (.box (tq 1)),oq 5 (.box (tq 2)),ot 6 false] [0,1,2] [3,4,5]/\SX 11 (AHM 5) [oz 7 42 3 7,ol 8 36 7,oq 9 (.oth (.makeFunc (.func 116) #[] #[tq 5,tq 4,tq 3])),od 10 97 [tq 8,tq 9],om 6 10] [3,4,5] [3,4,5]:=⟨rx,rx⟩
def KK:=rg Tryz.f116
def ABR:bq:=(.seq (KK 2) (.seq (KK 5) (.seq (.block 0 (.seq (KK 35) (.cond (.tmp 7) (KK 83) (.seq (KK 179) (.cond (.tmp 22) (KK 371) (.seq (KK 755) (.cond (.tmp 37) (KK 1523) (.seq (KK 3059) (.cond (.tmp 52) (KK 6131) .skip))))))))) (.seq (KK 23) .ret))))
theorem b116:Tryz.f116.body=some ABR:=by kernel_rfl
@[simp] theorem BIY:SX 71 (KK 2) [oq 4 (.box (tq 0)),ot 5 false] [0,1,2,3] []/\SX 71 (KK 5) [ok 6 0] [1,2,3,4] [4]/\SX 71 (KK 35) [ol 8 3 1,oc 9 .eql 3 8 0,om 10 9,gz 10 true 11 87 4 1,gl 10 true 12 3 11,gz 10 true 13 87 2 1,gl 10 true 14 3 13,gb 10 true 15 .eql 3 12 14,oq 16 (.pick (tq 10) (tq 15) (cb false)),om 7 16] [1,2,3,4,6] [4]/\SX 71 (KK 83) [oz 17 87 2 0,ol 18 3 17,oz 19 87 4 0,ol 20 3 19,ob 21 .sub 3 18 20,om 6 21] [2,3,4] [4]/\SX 71 (KK 179) [ol 23 3 1,oc 24 .eql 3 23 2,om 25 24,gz 25 true 26 87 4 1,gl 25 true 27 3 26,gz 25 true 28 87 2 1,gl 25 true 29 3 28,gb 25 true 30 .eql 3 27 29,oq 31 (.pick (tq 25) (tq 30) (cb false)),om 22 31] [1,2,3,4,6] [4]/\SX 71 (KK 371) [oz 32 87 4 0,ol 33 3 32,oz 34 87 2 0,ol 35 3 34,ob 36 .sub 3 33 35,om 6 36] [2,3,4] [4]/\SX 71 (KK 755) [ol 38 3 1,oc 39 .eql 3 38 3,om 40 39,gz 40 true 41 87 4 0,gl 40 true 42 3 41,gz 40 true 43 87 2 0,gl 40 true 44 3 43,gb 40 true 45 .eql 3 42 44,oq 46 (.pick (tq 40) (tq 45) (cb false)),om 37 46] [1,2,3,4,6] [4]/\SX 71 (KK 1523) [oz 47 87 2 1,ol 48 3 47,oz 49 87 4 1,ol 50 3 49,ob 51 .sub 3 48 50,om 6 51] [2,3,4] [4]/\SX 71 (KK 3059) [ol 53 3 1,oc 54 .eql 3 53 1,om 55 54,gz 55 true 56 87 4 0,gl 55 true 57 3 56,gz 55 true 58 87 2 0,gl 55 true 59 3 58,gb 55 true 60 .eql 3 57 59,oq 61 (.pick (tq 55) (tq 60) (cb false)),om 52 61] [1,2,3,4,6] [4]/\SX 71 (KK 6131) [oz 62 87 4 1,ol 63 3 62,oz 64 87 2 1,ol 65 3 64,ob 66 .sub 3 63 65,om 6 66] [2,3,4] [4]/\SX 71 (KK 23) [om 67 6,oz 68 42 3 3,ol 69 3 68,od 70 60 [tq 67,ci 1,tq 69],om 5 70] [3,6] []:=by and_intros<;>exact rx
def AHN:=rg Tryz.f101
def AZ8:bq:=(.seq (AHN 2) (.seq (AHN 5) .ret))
theorem BBT:Tryz.f101.body=some AZ8:=by kernel_rfl
@[simp] theorem BIZ:SX 19 (AHN 2) [oq 4 (.box (tq 0)),oq 5 (.box (tq 1)),ot 8 false] [0,1,2,3] [4]/\SX 19 (AHN 5) [om 9 2,om 10 3,od 11 112 [tq 10],ob 12 .eql 3 9 11,om 13 12,gl 13 false 14 42 4,gl 13 false 15 87 5,gm 13 false 16 3,gd 13 false 17 113 [tq 14,tq 15,tq 16],oq 18 (.pick (tq 13) (cb true) (tq 17)),om 8 18] [2,3,4,5] [4,5]:=⟨rx,rx⟩
def oL:=rg Tryz.f66
def c66:bq:=(.seq (oL 2) (.seq (oL 5) (.seq (.seq (oL 19) (.cond (.tmp 25) (oL 43) .skip)) (.seq (.seq (oL 39) (.cond (.tmp 27) (oL 87) .skip)) (.seq (oL 47) (.seq (oL 95) .ret))))))
theorem b66:Tryz.f66.body=some c66:=by kernel_rfl
@[simp] theorem x66:SX 36 (oL 2) [oq 5 (.box (tq 0)),oq 6 (.box (tq 1)),oq 10 (.alloc 60)] [0,1,2,3,4] [5]/\RX 36 (oL 5) (.drw [⟨[],[oz 13 42 5 5,ol 14 22 13,om 15 2,oi 16 22 14 15,ol 17 3 16,om 18 3,ob 19 .eql 3 17 18,ol 20 42 5,ol 21 87 6,om 22 3,om 23 4,od 24 101 [tq 20,tq 21,tq 22,tq 23],om 11 19,om 12 24],[]⟩]) (some ([2,3,4,5,6,10],[5,6,10]))/\SX 36 (oL 19) [om 25 11] [10,11,12] [10]/\SX 36 (oL 43) [oz 26 60 10 0,os (.sto 3 (tq 26) (ci 1))] [10,12] [10]/\SX 36 (oL 39) [om 27 12] [10,12] [10]/\SX 36 (oL 87) [oz 28 60 10 1,os (.sto 3 (tq 28) (ci 1))] [10] [10]/\SX 36 (oL 47) [oz 29 60 10 0,ol 30 3 29,oz 31 60 10 1,ol 32 3 31,ob 33 .mul 3 30 32,oz 34 60 10 2,os (.sto 3 (tq 34) (tq 33))] [10] [10]/\SX 36 (oL 95) [ol 35 60 10,os (.sto 60 (tq 10) (tq 35))] [10] [10]:=by and_intros<;>exact rx
def oM:=rg Tryz.f22
@[simp] def ALI:bq:=(lp (oM 267) 12 0 1 (.seq (oM 1099) (oM 1611)) (oM 459))
def XD:=ALI
def c22:bq:=(.seq (oM 2) (.seq (oM 5) (.seq (.seq (oM 19) (.block 0 (.loop XD))) (.seq (oM 23) .ret))))
theorem b22:Tryz.f22.body=some c22:=by kernel_rfl
@[simp] theorem x22:UX 35 XD ALI/\SX 35 (oM 2) [oq 2 (.box (tq 0)),oq 4 (.mv (.const (.slice none 0 0)))] [0,1] [2]/\SX 35 (oM 5) [oq 5 (.mv (.const (.slice none 0 0)))] [1,2] [2]/\SX 35 (oM 19) [ok 6 0] [1,2,5] [2,29]/\SX 35 (oM 267) [om 8 6,oz 9 27 2 6,ol 10 23 9,oe 11 10 23,ob 12 .lss 3 8 11] [1,2,5,6] [2,29]/\SX 35 (oM 1099) [oz 15 27 2 6,ol 16 23 15,om 17 6,oi 18 23 16 17,ol 19 22 18,om 7 19] [1,2,5,6] [2,29]/\RX 35 (oM 1611) (.drw [⟨[],[om 20 5,om 21 7,om 22 1,om 23 7,oe 24 23 22,ob 25 .rem 3 22 24,oi 26 22 21 25,ol 27 3 26,oq 28 (.buildS 22 1 [(0,tq 27)]),om 30 1,om 31 7,oe 32 31 22,ob 33 .quo 3 30 32,oq 29 (.app [tq 20,tq 28] [22,22]),om 5 29,om 1 33],[]⟩]) (some ([1,2,5,6,7],[2,29]))/\SX 35 (oM 459) [om 13 6,oc 14 .add 3 13 1,om 6 14] [1,2,5,6] [2,29]/\SX 35 (oM 23) [om 34 5,om 4 34] [5] [29]/\LX 35 XD [1,2,5,6] [2,29]:=⟨fun _ _=>rfl,rx,rx,rx,rx,rx,rx,rx,rx,lx⟩
def oN:=rg Tryz.f87
@[simp] def ALJ:bq:=(.seq (oN 69) (.seq (.cond (.tmp 9) .skip (.exit 0)) (.seq (.block 1 (.seq (oN 1125) (.seq (oN 2661) (.cond (.tmp 16) (.seq (oN 9829) .ret) .skip)))) (oN 485))))
def XF:=ALJ
def c87:bq:=(.seq (oN 2) (.seq (.seq (oN 9) (.block 0 (.loop XF))) (.seq (oN 11) .ret)))
theorem b87:Tryz.f87.body=some c87:=by kernel_rfl
@[simp] theorem x87:UX 19 XF ALJ/\SX 19 (oN 2) [ok 4 0] [0,1] []/\SX 19 (oN 9) [om 6 0,oe 7 6 22,ok 8 0] [0,1] []/\SX 19 (oN 69) [ob 9 .lss 3 8 7] [0,1,7,8] []/\SX 19 (oN 1125) [om 10 8,om 5 10] [0,1,7,8] []/\SX 19 (oN 2661) [om 11 1,om 12 0,om 13 5,oi 14 22 12 13,ol 15 3 14,ob 16 .eql 3 11 15] [0,1,5,7,8] []/\SX 19 (oN 9829) [om 17 5,om 4 17] [5] []/\SX 19 (oN 485) [oc 18 .add 3 8 1,om 8 18] [0,1,7,8] []/\SX 19 (oN 11) [oq 4 (.mv (.const (.int .i64 (bj 0))))] [] []/\LX 19 XF [0,1,7,8] []:=⟨fun _ _=>rfl,rx,rx,rx,rx,rx,rx,rx,rx,lx⟩
def g50:=rg Tryz.f50
def c50:bq:=(.seq (g50 2) (.seq (g50 5) .ret))
theorem b50:Tryz.f50.body=some c50:=by kernel_rfl
@[simp] theorem x50:SX 9 (g50 2) [ot 4 false] [0,1] []/\SX 9 (g50 5) [om 5 0,om 6 1,od 7 87 [tq 5,tq 6],oc 8 .geq 3 7 0,om 4 8] [0,1,2,3] [2,3]:=⟨rx,rx⟩
def dB:=rg Tryz.f35
@[simp] def ALK:bq:=(.seq (dB 139) (.seq (.cond (.tmp 16) .skip (.exit 0)) (.seq (.block 1 (.seq (dB 2251) (.seq (dB 5323) (.cond (.tmp 27) (.seq (dB 19659) .ret) .skip)))) (dB 971))))
def XG:=ALK
def c35:bq:=(.seq (dB 2) (.seq (.seq (dB 9) (.cond (.tmp 12) (.seq (dB 37) .ret) .skip)) (.seq (.seq (dB 19) (.block 0 (.loop XG))) (.seq (dB 23) .ret))))
theorem b35:Tryz.f35.body=some c35:=by kernel_rfl
@[simp] theorem x35:UX 29 XG ALK/\SX 29 (dB 2) [oq 2 (.box (tq 0)),ot 4 false] [0,1] [2]/\SX 29 (dB 9) [om 7 1,oe 8 7 22,oz 9 42 2 0,ol 10 3 9,oc 11 .add 3 10 1,ob 12 .neq 3 8 11] [1,2] [2]/\SX 29 (dB 37) [ot 4 false] [] []/\SX 29 (dB 19) [om 13 1,oe 14 13 22,ok 15 0] [1,2] [2]/\SX 29 (dB 139) [ob 16 .lss 3 15 14] [2,13,14,15] [2]/\SX 29 (dB 2251) [om 17 15,oi 18 22 13 15,ol 19 3 18,om 5 17,om 6 19] [2,13,14,15] [2]/\SX 29 (dB 5323) [oz 20 42 2 6,ol 21 23 20,om 22 5,oi 23 23 21 22,ol 24 22 23,om 25 6,od 26 50 [tq 24,tq 25],ou 27 26] [2,5,6,13,14,15] [2]/\SX 29 (dB 19659) [ot 4 false] [] []/\SX 29 (dB 971) [oc 28 .add 3 15 1,om 15 28] [2,13,14,15] [2]/\SX 29 (dB 23) [ot 4 true] [] []/\LX 29 XG [2,13,14,15] [2]:=⟨fun _ _=>rfl,rx,rx,rx,rx,rx,rx,rx,rx,rx,rx,lx⟩
def oO:=rg Tryz.f86
@[simp] def ALL:bq:=(.seq (oO 69) (.seq (.cond (.tmp 13) .skip (.exit 0)) (.seq (.block 1 (.seq (oO 1125) (.seq (oO 2661) (.cond (.tmp 30) (.seq (oO 9829) .ret) .skip)))) (oO 485))))
def XH:=ALL
def c86:bq:=(.seq (oO 2) (.seq (.seq (oO 9) (.block 0 (.loop XH))) (.seq (oO 11) .ret)))
theorem b86:Tryz.f86.body=some c86:=by kernel_rfl
@[simp] theorem x86:UX 32 XH ALL/\SX 32 (oO 2) [oq 3 (.box (tq 0)),ot 6 false] [0,1,2] [3]/\SX 32 (oO 9) [oz 9 42 3 8,ol 10 40 9,oe 11 10 40,ok 12 0] [1,2,3] [3]/\SX 32 (oO 69) [ob 13 .lss 3 12 11] [1,2,10,11,12] [3]/\SX 32 (oO 1125) [om 14 12,oi 15 40 10 12,ol 16 92 15,oq 8 (.alloc 92),om 7 14,os (.sto 92 (tq 8) (tq 16))] [1,2,10,11,12] [3]/\RX 32 (oO 2661) (.drw [⟨[],[om 17 2,om 18 7],[od 19 50 [tq 17,tq 18]]⟩,⟨[],[ou 20 19,om 21 20,gm 21 true 22 1,gz 21 true 23 92 8 0,gl 21 true 24 3 23,gi 21 true 25 22 22 24,gl 21 true 26 3 25,gz 21 true 27 92 8 1,gl 21 true 28 3 27,gb 21 true 29 .neq 3 26 28,oq 30 (.pick (tq 21) (tq 29) (cb false))],[]⟩]) (some ([1,2,7,8,10,11,12],[3,8]))/\SX 32 (oO 9829) [ot 6 false] [] []/\SX 32 (oO 485) [oc 31 .add 3 12 1,om 12 31] [1,2,10,11,12] [3]/\SX 32 (oO 11) [ot 6 true] [] []/\LX 32 XH [1,2,10,11,12] [3]:=⟨fun _ _=>rfl,rx,rx,rx,rx,rx,rx,rx,rx,lx⟩
def NV:=rg Tryz.f115
@[simp] def ABS:bq:=(lp (NV 535) 15 0 1 (NV 1175) (NV 919))
def fJ:=ABS
def AZ9:bq:=(.seq (NV 2) (.seq (.seq (NV 9) (.cond (.tmp 7) (NV 21) .skip)) (.seq (NV 11) (.seq (.seq (NV 39) (.block 0 (.loop fJ))) (.seq (NV 47) .ret)))))
theorem BBW:Tryz.f115.body=some AZ9:=by kernel_rfl
@[simp] theorem BI5:UX 25 fJ ABS/\SX 25 (NV 2) [ok 2 0] [0] []/\SX 25 (NV 9) [om 5 0,oe 6 5 22,oc 7 .lss 3 6 1] [0] []/\SX 25 (NV 11) [om 9 0,oq 10 (.oth (.indexAddr 22 (tq 9) (ci 0))),ol 11 3 10,om 3 11] [0] []/\SX 25 (NV 39) [ok 4 1] [0,3] []/\SX 25 (NV 535) [om 12 4,om 13 0,oe 14 13 22,ob 15 .lss 3 12 14] [0,3,4] []/\SX 25 (NV 1175) [om 18 3,om 19 0,om 20 4,oi 21 22 19 20,ol 22 3 21,oq 23 (.oth (.call ⟨.builtin .min,#[tq 18,tq 22],#[3,3]⟩)),om 3 23] [0,3,4] []/\SX 25 (NV 919) [om 16 4,oc 17 .add 3 16 1,om 4 17] [0,3,4] []/\SX 25 (NV 47) [om 24 3,om 2 24] [3] []/\LX 25 fJ [0,3,4] []:=⟨fun _ _=>rfl,rx,rx,rx,rx,rx,rx,rx,rx,lx⟩
def AHO:=rg Tryz.f109
def A0A:bq:=(.seq (AHO 2) (.seq (AHO 5) .ret))
theorem BBX:Tryz.f109.body=some A0A:=by kernel_rfl
@[simp] theorem BI6:SX 5 (AHO 2) [ok 2 0] [0] []/\SX 5 (AHO 5) [om 3 0,od 4 115 [tq 3],om 2 4] [0,1] [1]:=⟨rx,rx⟩
def g92:=rg Tryz.f92
def c92:bq:=(.seq (g92 2) (.seq (g92 5) .ret))
theorem b92:Tryz.f92.body=some c92:=by kernel_rfl
@[simp] theorem x92:SX 15 (g92 2) [oq 2 (.box (tq 0)),oq 4 (.alloc 49)] [0,1] []/\RX 15 (g92 5) (.drw [⟨[],[oz 5 49 2 0,oq 6 (.ldz 3 (tq 5)),om 7 1,oq 8 (.buildS 22 2 [(0,tq 6),(1,tq 7)]),od 9 109 [tq 8],oz 10 49 2 1,oq 11 (.ldz 3 (tq 10)),om 12 1,oq 13 (.oth (.call ⟨.builtin .max,#[tq 11,tq 12],#[3,3]⟩)),oq 14 (.build 49 [(0,tq 9),(1,tq 13)])],[os (.sto 49 (tq 4) (tq 14))]⟩]) (some ([1,2,4],[2,4])):=⟨rx,rx⟩
def g56:=rg Tryz.f56
def c56:bq:=(.seq (g56 2) (.seq (g56 5) (.seq (g56 11) .ret)))
theorem b56:Tryz.f56.body=some c56:=by kernel_rfl
@[simp] theorem x56:SX 7 (g56 2) [oq 2 (.alloc 142)] [0] []/\SX 7 (g56 5) [oq 3 (.oth (.slice 142 (tq 2) none none none)),om 4 0,oq 5 (.cpy [tq 3,tq 4] [22,22])] [0,2] [2]/\SX 7 (g56 11) [ol 6 142 2,os (.sto 142 (tq 2) (tq 6))] [2] [2]:=⟨rx,rx,rx⟩
def NP:=rg Tryz.f55
@[simp] def ABT:bq:=(.seq (NP 36908235) (.seq (.cond (.tmp 51) .skip (.exit 4)) (.seq (.block 5 (.seq (NP 590556363) (NP 858991819))) (NP 255012043))))
def RJ:=ABT
@[simp] def ALM:bq:=(.seq (NP 142539) (.seq (.cond (.tmp 43) .skip (.exit 2)) (.seq (.block 3 (.seq (NP 2305227) (.seq (NP 5450955) (.block 4 (.loop RJ))))) (NP 994507))))
def XI:=ALM
@[simp] def ALN:bq:=(.seq (NP 139) (.seq (.cond (.tmp 34) .skip (.exit 0)) (.seq (.block 1 (.seq (NP 2251) (.seq (NP 5323) (.seq (.seq (NP 19659) (.block 2 (.loop XI))) (NP 15563))))) (NP 971))))
def XJ:=ALN
def c55:bq:=(.seq (NP 2) (.seq (NP 5) (.seq (.seq (NP 19) (.block 0 (.loop XJ))) (.seq (NP 23) .ret))))
theorem b55:Tryz.f55.body=some c55:=by kernel_rfl
@[simp] theorem x55:UX 76 RJ ABT/\UX 76 XI ALM/\UX 76 XJ ALN/\SX 76 (NP 2) [oq 5 (.box (tq 2)),oq 6 (.alloc 49)] [0,1,2] []/\RX 76 (NP 5) (.drw [⟨[7],[om 13 0,oq 14 (.oth (.nilCheck (tq 13))),oz 15 133 14 0,oz 16 42 15 1,oq 17 (.ldz 3 (tq 16)),om 18 0,oq 19 (.oth (.nilCheck (tq 18))),oz 20 133 19 0,oz 21 42 20 2,oq 22 (.ldz 3 (tq 21)),ob 23 .mul 3 17 22,oq 24 (.build 49 [(0,tq 23),(1,ci 0)]),oq 7 (.alloc 49)],[os (.sto 49 (tq 7) (tq 24))]⟩]) (some ([0,1,5,6],[5,6]))/\SX 76 (NP 19) [om 25 0,oq 26 (.oth (.nilCheck (tq 25))),oz 27 133 26 1,ol 28 23 27,om 29 1,oi 30 23 28 29,ol 31 22 30,oe 32 31 22,ok 33 0] [0,1,5,6,7] [5,6,7]/\SX 76 (NP 139) [ob 34 .lss 3 33 32] [0,1,5,6,7,31,32,33] [5,6,7]/\SX 76 (NP 2251) [oi 35 22 31 33,ol 36 3 35,om 9 36] [0,1,5,6,7,31,32,33] [5,6,7]/\SX 76 (NP 5323) [ok 10 0] [0,1,5,6,7,9,31,32,33] [5,6,7]/\SX 76 (NP 19659) [om 37 0,oq 38 (.oth (.nilCheck (tq 37))),oz 39 133 38 0,oz 40 42 39 1,ol 41 3 40,ok 42 0] [0,1,5,6,7,9,10,31,32,33] [5,6,7]/\SX 76 (NP 142539) [ob 43 .lss 3 42 41] [0,1,5,6,7,9,10,31,32,33,41,42] [5,6,7]/\SX 76 (NP 2305227) [om 44 42,om 11 44] [0,1,5,6,7,9,10,31,32,33,41,42] [5,6,7]/\SX 76 (NP 5450955) [om 45 0,oq 46 (.oth (.nilCheck (tq 45))),oz 47 133 46 0,oz 48 42 47 2,ol 49 3 48,ok 50 0] [0,1,5,6,7,9,10,11,31,32,33,41,42] [5,6,7]/\SX 76 (NP 36908235) [ob 51 .lss 3 50 49] [0,1,5,6,7,9,10,11,31,32,33,41,42,49,50] [5,6,7]/\SX 76 (NP 590556363) [om 52 50,om 12 52] [0,1,5,6,7,9,10,11,31,32,33,41,42,49,50] [5,6,7]/\RX 76 (NP 858991819) (.drw [⟨[],[om 53 10,om 54 0,oq 55 (.oth (.nilCheck (tq 54))),oz 56 133 55 0,ol 57 42 56,om 58 11,om 59 12,oq 60 (.build 87 [(0,tq 58),(1,tq 59)]),om 61 1,om 62 11,oi 63 142 5 62,ol 64 3 63,om 65 9,od 66 66 [tq 57,tq 60,tq 61,tq 64,tq 65],oq 67 (.oth (.field 60 (tq 66) 2)),ob 68 .add 3 53 67,om 10 68],[]⟩]) (some ([0,1,5,6,7,9,10,11,12,31,32,33,41,42,49,50],[5,6,7]))/\SX 76 (NP 255012043) [oc 69 .add 3 50 1,om 50 69] [0,1,5,6,7,9,10,11,31,32,33,41,42,49,50] [5,6,7]/\SX 76 (NP 994507) [oc 70 .add 3 42 1,om 42 70] [0,1,5,6,7,9,10,31,32,33,41,42] [5,6,7]/\SX 76 (NP 15563) [ol 71 49 7,om 72 10,oq 73 (.call true none (.func 92) [tq 71,tq 72]),os (.sto 49 (tq 7) (tq 73))] [0,1,5,6,7,10,31,32,33] [5,6,7]/\SX 76 (NP 971) [oc 74 .add 3 33 1,om 33 74] [0,1,5,6,7,31,32,33] [5,6,7]/\SX 76 (NP 23) [ol 75 49 7,os (.sto 49 (tq 6) (tq 75))] [6,7] [6,7]/\LX 76 XJ [0,1,5,6,7,31,32,33] [5,6,7]/\LX 76 XI [0,1,5,6,7,9,10,31,32,33,41,42] [5,6,7]/\LX 76 RJ [0,1,5,6,7,9,10,11,31,32,33,41,42,49,50] [5,6,7]:=by and_intros<;>first|exact rx|exact lx|exact fun _ _=>rfl
def g84:=rg Tryz.f84
def c84:bq:=(.seq (g84 2) (.seq (g84 5) (.seq (g84 11) (.seq (g84 23) (g84 31)))))
theorem b84:Tryz.f84.body=some c84:=by kernel_rfl
@[simp] theorem x84:SX 13 (g84 2) [oq 3 (.box (tq 0))] [0,1,2] [3,4,5,9]/\SX 13 (g84 5) [oz 6 42 1 0,ol 7 3 6,oc 8 .add 3 7 1,oq 9 (.mkS 22 (tq 8) (tq 8)),oq 4 (.alloc 22),os (.sto 22 (tq 4) (tq 9))] [1,2,3] [3,4,5,9]/\SX 13 (g84 11) [oq 5 (.alloc 139)] [1,2,3,4] [3,4,5,9]/\SX 13 (g84 23) [oq 10 (.oth (.makeFunc (.func 85) #[] #[tq 4,tq 1,tq 2,tq 3,tq 5])),os (.sto 139 (tq 5) (tq 10))] [1,2,3,4,5] [3,4,5,9]/\SX 13 (g84 31) [ol 11 139 5,oq 12 (.call false none (tq 11) [ci 0])] [5] [3,4,5,9]:=⟨rx,rx,rx,rx,rx⟩
def bK:=rg Tryz.f85
@[simp] def ALO:bq:=(.seq (bK 139) (.seq (.cond (.tmp 31) .skip (.exit 0)) (.seq (.block 1 (.seq (bK 2251) (.seq (bK 5323) (.seq (bK 11467) (.cond (.tmp 42) (.seq (bK 40139) .ret) .skip))))) (bK 971))))
def XK:=ALO
def c85:bq:=(.seq (bK 2) (.seq (.seq (bK 9) (.cond (.tmp 13) (.seq (bK 37) .ret) .skip)) (.seq (.seq (bK 19) (.block 0 (.loop XK))) (.seq (bK 23) .ret))))
theorem b85:Tryz.f85.body=some c85:=by kernel_rfl
@[simp] theorem BGA(n:Nat)(st:XS):AE bk ann kn (n+1) 44 (bK 37) st=OL (JI bk (cfU [20009,30009] (BH bk ann kn n)) (.str [ol 14 42 2,ol 15 22 1,ol 16 22 3,od 17 86 [tq 14,tq 15,tq 16],ou 18 17,om 19 18,gl 19 false 20 99 4,gl 19 false 21 22 1,og 19 false 22 (.call false none (tq 20) [tq 21]),oq 23 (.pick (tq 19) (cb true) (tq 22)),om 7 23]) (CI (some ([1,2,3,4],[])) (K7 [] st))) :=
 PK (by kernel_rfl) (by kernel_rfl) (by kernel_rfl) (by kernel_rfl) (by kernel_rfl) (by kernel_rfl)
@[simp] theorem x85:UX 44 XK ALO/\SX 44 (bK 2) [ot 7 false] [0,1,2,3,4,5] []/\SX 44 (bK 9) [om 10 0,ol 11 22 1,oe 12 11 22,ob 13 .eql 3 10 12] [0,1,2,3,4,5] []/\SX 44 (bK 19) [oz 24 42 2 6,ol 25 23 24,om 26 0,oi 27 23 25 26,ol 28 22 27,oe 29 28 22,ok 30 0] [0,1,2,5] []/\SX 44 (bK 139) [ob 31 .lss 3 30 29] [0,1,5,28,29,30] []/\SX 44 (bK 2251) [oi 32 22 28 30,ol 33 3 32,om 9 33] [0,1,5,28,29,30] []/\SX 44 (bK 5323) [ol 34 22 1,om 35 0,om 36 9,oi 37 22 34 35,os (.sto 3 (tq 37) (tq 36))] [0,1,5,9,28,29,30] []/\SX 44 (bK 11467) [ol 38 139 5,om 39 0,oc 40 .add 3 39 1,oq 41 (.call false none (tq 38) [tq 40]),ou 42 41] [0,1,5,28,29,30] []/\SX 44 (bK 40139) [ot 7 false] [] []/\SX 44 (bK 971) [oc 43 .add 3 30 1,om 30 43] [0,1,5,28,29,30] []/\SX 44 (bK 23) [ot 7 true] [] []/\LX 44 XK [0,1,5,28,29,30] []:=⟨fun _ _=>rfl,rx,rx,rx,rx,rx,rx,rx,rx,rx,rx,lx⟩
def g49:=rg Tryz.f49
def c49:bq:=(.seq (g49 2) (.seq (g49 5) .ret))
theorem b49:Tryz.f49.body=some c49:=by kernel_rfl
@[simp] theorem x49:SX 6 (g49 2) [oq 2 (.box (tq 0)),oq 3 (.box (tq 1)),oq 4 (.mv (.const .nilFunc))] [0,1] [2,3]/\SX 6 (g49 5) [oq 5 (.oth (.makeFunc (.func 84) #[] #[tq 2,tq 3])),om 4 5] [2,3] [2,3]:=⟨rx,rx⟩
def JA:=rg Tryz.f24
@[simp] def ABU:bq:=(.seq (JA 36191) (.seq (.cond (.tmp 35) .skip (.exit 2)) (.seq (.block 3 (.seq (JA 576863) (.seq (JA 1363295) (.cond (.tmp 48) (JA 2936159) .skip)))) (JA 249183))))
def MG:=ABU
def c24:bq:=(.seq (JA 2) (.seq (.seq (JA 9) (.seq (JA 21) (.cond (.tmp 15) (.seq (JA 77) .ret) .skip))) (.seq (.seq (JA 19) (.cond (.tmp 19) (.seq (JA 75) .ret) .skip)) (.seq (JA 23) (.seq (JA 47) (.seq (.seq (JA 159) (.block 0 (.rangeFunc (.tmp 30) #[31] (JA 607) (.block 1 (.seq (JA 2399) (.seq (JA 5471) (.block 2 (.loop MG)))))))) (.seq (.seq (JA 319) (.cond (.tmp 67) (.seq (JA 1215) .ret) .skip)) (.seq (JA 383) .ret))))))))
theorem b24:Tryz.f24.body=some c24:=by kernel_rfl
@[simp] theorem BBY(n:Nat)(st:XS):AE bk ann kn (n+1) 69 (JA 1363295) st=OL (JI bk (cfU [20800,20801,20802,20803,20804] (BH bk ann kn n)) (.str [ol 39 80 7,oq 40 (.oth (.nilCheck (tq 39))),oz 41 133 40 1,ol 42 23 41,om 43 10,oi 44 23 42 43,ol 45 22 44,om 46 11,od 47 50 [tq 45,tq 46],ou 48 47]) (CI (some ([7,10,11,32,33,34],[2,7,24,25,26,28,30,63,800,801,802,803,804])) (K7 [] st))) :=
 PK (by kernel_rfl) (by kernel_rfl) (by kernel_rfl) (by kernel_rfl) (by kernel_rfl) (by kernel_rfl)
@[simp] theorem BBZ(n:Nat)(st:XS):AE bk ann kn (n+1) 69 (JA 249183) st=OL (JI bk (BH bk ann kn n) (.str [oc 65 .add 3 34 1,om 34 65]) (CI (some ([7,32,33,34],[2,7,24,25,26,28,30,63,800,801,802,803,804])) (K7 [25008011801063] st))) :=
 DX (by kernel_rfl) (by kernel_rfl) (by kernel_rfl) (by kernel_rfl) (by kernel_rfl)
@[simp] theorem BB0(n:Nat)(st:XS):AE bk ann kn (n+1) 69 (JA 383) st=OL (JI bk (BH bk ann kn n) (.str [ol 68 80 7,om 4 68,ok 5 0]) (CI (some ([7],[2,7,24,25,26,28,30,63,800,801,802,803,804])) (K7 [1000000000000024,24,901025,902026,903028] st))) :=
 DX (by kernel_rfl) (by kernel_rfl) (by kernel_rfl) (by kernel_rfl) (by kernel_rfl)
@[simp] theorem x24:UX 69 MG ABU/\SX 69 (JA 2) [oq 2 (.box (tq 0)),oq 4 (.mv (.const (.pointer none))),ok 5 0] [0,1] [2,7,24,25,26,28,30,63,800,801,802,803,804]/\SX 69 (JA 9) [ol 12 42 2,od 13 34 [tq 12],om 6 13] [1,2] [2,7,24,25,26,28,30,63,800,801,802,803,804]/\SX 69 (JA 21) [om 14 6,oc 15 .neq 37 14 0] [1,2,6] [2,7,24,25,26,28,30,63,800,801,802,803,804]/\SX 69 (JA 77) [om 16 6,oq 4 (.mv (.const (.pointer none))),om 5 16] [6] []/\SX 69 (JA 19) [om 17 1,oq 18 (.call false none (tq 17) []),ou 19 18] [1,2] [2,7,24,25,26,28,30,63,800,801,802,803,804]/\SX 69 (JA 75) [oq 4 (.mv (.const (.pointer none))),ok 5 2] [] []/\RX 69 (JA 23) (.drw [⟨[24,25,26,28,7],[oq 20 (.ldz 42 (tq 2)),oz 21 42 2 0,oq 22 (.ldz 3 (tq 21)),oc 23 .add 3 22 1,oq 24 (.mkS 23 (tq 23) (tq 23)),oq 25 (.mkM none),oq 26 (.mkM none),oq 27 (.build 133 [(0,tq 20),(1,tq 24),(2,tq 25),(3,tq 26)]),oq 28 (.box (tq 27)),oq 7 (.alloc 80)],[os (.sto 80 (tq 7) (tq 28))]⟩]) (some ([2],[2,30,63]))/\SX 69 (JA 47) [oq 8 (.alloc 4),os (.sto 4 (tq 8) (cb false))] [2,7] [2,7,24,25,26,28,30,63,800,801,802,803,804]/\SX 69 (JA 159) [ol 29 42 2,od 30 49 [tq 29,.const (.slice none 0 0)]] [2,7,8] [2,7,8,24,25,26,28,30,63,800,801,802,803,804]/\SX 69 (JA 607) [om 9 31] [7,8,31] [2,7,8,24,25,26,28,30,63,800,801,802,803,804]/\SX 69 (JA 2399) [os (.sto 4 (tq 8) (cb true))] [7,8,9] [2,7,8,24,25,26,28,30,63,800,801,802,803,804]/\SX 69 (JA 5471) [om 32 9,oe 33 32 22,ok 34 0] [7,9] [2,7,24,25,26,28,30,63,800,801,802,803,804]/\SX 69 (JA 36191) [ob 35 .lss 3 34 33] [7,32,33,34] [2,7,24,25,26,28,30,63,800,801,802,803,804]/\SX 69 (JA 576863) [om 36 34,oi 37 22 32 34,ol 38 3 37,om 10 36,om 11 38] [7,32,33,34] [2,7,24,25,26,28,30,63,800,801,802,803,804]/\RX 69 (JA 2936159) (.drw [⟨[],[ol 49 80 7,oq 50 (.oth (.nilCheck (tq 49))),oz 51 133 50 1,ol 52 23 51,om 53 10,ol 54 80 7,oq 55 (.oth (.nilCheck (tq 54))),oz 56 133 55 1,ol 57 23 56,om 58 10,oi 59 23 57 58,oq 60 (.ldz 22 (tq 59)),om 61 11,oq 62 (.buildS 22 1 [(0,tq 61)]),oq 63 (.app [tq 60,tq 62] [22,22]),oi 64 23 52 53],[os (.sto 22 (tq 64) (tq 63))]⟩]) (some ([7,10,11,32,33,34],[2,7,24,25,26,28,30,63,800,801,802,803,804]))/\SX 69 (JA 319) [ol 66 4 8,ou 67 66] [7,8] [2,7,8,24,25,26,28,30,63,800,801,802,803,804]/\SX 69 (JA 1215) [oq 4 (.mv (.const (.pointer none))),ok 5 11] [] []/\LX 69 MG [7,32,33,34] [2,7,24,25,26,28,30,63,800,801,802,803,804]:=by and_intros<;>first|exact rx|exact lx|exact fun _ _=>rfl
def oP:=rg Tryz.f27
@[simp] def ALP:bq:=(.seq (oP 69) (.seq (.cond (.tmp 11) .skip (.exit 0)) (.seq (.block 1 (.seq (oP 1125) (.seq (oP 2661) (oP 3685)))) (oP 485))))
def XL:=ALP
def c27:bq:=(.seq (oP 2) (.seq (.seq (oP 9) (.block 0 (.loop XL))) (.seq (oP 11) .ret)))
theorem b27:Tryz.f27.body=some c27:=by kernel_rfl
@[simp] theorem x27:UX 33 XL ALP/\SX 33 (oP 2) [oq 4 (.alloc 49)] [0,1] []/\SX 33 (oP 9) [om 8 1,oe 9 8 23,ok 10 0] [0,1,4] [4]/\SX 33 (oP 69) [ob 11 .lss 3 10 9] [0,4,8,9,10] [4]/\SX 33 (oP 1125) [om 12 10,oi 13 23 8 10,ol 14 22 13,om 5 12,om 6 14] [0,4,8,9,10] [4]/\SX 33 (oP 2661) [om 15 0,om 16 5,om 17 6,od 18 56 [tq 17],oq 19 (.call true none (.func 55) [tq 15,tq 16,tq 18]),oq 7 (.alloc 49),os (.sto 49 (tq 7) (tq 19))] [0,4,5,6,8,9,10] [4]/\SX 33 (oP 3685) [oz 20 49 4 0,ol 21 3 20,oz 22 49 7 0,ol 23 3 22,ob 24 .add 3 21 23,oz 25 49 4 1,ol 26 3 25,oz 27 49 7 1,ol 28 3 27,ob 29 .add 3 26 28,oq 30 (.build 49 [(0,tq 24),(1,tq 29)]),os (.sto 49 (tq 4) (tq 30))] [0,4,7,8,9,10] [4,7]/\SX 33 (oP 485) [oc 31 .add 3 10 1,om 10 31] [0,4,8,9,10] [4]/\SX 33 (oP 11) [ol 32 49 4,os (.sto 49 (tq 4) (tq 32))] [4] [4]/\LX 33 XL [0,4,8,9,10] [4]:=⟨fun _ _=>rfl,rx,rx,rx,rx,rx,rx,rx,rx,lx⟩
def XM:=rg Tryz.f10
def c10:bq:=(.seq (XM 2) (.seq (XM 5) (.seq (.seq (XM 19) (.cond (.tmp 15) (.seq (XM 75) .ret) .skip)) (.seq (XM 23) .ret))))
theorem b10:Tryz.f10.body=some c10:=by kernel_rfl
@[simp] theorem x10:SX 21 (XM 2) [oq 2 (.box (tq 0)),oq 3 (.box (tq 1)),oq 4 (.alloc 49),ok 5 0] [0,1] [2,3,11,900,901,902]/\SX 21 (XM 5) [ol 9 42 2,oq 10 (.oth (.makeFunc (.func 25) #[] #[tq 2,tq 3])),od 11 24 [tq 9,tq 10],om 8 11,oq 12 (.oth (.extract (tq 8) 0)),oq 13 (.oth (.extract (tq 8) 1)),om 6 12,om 7 13] [2,3,4] [2,3,4,11,900,901,902]/\SX 21 (XM 19) [om 14 7,oc 15 .neq 37 14 0] [3,4,6,7] [2,3,4,11,900,901,902]/\SX 21 (XM 75) [oq 16 (.build 49 []),om 17 7,os (.sto 49 (tq 4) (tq 16)),om 5 17] [4,7] [4]:=⟨rx,rx,rx,rx⟩
@[simp] theorem BGD(n:Nat)(st:XS):AE bk ann kn (n+1) 21 (XM 23) st=OL (JI bk (BH bk ann kn n) (.str [om 18 6,ol 19 23 3,oq 20 (.call true none (.func 27) [tq 18,tq 19]),os (.sto 49 (tq 4) (tq 20)),ok 5 0]) (CI (some ([3,4,6],[2,3,4,11,900,901,902])) (K7 [902] st))) :=
 DX (by kernel_rfl) (by kernel_rfl) (by kernel_rfl) (by kernel_rfl) (by kernel_rfl)
def g25:=rg Tryz.f25
def c25:bq:=(.seq (g25 2) (.seq (g25 5) .ret))
theorem b25:Tryz.f25.body=some c25:=by kernel_rfl
@[simp] theorem x25:SX 6 (g25 2) [ot 2 false] [0,1] []/\SX 6 (g25 5) [ol 3 42 0,ol 4 23 1,od 5 26 [tq 3,tq 4],om 2 5] [0,1] []:=⟨rx,rx⟩
def NQ:=rg Tryz.f36
@[simp] def ALQ:bq:=(.seq (NQ 36279909) (.seq (.cond (.tmp 29) .skip (.exit 4)) (.seq (.block 5 (.seq (NQ 589928037) (NQ 858363493))) (NQ 254383717))))
def XN:=ALQ
@[simp] def ALR:bq:=(.seq (NQ 71269) (.seq (.cond (.tmp 24) .skip (.exit 2)) (.seq (.block 3 (.seq (NQ 1152613) (.seq (.seq (NQ 4822629) (.block 4 (.loop XN))) (NQ 3774053)))) (NQ 497253))))
def XO:=ALR
@[simp] def ALS:bq:=(.seq (NQ 69) (.seq (.cond (.tmp 16) .skip (.exit 0)) (.seq (.block 1 (.seq (NQ 1125) (.seq (NQ 2661) (.seq (.seq (NQ 9829) (.block 2 (.loop XO))) (NQ 7781))))) (NQ 485))))
def XP:=ALS
def c36:bq:=(.seq (NQ 2) (.seq (.seq (NQ 9) (.block 0 (.loop XP))) (.seq (NQ 11) .ret)))
theorem b36:Tryz.f36.body=some c36:=by kernel_rfl
@[simp] theorem BB1(n:Nat)(st:XS):AE bk ann kn (n+1) 67 (NQ 7781) st=OL (JI bk (BH bk ann kn n) (.str [om 60 6,om 61 9,oq 62 (.buildS 55 1 [(0,tq 61)]),oq 63 (.app [tq 60,tq 62] [55,55]),om 6 63]) (CI (some ([1,2,3,6,7,9,14,15],[3,20,63])) (K7 [20] st))) :=
 DX (by kernel_rfl) (by kernel_rfl) (by kernel_rfl) (by kernel_rfl) (by kernel_rfl)
@[simp] theorem x36:UX 67 XN ALQ/\UX 67 XO ALR/\UX 67 XP ALS/\SX 67 (NQ 2) [oq 3 (.box (tq 0)),oq 6 (.mv (.const (.slice none 0 0))),ok 7 0] [0,1,2] [3]/\SX 67 (NQ 9) [oz 13 42 3 1,ol 14 3 13,ok 15 0] [1,2,3,6,7] [3,63]/\SX 67 (NQ 69) [ob 16 .lss 3 15 14] [1,2,3,6,7,14,15] [3,63]/\SX 67 (NQ 1125) [om 17 15,om 8 17] [1,2,3,6,7,14,15] [3,63]/\SX 67 (NQ 2661) [oz 18 42 3 2,ol 19 3 18,oq 20 (.mkS 58 (tq 19) (tq 19)),om 9 20] [1,2,3,6,7,8,14,15] [3,63]/\SX 67 (NQ 9829) [om 21 9,oe 22 21 58,ok 23 0] [1,2,3,6,7,8,9,14,15] [3,20,63]/\SX 67 (NQ 71269) [ob 24 .lss 3 23 22] [1,2,3,6,7,8,9,14,15,22,23] [3,20,63]/\SX 67 (NQ 1152613) [om 25 23,om 10 25] [1,2,3,6,7,8,9,14,15,22,23] [3,20,63]/\SX 67 (NQ 4822629) [om 26 2,oe 27 26 22,ok 28 0] [1,2,3,6,7,8,9,10,14,15,22,23] [3,20,63]/\SX 67 (NQ 36279909) [ob 29 .lss 3 28 27] [1,2,3,6,7,8,9,10,14,15,22,23,26,27,28] [3,20,63]/\SX 67 (NQ 589928037) [om 30 28,oi 31 22 26 28,ol 32 3 31,om 11 30,om 12 32] [1,2,3,6,7,8,9,10,14,15,22,23,26,27,28] [3,20,63]/\RX 67 (NQ 858363493) (.drw [⟨[],[om 33 9,om 34 10,oi 35 58 33 34,ol 36 42 3,om 37 8,om 38 10,oq 39 (.build 87 [(0,tq 37),(1,tq 38)]),om 40 11,om 41 1,om 42 11,oi 43 23 41 42,ol 44 22 43,om 45 8,oi 46 22 44 45,ol 47 3 46,om 48 12,od 49 66 [tq 36,tq 39,tq 40,tq 47,tq 48]],[od 50 65 [tq 35,tq 49]]⟩,⟨[],[],[]⟩]) (some ([1,2,3,6,7,8,9,10,11,12,14,15,22,23,26,27,28],[3,20,63]))/\SX 67 (NQ 254383717) [oc 51 .add 3 28 1,om 28 51] [1,2,3,6,7,8,9,10,14,15,22,23,26,27,28] [3,20,63]/\SX 67 (NQ 3774053) [om 52 7,om 53 9,om 54 10,oi 55 58 53 54,oz 56 60 55 2,ol 57 3 56,ob 58 .add 3 52 57,om 7 58] [1,2,3,6,7,8,9,10,14,15,22,23] [3,20,63]/\SX 67 (NQ 497253) [oc 59 .add 3 23 1,om 23 59] [1,2,3,6,7,8,9,14,15,22,23] [3,20,63]/\SX 67 (NQ 485) [oc 64 .add 3 15 1,om 15 64] [1,2,3,6,7,14,15] [3,63]/\SX 67 (NQ 11) [om 65 6,om 66 7,om 6 65,om 7 66] [6,7] [63]/\LX 67 XP [1,2,3,6,7,14,15] [3,63]/\LX 67 XO [1,2,3,6,7,8,9,14,15,22,23] [3,20,63]/\LX 67 XN [1,2,3,6,7,8,9,10,14,15,22,23,26,27,28] [3,20,63]:=by and_intros<;>first|exact rx|exact lx|exact fun _ _=>rfl
def g65:=rg Tryz.f65
def c65:bq:=(.seq (g65 2) (g65 3))
theorem b65:Tryz.f65.body=some c65:=by kernel_rfl
@[simp] theorem x65:SX 34 (g65 2) [oq 3 (.box (tq 1))] [0,1] []/\RX 34 (g65 3) (.drw [⟨[],[om 4 0,om 5 0,om 6 0,om 7 0,oq 8 (.oth (.nilCheck (tq 7))),oz 9 60 8 0,oq 10 (.ldz 3 (tq 9)),oz 11 60 3 0,oq 12 (.ldz 3 (tq 11)),ob 13 .add 3 10 12,om 14 0,oq 15 (.oth (.nilCheck (tq 14))),oz 16 60 15 1,oq 17 (.ldz 3 (tq 16)),oz 18 60 3 1,ol 19 3 18,ob 20 .add 3 17 19,om 21 0,oq 22 (.oth (.nilCheck (tq 21))),oz 23 60 22 2,oq 24 (.ldz 3 (tq 23)),oz 25 60 3 2,ol 26 3 25,ob 27 .add 3 24 26,oq 28 (.oth (.nilCheck (tq 4))),oz 29 60 28 0,os (.sto 3 (tq 29) (tq 13)),oq 30 (.oth (.nilCheck (tq 5))),oz 31 60 30 1,os (.sto 3 (tq 31) (tq 20)),oq 32 (.oth (.nilCheck (tq 6))),oz 33 60 32 2,os (.sto 3 (tq 33) (tq 27))],[]⟩]) (some ([0,3],[3])):=⟨rx,rx⟩
def oQ:=rg Tryz.f13
def c13:bq:=(.seq (oQ 2) (.seq (.seq (oQ 9) (.seq (oQ 21) (.cond (.tmp 14) (.seq (oQ 77) .ret) .skip))) (.seq (.seq (oQ 19) (.cond (.tmp 25) (.seq (oQ 75) .ret) .skip)) (.seq (oQ 23) (.seq (oQ 47) .ret)))))
theorem b13:Tryz.f13.body=some c13:=by kernel_rfl
@[simp] theorem BGH(n:Nat)(st:XS):AE bk ann kn (n+1) 34 (oQ 19) st=OL (JI bk (cfU [20010] (BH bk ann kn n)) (.str [ol 16 42 3,om 17 1,od 18 26 [tq 16,tq 17],ou 19 18,om 20 19,gl 20 false 21 42 3,gm 20 false 22 2,gd 20 false 23 35 [tq 21,tq 22],og 20 false 24 (.oth (.unOp .not 4 (tq 23))),oq 25 (.pick (tq 20) (cb true) (tq 24))]) (CI (some ([1,2,3],[3,30])) (K7 [] st))) :=
 PK (by kernel_rfl) (by kernel_rfl) (by kernel_rfl) (by kernel_rfl) (by kernel_rfl) (by kernel_rfl)
@[simp] theorem x13:SX 34 (oQ 2) [oq 3 (.box (tq 0)),oq 6 (.mv (.const (.slice none 0 0))),ok 7 0] [0,1,2] [3,30]/\SX 34 (oQ 9) [ol 11 42 3,od 12 34 [tq 11],om 8 12] [1,2,3] [3,30]/\SX 34 (oQ 21) [om 13 8,oc 14 .neq 37 13 0] [1,2,3,8] [3,30]/\SX 34 (oQ 77) [om 15 8,oq 6 (.mv (.const (.slice none 0 0))),om 7 15] [8] []/\SX 34 (oQ 75) [oq 6 (.mv (.const (.slice none 0 0))),ok 7 2] [] []/\SX 34 (oQ 23) [ol 27 42 3,om 28 1,om 29 2,od 30 36 [tq 27,tq 28,tq 29],om 26 30,oq 31 (.oth (.extract (tq 26) 0)),oq 32 (.oth (.extract (tq 26) 1)),om 9 31,om 10 32] [1,2,3] [3,30]/\SX 34 (oQ 47) [om 33 9,om 6 33,ok 7 0] [9] [3,30]:=⟨rx,rx,rx,rx,rx,rx,rx⟩
def bL:=rg Tryz.f11
@[simp] def ALT:bq:=(lp (bL 267) 28 0 1 (bL 587) (bL 459))
def XQ:=ALT
@[simp] def ALU:bq:=(lp (bL 535) 46 2 3 (bL 1175) (bL 919))
def XR:=ALU
def c11:bq:=(.seq (bL 2) (.seq (bL 5) (.seq (.seq (bL 19) (.block 0 (.loop XQ))) (.seq (.seq (bL 39) (.block 2 (.loop XR))) (.seq (bL 47) .ret)))))
theorem b11:Tryz.f11.body=some c11:=by kernel_rfl
@[simp] theorem x11:UX 68 XQ ALT/\UX 68 XR ALU/\SX 68 (bL 2) [oq 1 (.box (tq 0)),oq 2 (.alloc 42)] [0] [1,2,3,16,19,22,40,65]/\RX 68 (bL 5) (.drw [⟨[3],[oz 6 27 1 0,oq 7 (.ldz 3 (tq 6)),oz 8 27 1 1,oq 9 (.ldz 3 (tq 8)),oz 10 27 1 2,oq 11 (.ldz 3 (tq 10)),oz 12 27 1 3,oq 13 (.ldz 3 (tq 12)),oz 14 27 1 4,oq 15 (.ldz 22 (tq 14)),od 16 28 [tq 15],oz 17 27 1 5,oq 18 (.ldz 22 (tq 17)),od 19 28 [tq 18],oz 20 27 1 6,oq 21 (.ldz 23 (tq 20)),od 22 29 [tq 21],oq 23 (.build 42 [(0,tq 7),(1,tq 9),(2,tq 11),(3,tq 13),(4,tq 16),(5,tq 19),(6,tq 22)]),oq 3 (.alloc 42)],[os (.sto 42 (tq 3) (tq 23))]⟩]) (some ([1,2],[1,2,40,65]))/\SX 68 (bL 19) [ok 4 0] [1,2,3] [1,2,3,16,19,22,40,65]/\SX 68 (bL 267) [om 24 4,oz 25 27 1 7,ol 26 24 25,oe 27 26 24,ob 28 .lss 3 24 27] [1,2,3,4] [1,2,3,16,19,22,40,65]/\RX 68 (bL 587) (.drw [⟨[],[oz 31 42 3 7,oq 32 (.ldz 36 (tq 31)),oz 33 27 1 7,ol 34 24 33,om 35 4,oi 36 24 34 35,ol 37 89 36,od 38 30 [tq 37],oq 39 (.buildS 36 1 [(0,tq 38)]),oq 40 (.app [tq 32,tq 39] [36,36]),oz 41 42 3 7],[os (.sto 36 (tq 41) (tq 40))]⟩]) (some ([1,2,3,4],[1,2,3,16,19,22,40,65]))/\SX 68 (bL 459) [om 29 4,oc 30 .add 3 29 1,om 4 30] [1,2,3,4] [1,2,3,16,19,22,40,65]/\SX 68 (bL 39) [ok 5 0] [1,2,3] [1,2,3,16,19,22,40,65]/\SX 68 (bL 535) [om 42 5,oz 43 27 1 8,ol 44 25 43,oe 45 44 25,ob 46 .lss 3 42 45] [1,2,3,5] [1,2,3,16,19,22,40,65]/\RX 68 (bL 1175) (.drw [⟨[],[oz 49 42 3 8,oq 50 (.ldz 40 (tq 49)),oz 51 27 1 8,ol 52 25 51,om 53 5,oi 54 25 52 53,oz 55 91 54 0,ol 56 3 55,oz 57 27 1 8,ol 58 25 57,om 59 5,oi 60 25 58 59,oz 61 91 60 1,ol 62 3 61,oq 63 (.build 92 [(0,tq 56),(1,tq 62)]),oq 64 (.buildS 40 1 [(0,tq 63)]),oq 65 (.app [tq 50,tq 64] [40,40]),oz 66 42 3 8],[os (.sto 40 (tq 66) (tq 65))]⟩]) (some ([1,2,3,5],[1,2,3,16,19,22,40,65]))/\SX 68 (bL 919) [om 47 5,oc 48 .add 3 47 1,om 5 48] [1,2,3,5] [1,2,3,16,19,22,40,65]/\SX 68 (bL 47) [ol 67 42 3,os (.sto 42 (tq 2) (tq 67))] [2,3] [1,2,3,16,19,22,40,65]/\LX 68 XQ [1,2,3,4] [1,2,3,16,19,22,40,65]/\LX 68 XR [1,2,3,5] [1,2,3,16,19,22,40,65]:=by and_intros<;>first|exact rx|exact lx|exact fun _ _=>rfl
def U9:=rg Tryz.f69
@[simp] def ALV:bq:=(.seq (U9 71269) (.seq (.cond (.tmp 28) .skip (.exit 2)) (.seq (.block 3 (.seq (U9 1152613) (U9 1676901))) (U9 497253))))
def XT:=ALV
@[simp] def ALW:bq:=(.seq (U9 69) (.seq (.cond (.tmp 20) .skip (.exit 0)) (.seq (.block 1 (.seq (U9 1125) (.seq (U9 2661) (.seq (.seq (U9 9829) (.block 2 (.loop XT))) (U9 7781))))) (U9 485))))
def XU:=ALW
def c69:bq:=(.seq (U9 2) (.seq (.seq (U9 9) (.block 0 (.loop XU))) (.seq (U9 11) .ret)))
theorem b69:Tryz.f69.body=some c69:=by kernel_rfl
@[simp] theorem x69:UX 66 XT ALV/\UX 66 XU ALW/\SX 66 (U9 2) [oq 4 (.box (tq 0)),oq 7 (.box (tq 3)),oq 8 (.alloc 49)] [0,1,2,3] [4]/\SX 66 (U9 9) [om 14 1,oq 15 (.oth (.nilCheck (tq 14))),oz 16 133 15 1,ol 17 23 16,oe 18 17 23,ok 19 0] [1,2,4,7,8] [4,7,8]/\SX 66 (U9 69) [ob 20 .lss 3 19 18] [1,2,4,7,8,17,18,19] [4,7,8]/\SX 66 (U9 1125) [om 21 19,oi 22 23 17 19,ol 23 22 22,om 9 21,om 10 23] [1,2,4,7,8,17,18,19] [4,7,8]/\SX 66 (U9 2661) [oq 24 (.build 49 [(0,ci 1),(1,ci 0)]),oq 11 (.alloc 49),os (.sto 49 (tq 11) (tq 24))] [1,2,4,7,8,9,10,17,18,19] [4,7,8]/\SX 66 (U9 9829) [om 25 10,oe 26 25 22,ok 27 0] [1,2,4,7,8,9,10,11,17,18,19] [4,7,8,11]/\SX 66 (U9 71269) [ob 28 .lss 3 27 26] [1,2,4,7,8,9,11,17,18,19,25,26,27] [4,7,8,11]/\SX 66 (U9 1152613) [oi 29 22 25 27,ol 30 3 29,om 13 30] [1,2,4,7,8,9,11,17,18,19,25,26,27] [4,7,8,11]/\RX 66 (U9 1676901) (.drw [⟨[],[oq 31 (.ldz 49 (tq 11)),oz 32 154 4 0,oq 33 (.ldz 151 (tq 32)),om 34 1,oq 35 (.oth (.nilCheck (tq 34))),oz 36 133 35 0,oq 37 (.ldz 42 (tq 36)),oq 38 (.ldz 87 (tq 7)),om 39 9,om 40 2,om 41 9,oi 42 23 40 41,oq 43 (.ldz 22 (tq 42)),oz 44 87 7 0,oq 45 (.ldz 3 (tq 44)),oi 46 22 43 45,oq 47 (.ldz 3 (tq 46)),om 48 13,od 49 66 [tq 37,tq 38,tq 39,tq 47,tq 48],oq 50 (.call false none (tq 33) [tq 49])],[oq 51 (.call true none (.func 92) [tq 31,tq 50])]⟩,⟨[],[],[os (.sto 49 (tq 11) (tq 51))]⟩]) (some ([1,2,4,7,8,9,11,13,17,18,19,25,26,27],[4,7,8,11]))/\SX 66 (U9 497253) [oc 52 .add 3 27 1,om 27 52] [1,2,4,7,8,9,11,17,18,19,25,26,27] [4,7,8,11]/\SX 66 (U9 7781) [oz 53 49 8 0,ol 54 3 53,oz 55 49 11 0,ol 56 3 55,ob 57 .add 3 54 56,oz 58 49 8 1,ol 59 3 58,oz 60 49 11 1,ol 61 3 60,ob 62 .add 3 59 61,oq 63 (.build 49 [(0,tq 57),(1,tq 62)]),os (.sto 49 (tq 8) (tq 63))] [1,2,4,7,8,11,17,18,19] [4,7,8,11]/\SX 66 (U9 485) [oc 64 .add 3 19 1,om 19 64] [1,2,4,7,8,17,18,19] [4,7,8]/\SX 66 (U9 11) [ol 65 49 8,os (.sto 49 (tq 8) (tq 65))] [8] [8]/\LX 66 XU [1,2,4,7,8,17,18,19] [4,7,8]/\LX 66 XT [1,2,4,7,8,9,11,17,18,19,25,26,27] [4,7,8,11]:=by and_intros<;>first|exact rx|exact lx|exact fun _ _=>rfl
def g68:=rg Tryz.f68
def c68:bq:=(.seq (g68 2) (.seq (g68 5) .ret))
theorem b68:Tryz.f68.body=some c68:=by kernel_rfl
@[simp] theorem x68:SX 5 (g68 2) [oq 1 (.box (tq 0)),ok 2 0] [0] []/\SX 5 (g68 5) [oz 3 60 1 1,ol 4 3 3,om 2 4] [0,1] [1]:=⟨rx,rx⟩
def g70:=rg Tryz.f70
def c70:bq:=(.seq (g70 2) (.seq (g70 5) .ret))
theorem b70:Tryz.f70.body=some c70:=by kernel_rfl
@[simp] theorem x70:SX 5 (g70 2) [oq 1 (.box (tq 0)),ok 2 0] [0] []/\SX 5 (g70 5) [oz 3 60 1 2,ol 4 3 3,om 2 4] [0,1] [1]:=⟨rx,rx⟩
def KJ:=rg Tryz.f40
@[simp] def ABV:bq:=(.seq (KJ 583840559) (.seq (.cond (.tmp 42) .skip (.exit 4)) (.seq (.block 5 (.seq (KJ 9442210607) (KJ 13737177903))) (KJ 4073501487))))
def RK:=ABV
@[simp] def ABW:bq:=(.seq (KJ 570159) (.seq (.cond (.tmp 34) .skip (.exit 2)) (.seq (.block 3 (.seq (KJ 9220911) (.seq (KJ 21803823) (.seq (.seq (KJ 80524079) (.block 4 (.loop RK))) (KJ 63746863))))) (KJ 3978031))))
def RL:=ABW
@[simp] def ALX:bq:=(.seq (KJ 559) (.seq (.cond (.tmp 26) .skip (.exit 0)) (.seq (.block 1 (.seq (KJ 9007) (.seq (KJ 21295) (.seq (.seq (KJ 78639) (.block 2 (.loop RL))) (KJ 62255))))) (KJ 3887))))
def XV:=ALX
def c40:bq:=(.seq (KJ 2) (.seq (KJ 5) (.seq (.seq (KJ 19) (.cond (.tmp 21) (.seq (KJ 75) .ret) .skip)) (.seq (KJ 23) (.seq (.seq (KJ 79) (.block 0 (.loop XV))) (.seq (KJ 95) .ret))))))
theorem b40:Tryz.f40.body=some c40:=by kernel_rfl
@[simp] theorem BGL(n:Nat)(st:XS):AE bk ann kn (n+1) 90 (KJ 23) st=OL (JI bk (BH bk ann kn n) (.str [oq 8 (.mv (.const (.slice none 0 0)))]) (CI (some ([2,3,6],[2,3,17,900,901,902])) (K7 [902] st))) :=
 DX (by kernel_rfl) (by kernel_rfl) (by kernel_rfl) (by kernel_rfl) (by kernel_rfl)
@[simp] theorem BB3(n:Nat)(st:XS):AE bk ann kn (n+1) 90 (KJ 62255) st=OL (JI bk (BH bk ann kn n) (.str [om 84 8,om 85 10,oq 86 (.buildS 104 1 [(0,tq 85)]),oq 87 (.app [tq 84,tq 86] [104,104]),om 8 87]) (CI (some ([2,3,6,8,10,24,25],[2,3,17,30,87])) (K7 [30] st))) :=
 DX (by kernel_rfl) (by kernel_rfl) (by kernel_rfl) (by kernel_rfl) (by kernel_rfl)
@[simp] theorem x40:UX 90 RK ABV/\UX 90 RL ABW/\UX 90 XV ALX/\SX 90 (KJ 2) [oq 2 (.box (tq 0)),oq 3 (.box (tq 1)),oq 4 (.mv (.const (.slice none 0 0))),ok 5 0] [0,1] [2,3,17,900,901,902]/\SX 90 (KJ 5) [ol 15 42 2,oq 16 (.oth (.makeFunc (.func 67) #[] #[tq 2,tq 3])),od 17 24 [tq 15,tq 16],om 14 17,oq 18 (.oth (.extract (tq 14) 0)),oq 19 (.oth (.extract (tq 14) 1)),om 6 18,om 7 19] [2,3] [2,3,17,900,901,902]/\SX 90 (KJ 19) [om 20 7,oc 21 .neq 37 20 0] [2,3,6,7] [2,3,17,900,901,902]/\SX 90 (KJ 75) [om 22 7,oq 4 (.mv (.const (.slice none 0 0))),om 5 22] [7] []/\SX 90 (KJ 79) [oz 23 42 2 1,ol 24 3 23,ok 25 0] [2,3,6,8] [2,3,17,87]/\SX 90 (KJ 559) [ob 26 .lss 3 25 24] [2,3,6,8,24,25] [2,3,17,87]/\SX 90 (KJ 9007) [om 27 25,om 9 27] [2,3,6,8,24,25] [2,3,17,87]/\SX 90 (KJ 21295) [oz 28 42 2 2,ol 29 3 28,oq 30 (.mkS 115 (tq 29) (tq 29)),om 10 30] [2,3,6,8,9,24,25] [2,3,17,87]/\SX 90 (KJ 78639) [om 31 10,oe 32 31 115,ok 33 0] [2,3,6,8,9,10,24,25] [2,3,17,30,87]/\SX 90 (KJ 570159) [ob 34 .lss 3 33 32] [2,3,6,8,9,10,24,25,32,33] [2,3,17,30,87]/\SX 90 (KJ 9220911) [om 35 33,om 11 35] [2,3,6,8,9,10,24,25,32,33] [2,3,17,30,87]/\SX 90 (KJ 21803823) [om 36 9,om 37 11,oq 38 (.build 87 [(0,tq 36),(1,tq 37)]),oq 12 (.alloc 87),os (.sto 87 (tq 12) (tq 38))] [2,3,6,8,9,10,11,24,25,32,33] [2,3,17,30,87]/\SX 90 (KJ 80524079) [ol 39 23 3,oe 40 39 23,ok 41 0] [2,3,6,8,9,10,11,12,24,25,32,33] [2,3,12,17,30,87]/\SX 90 (KJ 583840559) [ob 42 .lss 3 41 40] [2,3,6,8,9,10,11,12,24,25,32,33,40,41] [2,3,12,17,30,87]/\SX 90 (KJ 9442210607) [om 43 41,om 13 43] [2,3,6,8,9,10,11,12,24,25,32,33,40,41] [2,3,12,17,30,87]/\RX 90 (KJ 13737177903) (.drw [⟨[],[om 44 10,om 45 11,oi 46 115 44 45,oz 47 119 46 0,oq 48 (.ldz 3 (tq 47)),oq 49 (.ldz 42 (tq 2)),oq 50 (.ldz 87 (tq 12)),om 51 13,oq 52 (.ldz 23 (tq 3)),om 53 13,oi 54 23 52 53,oq 55 (.ldz 22 (tq 54)),om 56 9,oi 57 22 55 56,oq 58 (.ldz 3 (tq 57)),od 59 66 [tq 49,tq 50,tq 51,tq 58,ci 0],oq 60 (.oth (.field 60 (tq 59) 0)),ob 61 .add 3 48 60,oi 62 115 44 45,oz 63 119 62 0,os (.sto 3 (tq 63) (tq 61))],[]⟩]) (some ([2,3,6,8,9,10,11,12,13,24,25,32,33,40,41],[2,3,12,17,30,87]))/\SX 90 (KJ 4073501487) [oc 64 .add 3 41 1,om 41 64] [2,3,6,8,9,10,11,12,24,25,32,33,40,41] [2,3,12,17,30,87]/\RX 90 (KJ 63746863) (.drw [⟨[73,78],[om 65 10,om 66 11,om 67 10,om 68 11,oq 69 (.build 154 [(0,.func 68)]),om 70 6,oq 71 (.ldz 23 (tq 3)),oq 72 (.ldz 87 (tq 12)),oq 74 (.build 154 [(0,.func 70)]),om 75 6,ol 76 23 3,ol 77 87 12,oq 73 (.call true none (.func 69) [tq 69,tq 70,tq 71,tq 72]),oq 78 (.call true none (.func 69) [tq 74,tq 75,tq 76,tq 77]),oi 79 115 65 66,oz 80 119 79 1,os (.sto 49 (tq 80) (tq 73)),oi 81 115 67 68,oz 82 119 81 2,os (.sto 49 (tq 82) (tq 78))],[]⟩]) (some ([2,3,6,8,9,10,11,12,24,25,32,33],[2,3,12,17,30,87]))/\SX 90 (KJ 3978031) [oc 83 .add 3 33 1,om 33 83] [2,3,6,8,9,10,24,25,32,33] [2,3,17,30,87]/\SX 90 (KJ 3887) [oc 88 .add 3 25 1,om 25 88] [2,3,6,8,24,25] [2,3,17,87]/\SX 90 (KJ 95) [om 89 8,om 4 89,ok 5 0] [8] [87]/\LX 90 XV [2,3,6,8,24,25] [2,3,17,87]/\LX 90 RL [2,3,6,8,9,10,24,25,32,33] [2,3,17,30,87]/\LX 90 RK [2,3,6,8,9,10,11,12,24,25,32,33,40,41] [2,3,12,17,30,87]:=by and_intros<;>first|exact rx|exact lx|exact fun _ _=>rfl
def g67:=rg Tryz.f67
def c67:bq:=(.seq (g67 2) (.seq (g67 5) .ret))
theorem b67:Tryz.f67.body=some c67:=by kernel_rfl
@[simp] theorem x67:SX 6 (g67 2) [ot 2 false] [0,1] []/\SX 6 (g67 5) [ol 3 42 0,ol 4 23 1,od 5 26 [tq 3,tq 4],om 2 5] [0,1] []:=⟨rx,rx⟩
def PV:=rg Tryz.f102
@[simp] def ABX:bq:=(.seq (PV 69) (.seq (.cond (.tmp 9) .skip (.exit 0)) (.seq (.block 1 (.seq (PV 1125) (.seq (PV 2661) (.cond (.tmp 16) (.seq (PV 9829) .ret) .skip)))) (PV 485))))
def RM:=ABX
def APD:bq:=(.seq (PV 2) (.seq (.seq (PV 9) (.block 0 (.loop RM))) (.seq (PV 11) .ret)))
theorem b102:Tryz.f102.body=some APD:=by kernel_rfl
@[simp] theorem BJK:UX 19 RM ABX/\SX 19 (PV 2) [ok 4 0] [0,1] []/\SX 19 (PV 9) [om 6 0,oe 7 6 28,ok 8 0] [0,1] []/\SX 19 (PV 69) [ob 9 .lss 3 8 7] [0,1,7,8] []/\SX 19 (PV 1125) [om 10 8,om 5 10] [0,1,7,8] []/\SX 19 (PV 2661) [om 11 1,om 12 0,om 13 5,oi 14 28 12 13,ol 15 63 14,oq 16 (.call false none (tq 11) [tq 15])] [0,1,5,7,8] []/\SX 19 (PV 9829) [om 17 5,om 4 17] [5] []/\SX 19 (PV 485) [oc 18 .add 3 8 1,om 8 18] [0,1,7,8] []/\SX 19 (PV 11) [oq 4 (.mv (.const (.int .i64 (bj 0))))] [] []/\LX 19 RM [0,1,7,8] []:=⟨fun _ _=>rfl,rx,rx,rx,rx,rx,rx,rx,rx,lx⟩
def g71:=rg Tryz.f71
def c71:bq:=(.seq (g71 2) (.seq (g71 5) .ret))
theorem b71:Tryz.f71.body=some c71:=by kernel_rfl
@[simp] theorem x71:SX 9 (g71 2) [ot 4 false] [0,1] []/\SX 9 (g71 5) [om 5 0,om 6 1,od 7 102 [tq 5,tq 6],oc 8 .geq 3 7 0,om 4 8] [0,1,2,3] [2,3]:=⟨rx,rx⟩
def g42:=rg Tryz.f42
def c42:bq:=(.seq (g42 2) (.seq (g42 5) .ret))
theorem b42:Tryz.f42.body=some c42:=by kernel_rfl
@[simp] theorem x42:SX 9 (g42 2) [oq 3 (.box (tq 1)),ot 4 false] [0,1,2] [3]/\SX 9 (g42 5) [om 5 0,oq 6 (.oth (.makeFunc (.func 72) #[] #[tq 3])),od 7 71 [tq 5,tq 6],ou 8 7,om 4 8] [0,1,2,3] [2,3]:=⟨rx,rx⟩
def g72:=rg Tryz.f72
def c72:bq:=(.seq (g72 2) (.seq (g72 5) .ret))
theorem b72:Tryz.f72.body=some c72:=by kernel_rfl
@[simp] theorem x72:SX 8 (g72 2) [ot 3 false] [0,1] []/\SX 8 (g72 5) [ol 4 107 1,om 5 0,oq 6 (.call false none (tq 4) [tq 5]),ou 7 6,om 3 7] [0,1,2] [2]:=⟨rx,rx⟩
def PW:=rg Tryz.f103
@[simp] def ABY:bq:=(.seq (PW 69) (.seq (.cond (.tmp 9) .skip (.exit 0)) (.seq (.block 1 (.seq (PW 1125) (.seq (PW 2661) (.cond (.tmp 16) (.seq (PW 9829) .ret) .skip)))) (PW 485))))
def RN:=ABY
def APE:bq:=(.seq (PW 2) (.seq (.seq (PW 9) (.block 0 (.loop RN))) (.seq (PW 11) .ret)))
theorem b103:Tryz.f103.body=some APE:=by kernel_rfl
@[simp] theorem BJM:UX 19 RN ABY/\SX 19 (PW 2) [ok 4 0] [0,1] []/\SX 19 (PW 9) [om 6 0,oe 7 6 43,ok 8 0] [0,1] []/\SX 19 (PW 69) [ob 9 .lss 3 8 7] [0,1,7,8] []/\SX 19 (PW 1125) [om 10 8,om 5 10] [0,1,7,8] []/\SX 19 (PW 2661) [om 11 1,om 12 0,om 13 5,oi 14 43 12 13,ol 15 69 14,oq 16 (.call false none (tq 11) [tq 15])] [0,1,5,7,8] []/\SX 19 (PW 9829) [om 17 5,om 4 17] [5] []/\SX 19 (PW 485) [oc 18 .add 3 8 1,om 8 18] [0,1,7,8] []/\SX 19 (PW 11) [oq 4 (.mv (.const (.int .i64 (bj 0))))] [] []/\LX 19 RN [0,1,7,8] []:=⟨fun _ _=>rfl,rx,rx,rx,rx,rx,rx,rx,rx,lx⟩
def g73:=rg Tryz.f73
def c73:bq:=(.seq (g73 2) (.seq (g73 5) .ret))
theorem b73:Tryz.f73.body=some c73:=by kernel_rfl
@[simp] theorem x73:SX 9 (g73 2) [ot 4 false] [0,1] []/\SX 9 (g73 5) [om 5 0,om 6 1,od 7 103 [tq 5,tq 6],oc 8 .geq 3 7 0,om 4 8] [0,1,2,3] [2,3]:=⟨rx,rx⟩
def g43:=rg Tryz.f43
def c43:bq:=(.seq (g43 2) (.seq (g43 5) .ret))
theorem b43:Tryz.f43.body=some c43:=by kernel_rfl
@[simp] theorem x43:SX 9 (g43 2) [oq 3 (.box (tq 1)),ot 4 false] [0,1,2] [3]/\SX 9 (g43 5) [om 5 0,oq 6 (.oth (.makeFunc (.func 74) #[] #[tq 3])),od 7 73 [tq 5,tq 6],ou 8 7,om 4 8] [0,1,2,3] [2,3]:=⟨rx,rx⟩
def g74:=rg Tryz.f74
def c74:bq:=(.seq (g74 2) (.seq (g74 5) .ret))
theorem b74:Tryz.f74.body=some c74:=by kernel_rfl
@[simp] theorem x74:SX 8 (g74 2) [oq 2 (.box (tq 0)),ot 3 false] [0,1] []/\SX 8 (g74 5) [ol 4 110 1,ol 5 69 2,oq 6 (.call false none (tq 4) [tq 5]),ou 7 6,om 3 7] [0,1,2] [2]:=⟨rx,rx⟩
def g75:=rg Tryz.f75
def c75:bq:=(.seq (g75 2) (.seq (g75 5) .ret))
theorem b75:Tryz.f75.body=some c75:=by kernel_rfl
@[simp] theorem x75:SX 15 (g75 2) [ot 6 false] [0,1,2] []/\SX 15 (g75 5) [om 7 1,om 8 0,ob 9 .leq 3 7 8,om 10 9,gm 10 true 11 0,gm 10 true 12 2,gb 10 true 13 .leq 3 11 12,oq 14 (.pick (tq 10) (tq 13) (cb false)),om 6 14] [0,1,2] []:=⟨rx,rx⟩
def g44:=rg Tryz.f44
def c44:bq:=(.seq (g44 2) (.seq (g44 5) .ret))
theorem b44:Tryz.f44.body=some c44:=by kernel_rfl
@[simp] theorem x44:SX 11 (g44 2) [oq 1 (.box (tq 0)),ot 2 false] [0] [1,7,910,911]/\SX 11 (g44 5) [oz 3 69 1 0,ol 4 3 3,od 5 75 [tq 4,ci 1,ci 4],om 6 5,gz 6 true 7 69 1 1,gl 6 true 8 3 7,gd 6 true 9 75 [tq 8,ci 0,ci 5],oq 10 (.pick (tq 6) (tq 9) (cb false)),om 2 10] [1] [1]:=⟨rx,rx⟩
def g41:=rg Tryz.f41
def c41:bq:=(.seq (g41 2) (.seq (g41 5) .ret))
theorem b41:Tryz.f41.body=some c41:=by kernel_rfl
@[simp] theorem x41:SX 11 (g41 2) [oq 2 (.box (tq 0)),ot 4 false] [0,1] [2]/\SX 11 (g41 5) [om 5 1,oe 6 5 63,oz 7 45 2 0,oz 8 42 7 2,ol 9 3 8,ob 10 .eql 3 6 9,om 4 10] [1,2] [2]:=⟨rx,rx⟩
def KR:=rg Tryz.f18
@[simp] def ABZ:bq:=(.seq (KR 4561279) (.seq (.cond (.tmp 63) .skip (.exit 2)) (.seq (.block 3 (.seq (KR 73767295) (KR 107321727))) (KR 31824255))))
def RO:=ABZ
@[simp] def AB0:bq:=(.seq (KR 4479) (.seq (.cond (.tmp 57) .skip (.exit 0)) (.seq (.block 1 (.seq (KR 72063) (.seq (KR 170367) (.seq (.seq (KR 629119) (.block 2 (.loop RO))) (KR 498047))))) (KR 31103))))
def RP:=AB0
def c18:bq:=(.seq (KR 2) (.seq (.seq (KR 9) (.cond (.tmp 16) (.seq (KR 37) .ret) .skip)) (.seq (KR 11) (.seq (.seq (KR 39) (.cond (.tmp 26) (.seq (KR 151) .ret) .skip)) (.seq (KR 47) (.seq (.seq (KR 159) (.cond (.tmp 49) (.seq (KR 607) .ret) .skip)) (.seq (KR 191) (.seq (.seq (KR 639) (.block 0 (.loop RP))) (.seq (KR 767) .ret)))))))))
theorem b18:Tryz.f18.body=some c18:=by kernel_rfl
@[simp] theorem BB4(n:Nat)(st:XS):AE bk ann kn (n+1) 85 (KR 767) st=OL (JI bk (BH bk ann kn n) (.str [om 84 7,om 2 84,ok 3 0]) (CI (some ([7],[1,22,51,53,80])) (K7 [80,911051,912053] st))) :=
 DX (by kernel_rfl) (by kernel_rfl) (by kernel_rfl) (by kernel_rfl) (by kernel_rfl)
@[simp] theorem x18:UX 85 RO ABZ/\UX 85 RP AB0/\SX 85 (KR 2) [oq 1 (.box (tq 0)),oq 2 (.mv (.const (.pointer none))),ok 3 0] [0] [1,22,51,53,80]/\SX 85 (KR 9) [oz 13 45 1 3,ol 14 43 13,oe 15 14 43,oc 16 .gtr 3 15 3] [1] [1,22,51,53,80]/\SX 85 (KR 37) [oq 2 (.mv (.const (.pointer none))),ok 3 3] [] []/\SX 85 (KR 11) [oz 18 45 1 0,ol 19 42 18,oz 20 45 1 1,ol 21 23 20,od 22 40 [tq 19,tq 21],om 17 22,oq 23 (.oth (.extract (tq 17) 0)),oq 24 (.oth (.extract (tq 17) 1)),om 4 23,om 5 24] [1] [1,22,51,53,80]/\SX 85 (KR 39) [om 25 5,oc 26 .neq 37 25 0] [1,4,5] [1,22,51,53,80]/\SX 85 (KR 151) [om 27 5,oq 2 (.mv (.const (.pointer none))),om 3 27] [5] []/\SX 85 (KR 47) [ol 28 45 1,oq 29 (.oth (.makeFunc (.func 41) #[tq 28] #[])),om 6 29] [1,4] [1,22,51,53,80]/\SX 85 (KR 159) [oz 30 45 1 2,ol 31 28 30,oe 32 31 28,oz 33 45 1 0,oz 34 42 33 1,ol 35 3 34,ob 36 .neq 3 32 35,om 37 36,gz 37 false 38 45 1 2,gl 37 false 39 28 38,gm 37 false 40 6,gd 37 false 41 42 [tq 39,tq 40],og 37 false 42 (.oth (.unOp .not 4 (tq 41))),oq 43 (.pick (tq 37) (cb true) (tq 42)),om 44 43,gz 44 false 45 45 1 3,gl 44 false 46 43 45,gd 44 false 47 43 [tq 46,.func 44],og 44 false 48 (.oth (.unOp .not 4 (tq 47))),oq 49 (.pick (tq 44) (cb true) (tq 48))] [1,4,6] [1,22,51,53,80]/\SX 85 (KR 607) [oq 2 (.mv (.const (.pointer none))),ok 3 1] [] []/\SX 85 (KR 191) [ol 50 45 1,oq 51 (.mkM none),oq 52 (.build 114 [(0,tq 50),(1,.const (.slice none 0 0)),(2,tq 51)]),oq 53 (.box (tq 52)),om 7 53] [1,4] [1,22,51,53,80]/\SX 85 (KR 639) [om 54 4,oe 55 54 104,ok 56 0] [4,7] [1,22,51,53,80]/\SX 85 (KR 4479) [ob 57 .lss 3 56 55] [7,54,55,56] [1,22,51,53,80]/\SX 85 (KR 72063) [oi 58 104 54 56,ol 59 115 58,om 9 59] [7,54,55,56] [1,22,51,53,80]/\SX 85 (KR 170367) [oq 10 (.alloc 117)] [7,9,54,55,56] [1,22,51,53,80]/\SX 85 (KR 629119) [om 60 9,oe 61 60 115,ok 62 0] [7,9,10,54,55,56] [1,10,22,51,53,80]/\SX 85 (KR 4561279) [ob 63 .lss 3 62 61] [7,10,54,55,56,60,61,62] [1,10,22,51,53,80]/\SX 85 (KR 73767295) [om 64 62,oi 65 115 60 62,ol 66 119 65,oq 12 (.alloc 119),om 11 64,os (.sto 119 (tq 12) (tq 66))] [7,10,54,55,56,60,61,62] [1,10,22,51,53,80]/\SX 85 (KR 107321727) [om 67 11,oz 68 119 12 2,oz 69 49 68 0,ol 70 3 69,oi 71 117 10 67,os (.sto 3 (tq 71) (tq 70))] [7,10,11,12,54,55,56,60,61,62] [1,10,12,22,51,53,80]/\SX 85 (KR 31824255) [oc 72 .add 3 62 1,om 62 72] [7,10,54,55,56,60,61,62] [1,10,22,51,53,80]/\RX 85 (KR 498047) (.drw [⟨[],[om 73 7,om 74 7,oq 75 (.oth (.nilCheck (tq 74))),oz 76 114 75 1,oq 77 (.ldz 112 (tq 76)),ol 78 117 10,oq 79 (.buildS 112 1 [(0,tq 78)]),oq 80 (.app [tq 77,tq 79] [112,112]),oq 81 (.oth (.nilCheck (tq 73))),oz 82 114 81 1,os (.sto 112 (tq 82) (tq 80))],[]⟩]) (some ([7,10,54,55,56],[1,10,22,51,53,80]))/\SX 85 (KR 31103) [oc 83 .add 3 56 1,om 56 83] [7,54,55,56] [1,22,51,53,80]/\LX 85 RP [7,54,55,56] [1,22,51,53,80]/\LX 85 RO [7,10,54,55,56,60,61,62] [1,10,22,51,53,80]:=by and_intros<;>first|exact rx|exact lx|exact fun _ _=>rfl
def g31:=rg Tryz.f31
def c31:bq:=(.seq (g31 2) (.seq (g31 5) (.seq (g31 11) .ret)))
theorem b31:Tryz.f31.body=some c31:=by kernel_rfl
@[simp] theorem x31:SX 11 (g31 2) [oq 1 (.box (tq 0)),ok 2 0] [0] [1,7,910,911]/\SX 11 (g31 5) [ol 6 45 1,od 7 18 [tq 6],om 5 7,oq 8 (.oth (.extract (tq 5) 0)),oq 9 (.oth (.extract (tq 5) 1)),om 3 8,om 4 9] [1] [1,7,910,911]/\SX 11 (g31 11) [om 10 4,om 2 10] [4] []:=⟨rx,rx,rx⟩
def PX:=rg Tryz.f114
@[simp] def AB1:bq:=(.seq (PX 69) (.seq (.cond (.tmp 9) .skip (.exit 0)) (.seq (.block 1 (.seq (PX 1125) (.seq (PX 2661) (.cond (.tmp 16) (.seq (PX 9829) .ret) .skip)))) (PX 485))))
def MH:=AB1
def xJ:bq:=(.seq (PX 2) (.seq (.seq (PX 9) (.block 0 (.loop MH))) (.seq (PX 11) .ret)))
theorem b114:Tryz.f114.body=some xJ:=by kernel_rfl
@[simp] theorem BJS:UX 19 MH AB1/\SX 19 (PX 2) [ok 4 0] [0,1] []/\SX 19 (PX 9) [om 6 0,oe 7 6 94,ok 8 0] [0,1] []/\SX 19 (PX 69) [ob 9 .lss 3 8 7] [0,1,7,8] []/\SX 19 (PX 1125) [om 10 8,om 5 10] [0,1,7,8] []/\SX 19 (PX 2661) [om 11 1,om 12 0,om 13 5,oi 14 94 12 13,ol 15 129 14,oq 16 (.call false none (tq 11) [tq 15])] [0,1,5,7,8] []/\SX 19 (PX 9829) [om 17 5,om 4 17] [5] []/\SX 19 (PX 485) [oc 18 .add 3 8 1,om 8 18] [0,1,7,8] []/\SX 19 (PX 11) [oq 4 (.mv (.const (.int .i64 (bj 0))))] [] []/\LX 19 MH [0,1,7,8] []:=⟨fun _ _=>rfl,rx,rx,rx,rx,rx,rx,rx,rx,lx⟩
def AHQ:=rg Tryz.f104
def AHR:bq:=(.seq (AHQ 2) (.seq (AHQ 5) .ret))
theorem b104:Tryz.f104.body=some AHR:=by kernel_rfl
@[simp] theorem BJT:SX 9 (AHQ 2) [ot 4 false] [0,1] []/\SX 9 (AHQ 5) [om 5 0,om 6 1,od 7 114 [tq 5,tq 6],oc 8 .geq 3 7 0,om 4 8] [0,1,2,3] [2,3]:=⟨rx,rx⟩
def g80:=rg Tryz.f80
def c80:bq:=(.seq (g80 2) (.seq (g80 5) .ret))
theorem b80:Tryz.f80.body=some c80:=by kernel_rfl
@[simp] theorem x80:SX 9 (g80 2) [oq 3 (.box (tq 1)),ot 4 false] [0,1,2] [3]/\SX 9 (g80 5) [om 5 0,oq 6 (.oth (.makeFunc (.func 105) #[] #[tq 3])),od 7 104 [tq 5,tq 6],ou 8 7,om 4 8] [0,1,2,3] [2,3]:=⟨rx,rx⟩
def AHS:=rg Tryz.f105
def APF:bq:=(.seq (AHS 2) (.seq (AHS 5) .ret))
theorem b105:Tryz.f105.body=some APF:=by kernel_rfl
@[simp] theorem BJU:SX 8 (AHS 2) [oq 2 (.box (tq 0)),ot 3 false] [0,1] []/\SX 8 (AHS 5) [ol 4 159 1,ol 5 129 2,oq 6 (.call false none (tq 4) [tq 5]),ou 7 6,om 3 7] [0,1,2] [2]:=⟨rx,rx⟩
def xK:=rg Tryz.f106
def A0F:bq:=(.seq (xK 2) (.seq (xK 5) (.seq (xK 11) .ret)))
theorem BB6:Tryz.f106.body=some A0F:=by kernel_rfl
@[simp] theorem BJV:SX 38 (xK 2) [oq 3 (.box (tq 0)),ot 6 false] [0,1,2] [3]/\RX 38 (xK 5) (.drw [⟨[7,8],[oz 9 45 3 3,oq 10 (.ldz 43 (tq 9)),om 11 1,oi 12 43 10 11,oq 13 (.ldz 69 (tq 12)),oz 14 45 3 3,ol 15 43 14,om 16 2,oi 17 43 15 16,ol 18 69 17,oq 7 (.alloc 69),oq 8 (.alloc 69),os (.sto 69 (tq 7) (tq 13))],[os (.sto 69 (tq 8) (tq 18))]⟩]) (some ([1,2,3],[3]))/\SX 38 (xK 11) [om 19 1,om 20 2,ob 21 .neq 3 19 20,om 22 21,gz 22 true 23 69 7 3,gl 22 true 24 4 23,gm 22 true 25 24,gz 25 true 26 69 8 2,gl 25 true 27 4 26,og 22 true 28 (.pick (tq 25) (tq 27) (cb false)),gm 22 true 29 28,gz 29 false 30 69 7 2,gl 29 false 31 4 30,gm 29 false 32 31,gz 32 true 33 69 8 3,gl 32 true 34 4 33,og 29 false 35 (.pick (tq 32) (tq 34) (cb false)),og 22 true 36 (.pick (tq 29) (cb true) (tq 35)),oq 37 (.pick (tq 22) (tq 36) (cb false)),om 6 37] [1,2,7,8] [7,8]:=⟨rx,rx,rx⟩
def g93:=rg Tryz.f93
def c93:bq:=(.seq (g93 2) (.seq (g93 5) .ret))
theorem b93:Tryz.f93.body=some c93:=by kernel_rfl
@[simp] theorem x93:SX 26 (g93 2) [oq 2 (.box (tq 0)),oq 3 (.box (tq 1)),ot 4 false] [0,1] [2]/\SX 26 (g93 5) [oz 5 129 3 1,oz 6 87 5 0,ol 7 3 6,oz 8 45 2 0,oz 9 42 8 1,ol 10 3 9,oc 11 .sub 3 10 1,od 12 75 [tq 7,ci 0,tq 11],om 13 12,gz 13 true 14 129 3 1,gz 13 true 15 87 14 1,gl 13 true 16 3 15,gz 13 true 17 45 2 0,gz 13 true 18 42 17 2,gl 13 true 19 3 18,gz 13 true 20 129 3 0,gz 13 true 21 127 20 1,gl 13 true 22 3 21,gb 13 true 23 .sub 3 19 22,gd 13 true 24 75 [tq 16,ci 0,tq 23],oq 25 (.pick (tq 13) (tq 24) (cb false)),om 4 25] [2,3] [2,3]:=⟨rx,rx⟩
def g82:=rg Tryz.f82
def c82:bq:=(.seq (g82 2) (.seq (.seq (g82 9) (.cond (.tmp 14) (.seq (g82 37) .ret) .skip)) (.seq (g82 11) (.seq (g82 23) .ret))))
theorem b82:Tryz.f82.body=some c82:=by kernel_rfl
@[simp] theorem x82:SX 55 (g82 2) [oq 3 (.box (tq 0)),oq 4 (.box (tq 1)),oq 5 (.box (tq 2)),ot 6 false] [0,1,2] [3]/\SX 55 (g82 9) [oz 8 129 4 1,oz 9 87 8 0,ol 10 3 9,oz 11 129 5 1,oz 12 87 11 0,ol 13 3 12,ob 14 .neq 3 10 13] [3,4,5] [3,4,5]/\SX 55 (g82 37) [ot 6 true] [] []/\SX 55 (g82 11) [oz 15 129 4 1,oz 16 87 15 1,ol 17 3 16,oz 18 129 5 1,oz 19 87 18 1,ol 20 3 19,ob 21 .sub 3 17 20,oz 22 129 5 0,oz 23 127 22 1,ol 24 3 23,ob 25 .sub 3 21 24,oz 26 129 5 1,oz 27 87 26 1,ol 28 3 27,oz 29 129 4 1,oz 30 87 29 1,ol 31 3 30,ob 32 .sub 3 28 31,oz 33 129 4 0,oz 34 127 33 1,ol 35 3 34,ob 36 .sub 3 32 35,oq 37 (.oth (.call ⟨.builtin .max,#[tq 25,tq 36],#[3,3]⟩)),om 7 37] [3,4,5] [3,4,5]/\SX 55 (g82 23) [om 38 7,oc 39 .gtr 3 38 0,om 40 39,gm 40 false 41 7,gc 40 false 42 .eql 3 41 0,gm 40 false 43 42,gl 43 true 44 45 3,gz 43 true 45 129 4 0,gz 43 true 46 127 45 0,gl 43 true 47 3 46,gz 43 true 48 129 5 0,gz 43 true 49 127 48 0,gl 43 true 50 3 49,gd 43 true 51 106 [tq 44,tq 47,tq 50],og 43 true 52 (.oth (.unOp .not 4 (tq 51))),og 40 false 53 (.pick (tq 43) (tq 52) (cb false)),oq 54 (.pick (tq 40) (cb true) (tq 53)),om 6 54] [3,4,5,7] [3,4,5]:=⟨rx,rx,rx,rx,rx⟩
def WC:=rg Tryz.f77
@[simp] def ALY:bq:=(.seq (WC 18021) (.seq (.cond (.tmp 17) .skip (.exit 2)) (.seq (.block 3 (.seq (WC 288357) (.seq (WC 681573) (.cond (.tmp 20) (WC 1468005) .skip)))) (WC 124517))))
def XW:=ALY
@[simp] def ALZ:bq:=(.seq (WC 69) (.seq (.cond (.tmp 11) .skip (.exit 0)) (.seq (.block 1 (.seq (WC 1125) (.seq (WC 2661) (.block 2 (.loop XW))))) (WC 485))))
def XX:=ALZ
def c77:bq:=(.seq (WC 2) (.seq (.seq (WC 9) (.block 0 (.loop XX))) (.seq (WC 11) .ret)))
theorem b77:Tryz.f77.body=some c77:=by kernel_rfl
@[simp] theorem x77:UX 26 XW ALY/\UX 26 XX ALZ/\SX 26 (WC 2) [oq 1 (.box (tq 0)),ok 2 0] [0] [1]/\SX 26 (WC 9) [oz 7 45 1 2,ol 8 28 7,oe 9 8 28,ok 10 0] [1,2] [1]/\SX 26 (WC 69) [ob 11 .lss 3 10 9] [2,8,9,10] [1]/\SX 26 (WC 1125) [oi 12 28 8 10,ol 13 63 12,om 4 13] [2,8,9,10] [1]/\SX 26 (WC 2661) [om 14 4,oe 15 14 63,ok 16 0] [2,4,8,9,10] [1]/\SX 26 (WC 18021) [ob 17 .lss 3 16 15] [2,8,9,10,14,15,16] [1]/\SX 26 (WC 288357) [oi 18 63 14 16,ol 19 4 18,om 6 19] [2,8,9,10,14,15,16] [1]/\SX 26 (WC 681573) [om 20 6] [2,6,8,9,10,14,15,16] [1]/\SX 26 (WC 1468005) [om 21 2,oc 22 .add 3 21 1,om 2 22] [2,8,9,10,14,15,16] [1]/\SX 26 (WC 124517) [oc 23 .add 3 16 1,om 16 23] [2,8,9,10,14,15,16] [1]/\SX 26 (WC 485) [oc 24 .add 3 10 1,om 10 24] [2,8,9,10] [1]/\SX 26 (WC 11) [om 25 2,om 2 25] [2] []/\LX 26 XX [2,8,9,10] [1]/\LX 26 XW [2,8,9,10,14,15,16] [1]:=by and_intros<;>first|exact rx|exact lx|exact fun _ _=>rfl
def oR:=rg Tryz.f46
@[simp] def AL0:bq:=(.seq (oR 69) (.seq (.cond (.tmp 11) .skip (.exit 0)) (.seq (.block 1 (.seq (oR 1125) (.seq (oR 2661) (.cond (.tmp 18) (oR 5733) .skip)))) (oR 485))))
def XY:=AL0
def c46:bq:=(.seq (oR 2) (.seq (.seq (oR 9) (.block 0 (.loop XY))) (.seq (oR 11) .ret)))
theorem b46:Tryz.f46.body=some c46:=by kernel_rfl
@[simp] theorem x46:UX 28 XY AL0/\SX 28 (oR 2) [oq 2 (.box (tq 0)),oq 4 (.mv (.const (.slice none 0 0)))] [0,1] [2]/\SX 28 (oR 9) [oz 7 45 2 3,ol 8 43 7,oe 9 8 43,ok 10 0] [1,2,4] [2,25]/\SX 28 (oR 69) [ob 11 .lss 3 10 9] [1,4,8,9,10] [2,25]/\SX 28 (oR 1125) [om 12 10,oi 13 43 8 10,ol 14 69 13,oq 6 (.alloc 69),om 5 12,os (.sto 69 (tq 6) (tq 14))] [1,4,8,9,10] [2,25]/\SX 28 (oR 2661) [om 15 1,om 16 5,od 17 50 [tq 15,tq 16],ou 18 17] [1,4,5,6,8,9,10] [2,6,25]/\SX 28 (oR 5733) [om 19 4,om 20 5,oz 21 69 6 0,ol 22 3 21,oq 23 (.build 127 [(0,tq 20),(1,tq 22)]),oq 24 (.buildS 123 1 [(0,tq 23)]),oq 25 (.app [tq 19,tq 24] [123,123]),om 4 25] [1,4,5,6,8,9,10] [2,6,25]/\SX 28 (oR 485) [oc 26 .add 3 10 1,om 10 26] [1,4,8,9,10] [2,25]/\SX 28 (oR 11) [om 27 4,om 4 27] [4] [25]/\LX 28 XY [1,4,8,9,10] [2,25]:=⟨fun _ _=>rfl,rx,rx,rx,rx,rx,rx,rx,rx,lx⟩
def dC:=rg Tryz.f57
@[simp] def AL1:bq:=(.seq (dC 139) (.seq (.cond (.tmp 11) .skip (.exit 0)) (.seq (.block 1 (.seq (dC 2251) (.seq (dC 5323) (.seq (dC 11467) (.cond (.tmp 31) (.seq (dC 40139) .ret) .skip))))) (dC 971))))
def XZ:=AL1
def c57:bq:=(.seq (dC 2) (.seq (dC 5) (.seq (.seq (dC 19) (.block 0 (.loop XZ))) (.seq (dC 23) .ret))))
theorem b57:Tryz.f57.body=some c57:=by kernel_rfl
@[simp] theorem x57:UX 37 XZ AL1/\SX 37 (dC 2) [oq 2 (.box (tq 0)),ot 4 false] [0,1] [2,7]/\SX 37 (dC 5) [ok 5 0] [1,2] [2,7]/\SX 37 (dC 19) [om 8 1,oe 9 8 94,ok 10 0] [1,2,5] [2,7]/\SX 37 (dC 139) [ob 11 .lss 3 10 9] [1,2,5,8,9,10] [2,7]/\SX 37 (dC 2251) [om 12 10,oi 13 94 8 10,ol 14 129 13,oq 7 (.alloc 129),om 6 12,os (.sto 129 (tq 7) (tq 14))] [1,2,5,8,9,10] [2,7]/\SX 37 (dC 5323) [om 15 5,oz 16 129 7 0,oz 17 127 16 1,ol 18 3 17,ob 19 .add 3 15 18,om 5 19] [1,2,5,6,7,8,9,10] [2,7]/\SX 37 (dC 11467) [ol 20 45 2,ol 21 129 7,od 22 93 [tq 20,tq 21],ou 23 22,om 24 23,gm 24 false 25 1,gm 24 false 26 6,og 24 false 27 (.oth (.slice 94 (tq 25) none (some (tq 26)) none)),og 24 false 28 (.oth (.makeFunc (.func 94) #[] #[tq 2,tq 7])),gd 24 false 29 80 [tq 27,tq 28],og 24 false 30 (.oth (.unOp .not 4 (tq 29))),oq 31 (.pick (tq 24) (cb true) (tq 30))] [1,2,5,6,7,8,9,10] [2,7]/\SX 37 (dC 40139) [ot 4 false] [] []/\SX 37 (dC 971) [oc 32 .add 3 10 1,om 10 32] [1,2,5,6,8,9,10,16,17,18] [2,7,16,31]/\SX 37 (dC 23) [om 33 5,ol 34 45 2,od 35 77 [tq 34],ob 36 .leq 3 33 35,om 4 36] [2,5] [2,7]/\LX 37 XZ [1,2,5,8,9,10] [2,7]:=⟨fun _ _=>rfl,rx,rx,rx,rx,rx,rx,rx,rx,rx,rx,lx⟩
def g94:=rg Tryz.f94
def c94:bq:=(.seq (g94 2) (.seq (g94 5) .ret))
theorem b94:Tryz.f94.body=some c94:=by kernel_rfl
@[simp] theorem x94:SX 9 (g94 2) [oq 3 (.box (tq 0)),ot 4 false] [0,1,2] [3]/\SX 9 (g94 5) [ol 5 45 1,ol 6 129 2,ol 7 129 3,od 8 82 [tq 5,tq 6,tq 7],om 4 8] [0,1,2,3] [2,3]:=⟨rx,rx⟩
def dD:=rg Tryz.f32
@[simp] def AL2:bq:=(.seq (dD 279) (.seq (.cond (.tmp 19) .skip (.exit 0)) (.seq (.block 1 (.seq (dD 4503) (dD 6551))) (dD 1943))))
def X0:=AL2
def c32:bq:=(.seq (dD 2) (.seq (.seq (dD 9) (.cond (.tmp 14) (.seq (dD 37) .ret) .skip)) (.seq (dD 11) (.seq (.seq (dD 39) (.block 0 (.loop X0))) (.seq (dD 47) .ret)))))
theorem b32:Tryz.f32.body=some c32:=by kernel_rfl
@[simp] theorem BG1(n:Nat)(st:XS):AE bk ann kn (n+1) 37 (dD 47) st=OL (JI bk (BH bk ann kn n) (.str [om 33 6,ol 34 45 2,om 35 6,od 36 57 [tq 34,tq 35],om 4 33,om 5 36]) (CI (some ([2,6],[2,16,31])) (K7 [31] st))) :=
 DX (by kernel_rfl) (by kernel_rfl) (by kernel_rfl) (by kernel_rfl) (by kernel_rfl)
@[simp] theorem x32:UX 37 X0 AL2/\SX 37 (dD 2) [oq 2 (.box (tq 0)),oq 4 (.mv (.const (.slice none 0 0))),ot 5 false] [0,1] [2,16]/\SX 37 (dD 9) [om 9 1,oe 10 9 36,oz 11 45 2 3,ol 12 43 11,oe 13 12 43,ob 14 .neq 3 10 13] [1,2] [2,16]/\SX 37 (dD 37) [oq 4 (.mv (.const (.slice none 0 0))),ot 5 false] [] []/\SX 37 (dD 11) [oq 6 (.mv (.const (.slice none 0 0)))] [1,2] [2,16]/\SX 37 (dD 39) [ol 15 45 2,od 16 46 [tq 15,.const (.slice none 0 0)],oe 17 16 123,ok 18 0] [1,2,6] [2,16,31]/\SX 37 (dD 279) [ob 19 .lss 3 18 17] [1,2,6,16,17,18] [2,16,31]/\SX 37 (dD 4503) [om 20 18,oi 21 123 16 18,ol 22 127 21,oq 8 (.alloc 127),om 7 20,os (.sto 127 (tq 8) (tq 22))] [1,2,6,16,17,18] [2,16,31]/\RX 37 (dD 6551) (.drw [⟨[],[om 23 6,ol 24 127 8,om 25 1,om 26 7,oi 27 36 25 26,ol 28 87 27,oq 29 (.build 129 [(0,tq 24),(1,tq 28)]),oq 30 (.buildS 94 1 [(0,tq 29)]),oq 31 (.app [tq 23,tq 30] [94,94]),om 6 31],[]⟩]) (some ([1,2,6,7,8,16,17,18],[2,8,16,31]))/\SX 37 (dD 1943) [oc 32 .add 3 18 1,om 18 32] [1,2,5,6,8,9,10,16,17,18] [2,7,16,31]/\LX 37 X0 [1,2,6,16,17,18] [2,16,31]:=⟨fun _ _=>rfl,rx,rx,rx,rx,rx,rx,rx,rx,rx,lx⟩
def VA:=rg Tryz.f33
@[simp] def AL3:bq:=(.seq (VA 71269) (.seq (.cond (.tmp 37) .skip (.exit 2)) (.seq (.block 3 (.seq (VA 1152613) (VA 1676901))) (VA 497253))))
def X3:=AL3
@[simp] def AL4:bq:=(.seq (VA 69) (.seq (.cond (.tmp 15) .skip (.exit 0)) (.seq (.block 1 (.seq (VA 1125) (.seq (VA 2661) (.seq (.seq (VA 9829) (.block 2 (.loop X3))) (VA 7781))))) (VA 485))))
def X4:=AL4
def c33:bq:=(.seq (VA 2) (.seq (.seq (VA 9) (.block 0 (.loop X4))) (.seq (VA 11) .ret)))
theorem b33:Tryz.f33.body=some c33:=by kernel_rfl
@[simp] theorem x33:UX 51 X3 AL3/\UX 51 X4 AL4/\SX 51 (VA 2) [oq 3 (.box (tq 0)),oq 6 (.mv (.const (.slice none 0 0)))] [0,1,2] [3]/\SX 51 (VA 9) [om 12 1,oe 13 12 94,ok 14 0] [1,2,6] [48]/\SX 51 (VA 69) [ob 15 .lss 3 14 13] [2,6,12,13,14] [48]/\SX 51 (VA 1125) [oi 16 94 12 14,ol 17 129 16,oq 8 (.alloc 129),os (.sto 129 (tq 8) (tq 17))] [2,6,12,13,14] [48]/\SX 51 (VA 2661) [ok 9 0] [2,6,8,12,13,14] [8,48]/\RX 51 (VA 9829) (.drw [⟨[],[om 18 2,oz 19 129 8 1,oz 20 87 19 0,ol 21 3 20,oi 22 55 18 21,ol 23 58 22,oz 24 129 8 1,oz 25 87 24 1,ol 26 3 25,oz 27 129 8 1,oz 28 87 27 1,ol 29 3 28,oz 30 129 8 0,oz 31 127 30 1,ol 32 3 31,ob 33 .add 3 29 32,oq 34 (.oth (.slice 58 (tq 23) (some (tq 26)) (some (tq 33)) none)),oe 35 34 58,ok 36 0],[]⟩]) (some ([2,6,8,9,12,13,14],[8,48]))/\SX 51 (VA 71269) [ob 37 .lss 3 36 35] [2,6,9,12,13,14,34,35,36] [48]/\SX 51 (VA 1152613) [oi 38 58 34 36,ol 39 60 38,oq 11 (.alloc 60),os (.sto 60 (tq 11) (tq 39))] [2,6,9,12,13,14,34,35,36] [48]/\SX 51 (VA 1676901) [om 40 9,oz 41 60 11 2,ol 42 3 41,ob 43 .add 3 40 42,om 9 43] [2,6,9,11,12,13,14,34,35,36] [11,48]/\SX 51 (VA 497253) [oc 44 .add 3 36 1,om 36 44] [2,6,9,12,13,14,34,35,36] [48]/\SX 51 (VA 7781) [om 45 6,om 46 9,oq 47 (.buildS 22 1 [(0,tq 46)]),oq 48 (.app [tq 45,tq 47] [22,22]),om 6 48] [2,6,9,12,13,14] [48]/\SX 51 (VA 485) [oc 49 .add 3 14 1,om 14 49] [2,6,12,13,14] [48]/\SX 51 (VA 11) [om 50 6,om 6 50] [6] [48]/\LX 51 X4 [2,6,12,13,14] [48]/\LX 51 X3 [2,6,9,12,13,14,34,35,36] [48]:=by and_intros<;>first|exact rx|exact lx|exact fun _ _=>rfl
def iW:=rg Tryz.f12
def c12:bq:=(.seq (iW 2) (.seq (.seq (iW 9) (.seq (iW 21) (.cond (.tmp 16) (.seq (iW 77) .ret) .skip))) (.seq (iW 11) (.seq (iW 23) (.seq (.seq (iW 79) (.cond (.tmp 38) (.seq (iW 303) .ret) .skip)) (.seq (iW 95) .ret))))))
theorem b12:Tryz.f12.body=some c12:=by kernel_rfl
@[simp] theorem x12:SX 43 (iW 2) [oq 3 (.box (tq 0)),oq 6 (.mv (.const (.slice none 0 0))),ok 7 0] [0,1,2] [3,21,30,42]/\SX 43 (iW 9) [ol 13 45 3,od 14 31 [tq 13],om 8 14] [1,2,3] [3,21,30,42]/\SX 43 (iW 21) [om 15 8,oc 16 .neq 37 15 0] [1,2,3,8] [3,21,30,42]/\SX 43 (iW 77) [om 17 8,oq 6 (.mv (.const (.slice none 0 0))),om 7 17] [8] []/\SX 43 (iW 11) [ol 19 45 3,om 20 1,od 21 32 [tq 19,tq 20],om 18 21,oq 22 (.oth (.extract (tq 18) 0)),oq 23 (.oth (.extract (tq 18) 1)),om 9 22,om 10 23] [1,2,3] [3,21,30,42]/\SX 43 (iW 23) [oz 25 45 3 0,ol 26 42 25,oz 27 45 3 1,ol 28 23 27,om 29 2,od 30 13 [tq 26,tq 28,tq 29],om 24 30,oq 31 (.oth (.extract (tq 24) 0)),oq 32 (.oth (.extract (tq 24) 1)),om 11 31,om 12 32] [2,3,9,10] [3,21,30,42]/\SX 43 (iW 79) [om 33 10,ou 34 33,om 35 34,gm 35 false 36 12,gc 35 false 37 .neq 37 36 0,oq 38 (.pick (tq 35) (cb true) (tq 37))] [3,9,10,11,12] [3,21,30,42]/\SX 43 (iW 303) [oq 6 (.mv (.const (.slice none 0 0))),ok 7 2] [] []/\SX 43 (iW 95) [ol 39 45 3,om 40 9,om 41 11,od 42 33 [tq 39,tq 40,tq 41],om 6 42,ok 7 0] [3,9,11] [3,21,30,42]:=by and_intros<;>exact rx
def TE:=rg Tryz.f79
@[simp] def AL5:bq:=(lp (TE 4267) 32 0 1 (.seq (TE 17579) (.seq (TE 42155) (.seq (TE 91307) (.seq (TE 189611) (.cond (.tmp 82) (TE 386219) .skip))))) (TE 7339))
def X5:=AL5
def c79:bq:=(.seq (TE 2) (.seq (TE 5) (.seq (.seq (TE 19) (.cond (.tmp 19) (.seq (TE 75) (.seq (.seq (TE 299) (.block 0 (.loop X5))) (TE 235))) .skip)) (.seq (TE 23) .ret))))
theorem b79:Tryz.f79.body=some c79:=by kernel_rfl
@[simp] theorem x79:UX 94 X5 AL5/\SX 94 (TE 2) [oq 3 (.box (tq 1)),oq 4 (.alloc 74)] [0,1] []/\RX 94 (TE 5) (.drw [⟨[5],[om 10 0,oq 11 (.oth (.nilCheck (tq 10))),oz 12 114 11 2,oq 13 (.ldz 111 (tq 12)),oq 14 (.ldz 129 (tq 3)),oq 15 (.oth (.lookup 111 (tq 13) (tq 14) true)),om 9 15,oq 16 (.oth (.extract (tq 9) 0)),oq 17 (.oth (.extract (tq 9) 1)),oq 5 (.alloc 74),os (.sto 74 (tq 5) (tq 16)),om 6 17],[]⟩]) (some ([0,3,4],[3,4]))/\SX 94 (TE 19) [om 18 6,ou 19 18] [0,3,4,5,6] [3,4,5]/\SX 94 (TE 75) [oz 20 74 5 2,os (.sto 4 (tq 20) (cb true))] [0,3,4,5] [3,4,5]/\SX 94 (TE 299) [oz 21 129 3 1,oz 22 87 21 1,ol 23 3 22,om 7 23] [0,3,4,5] [3,4,5]/\SX 94 (TE 4267) [om 24 7,oz 25 129 3 1,oz 26 87 25 1,ol 27 3 26,oz 28 129 3 0,oz 29 127 28 1,ol 30 3 29,ob 31 .add 3 27 30,ob 32 .lss 3 24 31] [0,3,4,5,7] [3,4,5]/\RX 94 (TE 17579) (.drw [⟨[],[om 35 0,oq 36 (.oth (.nilCheck (tq 35))),oz 37 114 36 1,ol 38 112 37,oz 39 129 3 1,oz 40 87 39 0,ol 41 3 40,om 42 7,oi 43 112 38 41,oi 44 117 43 42,ol 45 3 44,om 8 45],[]⟩]) (some ([0,3,4,5,7],[3,4,5]))/\SX 94 (TE 42155) [oz 46 74 5 0,ol 47 3 46,om 48 8,ob 49 .add 3 47 48,oz 50 74 5 0,os (.sto 3 (tq 50) (tq 49))] [0,3,4,5,7,8] [3,4,5]/\RX 94 (TE 91307) (.drw [⟨[],[oz 51 74 5 2,oq 52 (.ldz 4 (tq 51)),om 53 52,gm 53 true 54 8,gm 53 true 55 0,og 53 true 56 (.oth (.nilCheck (tq 55))),gz 53 true 57 114 56 0,gz 53 true 58 45 57 3,og 53 true 59 (.ldz 43 (tq 58)),gz 53 true 60 129 3 0,gz 53 true 61 127 60 0,og 53 true 62 (.ldz 3 (tq 61)),gi 53 true 63 43 59 62,gz 53 true 64 69 63 1,og 53 true 65 (.ldz 3 (tq 64)),gb 53 true 66 .geq 3 54 65,oq 67 (.pick (tq 53) (tq 66) (cb false)),oz 68 74 5 2],[os (.sto 4 (tq 68) (tq 67))]⟩]) (some ([0,3,4,5,7,8],[3,4,5]))/\RX 94 (TE 189611) (.drw [⟨[],[om 69 0,oq 70 (.oth (.nilCheck (tq 69))),oz 71 114 70 0,oz 72 45 71 2,ol 73 28 72,oz 74 129 3 1,oz 75 87 74 0,ol 76 3 75,oi 77 28 73 76,ol 78 63 77,om 79 7,oi 80 63 78 79,ol 81 4 80,ou 82 81],[]⟩]) (some ([0,3,4,5,7],[3,4,5]))/\SX 94 (TE 386219) [oz 83 74 5 1,ol 84 3 83,oc 85 .add 3 84 1,oz 86 74 5 1,os (.sto 3 (tq 86) (tq 85))] [0,3,4,5,7] [3,4,5]/\SX 94 (TE 7339) [om 33 7,oc 34 .add 3 33 1,om 7 34] [0,3,4,5,7] [3,4,5]/\RX 94 (TE 235) (.drw [⟨[],[om 87 0,oq 88 (.oth (.nilCheck (tq 87))),oz 89 114 88 2,ol 90 111 89,ol 91 129 3,ol 92 74 5],[os (.upd 111 (tq 90) (tq 91) (tq 92))]⟩]) (some ([0,3,4,5],[3,4,5]))/\SX 94 (TE 23) [ol 93 74 5,os (.sto 74 (tq 4) (tq 93))] [4,5] [4,5]/\LX 94 X5 [0,3,4,5,7] [3,4,5]:=by and_intros<;>first|exact rx|exact lx|exact fun _ _=>rfl
def iX:=rg Tryz.f47
@[simp] def AL6:bq:=(.seq (iX 139) (.seq (.cond (.tmp 13) .skip (.exit 0)) (.seq (.block 1 (.seq (iX 2251) (.seq (iX 5323) (iX 7371)))) (iX 971))))
def X6:=AL6
def c47:bq:=(.seq (iX 2) (.seq (iX 5) (.seq (.seq (iX 19) (.block 0 (.loop X6))) (.seq (iX 23) .ret))))
theorem b47:Tryz.f47.body=some c47:=by kernel_rfl
@[simp] theorem x47:UX 38 X6 AL6/\SX 38 (iX 2) [oq 4 (.alloc 74)] [0,1] []/\SX 38 (iX 5) [oq 9 (.build 74 [(2,cb true)]),oq 5 (.alloc 74),os (.sto 74 (tq 5) (tq 9))] [0,1,4] [4]/\SX 38 (iX 19) [om 10 1,oe 11 10 94,ok 12 0] [0,1,4,5] [4,5]/\SX 38 (iX 139) [ob 13 .lss 3 12 11] [0,4,5,10,11,12] [4,5]/\SX 38 (iX 2251) [oi 14 94 10 12,ol 15 129 14,oq 7 (.alloc 129),os (.sto 129 (tq 7) (tq 15))] [0,4,5,10,11,12] [4,5]/\SX 38 (iX 5323) [om 16 0,ol 17 129 7,oq 18 (.call true none (.func 79) [tq 16,tq 17]),oq 8 (.alloc 74),os (.sto 74 (tq 8) (tq 18))] [0,4,5,7,10,11,12] [4,5,7]/\SX 38 (iX 7371) [oz 19 74 5 0,ol 20 3 19,oz 21 74 8 0,ol 22 3 21,ob 23 .add 3 20 22,oz 24 74 5 1,ol 25 3 24,oz 26 74 8 1,ol 27 3 26,ob 28 .add 3 25 27,oz 29 74 5 2,ol 30 4 29,om 31 30,gz 31 true 32 74 8 2,gl 31 true 33 4 32,oq 34 (.pick (tq 31) (tq 33) (cb false)),oq 35 (.build 74 [(0,tq 23),(1,tq 28),(2,tq 34)]),os (.sto 74 (tq 5) (tq 35))] [0,4,5,8,10,11,12] [4,5,8]/\SX 38 (iX 971) [oc 36 .add 3 12 1,om 12 36] [0,4,5,10,11,12] [4,5]/\SX 38 (iX 23) [ol 37 74 5,os (.sto 74 (tq 4) (tq 37))] [4,5] [4,5]/\LX 38 X6 [0,4,5,10,11,12] [4,5]:=⟨fun _ _=>rfl,rx,rx,rx,rx,rx,rx,rx,rx,rx,lx⟩
def NR:=rg Tryz.f78
@[simp] def AL7:bq:=(.seq (NR 36043) (.seq (.cond (.tmp 41) .skip (.exit 2)) (.seq (.block 3 (.seq (NR 576715) (.seq (NR 1363147) (.seq (.seq (NR 5033163) (.cond (.tmp 61) (.exit 3) .skip)) (.seq (NR 6081739) (.seq (.seq (NR 20761803) (.cond (.tmp 70) (.seq (NR 79482059) .ret) .skip)) (NR 16567499))))))) (NR 249035))))
def X7:=AL7
@[simp] def AL8:bq:=(.seq (NR 139) (.seq (.cond (.tmp 25) .skip (.exit 0)) (.seq (.block 1 (.seq (NR 2251) (.seq (NR 5323) (.block 2 (.loop X7))))) (NR 971))))
def X8:=AL8
def c78:bq:=(.seq (NR 2) (.seq (.seq (NR 9) (.cond (.tmp 14) (.seq (NR 37) .ret) .skip)) (.seq (.seq (NR 19) (.block 0 (.loop X8))) (.seq (NR 23) .ret))))
theorem b78:Tryz.f78.body=some c78:=by kernel_rfl
@[simp] theorem BB9(n:Nat)(st:XS):AE bk ann kn (n+1) 76 (NR 20761803) st=OL (JI bk (BH bk ann kn n) (.str [ol 66 139 5,om 67 0,oc 68 .add 3 67 1,oq 69 (.call false none (tq 66) [tq 68]),ou 70 69]) (CI (some ([0,1,3,4,5,8,23,24,39,40],[10,65])) (K7 [8004000922065] st))) :=
 DX (by kernel_rfl) (by kernel_rfl) (by kernel_rfl) (by kernel_rfl) (by kernel_rfl)
@[simp] theorem x78:UX 76 X7 AL7/\UX 76 X8 AL8/\SX 76 (NR 2) [ot 7 false] [0,1,2,3,4,5] [10,65]/\SX 76 (NR 9) [om 11 0,ol 12 123 1,oe 13 12 123,ob 14 .eql 3 11 13] [0,1,2,3,4,5] [10,65]/\SX 76 (NR 37) [ol 15 144 2,ol 16 94 3,oq 17 (.call false none (tq 15) [tq 16]),om 7 17] [2,3] [65]/\SX 76 (NR 19) [ol 18 70 4,oq 19 (.oth (.nilCheck (tq 18))),oz 20 114 19 0,oz 21 45 20 0,oz 22 42 21 1,ol 23 3 22,ok 24 0] [0,1,3,4,5] [10,65]/\SX 76 (NR 139) [ob 25 .lss 3 24 23] [0,1,3,4,5,23,24] [10,65]/\SX 76 (NR 2251) [om 26 24,om 8 26] [0,1,3,4,5,23,24] [10,65]/\RX 76 (NR 5323) (.drw [⟨[],[ol 27 70 4,oq 28 (.oth (.nilCheck (tq 27))),oz 29 114 28 0,oz 30 45 29 0,oz 31 42 30 2,ol 32 3 31,ol 33 123 1,om 34 0,oi 35 123 33 34,oz 36 127 35 1,ol 37 3 36,ob 38 .sub 3 32 37,oc 39 .add 3 38 1,ok 40 0],[]⟩]) (some ([0,1,3,4,5,8,23,24],[10,65]))/\SX 76 (NR 36043) [ob 41 .lss 3 40 39] [0,1,3,4,5,8,23,24,39,40] [10,65]/\SX 76 (NR 576715) [om 42 40,om 9 42] [0,1,3,4,5,8,23,24,39,40] [10,65]/\SX 76 (NR 1363147) [ol 43 123 1,om 44 0,oi 45 123 43 44,ol 46 127 45,om 47 8,om 48 9,oq 49 (.build 87 [(0,tq 47),(1,tq 48)]),oq 50 (.build 129 [(0,tq 46),(1,tq 49)]),oq 10 (.alloc 129),os (.sto 129 (tq 10) (tq 50))] [0,1,3,4,5,8,9,23,24,39,40] [10,65]/\SX 76 (NR 5033163) [ol 51 70 4,ol 52 129 10,od 53 79 [tq 51,tq 52],oq 54 (.oth (.field 74 (tq 53) 2)),ou 55 54,om 56 55,gl 56 false 57 94 3,og 56 false 58 (.oth (.makeFunc (.func 81) #[] #[tq 4,tq 10])),gd 56 false 59 80 [tq 57,tq 58],og 56 false 60 (.oth (.unOp .not 4 (tq 59))),oq 61 (.pick (tq 56) (cb true) (tq 60))] [0,1,3,4,5,8,10,23,24,39,40] [10,65]/\SX 76 (NR 6081739) [ol 62 94 3,ol 63 129 10,oq 64 (.buildS 94 1 [(0,tq 63)]),oq 65 (.app [tq 62,tq 64] [94,94]),os (.sto 94 (tq 3) (tq 65))] [0,1,3,4,5,8,10,23,24,39,40] [10,65]/\SX 76 (NR 79482059) [ot 7 false] [] []/\SX 76 (NR 16567499) [ol 71 94 3,om 72 0,oq 73 (.oth (.slice 94 (tq 71) none (some (tq 72)) none)),os (.sto 94 (tq 3) (tq 73))] [0,1,3,4,5,8,23,24,39,40] [10,65]/\SX 76 (NR 249035) [oc 74 .add 3 40 1,om 40 74] [0,1,3,4,5,8,23,24,39,40] [10,65]/\SX 76 (NR 971) [oc 75 .add 3 24 1,om 24 75] [0,1,3,4,5,23,24] [10,65]/\SX 76 (NR 23) [ot 7 true] [] []/\LX 76 X8 [0,1,3,4,5,23,24] [10,65]/\LX 76 X7 [0,1,3,4,5,8,23,24,39,40] [10,65]:=by and_intros<;>first|exact rx|exact lx|exact fun _ _=>rfl
def g81:=rg Tryz.f81
def c81:bq:=(.seq (g81 2) (.seq (g81 5) .ret))
theorem b81:Tryz.f81.body=some c81:=by kernel_rfl
@[simp] theorem x81:SX 12 (g81 2) [oq 3 (.box (tq 0)),ot 4 false] [0,1,2] []/\RX 12 (g81 5) (.drw [⟨[],[ol 5 70 1,oq 6 (.oth (.nilCheck (tq 5))),oz 7 114 6 0,ol 8 45 7,ol 9 129 2,ol 10 129 3],[od 11 82 [tq 8,tq 9,tq 10]]⟩,⟨[],[om 4 11],[]⟩]) (some ([1,2,3],[3])):=⟨rx,rx⟩
def g45:=rg Tryz.f45
def c45:bq:=(.seq (g45 2) (.seq (g45 5) .ret))
theorem b45:Tryz.f45.body=some c45:=by kernel_rfl
@[simp] theorem x45:SX 6 (g45 2) [oq 2 (.box (tq 0)),oq 3 (.box (tq 1)),oq 4 (.mv (.const .nilFunc))] [0,1] [2,3]/\SX 6 (g45 5) [oq 5 (.oth (.makeFunc (.func 76) #[] #[tq 3,tq 2])),om 4 5] [2,3] [2,3]:=⟨rx,rx⟩
def WD:=rg Tryz.f76
@[simp] def AL9:bq:=(.seq (WD 139) (.seq (.cond (.tmp 12) .skip (.exit 0)) (.seq (.block 1 (.seq (WD 2251) (WD 3275))) (WD 971))))
def X9:=AL9
def c76:bq:=(.seq (WD 2) (.seq (WD 5) (.seq (.seq (WD 19) (.block 0 (.loop X9))) (.seq (.seq (WD 39) (.cond (.tmp 26) .ret .skip)) (.seq (WD 47) (.seq (WD 95) (.seq (WD 191) (WD 255))))))))
theorem b76:Tryz.f76.body=some c76:=by kernel_rfl
@[simp] theorem x76:UX 30 X9 AL9/\SX 30 (WD 2) [oq 3 (.box (tq 0))] [0,1,2] [3,7,8]/\SX 30 (WD 5) [ok 4 0] [1,2,3] [3,7,8]/\SX 30 (WD 19) [ol 9 123 1,oe 10 9 123,ok 11 0] [1,2,3,4] [3,7,8]/\SX 30 (WD 139) [ob 12 .lss 3 11 10] [1,2,3,4,9,10,11] [3,7,8]/\SX 30 (WD 2251) [oi 13 123 9 11,ol 14 127 13,oq 6 (.alloc 127),os (.sto 127 (tq 6) (tq 14))] [1,2,3,4,9,10,11] [3,7,8]/\SX 30 (WD 3275) [om 15 4,oz 16 127 6 1,ol 17 3 16,ob 18 .add 3 15 17,om 4 18] [1,2,3,4,6,9,10,11] [3,6,7,8]/\SX 30 (WD 971) [oc 19 .add 3 11 1,om 11 19] [1,2,3,4,9,10,11] [3,7,8]/\SX 30 (WD 39) [om 20 4,ol 21 70 2,oq 22 (.oth (.nilCheck (tq 21))),oz 23 114 22 0,ol 24 45 23,od 25 77 [tq 24],ob 26 .gtr 3 20 25] [1,2,3,4] [3,7,8]/\SX 30 (WD 47) [oq 7 (.alloc 94)] [1,2,3] [3,7,8]/\SX 30 (WD 95) [oq 8 (.alloc 139)] [1,2,3,7] [3,7,8]/\SX 30 (WD 191) [oq 27 (.oth (.makeFunc (.func 78) #[] #[tq 1,tq 3,tq 7,tq 2,tq 8])),os (.sto 139 (tq 8) (tq 27))] [1,2,3,7,8] [3,7,8]/\SX 30 (WD 255) [ol 28 139 8,oq 29 (.call false none (tq 28) [ci 0])] [8] [3,7,8]/\LX 30 X9 [1,2,3,4,9,10,11] [3,7,8]:=⟨fun _ _=>rfl,rx,rx,rx,rx,rx,rx,rx,rx,rx,rx,rx,rx,lx⟩
def II:=rg Tryz.f19
@[simp] def AMA:bq:=(.seq (II 17877) (.seq (.cond (.tmp 45) .skip (.exit 2)) (.seq (.block 3 (.seq (II 288213) (II 419285))) (II 124373))))
def NW:=AMA
def c19:bq:=(.seq (II 2) (.seq (.seq (II 9) (.block 0 (.rangeFunc (.tmp 15) #[16] (II 37) (.block 1 (.seq (II 149) (.seq (.seq (II 597) (.cond (.tmp 41) (.exit 1) .skip)) (.seq (II 725) (.seq (.seq (II 2517) (.block 2 (.loop NW))) (II 2005))))))))) (.seq (II 11) .ret)))
theorem b19:Tryz.f19.body=some c19:=by kernel_rfl
@[simp] theorem BCB(n:Nat)(st:XS):AE bk ann kn (n+1) 58 (II 124373) st=OL (JI bk (BH bk ann kn n) (.str [oc 53 .add 3 44 1,om 44 53]) (CI (some ([2,3,4,6,42,43,44],[2,3,4,6,52,922])) (K7 [3003000923052] st))) :=
 DX (by kernel_rfl) (by kernel_rfl) (by kernel_rfl) (by kernel_rfl) (by kernel_rfl)
@[simp] theorem BCC(n:Nat)(st:XS):AE bk ann kn (n+1) 58 (II 11) st=OL (JI bk (BH bk ann kn n) (.cls [(36,(2,55)),(74,(3,56)),(4,(4,57))]) (CI (some ([2,3,4],[2,3,4,52,922])) (K7 [922] st))) :=
 DX (by kernel_rfl) (by kernel_rfl) (by kernel_rfl) (by kernel_rfl) (by kernel_rfl)
@[simp] theorem x19:UX 58 NW AMA/\SX 58 (II 2) [oq 1 (.box (tq 0)),oq 2 (.alloc 36),oq 3 (.alloc 74),oq 4 (.alloc 4)] [0] [1,14,15]/\RX 58 (II 9) (.drw [⟨[],[ol 9 70 1,ol 10 70 1,oq 11 (.oth (.nilCheck (tq 10))),oz 12 114 11 0,ol 13 45 12,od 14 46 [tq 13,.const (.slice none 0 0)]],[od 15 45 [tq 9,tq 14]]⟩,⟨[],[],[]⟩]) (some ([1,2,3,4],[1,2,3,4,52,922]))/\SX 58 (II 37) [om 5 16] [1,2,3,4,16] [1,2,3,4,14,15,52,922]/\SX 58 (II 149) [ol 17 70 1,om 18 5,oq 19 (.call true none (.func 47) [tq 17,tq 18]),oq 6 (.alloc 74),os (.sto 74 (tq 6) (tq 19))] [1,2,3,4,5] [1,2,3,4,14,15,52,922]/\SX 58 (II 597) [ol 20 4 4,om 21 20,gz 21 true 22 74 6 0,gl 21 true 23 3 22,gz 21 true 24 74 3 0,gl 21 true 25 3 24,gb 21 true 26 .lss 3 23 25,gm 21 true 27 26,gz 27 false 28 74 6 0,gl 27 false 29 3 28,gz 27 false 30 74 3 0,gl 27 false 31 3 30,gb 27 false 32 .eql 3 29 31,gm 27 false 33 32,gz 33 true 34 74 6 1,gl 33 true 35 3 34,gz 33 true 36 74 3 1,gl 33 true 37 3 36,gb 33 true 38 .geq 3 35 37,og 27 false 39 (.pick (tq 33) (tq 38) (cb false)),og 21 true 40 (.pick (tq 27) (cb true) (tq 39)),oq 41 (.pick (tq 21) (tq 40) (cb false))] [2,3,4,5,6] [2,3,4,6,52,922]/\SX 58 (II 725) [os (.sto 36 (tq 2) (.const (.slice none 0 0)))] [2,3,4,5,6] [2,3,4,6,52,922]/\SX 58 (II 2517) [om 42 5,oe 43 42 94,ok 44 0] [2,3,4,5,6] [2,3,4,6,52,922]/\SX 58 (II 17877) [ob 45 .lss 3 44 43] [2,3,4,6,42,43,44] [2,3,4,6,52,922]/\SX 58 (II 288213) [oi 46 94 42 44,ol 47 129 46,oq 8 (.alloc 129),os (.sto 129 (tq 8) (tq 47))] [2,3,4,6,42,43,44] [2,3,4,6,52,922]/\SX 58 (II 419285) [ol 48 36 2,oz 49 129 8 1,ol 50 87 49,oq 51 (.buildS 36 1 [(0,tq 50)]),oq 52 (.app [tq 48,tq 51] [36,36]),os (.sto 36 (tq 2) (tq 52))] [2,3,4,6,8,42,43,44] [2,3,4,6,8,52,922]/\SX 58 (II 2005) [ol 54 74 6,os (.sto 74 (tq 3) (tq 54)),os (.sto 4 (tq 4) (cb true))] [3,4,6] [3,4,6]/\LX 58 NW [2,3,4,6,42,43,44] [2,3,4,6,52,922]:=⟨fun _ _=>rfl,rx,rx,rx,rx,rx,rx,rx,rx,rx,rx,rx,lx⟩
def g7:=rg Tryz.f7
def c7:bq:=(.seq (g7 2) (.seq (g7 5) (.seq (.seq (g7 19) (.cond (.tmp 15) (.seq (g7 75) .ret) .skip)) (.seq (g7 23) (.seq (.seq (g7 79) (.cond (.tmp 24) (.seq (g7 303) .ret) .skip)) (.seq (g7 95) .ret))))))
theorem b7:Tryz.f7.body=some c7:=by kernel_rfl
@[simp] theorem x7:SX 30 (g7 2) [oq 1 (.box (tq 0)),oq 2 (.mv (.const (.slice none 0 0))),ok 3 0,ok 4 0,ok 5 0] [0] [1,11,19,910,911]/\SX 30 (g7 5) [ol 10 45 1,od 11 18 [tq 10],om 9 11,oq 12 (.oth (.extract (tq 9) 0)),oq 13 (.oth (.extract (tq 9) 1)),om 6 12,om 5 13] [1] [1,11,19,910,911]/\SX 30 (g7 19) [om 14 5,oc 15 .neq 37 14 0] [5,6] [1,11,19,910,911]/\SX 30 (g7 75) [om 16 5,oq 2 (.mv (.const (.slice none 0 0))),ok 3 0,ok 4 0,om 5 16] [5] []/\SX 30 (g7 23) [om 18 6,od 19 19 [tq 18],om 17 19,oq 20 (.oth (.extract (tq 17) 0)),oq 21 (.oth (.extract (tq 17) 1)),oq 22 (.oth (.extract (tq 17) 2)),oq 7 (.alloc 74),om 2 20,os (.sto 74 (tq 7) (tq 21)),om 8 22] [6] [1,11,19,910,911]/\SX 30 (g7 79) [om 23 8,ou 24 23] [2,7,8] [1,7,11,19,910,911]/\SX 30 (g7 303) [oq 2 (.mv (.const (.slice none 0 0))),ok 3 0,ok 4 0,ok 5 10] [] []/\RX 30 (g7 95) (.drw [⟨[],[om 25 2,oz 26 74 7 0,ol 27 3 26,oz 28 74 7 1,ol 29 3 28,om 2 25,om 3 27,om 4 29,ok 5 0],[]⟩]) (some ([2,7],[1,7,11,19,910,911])):=by and_intros<;>exact rx
def tZ:=rg Tryz.f16
@[simp] def AMB:bq:=(lp (tZ 133) 9 0 1 (.seq (tZ 549) (.cond (.tmp 27) (.seq (tZ 2341) .ret) .skip)) (tZ 229))
def YA:=AMB
def c16:bq:=(.seq (tZ 2) (.seq (.seq (tZ 9) (.block 0 (.loop YA))) (.seq (tZ 11) .ret)))
theorem b16:Tryz.f16.body=some c16:=by kernel_rfl
@[simp] theorem x16:UX 34 YA AMB/\SX 34 (tZ 2) [oq 2 (.box (tq 0)),ot 4 false] [0,1] [2]/\SX 34 (tZ 9) [ok 5 0] [1,2] [2]/\SX 34 (tZ 133) [om 6 5,om 7 1,oe 8 7 23,ob 9 .lss 3 6 8] [1,2,5] [2]/\RX 34 (tZ 549) (.drw [⟨[],[om 12 1,om 13 5,oi 14 23 12 13,ol 15 22 14,oe 16 15 22,oz 17 27 2 1,ol 18 3 17,ob 19 .neq 3 16 18,om 20 19,gm 20 false 21 1,gm 20 false 22 5,gi 20 false 23 23 21 22,gl 20 false 24 22 23],[gd 20 false 25 38 [tq 24,ci 0]]⟩,⟨[],[og 20 false 26 (.oth (.unOp .not 4 (tq 25))),oq 27 (.pick (tq 20) (cb true) (tq 26))],[]⟩]) (some ([1,2,5],[2]))/\SX 34 (tZ 2341) [ot 4 false] [] []/\SX 34 (tZ 229) [om 10 5,oc 11 .add 3 10 1,om 5 11] [1,2,5] [2]/\SX 34 (tZ 11) [om 28 1,oe 29 28 23,oz 30 27 2 0,ol 31 3 30,oc 32 .add 3 31 1,ob 33 .eql 3 29 32,om 4 33] [1,2] [2]/\LX 34 YA [1,2,5] [2]:=⟨fun _ _=>rfl,rx,rx,rx,rx,rx,rx,rx,lx⟩
def iY:=rg Tryz.f48
@[simp] def AMC:bq:=(lp (iY 267) 15 0 1 (.seq (iY 1099) (.cond (.tmp 28) (.seq (iY 4683) .ret) .skip)) (iY 459))
def YB:=AMC
def c48:bq:=(.seq (iY 2) (.seq (.seq (iY 9) (.cond (.tmp 11) (.seq (iY 37) .ret) .skip)) (.seq (.seq (iY 19) (.block 0 (.loop YB))) (.seq (iY 23) .ret))))
theorem b48:Tryz.f48.body=some c48:=by kernel_rfl
@[simp] theorem x48:UX 29 YB AMC/\SX 29 (iY 2) [oq 2 (.box (tq 0)),ot 4 false] [0,1] [2]/\SX 29 (iY 9) [om 6 1,oe 7 6 22,oz 8 27 2 6,ol 9 23 8,oe 10 9 23,ob 11 .neq 3 7 10] [1,2] [2]/\SX 29 (iY 37) [ot 4 false] [] []/\SX 29 (iY 19) [ok 5 0] [1,2] [2]/\SX 29 (iY 267) [om 12 5,om 13 1,oe 14 13 22,ob 15 .lss 3 12 14] [1,2,5] [2]/\RX 29 (iY 1099) (.drw [⟨[],[oz 18 27 2 6,ol 19 23 18,om 20 5,oi 21 23 19 20,ol 22 22 21,om 23 1,om 24 5,oi 25 22 23 24,ol 26 3 25],[od 27 83 [tq 22,tq 26]]⟩,⟨[],[ou 28 27],[]⟩]) (some ([1,2,5],[2]))/\SX 29 (iY 4683) [ot 4 false] [] []/\SX 29 (iY 459) [om 16 5,oc 17 .add 3 16 1,om 5 17] [1,2,5] [2]/\SX 29 (iY 23) [ot 4 true] [] []/\LX 29 YB [1,2,5] [2]:=⟨fun _ _=>rfl,rx,rx,rx,rx,rx,rx,rx,rx,rx,lx⟩
def iZ:=rg Tryz.f23
@[simp] def AMD:bq:=(lp (iZ 267) 14 0 1 (.seq (iZ 1099) (.cond (.tmp 32) (.seq (iZ 4683) .ret) .skip)) (iZ 459))
def YC:=AMD
def c23:bq:=(.seq (iZ 2) (.seq (.seq (iZ 9) (.cond (.tmp 9) (.seq (iZ 37) .ret) .skip)) (.seq (.seq (iZ 19) (.block 0 (.loop YC))) (.seq (iZ 23) .ret))))
theorem b23:Tryz.f23.body=some c23:=by kernel_rfl
@[simp] theorem x23:UX 33 YC AMD/\SX 33 (iZ 2) [oq 2 (.box (tq 0)),ot 4 false] [0,1] [2]/\SX 33 (iZ 9) [ol 6 27 2,om 7 1,od 8 48 [tq 6,tq 7],ou 9 8] [1,2] [2]/\SX 33 (iZ 37) [ot 4 false] [] []/\SX 33 (iZ 19) [ok 5 0] [1,2] [2]/\SX 33 (iZ 267) [om 10 5,oz 11 27 2 8,ol 12 25 11,oe 13 12 25,ob 14 .lss 3 10 13] [1,2,5] [2]/\RX 33 (iZ 1099) (.drw [⟨[],[om 17 1,oz 18 27 2 8,ol 19 25 18,om 20 5,oi 21 25 19 20,oz 22 91 21 0,ol 23 3 22,oi 24 22 17 23,ol 25 3 24,oz 26 27 2 8,ol 27 25 26,om 28 5,oi 29 25 27 28,oz 30 91 29 1,ol 31 3 30,ob 32 .neq 3 25 31],[]⟩]) (some ([1,2,5],[2]))/\SX 33 (iZ 4683) [ot 4 false] [] []/\SX 33 (iZ 459) [om 15 5,oc 16 .add 3 15 1,om 5 16] [1,2,5] [2]/\SX 33 (iZ 23) [ot 4 true] [] []/\LX 33 YC [1,2,5] [2]:=⟨fun _ _=>rfl,rx,rx,rx,rx,rx,rx,rx,rx,rx,lx⟩
def g9:=rg Tryz.f9
@[simp] def A0I:bq:=(lp (g9 267) 9 0 1 (.seq (g9 1099) (.seq (g9 2635) (.cond (.tmp 17) (g9 5707) .skip))) (g9 459))
def jP:=A0I
def c9:bq:=(.seq (g9 2) (.seq (g9 5) (.seq (.seq (g9 19) (.block 0 (.loop jP))) (.seq (g9 23) .ret))))
theorem b9:Tryz.f9.body=some c9:=by kernel_rfl
@[simp] theorem x9:UX 23 jP A0I/\SX 23 (g9 2) [oq 1 (.box (tq 0)),oq 2 (.mv (.const (.slice none 0 0)))] [0] [1,14]/\SX 23 (g9 5) [oq 3 (.mv (.const (.slice none 0 0)))] [0,1] [1,14]/\SX 23 (g9 19) [ok 4 0] [1,3] [1,14,21]/\SX 23 (g9 267) [om 6 4,ol 7 27 1,od 8 21 [tq 7],ob 9 .lss 3 6 8] [1,3,4] [1,14,21]/\SX 23 (g9 1099) [ol 12 27 1,om 13 4,od 14 22 [tq 12,tq 13],om 5 14] [1,3,4] [1,14,21]/\SX 23 (g9 2635) [ol 15 27 1,om 16 5,od 17 23 [tq 15,tq 16]] [1,3,4,5] [1,14,21]/\SX 23 (g9 5707) [om 18 3,om 19 5,oq 20 (.buildS 23 1 [(0,tq 19)]),oq 21 (.app [tq 18,tq 20] [23,23]),om 3 21] [1,3,4,5] [1,14,21]/\SX 23 (g9 459) [om 10 4,oc 11 .add 3 10 1,om 4 11] [1,3,4] [1,14,21]/\SX 23 (g9 23) [om 22 3,om 2 22] [3] [21]/\LX 23 jP [1,3,4] [1,14,21]:=⟨fun _ _=>rfl,rx,rx,rx,rx,rx,rx,rx,rx,rx,lx⟩
def g4:=rg Tryz.f4
@[simp] def A0J:bq:=(lp (g4 267) 31 0 1 (.seq (g4 1099) (.cond (.tmp 40) (.seq (g4 4683) .ret) .skip)) (g4 459))
def jQ:=A0J
@[simp] def A0K:bq:=(lp (g4 535) 45 2 3 (.seq (g4 2199) (.cond (.tmp 54) (.seq (g4 9367) .ret) .skip)) (g4 919))
def jR:=A0K
def c4:bq:=(.seq (g4 2) (.seq (.seq (g4 9) (.cond (.tmp 26) (.seq (g4 37) .ret) .skip)) (.seq (.seq (g4 19) (.block 0 (.loop jQ))) (.seq (.seq (g4 39) (.block 2 (.loop jR))) (.seq (g4 47) .ret)))))
theorem b4:Tryz.f4.body=some c4:=by kernel_rfl
@[simp] theorem x4:UX 55 jQ A0J/\UX 55 jR A0K/\SX 55 (g4 2) [oq 1 (.box (tq 0)),ot 2 false] [0] [1]/\SX 55 (g4 9) [oz 5 31 1 0,ol 6 27 5,od 7 14 [tq 6],ou 8 7,om 9 8,gz 9 false 10 31 1 1,gl 9 false 11 23 10,ge 9 false 12 11 23,gc 9 false 13 .gtr 3 12 7,oq 14 (.pick (tq 9) (cb true) (tq 13)),om 15 14,gz 15 false 16 31 1 2,gl 15 false 17 28 16,ge 15 false 18 17 28,gc 15 false 19 .gtr 3 18 7,oq 20 (.pick (tq 15) (cb true) (tq 19)),om 21 20,gz 21 false 22 31 1 3,gl 21 false 23 29 22,ge 21 false 24 23 29,gc 21 false 25 .gtr 3 24 5,oq 26 (.pick (tq 21) (cb true) (tq 25))] [1] [1]/\SX 55 (g4 37) [ot 2 false] [] []/\SX 55 (g4 19) [ok 3 0] [1] [1]/\SX 55 (g4 267) [om 27 3,oz 28 31 1 1,ol 29 23 28,oe 30 29 23,ob 31 .lss 3 27 30] [1,3] [1]/\SX 55 (g4 1099) [oz 34 31 1 1,ol 35 23 34,om 36 3,oi 37 23 35 36,ol 38 22 37,oe 39 38 22,oc 40 .gtr 3 39 7] [1,3] [1]/\SX 55 (g4 4683) [ot 2 false] [] []/\SX 55 (g4 459) [om 32 3,oc 33 .add 3 32 1,om 3 33] [1,3] [1]/\SX 55 (g4 39) [ok 4 0] [1] [1]/\SX 55 (g4 535) [om 41 4,oz 42 31 1 2,ol 43 28 42,oe 44 43 28,ob 45 .lss 3 41 44] [1,4] [1]/\SX 55 (g4 2199) [oz 48 31 1 2,ol 49 28 48,om 50 4,oi 51 28 49 50,ol 52 63 51,oe 53 52 63,oc 54 .gtr 3 53 7] [1,4] [1]/\SX 55 (g4 9367) [ot 2 false] [] []/\SX 55 (g4 919) [om 46 4,oc 47 .add 3 46 1,om 4 47] [1,4] [1]/\SX 55 (g4 47) [ot 2 true] [] []/\LX 55 jQ [1,3] [1]/\LX 55 jR [1,4] [1]:=by and_intros<;>first|exact rx|exact lx|exact fun _ _=>rfl
def uA:=rg Tryz.f20
@[simp] def AME:bq:=(lp (uA 267) 8 0 1 (uA 587) (uA 459))
def YD:=AME
def c20:bq:=(.seq (uA 2) (.seq (uA 5) (.seq (.seq (uA 19) (.block 0 (.loop YD))) (.seq (uA 23) .ret))))
theorem b20:Tryz.f20.body=some c20:=by kernel_rfl
@[simp] theorem BG6(n:Nat)(st:XS):AE bk ann kn (n+1) 20 (uA 459) st=OL (JI bk (BH bk ann kn n) (.str [om 9 4,oc 10 .add 3 9 1,om 4 10]) (CI (some ([0,3,4],[18])) (K7 [16,2000000000000018] st))) :=
 DX (by kernel_rfl) (by kernel_rfl) (by kernel_rfl) (by kernel_rfl) (by kernel_rfl)
@[simp] theorem x20:UX 20 YD AME/\SX 20 (uA 2) [oq 2 (.mv (.const (.slice none 0 0)))] [0] []/\SX 20 (uA 5) [oq 3 (.mv (.const (.slice none 0 0)))] [0] []/\SX 20 (uA 19) [ok 4 0] [0,3] [18]/\SX 20 (uA 267) [om 5 4,om 6 0,oe 7 6 23,ob 8 .lss 3 5 7] [0,3,4] [18]/\SX 20 (uA 587) [om 11 3,om 12 0,om 13 4,oi 14 23 12 13,ol 15 22 14,oq 16 (.app [.const (.slice none 0 0),tq 15] [22,22]),oq 17 (.buildS 23 1 [(0,tq 16)]),oq 18 (.app [tq 11,tq 17] [23,23]),om 3 18] [0,3,4] [18]/\SX 20 (uA 23) [om 19 3,om 2 19] [3] [18]/\LX 20 YD [0,3,4] [18]:=⟨fun _ _=>rfl,rx,rx,rx,rx,rx,rx,lx⟩
def g8:=rg Tryz.f8
@[simp] def A0L:bq:=(lp (g8 267) 18 0 1 (g8 587) (g8 459))
def jS:=A0L
@[simp] def A0M:bq:=(lp (g8 535) 36 2 3 (.seq (g8 2199) (g8 3223)) (g8 919))
def jT:=A0M
def c8:bq:=(.seq (g8 2) (.seq (g8 5) (.seq (.seq (g8 19) (.block 0 (.loop jS))) (.seq (.seq (g8 39) (.block 2 (.loop jT))) (.seq (g8 47) .ret)))))
theorem b8:Tryz.f8.body=some c8:=by kernel_rfl
@[simp] theorem BJ8(n:Nat)(st:XS):AE bk ann kn (n+1) 59 (g8 459) st=OL (JI bk (BH bk ann kn n) (.str [om 19 4,oc 20 .add 3 19 1,om 4 20]) (CI (some ([1,2,3,4],[1,2,3,9,12,30,56])) (K7 [28,2000000000000030] st))) :=
 DX (by kernel_rfl) (by kernel_rfl) (by kernel_rfl) (by kernel_rfl) (by kernel_rfl)
@[simp] theorem x8:UX 59 jS A0L/\UX 59 jT A0M/\SX 59 (g8 2) [oq 1 (.box (tq 0)),oq 2 (.alloc 45)] [0] [1,2,3,9,12,30,56]/\RX 59 (g8 5) (.drw [⟨[3],[oz 7 31 1 0,oq 8 (.ldz 27 (tq 7)),od 9 11 [tq 8],oz 10 31 1 1,oq 11 (.ldz 23 (tq 10)),od 12 20 [tq 11],oq 13 (.build 45 [(0,tq 9),(1,tq 12)]),oq 3 (.alloc 45)],[os (.sto 45 (tq 3) (tq 13))]⟩]) (some ([1,2],[1,2,30,56]))/\SX 59 (g8 19) [ok 4 0] [1,2,3] [1,2,3,9,12,30,56]/\SX 59 (g8 267) [om 14 4,oz 15 31 1 2,ol 16 28 15,oe 17 16 28,ob 18 .lss 3 14 17] [1,2,3,4] [1,2,3,9,12,30,56]/\RX 59 (g8 587) (.drw [⟨[],[oz 21 45 3 2,ol 22 28 21,oz 23 31 1 2,ol 24 28 23,om 25 4,oi 26 28 24 25,ol 27 63 26,oq 28 (.app [.const (.slice none 0 0),tq 27] [63,63]),oq 29 (.buildS 28 1 [(0,tq 28)]),oq 30 (.app [tq 22,tq 29] [28,28]),oz 31 45 3 2],[os (.sto 28 (tq 31) (tq 30))]⟩]) (some ([1,2,3,4],[1,2,3,9,12,30,56]))/\SX 59 (g8 39) [ok 5 0] [1,2,3] [1,2,3,9,12,30,56]/\SX 59 (g8 535) [om 32 5,oz 33 31 1 3,ol 34 29 33,oe 35 34 29,ob 36 .lss 3 32 35] [1,2,3,5] [1,2,3,9,12,30,56]/\SX 59 (g8 2199) [oz 39 31 1 3,ol 40 29 39,om 41 5,oi 42 29 40 41,ol 43 68 42,oq 6 (.alloc 68),os (.sto 68 (tq 6) (tq 43))] [1,2,3,5] [1,2,3,9,12,30,56]/\SX 59 (g8 3223) [oz 44 45 3 3,ol 45 43 44,oz 46 68 6 0,ol 47 3 46,oz 48 68 6 1,ol 49 3 48,oz 50 68 6 2,ol 51 4 50,oz 52 68 6 3,ol 53 4 52,oq 54 (.build 69 [(0,tq 47),(1,tq 49),(2,tq 51),(3,tq 53)]),oq 55 (.buildS 43 1 [(0,tq 54)]),oq 56 (.app [tq 45,tq 55] [43,43]),oz 57 45 3 3,os (.sto 43 (tq 57) (tq 56))] [1,2,3,5,6] [1,2,3,6,9,12,30,56]/\SX 59 (g8 919) [om 37 5,oc 38 .add 3 37 1,om 5 38] [1,2,3,5] [1,2,3,9,12,30,56]/\SX 59 (g8 47) [ol 58 45 3,os (.sto 45 (tq 2) (tq 58))] [2,3] [1,2,3,9,12,30,56]/\LX 59 jS [1,2,3,4] [1,2,3,9,12,30,56]/\LX 59 jT [1,2,3,5] [1,2,3,9,12,30,56]:=by and_intros<;>first|exact rx|exact lx|exact fun _ _=>rfl
def g5:=rg Tryz.f5
@[simp] def AMF:bq:=(lp (g5 4287) 38 0 1 (.seq (g5 17599) (.cond (.tmp 50) (.seq (g5 74943) .ret) .skip)) (g5 7359))
def YE:=AMF
@[simp] def AMG:bq:=(lp (g5 8575) 55 2 3 (.seq (g5 35199) (.cond (.tmp 75) (.seq (g5 149887) .ret) .skip)) (g5 14719))
def YF:=AMG
def c5:bq:=(.seq (g5 2) (.seq (.seq (g5 9) (.cond (.tmp 9) (.seq (g5 37) .ret) .skip)) (.seq (.seq (g5 19) (.seq (g5 43) (.cond (.tmp 14) (.seq (g5 155) .ret) .skip))) (.seq (.seq (g5 39) (.cond (.tmp 21) (.seq (g5 151) .ret) .skip)) (.seq (.seq (g5 79) (.cond (.tmp 26) (.seq (g5 303) .ret) .skip)) (.seq (.seq (g5 159) (.cond (.tmp 33) (.seq (g5 607) .ret) .skip)) (.seq (.seq (g5 319) (.block 0 (.loop YE))) (.seq (.seq (g5 639) (.block 2 (.loop YF))) (.seq (g5 767) .ret)))))))))
theorem b5:Tryz.f5.body=some c5:=by kernel_rfl
@[simp] theorem x5:UX 76 YE AMF/\UX 76 YF AMG/\SX 76 (g5 2) [oq 1 (.box (tq 0)),ok 2 0] [0] [1,24]/\SX 76 (g5 9) [oz 6 31 1 3,ol 7 29 6,oe 8 7 29,oc 9 .gtr 3 8 3] [1] [1,24]/\SX 76 (g5 37) [ok 2 3] [] []/\SX 76 (g5 19) [oz 10 31 1 0,ol 11 27 10,od 12 15 [tq 11],om 3 12] [1] [1,24]/\SX 76 (g5 43) [om 13 3,oc 14 .neq 3 13 0] [1,3] [1,24]/\SX 76 (g5 155) [om 15 3,om 2 15] [3] []/\SX 76 (g5 39) [oz 16 31 1 0,ol 17 27 16,oz 18 31 1 1,ol 19 23 18,od 20 16 [tq 17,tq 19],ou 21 20] [1] [1,24]/\SX 76 (g5 151) [ok 2 2] [] []/\SX 76 (g5 79) [oz 22 31 1 0,ol 23 27 22,od 24 9 [tq 23],oe 25 24 23,oc 26 .eql 3 25 0] [1] [1,24]/\SX 76 (g5 303) [ok 2 11] [] []/\SX 76 (g5 159) [oz 27 31 1 2,ol 28 28 27,oe 29 28 28,oz 30 31 1 0,oz 31 27 30 1,ol 32 3 31,ob 33 .neq 3 29 32] [1] [1,24]/\SX 76 (g5 607) [ok 2 1] [] []/\SX 76 (g5 319) [ok 4 0] [1] [1,24]/\SX 76 (g5 4287) [om 34 4,oz 35 31 1 2,ol 36 28 35,oe 37 36 28,ob 38 .lss 3 34 37] [1,4] [1,24]/\RX 76 (g5 17599) (.drw [⟨[],[oz 41 31 1 2,ol 42 28 41,om 43 4,oi 44 28 42 43,ol 45 63 44,oe 46 45 63,oz 47 31 1 0,oz 48 27 47 2,ol 49 3 48,ob 50 .neq 3 46 49],[]⟩]) (some ([1,4],[1,24]))/\SX 76 (g5 74943) [ok 2 1] [] []/\SX 76 (g5 7359) [om 39 4,oc 40 .add 3 39 1,om 4 40] [1,4] [1,24]/\SX 76 (g5 639) [ok 5 0] [1] [1,24]/\SX 76 (g5 8575) [om 51 5,oz 52 31 1 3,ol 53 29 52,oe 54 53 29,ob 55 .lss 3 51 54] [1,5] [1,24]/\SX 76 (g5 35199) [oz 58 31 1 3,ol 59 29 58,om 60 5,oi 61 29 59 60,oz 62 68 61 0,ol 63 3 62,od 64 17 [tq 63,ci 1,ci 4],ou 65 64,om 66 65,gz 66 false 67 31 1 3,gl 66 false 68 29 67,gm 66 false 69 5,gi 66 false 70 29 68 69,gz 66 false 71 68 70 1,gl 66 false 72 3 71,gd 66 false 73 17 [tq 72,ci 0,ci 5],og 66 false 74 (.oth (.unOp .not 4 (tq 73))),oq 75 (.pick (tq 66) (cb true) (tq 74))] [1,5] [1,24]/\SX 76 (g5 149887) [ok 2 1] [] []/\SX 76 (g5 14719) [om 56 5,oc 57 .add 3 56 1,om 5 57] [1,5] [1,24]/\SX 76 (g5 767) [ok 2 0] [] []/\LX 76 YE [1,4] [1,24]/\LX 76 YF [1,5] [1,24]:=by and_intros<;>first|exact rx|exact lx|exact fun _ _=>rfl
def g3:=rg Tryz.f3
@[simp] def AMH:bq:=(lp (g3 137215) 113 0 1 (g3 301055) (g3 235519))
def fK:=AMH
@[simp] def AMI:bq:=(lp (g3 17379327) 134 4 5 (g3 38350847) (g3 29962239))
def YG:=AMI
@[simp] def AMJ:bq:=(lp (g3 274431) 125 2 3 (.seq (g3 1126399) (.block 4 (.loop YG))) (g3 471039))
def YH:=AMJ
def c3:bq:=(.seq (g3 2) (.seq (.seq (g3 9) (.cond (.tmp 29) (.seq (g3 37) .ret) .skip)) (.seq (g3 11) (.seq (.seq (g3 39) (.cond (.tmp 40) (.seq (g3 151) .ret) .skip)) (.seq (g3 47) (.seq (g3 95) (.seq (g3 191) (.seq (g3 383) (.seq (g3 767) (.seq (.seq (g3 2559) (.cond (.tmp 109) (.seq (g3 9727) .ret) .skip)) (.seq (g3 3071) (.seq (.seq (g3 10239) (.block 0 (.loop fK))) (.seq (.seq (g3 20479) (.block 2 (.loop YH))) (.seq (g3 24575) .ret))))))))))))))
theorem b3:Tryz.f3.body=some c3:=by kernel_rfl
@[simp] theorem x3:UX 180 fK AMH/\UX 180 YG AMI/\UX 180 YH AMJ/\SX 180 (g3 2) [oq 2 (.box (tq 0)),ot 4 false] [0,1] [2,33,34,48,60,62,69,72,75,76,82,84,88,89]/\SX 180 (g3 9) [ol 22 31 2,od 23 4 [tq 22],ou 24 23,om 25 24,gl 25 false 26 31 2,gd 25 false 27 5 [tq 26],gc 25 false 28 .neq 3 27 0,oq 29 (.pick (tq 25) (cb true) (tq 28))] [1,2] [2,33,34,48,60,62,69,72,75,76,82,84,88,89]/\SX 180 (g3 37) [od 30 6 [],om 4 30] [] []/\SX 180 (g3 11) [ol 32 31 2,od 33 8 [tq 32],od 34 7 [tq 33],om 31 34,oq 35 (.oth (.extract (tq 31) 0)),oq 36 (.oth (.extract (tq 31) 1)),oq 37 (.oth (.extract (tq 31) 2)),oq 38 (.oth (.extract (tq 31) 3)),om 5 35,om 6 36,om 7 37,om 8 38] [1,2] [2,33,34,48,60,62,69,72,75,76,82,84,88,89]/\SX 180 (g3 39) [om 39 8,oc 40 .neq 37 39 0] [1,2,5,6,8] [2,33,34,48,60,62,69,72,75,76,82,84,88,89]/\SX 180 (g3 151) [om 41 8,oc 42 .eql 37 41 10,om 43 42,gd 43 true 44 6 [],oq 45 (.pick (tq 43) (tq 44) (cb false)),om 4 45] [8] []/\SX 180 (g3 47) [oz 46 31 2 0,ol 47 27 46,od 48 9 [tq 47],om 9 48] [1,2,5,6] [2,33,34,48,60,62,69,72,75,76,82,84,88,89]/\SX 180 (g3 95) [om 49 9,om 50 1,oq 51 (.oth (.convert 32 3 (tq 50))),om 52 9,oe 53 52 23,ob 54 .rem 3 51 53,oi 55 23 49 54,ol 56 22 55,om 10 56] [1,2,5,6,9] [2,33,34,48,60,62,69,72,75,76,82,84,88,89]/\RX 180 (g3 191) (.drw [⟨[11],[oz 58 31 2 0,oq 59 (.ldz 27 (tq 58)),od 60 11 [tq 59],oq 61 (.ldz 31 (tq 2)),od 62 8 [tq 61],oq 63 (.oth (.field 45 (tq 62) 1)),od 64 10 [tq 60,tq 63],om 57 64,oq 65 (.oth (.extract (tq 57) 0)),oq 66 (.oth (.extract (tq 57) 1)),oq 11 (.alloc 49),os (.sto 49 (tq 11) (tq 65)),om 12 66],[]⟩]) (some ([2,5,6,10],[2,33,34,48,69,72,75,76,82,84,88,89]))/\SX 180 (g3 383) [ol 68 31 2,od 69 8 [tq 68],oq 70 (.buildS 36 0 []),om 71 5,oq 72 (.app [tq 70,tq 71] [36,36]),oq 73 (.buildS 22 0 []),om 74 10,oq 75 (.appS [tq 73,tq 74] [22,22]),oq 76 (.call false (some 72) (.func 12) [tq 69,tq 72,tq 75]),om 67 76,oq 77 (.oth (.extract (tq 67) 0)),oq 78 (.oth (.extract (tq 67) 1)),om 13 77,om 14 78] [2,5,6,10,11,12] [2,11,33,34,48,60,62,69,72,75,76,82,84,88,89]/\RX 180 (g3 767) (.drw [⟨[],[oz 80 31 2 0,ol 81 27 80,od 82 11 [tq 81],ol 83 31 2,od 84 8 [tq 83],oq 85 (.oth (.field 45 (tq 84) 1)),oq 86 (.buildS 22 0 []),om 87 10,oq 88 (.appS [tq 86,tq 87] [22,22])],[oq 89 (.call false (some 88) (.func 13) [tq 82,tq 85,tq 88])]⟩,⟨[],[om 79 89,oq 90 (.oth (.extract (tq 79) 0)),oq 91 (.oth (.extract (tq 79) 1)),om 15 90,om 16 91],[]⟩]) (some ([2,6,10,11,12,13,14],[2,11,33,34,48,60,62,69,72,75,76,88]))/\SX 180 (g3 2559) [om 92 12,oc 93 .neq 37 92 0,om 94 93,gm 94 false 95 14,gc 94 false 96 .neq 37 95 0,oq 97 (.pick (tq 94) (cb true) (tq 96)),om 98 97,gm 98 false 99 16,gc 98 false 100 .neq 37 99 0,oq 101 (.pick (tq 98) (cb true) (tq 100)),om 102 101,gm 102 false 103 13,ge 102 false 104 103 22,gz 102 false 105 31 2 3,gl 102 false 106 29 105,ge 102 false 107 106 29,gb 102 false 108 .neq 3 104 107,oq 109 (.pick (tq 102) (cb true) (tq 108))] [2,6,11,12,13,14,15,16] [2,11,33,34,48,60,62,69,72,75,76,82,84,88,89]/\SX 180 (g3 3071) [ok 17 0,ok 18 0] [6,11,13,15] [2,11,33,34,48,60,62,69,72,75,76,82,84,88,89]/\SX 180 (g3 10239) [ok 19 0] [6,11,13,15,17,18] [2,11,33,34,48,60,62,69,72,75,76,82,84,88,89]/\SX 180 (g3 137215) [om 110 19,om 111 13,oe 112 111 22,ob 113 .lss 3 110 112] [6,11,13,15,17,18,19] [2,11,33,34,48,60,62,69,72,75,76,82,84,88,89]/\SX 180 (g3 301055) [om 116 17,om 117 13,om 118 19,oi 119 22 117 118,ol 120 3 119,ob 121 .add 3 116 120,om 17 121] [6,11,13,15,17,18,19] [2,11,33,34,48,60,62,69,72,75,76,82,84,88,89]/\SX 180 (g3 235519) [om 114 19,oc 115 .add 3 114 1,om 19 115] [6,11,13,15,17,18,19] [2,11,33,34,48,60,62,69,72,75,76,82,84,88,89]/\SX 180 (g3 20479) [ok 20 0] [6,11,15,17,18] [2,11,33,34,48,60,62,69,72,75,76,82,84,88,89]/\SX 180 (g3 274431) [om 122 20,om 123 15,oe 124 123 55,ob 125 .lss 3 122 124] [6,11,15,17,18,20] [2,11,33,34,48,60,62,69,72,75,76,82,84,88,89]/\SX 180 (g3 1126399) [ok 21 0] [6,11,15,17,18,20] [2,11,33,34,48,60,62,69,72,75,76,82,84,88,89]/\SX 180 (g3 17379327) [om 128 21,om 129 15,om 130 20,oi 131 55 129 130,ol 132 58 131,oe 133 132 58,ob 134 .lss 3 128 133] [6,11,15,17,18,20,21] [2,11,33,34,48,60,62,69,72,75,76,82,84,88,89]/\SX 180 (g3 38350847) [om 137 18,om 138 15,om 139 20,oi 140 55 138 139,ol 141 58 140,om 142 21,oi 143 58 141 142,oz 144 60 143 2,ol 145 3 144,ob 146 .add 3 137 145,om 18 146] [6,11,15,17,18,20,21] [2,11,33,34,48,60,62,69,72,75,76,82,84,88,89]/\SX 180 (g3 29962239) [om 135 21,oc 136 .add 3 135 1,om 21 136] [6,11,15,17,18,20,21] [2,11,33,34,48,60,62,69,72,75,76,82,84,88,89]/\SX 180 (g3 471039) [om 126 20,oc 127 .add 3 126 1,om 20 127] [6,11,15,17,18,20] [2,11,33,34,48,60,62,69,72,75,76,82,84,88,89]/\SX 180 (g3 24575) [om 147 6,oc 148 .geq 3 147 0,om 149 148,gm 149 true 150 6,gz 149 true 151 49 11 0,gl 149 true 152 3 151,gb 149 true 153 .leq 3 150 152,oq 154 (.pick (tq 149) (tq 153) (cb false)),om 155 154,gm 155 true 156 17,gm 155 true 157 6,gb 155 true 158 .geq 3 156 157,oq 159 (.pick (tq 155) (tq 158) (cb false)),om 160 159,gm 160 true 161 17,gm 160 true 162 18,gb 160 true 163 .leq 3 161 162,oq 164 (.pick (tq 160) (tq 163) (cb false)),om 165 164,gm 165 true 166 18,gz 165 true 167 49 11 0,gl 165 true 168 3 167,gb 165 true 169 .geq 3 166 168,oq 170 (.pick (tq 165) (tq 169) (cb false)),om 171 170,gm 171 true 172 18,gz 171 true 173 49 11 1,gl 171 true 174 3 173,gb 171 true 175 .leq 3 172 174,oq 176 (.pick (tq 171) (tq 175) (cb false)),om 177 176,gd 177 true 178 6 [],oq 179 (.pick (tq 177) (tq 178) (cb false)),om 4 179] [6,11,17,18] [11]/\LX 180 fK [6,11,13,15,17,18,19] [2,11,33,34,48,60,62,69,72,75,76,82,84,88,89]/\LX 180 YH [6,11,15,17,18,20] [2,11,33,34,48,60,62,69,72,75,76,82,84,88,89]/\LX 180 YG [6,11,15,17,18,20,21] [2,11,33,34,48,60,62,69,72,75,76,82,84,88,89]:=by and_intros<;>first|exact rx|exact lx|exact fun _ _=>rfl
end
end Go.Proofs.Tryz.Op
