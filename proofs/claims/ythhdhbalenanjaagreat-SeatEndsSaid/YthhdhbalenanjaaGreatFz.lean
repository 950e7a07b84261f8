/- The walk's ground of function 57: its regions worked out. No condition. -/
import Derived.Test.YthhdhbalenanjaaGreatGa
set_option maxRecDepth 100000
namespace Go.Proofs.Tryz.Op
open Go Go.Pg
noncomputable section
def g57:=rg Tryz.f57
def c57:Code:=(.seq (g57 2) (.seq (g57 5) .ret))
theorem b57:Tryz.f57.body=some c57:=by kernel_rfl
@[simp] theorem x57:SX 15 (g57 2) [ot 6 false] [0,1,2] []∧SX 15 (g57 5) [om 7 0,om 8 1,ob 9 .geq 3 7 8,om 10 9,gm 10 true 11 0,gm 10 true 12 2,gb 10 true 13 .leq 3 11 12,oq 14 (.pick (tq 10) (tq 13) (cb false)),om 6 14] [0,1,2] []:=⟨rx,rx⟩
def RM:=rg Tryz.f134
@[simp] def AAF:Code:=(lp (RM 133) 9 0 1 (.seq (RM 549) (.cond (.tmp 18) (.seq (RM 2341) .ret) .skip)) (RM 229))
def RN:=AAF
def A0E:Code:=(.seq (RM 2) (.seq (.seq (RM 9) (.block 0 (.loop RN))) (.seq (RM 11) .ret)))
theorem BB7:Tryz.f134.body=some A0E:=by kernel_rfl
@[simp] theorem BKX:UX 19 RN AAF∧SX 19 (RM 2) [ot 4 false] [0,1] []∧SX 19 (RM 9) [ok 5 0] [0,1] []∧SX 19 (RM 133) [om 6 5,om 7 0,oe 8 7 22,ob 9 .lss 3 6 8] [0,1,5] []∧SX 19 (RM 549) [om 12 0,om 13 5,oi 14 22 12 13,ol 15 3 14,om 16 1,od 17 57 [tq 15,tq 16,ci 3],ou 18 17] [0,1,5] []∧SX 19 (RM 2341) [ot 4 false] [] []∧SX 19 (RM 229) [om 10 5,oc 11 .add 3 10 1,om 5 11] [0,1,5] []∧SX 19 (RM 11) [ot 4 true] [] []∧LX 19 RN [0,1,5] []:=⟨fun _ _=>rfl,rx,rx,rx,rx,rx,rx,rx,lx⟩
def AGQ:=rg Tryz.f135
def A0F:Code:=(.seq (AGQ 2) (.seq (AGQ 5) .ret))
theorem BB8:Tryz.f135.body=some A0F:=by kernel_rfl
@[simp] theorem BKY:SX 19 (AGQ 2) [oq 2 (.box (tq 0)),oq 3 (.box (tq 1)),ot 4 false] [0,1] [2]∧SX 19 (AGQ 5) [oz 5 59 3 0,ol 6 3 5,oz 7 27 2 1,ol 8 3 7,oc 9 .sub 3 8 1,od 10 57 [tq 6,ci 0,tq 9],om 11 10,gz 11 true 12 59 3 1,gl 11 true 13 3 12,gz 11 true 14 27 2 2,gl 11 true 15 3 14,gc 11 true 16 .sub 3 15 1,gd 11 true 17 57 [tq 13,ci 0,tq 16],oq 18 (.pick (tq 11) (tq 17) (cb false)),om 4 18] [2,3] [2,3]:=⟨rx,rx⟩
def sL:=rg Tryz.f75
@[simp] def ALN:Code:=(lp (sL 133) 9 0 1 (.seq (sL 549) (.cond (.tmp 17) (.seq (sL 2341) .ret) .skip)) (sL 229))
def XJ:=ALN
def c75:Code:=(.seq (sL 2) (.seq (.seq (sL 9) (.block 0 (.loop XJ))) (.seq (sL 11) .ret)))
theorem b75:Tryz.f75.body=some c75:=by kernel_rfl
@[simp] theorem x75:UX 18 XJ ALN∧SX 18 (sL 2) [ot 4 false] [0,1] []∧SX 18 (sL 9) [ok 5 0] [0,1] []∧SX 18 (sL 133) [om 6 5,om 7 0,oe 8 7 22,ob 9 .lss 3 6 8] [0,1,5] []∧SX 18 (sL 549) [om 12 0,om 13 5,oi 14 22 12 13,ol 15 3 14,om 16 1,ob 17 .eql 3 15 16] [0,1,5] []∧SX 18 (sL 2341) [ot 4 true] [] []∧SX 18 (sL 229) [om 10 5,oc 11 .add 3 10 1,om 5 11] [0,1,5] []∧SX 18 (sL 11) [ot 4 false] [] []∧LX 18 XJ [0,1,5] []:=⟨fun _ _=>rfl,rx,rx,rx,rx,rx,rx,rx,lx⟩
def AGR:=rg Tryz.f114
def A0G:Code:=(.seq (AGR 2) (.seq (AGR 5) .ret))
theorem BCA:Tryz.f114.body=some A0G:=by kernel_rfl
@[simp] theorem BK0:SX 6 (AGR 2) [oq 2 (.mv (.const (.slice none 0 0)))] [0,1] []∧SX 6 (AGR 5) [oq 3 (.buildS 22 0 []),om 4 0,oq 5 (.app [tq 3,tq 4] [22,22]),om 2 5] [0,1] []:=⟨rx,rx⟩
def RO:=rg Tryz.f115
@[simp] def AAG:Code:=(lp (RO 267) 9 0 1 (RO 587) (RO 459))
def RP:=AAG
def A0H:Code:=(.seq (RO 2) (.seq (RO 5) (.seq (.seq (RO 19) (.block 0 (.loop RP))) (.seq (RO 23) .ret))))
theorem BCB:Tryz.f115.body=some A0H:=by kernel_rfl
@[simp] theorem BK1:UX 21 RP AAG∧SX 21 (RO 2) [oq 2 (.mv (.const (.slice none 0 0)))] [0] [17]∧SX 21 (RO 5) [oq 5 (.buildS 23 0 []),om 3 5] [0] [17]∧SX 21 (RO 19) [ok 4 0] [0,1,3] [1,17,19]∧SX 21 (RO 267) [om 6 4,om 7 0,oe 8 7 23,ob 9 .lss 3 6 8] [0,3,4] [17,19]∧SX 21 (RO 587) [om 12 3,om 13 0,om 14 4,oi 15 23 13 14,ol 16 22 15,od 17 114 [tq 16],oq 18 (.buildS 23 1 [(0,tq 17)]),oq 19 (.app [tq 12,tq 18] [23,23]),om 3 19] [0,1,3,4] [1,17,19]∧SX 21 (RO 459) [om 10 4,oc 11 .add 3 10 1,om 4 11] [0,1,3,4] [1,17,19]∧SX 21 (RO 23) [om 20 3,om 2 20] [0,1,3,7,8] [19]∧LX 21 RP [0,3,4] [17,19]:=⟨fun _ _=>rfl,rx,rx,rx,rx,rx,rx,rx,lx⟩
def g48:=rg Tryz.f48
def c48:Code:=(.seq (g48 2) (.seq (g48 5) .ret))
theorem b48:Tryz.f48.body=some c48:=by kernel_rfl
@[simp] theorem x48:SX 8 (g48 2) [oq 1 (.box (tq 0)),oq 2 (.alloc 86)] [0] []∧SX 8 (g48 5) [oz 3 59 1 0,ol 4 3 3,oz 5 59 1 1,ol 6 3 5,oq 7 (.build 86 [(0,tq 4),(1,tq 6)]),os (.sto 86 (tq 2) (tq 7))] [1,2] [1,2]:=⟨rx,rx⟩
def RQ:=rg Tryz.f107
@[simp] def AAH:Code:=(lp (RQ 133) 11 0 1 (.seq (RQ 549) (.cond (.tmp 19) (.seq (RQ 2341) .ret) .skip)) (RQ 229))
def RS:=AAH
def A0I:Code:=(.seq (RQ 2) (.seq (.seq (RQ 9) (.block 0 (.loop RS))) (.seq (RQ 11) .ret)))
theorem BCC:Tryz.f107.body=some A0I:=by kernel_rfl
@[simp] theorem BK3:UX 23 RS AAH∧SX 23 (RQ 2) [ot 2 false] [0] []∧SX 23 (RQ 9) [ok 3 0] [0,1] [1,14]∧SX 23 (RQ 133) [om 4 3,om 5 0,oe 6 5 23,ob 7 .lss 3 4 6,om 8 7,gm 8 true 9 3,gc 8 true 10 .lss 3 9 8,oq 11 (.pick (tq 8) (tq 10) (cb false))] [0,3] []∧SX 23 (RQ 549) [om 14 0,om 15 3,oi 16 23 14 15,ol 17 22 16,oe 18 17 22,oc 19 .gtr 3 18 5] [0,3] []∧SX 23 (RQ 2341) [ot 2 false] [] []∧SX 23 (RQ 229) [om 12 3,oc 13 .add 3 12 1,om 3 13] [0,3] []∧SX 23 (RQ 11) [om 20 0,oe 21 20 23,oc 22 .leq 3 21 7,om 2 22] [0] []∧LX 23 RS [0,3] []:=⟨fun _ _=>rfl,rx,rx,rx,rx,rx,rx,rx,lx⟩
def RT:=rg Tryz.f100
@[simp] def AAI:Code:=(lp (RT 267) 9 0 1 (RT 587) (RT 459))
def RU:=AAI
def A0J:Code:=(.seq (RT 2) (.seq (RT 5) (.seq (.seq (RT 19) (.block 0 (.loop RU))) (.seq (RT 23) .ret))))
theorem BCD:Tryz.f100.body=some A0J:=by kernel_rfl
@[simp] theorem BK4:UX 21 RU AAI∧SX 21 (RT 2) [oq 1 (.box (tq 0)),ok 2 0] [0] [1]∧SX 21 (RT 5) [ok 3 1] [1] [1]∧SX 21 (RT 19) [ok 4 0] [0,1,3] [1,17,19]∧SX 21 (RT 267) [om 5 4,oz 6 27 1 6,ol 7 23 6,oe 8 7 23,ob 9 .lss 3 5 8] [1,3,4] [1]∧SX 21 (RT 587) [om 12 3,oz 13 27 1 6,ol 14 23 13,om 15 4,oi 16 23 14 15,ol 17 22 16,oe 18 17 22,ob 19 .mul 3 12 18,om 3 19] [0,1,3,4] [1,17,19]∧SX 21 (RT 459) [om 10 4,oc 11 .add 3 10 1,om 4 11] [0,1,3,4] [1,17,19]∧SX 21 (RT 23) [om 20 3,om 2 20] [0,1,3,7,8] [19]∧LX 21 RU [1,3,4] [1]:=⟨fun _ _=>rfl,rx,rx,rx,rx,rx,rx,rx,lx⟩
def DR:=rg Tryz.f108
@[simp] def sM:Code:=(lp (DR 68759) 118 2 3 (.seq (DR 281751) (.cond (.tmp 138) (.seq (DR 1199255) .ret) .skip)) (DR 117911))
def NU:=sM
@[simp] def AAJ:Code:=(lp (DR 535) 92 0 1 (.seq (.seq (DR 4247) (.cond (.tmp 110) (.seq (DR 18583) .ret) .skip)) (.seq (DR 5271) (.block 2 (.loop NU)))) (DR 919))
def RV:=AAJ
@[simp] def sN:Code:=(lp (DR 1071) 143 4 5 (.seq (DR 4399) (.cond (.tmp 153) (.seq (DR 18735) .ret) .skip)) (DR 1839))
def NV:=sN
@[simp] def sO:Code:=(lp (DR 2143) 158 6 7 (.seq (DR 8799) (.cond (.tmp 180) (.seq (DR 37471) .ret) .skip)) (DR 3679))
def NW:=sO
def NF:Code:=(.seq (DR 2) (.seq (.seq (DR 9) (.cond (.tmp 31) (.seq (DR 37) .ret) .skip)) (.seq (.seq (DR 19) (.cond (.tmp 88) (.seq (DR 75) .ret) .skip)) (.seq (.seq (DR 39) (.block 0 (.loop RV))) (.seq (.seq (DR 79) (.block 4 (.loop NV))) (.seq (.seq (DR 159) (.block 6 (.loop NW))) (.seq (DR 191) .ret)))))))
theorem BCE:Tryz.f108.body=some NF:=by kernel_rfl
@[simp] theorem BK5:UX 181 NU sM∧UX 181 RV AAJ∧UX 181 NV sN∧UX 181 NW sO∧SX 181 (DR 2) [oq 1 (.box (tq 0)),ok 2 0] [0] [1]∧SX 181 (DR 9) [oz 7 27 1 0,ol 8 3 7,oc 9 .gtr 3 8 4,om 10 9,gz 10 false 11 27 1 1,gl 10 false 12 3 11,gc 10 false 13 .gtr 3 12 3,oq 14 (.pick (tq 10) (cb true) (tq 13)),om 15 14,gz 15 false 16 27 1 2,gl 15 false 17 3 16,gc 15 false 18 .gtr 3 17 5,oq 19 (.pick (tq 15) (cb true) (tq 18)),om 20 19,gz 20 false 21 27 1 7,gl 20 false 22 24 21,ge 20 false 23 22 24,gc 20 false 24 .gtr 3 23 4,oq 25 (.pick (tq 20) (cb true) (tq 24)),om 26 25,gz 26 false 27 27 1 8,gl 26 false 28 25 27,ge 26 false 29 28 25,gc 26 false 30 .gtr 3 29 5,oq 31 (.pick (tq 26) (cb true) (tq 30))] [1] [1]∧SX 181 (DR 37) [ok 2 3] [] []∧SX 181 (DR 19) [oz 32 27 1 0,ol 33 3 32,oc 34 .lss 3 33 0,om 35 34,gz 35 false 36 27 1 1,gl 35 false 37 3 36,gc 35 false 38 .lss 3 37 1,oq 39 (.pick (tq 35) (cb true) (tq 38)),om 40 39,gz 40 false 41 27 1 2,gl 40 false 42 3 41,gc 40 false 43 .lss 3 42 1,oq 44 (.pick (tq 40) (cb true) (tq 43)),om 45 44,gz 45 false 46 27 1 3,gl 45 false 47 3 46,gd 45 false 48 57 [tq 47,ci 0,ci 4],og 45 false 49 (.oth (.unOp .not 4 (tq 48))),oq 50 (.pick (tq 45) (cb true) (tq 49)),om 51 50,gz 51 false 52 27 1 4,gl 51 false 53 22 52,ge 51 false 54 53 22,gz 51 false 55 27 1 1,gl 51 false 56 3 55,gb 51 false 57 .neq 3 54 56,oq 58 (.pick (tq 51) (cb true) (tq 57)),om 59 58,gz 59 false 60 27 1 5,gl 59 false 61 22 60,ge 59 false 62 61 22,gz 59 false 63 27 1 0,gl 59 false 64 3 63,gc 59 false 65 .add 3 64 1,gb 59 false 66 .neq 3 62 65,oq 67 (.pick (tq 59) (cb true) (tq 66)),om 68 67,gz 68 false 69 27 1 6,gl 68 false 70 23 69,ge 68 false 71 70 23,gz 68 false 72 27 1 0,gl 68 false 73 3 72,gc 68 false 74 .add 3 73 1,gb 68 false 75 .neq 3 71 74,oq 76 (.pick (tq 68) (cb true) (tq 75)),om 77 76,gz 77 false 78 27 1 4,gl 77 false 79 22 78,gd 77 false 80 134 [tq 79,ci 0],og 77 false 81 (.oth (.unOp .not 4 (tq 80))),oq 82 (.pick (tq 77) (cb true) (tq 81)),om 83 82,gz 83 false 84 27 1 5,gl 83 false 85 22 84,gd 83 false 86 134 [tq 85,.const (.int .i64 (Int.negSucc 0))],og 83 false 87 (.oth (.unOp .not 4 (tq 86))),oq 88 (.pick (tq 83) (cb true) (tq 87))] [1] [1]∧SX 181 (DR 75) [ok 2 1] [] []∧SX 181 (DR 39) [ok 3 0] [1] [1]∧SX 181 (DR 535) [om 89 3,oz 90 27 1 0,ol 91 3 90,ob 92 .leq 3 89 91] [1,3] [1]∧SX 181 (DR 4247) [oz 95 27 1 6,ol 96 23 95,om 97 3,oi 98 23 96 97,ol 99 22 98,oe 100 99 22,oc 101 .eql 3 100 0,om 102 101,gz 102 false 103 27 1 6,gl 102 false 104 23 103,gm 102 false 105 3,gi 102 false 106 23 104 105,gl 102 false 107 22 106,gd 102 false 108 134 [tq 107,ci 0],og 102 false 109 (.oth (.unOp .not 4 (tq 108))),oq 110 (.pick (tq 102) (cb true) (tq 109))] [1,3] [1]∧SX 181 (DR 18583) [ok 2 1] [] []∧SX 181 (DR 5271) [ok 4 1] [1,3] [1]∧SX 181 (DR 68759) [om 111 4,oz 112 27 1 6,ol 113 23 112,om 114 3,oi 115 23 113 114,ol 116 22 115,oe 117 116 22,ob 118 .lss 3 111 117] [1,3,4] [1]∧RX 181 (DR 281751) (.drw [⟨[],[oz 121 27 1 6,ol 122 23 121,om 123 3,oi 124 23 122 123,ol 125 22 124,om 126 4,oi 127 22 125 126,ol 128 3 127,oz 129 27 1 6,ol 130 23 129,om 131 3,oi 132 23 130 131,ol 133 22 132,om 134 4,oc 135 .sub 3 134 1,oi 136 22 133 135,ol 137 3 136,ob 138 .leq 3 128 137],[]⟩]) (some ([1,3,4],[1]))∧SX 181 (DR 1199255) [ok 2 1] [] []∧SX 181 (DR 117911) [om 119 4,oc 120 .add 3 119 1,om 4 120] [1,3,4] [1]∧SX 181 (DR 919) [om 93 3,oc 94 .add 3 93 1,om 3 94] [1,3] [1]∧SX 181 (DR 79) [ok 5 0] [1] [1]∧SX 181 (DR 1071) [om 139 5,oz 140 27 1 7,ol 141 24 140,oe 142 141 24,ob 143 .lss 3 139 142] [1,5] [1]∧RX 181 (DR 4399) (.drw [⟨[],[ol 146 27 1,oz 147 27 1 7,ol 148 24 147,om 149 5,oi 150 24 148 149,ol 151 59 150],[od 152 135 [tq 146,tq 151]]⟩,⟨[],[ou 153 152],[]⟩]) (some ([1,5],[1]))∧SX 181 (DR 18735) [ok 2 1] [] []∧SX 181 (DR 1839) [om 144 5,oc 145 .add 3 144 1,om 5 145] [1,5] [1]∧SX 181 (DR 159) [ok 6 0] [1] [1]∧SX 181 (DR 2143) [om 154 6,oz 155 27 1 8,ol 156 25 155,oe 157 156 25,ob 158 .lss 3 154 157] [1,6] [1]∧RX 181 (DR 8799) (.drw [⟨[],[oz 161 27 1 8,ol 162 25 161,om 163 6,oi 164 25 162 163,oz 165 188 164 0,ol 166 3 165,oz 167 27 1 0,ol 168 3 167],[od 169 57 [tq 166,ci 0,tq 168]]⟩,⟨[],[ou 170 169,om 171 170,gz 171 false 172 27 1 8,gl 171 false 173 25 172,gm 171 false 174 6,gi 171 false 175 25 173 174,gz 171 false 176 188 175 1,gl 171 false 177 3 176],[gd 171 false 178 57 [tq 177,ci 0,ci 3]]⟩,⟨[],[og 171 false 179 (.oth (.unOp .not 4 (tq 178))),oq 180 (.pick (tq 171) (cb true) (tq 179))],[]⟩]) (some ([1,6],[1]))∧SX 181 (DR 37471) [ok 2 1] [] []∧SX 181 (DR 3679) [om 159 6,oc 160 .add 3 159 1,om 6 160] [1,6] [1]∧SX 181 (DR 191) [ok 2 0] [] []∧LX 181 RV [1,3] [1]∧LX 181 NU [1,3,4] [1]∧LX 181 NV [1,5] [1]∧LX 181 NW [1,6] [1]:=⟨fun _ _=>rfl,fun _ _=>rfl,fun _ _=>rfl,fun _ _=>rfl,rx,rx,rx,rx,rx,rx,rx,rx,rx,rx,rx,rx,rx,rx,rx,rx,rx,rx,rx,rx,rx,rx,rx,rx,rx,rx,lx,lx,lx,lx⟩
def g64:=rg Tryz.f64
def c64:Code:=(.seq (g64 2) (.seq (.seq (g64 9) (.cond (.tmp 30) (.seq (g64 37) .ret) .skip)) (.seq (g64 11) .ret)))
theorem b64:Tryz.f64.body=some c64:=by kernel_rfl
@[simp] theorem x64:SX 39 (g64 2) [oq 1 (.box (tq 0)),ot 2 false] [0] [1]∧SX 39 (g64 9) [oz 3 27 1 4,ol 4 22 3,oe 5 4 22,oc 6 .gtr 3 5 5,om 7 6,gz 7 false 8 27 1 5,gl 7 false 9 22 8,ge 7 false 10 9 22,gc 7 false 11 .gtr 3 10 7,oq 12 (.pick (tq 7) (cb true) (tq 11)),om 13 12,gz 13 false 14 27 1 6,gl 13 false 15 23 14,gd 13 false 16 107 [tq 15],og 13 false 17 (.oth (.unOp .not 4 (tq 16))),oq 18 (.pick (tq 13) (cb true) (tq 17)),om 19 18,gz 19 false 20 27 1 7,gl 19 false 21 24 20,ge 19 false 22 21 24,gc 19 false 23 .gtr 3 22 6,oq 24 (.pick (tq 19) (cb true) (tq 23)),om 25 24,gz 25 false 26 27 1 8,gl 25 false 27 25 26,ge 25 false 28 27 25,gc 25 false 29 .gtr 3 28 7,oq 30 (.pick (tq 25) (cb true) (tq 29))] [1] [1]∧SX 39 (g64 37) [ot 2 false] [] []∧SX 39 (g64 11) [ol 31 27 1,od 32 108 [tq 31],oc 33 .neq 3 32 0,om 34 33,gl 34 false 35 27 1,gd 34 false 36 100 [tq 35],gc 34 false 37 .leq 3 36 80,oq 38 (.pick (tq 34) (cb true) (tq 37)),om 2 38] [1] [1]:=⟨rx,rx,rx,rx⟩
def P0:=rg Tryz.f190
@[simp] def AAK:Code:=(.seq (P0 69) (.seq (.cond (.tmp 9) .skip (.exit 0)) (.seq (.block 1 (.seq (P0 1125) (.seq (P0 2661) (.cond (.tmp 16) (.seq (P0 9829) .ret) .skip)))) (P0 485))))
def RW:=AAK
def AO3:Code:=(.seq (P0 2) (.seq (.seq (P0 9) (.block 0 (.loop RW))) (.seq (P0 11) .ret)))
theorem b190:Tryz.f190.body=some AO3:=by kernel_rfl
@[simp] theorem BK7:UX 19 RW AAK∧SX 19 (P0 2) [ok 4 0] [0,1] []∧SX 19 (P0 9) [om 6 0,oe 7 6 22,ok 8 0] [0,1] []∧SX 19 (P0 69) [ob 9 .lss 3 8 7] [0,1,7,8] []∧SX 19 (P0 1125) [om 10 8,om 5 10] [0,1,7,8] []∧SX 19 (P0 2661) [om 11 1,om 12 0,om 13 5,oi 14 22 12 13,ol 15 3 14,oq 16 (.call false none (tq 11) [tq 15])] [0,1,5,7,8] []∧SX 19 (P0 9829) [om 17 5,om 4 17] [5] []∧SX 19 (P0 485) [oc 18 .add 3 8 1,om 8 18] [0,1,3,7,8] []∧SX 19 (P0 11) [oq 4 (.mv (.const (.int .i64 (Int.negSucc 0))))] [] []∧LX 19 RW [0,1,7,8] []:=⟨fun _ _=>rfl,rx,rx,rx,rx,rx,rx,rx,rx,lx⟩
def AGS:=rg Tryz.f175
def A0K:Code:=(.seq (AGS 2) (.seq (AGS 5) .ret))
theorem b175:Tryz.f175.body=some A0K:=by kernel_rfl
@[simp] theorem BK8:SX 9 (AGS 2) [ot 4 false] [0,1] [7]∧SX 9 (AGS 5) [om 5 0,om 6 1,od 7 190 [tq 5,tq 6],oc 8 .geq 3 7 0,om 4 8] [0,1,2,3] [2,3]:=⟨rx,rx⟩
def AGT:=rg Tryz.f144
def AO4:Code:=(.seq (AGT 2) (.seq (AGT 5) .ret))
theorem b144:Tryz.f144.body=some AO4:=by kernel_rfl
@[simp] theorem BK9:SX 9 (AGT 2) [oq 3 (.box (tq 1)),ot 4 false] [0,1,2] [3]∧SX 9 (AGT 5) [om 5 0,oq 6 (.oth (.makeFunc (.func 176) #[] #[tq 3])),od 7 175 [tq 5,tq 6],ou 8 7,om 4 8] [0,1,2,3] [2,3]:=⟨rx,rx⟩
def AGU:=rg Tryz.f176
def AO5:Code:=(.seq (AGU 2) (.seq (AGU 5) .ret))
theorem b176:Tryz.f176.body=some AO5:=by kernel_rfl
@[simp] theorem BLA:SX 8 (AGU 2) [ot 3 false] [0,1] []∧SX 8 (AGU 5) [ol 4 177 1,om 5 0,oq 6 (.call false none (tq 4) [tq 5]),ou 7 6,om 3 7] [0,1,2] [2]:=⟨rx,rx⟩
def P1:=rg Tryz.f191
@[simp] def AAL:Code:=(.seq (P1 69) (.seq (.cond (.tmp 9) .skip (.exit 0)) (.seq (.block 1 (.seq (P1 1125) (.seq (P1 2661) (.cond (.tmp 16) (.seq (P1 9829) .ret) .skip)))) (P1 485))))
def RY:=AAL
def AO6:Code:=(.seq (P1 2) (.seq (.seq (P1 9) (.block 0 (.loop RY))) (.seq (P1 11) .ret)))
theorem b191:Tryz.f191.body=some AO6:=by kernel_rfl
@[simp] theorem BLB:UX 19 RY AAL∧SX 19 (P1 2) [ok 4 0] [0,1] []∧SX 19 (P1 9) [om 6 0,oe 7 6 23,ok 8 0] [0,1] []∧SX 19 (P1 69) [ob 9 .lss 3 8 7] [0,1,7,8] []∧SX 19 (P1 1125) [om 10 8,om 5 10] [0,1,7,8] []∧SX 19 (P1 2661) [om 11 1,om 12 0,om 13 5,oi 14 23 12 13,ol 15 22 14,oq 16 (.call false none (tq 11) [tq 15])] [0,1,5,7,8] []∧SX 19 (P1 9829) [om 17 5,om 4 17] [5] []∧SX 19 (P1 485) [oc 18 .add 3 8 1,om 8 18] [0,1,3,7,8] []∧SX 19 (P1 11) [oq 4 (.mv (.const (.int .i64 (Int.negSucc 0))))] [] []∧LX 19 RY [0,1,7,8] []:=⟨fun _ _=>rfl,rx,rx,rx,rx,rx,rx,rx,rx,lx⟩
def AGV:=rg Tryz.f177
def A0L:Code:=(.seq (AGV 2) (.seq (AGV 5) .ret))
theorem b177:Tryz.f177.body=some A0L:=by kernel_rfl
@[simp] theorem BLC:SX 9 (AGV 2) [ot 4 false] [0,1] [7]∧SX 9 (AGV 5) [om 5 0,om 6 1,od 7 191 [tq 5,tq 6],oc 8 .geq 3 7 0,om 4 8] [0,1,2,3] [2,3]:=⟨rx,rx⟩
def AGW:=rg Tryz.f147
def AO7:Code:=(.seq (AGW 2) (.seq (AGW 5) .ret))
theorem b147:Tryz.f147.body=some AO7:=by kernel_rfl
@[simp] theorem BLD:SX 9 (AGW 2) [oq 3 (.box (tq 1)),ot 4 false] [0,1,2] [3]∧SX 9 (AGW 5) [om 5 0,oq 6 (.oth (.makeFunc (.func 178) #[] #[tq 3])),od 7 177 [tq 5,tq 6],ou 8 7,om 4 8] [0,1,2,3] [2,3]:=⟨rx,rx⟩
def AGX:=rg Tryz.f178
def AO8:Code:=(.seq (AGX 2) (.seq (AGX 5) .ret))
theorem b178:Tryz.f178.body=some AO8:=by kernel_rfl
@[simp] theorem BLE:SX 8 (AGX 2) [ot 3 false] [0,1] []∧SX 8 (AGX 5) [ol 4 193 1,om 5 0,oq 6 (.call false none (tq 4) [tq 5]),ou 7 6,om 3 7] [0,1,2] [2]:=⟨rx,rx⟩
def AGY:=rg Tryz.f143
def A0M:Code:=(.seq (AGY 2) (.seq (AGY 5) .ret))
theorem BCF:Tryz.f143.body=some A0M:=by kernel_rfl
@[simp] theorem BLF:SX 15 (AGY 2) [ot 6 false] [0,1,2] []∧SX 15 (AGY 5) [om 7 1,om 8 0,ob 9 .leq 3 7 8,om 10 9,gm 10 true 11 0,gm 10 true 12 2,gb 10 true 13 .leq 3 11 12,oq 14 (.pick (tq 10) (tq 13) (cb false)),om 6 14] [0,1,2] []:=⟨rx,rx⟩
def AGZ:=rg Tryz.f145
def A0N:Code:=(.seq (AGZ 2) (.seq (AGZ 5) .ret))
theorem BCG:Tryz.f145.body=some A0N:=by kernel_rfl
@[simp] theorem BLG:SX 5 (AGZ 2) [ot 2 false] [0] []∧SX 5 (AGZ 5) [om 3 0,od 4 143 [tq 3,ci 0,ci 3],om 2 4] [0,1,2] [1,2]:=⟨rx,rx⟩
def AG0:=rg Tryz.f146
def A0O:Code:=(.seq (AG0 2) (.seq (AG0 5) .ret))
theorem BCH:Tryz.f146.body=some A0O:=by kernel_rfl
@[simp] theorem BLH:SX 5 (AG0 2) [ot 2 false] [0] []∧SX 5 (AG0 5) [om 3 0,od 4 143 [tq 3,.const (.int .i64 (Int.negSucc 0)),ci 3],om 2 4] [0,1,2] [1,2]:=⟨rx,rx⟩
def wE:=rg Tryz.f148
def AO9:Code:=(.seq (wE 2) (.seq (wE 5) (.seq (wE 11) .ret)))
theorem BCI:Tryz.f148.body=some AO9:=by kernel_rfl
@[simp] theorem BLI:SX 12 (wE 2) [ot 2 false] [0] []∧SX 12 (wE 5) [oq 3 (.alloc 3),os (.sto 3 (tq 3) (.const (.int .i64 (Int.negSucc 0))))] [0] []∧SX 12 (wE 11) [om 4 0,oe 5 4 22,oc 6 .gtr 3 5 0,om 7 6,gm 7 true 8 0,og 7 true 9 (.oth (.makeFunc (.func 179) #[] #[tq 3])),gd 7 true 10 144 [tq 8,tq 9],oq 11 (.pick (tq 7) (tq 10) (cb false)),om 2 11] [0,3] [3]:=⟨rx,rx,rx⟩
def iV:=rg Tryz.f179
def A0P:Code:=(.seq (iV 2) (.seq (iV 5) (.seq (iV 11) (.seq (iV 23) .ret))))
theorem b179:Tryz.f179.body=some A0P:=by kernel_rfl
@[simp] theorem BLJ:SX 11 (iV 2) [ot 3 false] [0,1] []∧SX 11 (iV 5) [om 5 0,ol 6 3 1,oc 7 .add 3 6 1,od 8 143 [tq 5,tq 7,ci 3],om 4 8] [0,1] []∧SX 11 (iV 11) [om 9 0,os (.sto 3 (tq 1) (tq 9))] [0,1,4] []∧SX 11 (iV 23) [om 10 4,om 3 10] [4] []:=⟨rx,rx,rx,rx⟩
def AG1:=rg Tryz.f174
def A0Q:Code:=(.seq (AG1 2) (.seq (AG1 5) .ret))
theorem BCJ:Tryz.f174.body=some A0Q:=by kernel_rfl
@[simp] theorem BLK:SX 9 (AG1 2) [oq 2 (.box (tq 0)),ot 4 false] [0,1] [2]∧SX 9 (AG1 5) [om 5 1,oz 6 40 2 0,ol 7 3 6,od 8 143 [tq 5,ci 0,tq 7],om 4 8] [0,1,2,3] [2,3]:=⟨rx,rx⟩
def AG2:=rg Tryz.f141
def A0R:Code:=(.seq (AG2 2) (.seq (AG2 5) .ret))
theorem BCK:Tryz.f141.body=some A0R:=by kernel_rfl
@[simp] theorem BLL:SX 19 (AG2 2) [oq 2 (.box (tq 0)),oq 3 (.box (tq 1)),ot 4 false] [0,1] [2]∧SX 19 (AG2 5) [oz 5 86 3 0,ol 6 3 5,oz 7 40 2 1,ol 8 3 7,oc 9 .sub 3 8 1,od 10 143 [tq 6,ci 0,tq 9],om 11 10,gz 11 true 12 86 3 1,gl 11 true 13 3 12,gz 11 true 14 40 2 2,gl 11 true 15 3 14,gc 11 true 16 .sub 3 15 1,gd 11 true 17 143 [tq 13,ci 0,tq 16],oq 18 (.pick (tq 11) (tq 17) (cb false)),om 4 18] [2,3] [2,3]:=⟨rx,rx⟩
def AG3:=rg Tryz.f142
def A0S:Code:=(.seq (AG3 2) (.seq (AG3 5) .ret))
theorem BCL:Tryz.f142.body=some A0S:=by kernel_rfl
@[simp] theorem BLM:SX 14 (AG3 2) [oq 2 (.box (tq 0)),oq 3 (.box (tq 1)),ot 4 false] [0,1] [2]∧SX 14 (AG3 5) [ol 5 40 2,oz 6 99 3 0,ol 7 3 6,od 8 174 [tq 5,tq 7],om 9 8,gz 9 true 10 99 3 1,gl 9 true 11 3 10,gd 9 true 12 145 [tq 11],oq 13 (.pick (tq 9) (tq 12) (cb false)),om 4 13] [1,2,3,4] [2,3,4]:=⟨rx,rx⟩
def P2:=rg Tryz.f192
@[simp] def AAM:Code:=(.seq (P2 69) (.seq (.cond (.tmp 9) .skip (.exit 0)) (.seq (.block 1 (.seq (P2 1125) (.seq (P2 2661) (.cond (.tmp 16) (.seq (P2 9829) .ret) .skip)))) (P2 485))))
def RZ:=AAM
def APA:Code:=(.seq (P2 2) (.seq (.seq (P2 9) (.block 0 (.loop RZ))) (.seq (P2 11) .ret)))
theorem b192:Tryz.f192.body=some APA:=by kernel_rfl
@[simp] theorem BLN:UX 19 RZ AAM∧SX 19 (P2 2) [ok 4 0] [0,1] []∧SX 19 (P2 9) [om 6 0,oe 7 6 37,ok 8 0] [0,1] []∧SX 19 (P2 69) [ob 9 .lss 3 8 7] [0,1,7,8] []∧SX 19 (P2 1125) [om 10 8,om 5 10] [0,1,7,8] []∧SX 19 (P2 2661) [om 11 1,om 12 0,om 13 5,oi 14 37 12 13,ol 15 86 14,oq 16 (.call false none (tq 11) [tq 15])] [0,1,5,7,8] []∧SX 19 (P2 9829) [om 17 5,om 4 17] [5] []∧SX 19 (P2 485) [oc 18 .add 3 8 1,om 8 18] [0,1,3,7,8] []∧SX 19 (P2 11) [oq 4 (.mv (.const (.int .i64 (Int.negSucc 0))))] [] []∧LX 19 RZ [0,1,7,8] []:=⟨fun _ _=>rfl,rx,rx,rx,rx,rx,rx,rx,rx,lx⟩
def AG4:=rg Tryz.f180
def A0T:Code:=(.seq (AG4 2) (.seq (AG4 5) .ret))
theorem b180:Tryz.f180.body=some A0T:=by kernel_rfl
@[simp] theorem BLO:SX 9 (AG4 2) [ot 4 false] [0,1] [7]∧SX 9 (AG4 5) [om 5 0,om 6 1,od 7 192 [tq 5,tq 6],oc 8 .geq 3 7 0,om 4 8] [0,1,2,3] [2,3]:=⟨rx,rx⟩
def AG5:=rg Tryz.f149
def A0U:Code:=(.seq (AG5 2) (.seq (AG5 5) .ret))
theorem BCM:Tryz.f149.body=some A0U:=by kernel_rfl
@[simp] theorem BLP:SX 9 (AG5 2) [oq 3 (.box (tq 1)),ot 4 false] [0,1,2] [3]∧SX 9 (AG5 5) [om 5 0,oq 6 (.oth (.makeFunc (.func 181) #[] #[tq 3])),od 7 180 [tq 5,tq 6],ou 8 7,om 4 8] [0,1,2,3] [2,3]:=⟨rx,rx⟩
def AG6:=rg Tryz.f181
def A0V:Code:=(.seq (AG6 2) (.seq (AG6 5) .ret))
theorem b181:Tryz.f181.body=some A0V:=by kernel_rfl
@[simp] theorem BLQ:SX 8 (AG6 2) [oq 2 (.box (tq 0)),ot 3 false] [0,1] []∧SX 8 (AG6 5) [ol 4 225 1,ol 5 86 2,oq 6 (.call false none (tq 4) [tq 5]),ou 7 6,om 3 7] [0,1,2] [2]:=⟨rx,rx⟩
def P3:=rg Tryz.f193
@[simp] def AAN:Code:=(.seq (P3 69) (.seq (.cond (.tmp 9) .skip (.exit 0)) (.seq (.block 1 (.seq (P3 1125) (.seq (P3 2661) (.cond (.tmp 16) (.seq (P3 9829) .ret) .skip)))) (P3 485))))
def R3:=AAN
def APB:Code:=(.seq (P3 2) (.seq (.seq (P3 9) (.block 0 (.loop R3))) (.seq (P3 11) .ret)))
theorem b193:Tryz.f193.body=some APB:=by kernel_rfl
@[simp] theorem BLR:UX 19 R3 AAN∧SX 19 (P3 2) [ok 4 0] [0,1] []∧SX 19 (P3 9) [om 6 0,oe 7 6 38,ok 8 0] [0,1] []∧SX 19 (P3 69) [ob 9 .lss 3 8 7] [0,1,7,8] []∧SX 19 (P3 1125) [om 10 8,om 5 10] [0,1,7,8] []∧SX 19 (P3 2661) [om 11 1,om 12 0,om 13 5,oi 14 38 12 13,ol 15 99 14,oq 16 (.call false none (tq 11) [tq 15])] [0,1,5,7,8] []∧SX 19 (P3 9829) [om 17 5,om 4 17] [5] []∧SX 19 (P3 485) [oc 18 .add 3 8 1,om 8 18] [0,1,3,7,8] []∧SX 19 (P3 11) [oq 4 (.mv (.const (.int .i64 (Int.negSucc 0))))] [] []∧LX 19 R3 [0,1,7,8] []:=⟨fun _ _=>rfl,rx,rx,rx,rx,rx,rx,rx,rx,lx⟩
def AG7:=rg Tryz.f182
def A0W:Code:=(.seq (AG7 2) (.seq (AG7 5) .ret))
theorem b182:Tryz.f182.body=some A0W:=by kernel_rfl
@[simp] theorem BLS:SX 9 (AG7 2) [ot 4 false] [0,1] [7]∧SX 9 (AG7 5) [om 5 0,om 6 1,od 7 193 [tq 5,tq 6],oc 8 .geq 3 7 0,om 4 8] [0,1,2,3] [2,3]:=⟨rx,rx⟩
def AG8:=rg Tryz.f150
def A0X:Code:=(.seq (AG8 2) (.seq (AG8 5) .ret))
theorem BCN:Tryz.f150.body=some A0X:=by kernel_rfl
@[simp] theorem BLT:SX 9 (AG8 2) [oq 3 (.box (tq 1)),ot 4 false] [0,1,2] [3]∧SX 9 (AG8 5) [om 5 0,oq 6 (.oth (.makeFunc (.func 183) #[] #[tq 3])),od 7 182 [tq 5,tq 6],ou 8 7,om 4 8] [0,1,2,3] [2,3]:=⟨rx,rx⟩
def AG9:=rg Tryz.f183
def A0Y:Code:=(.seq (AG9 2) (.seq (AG9 5) .ret))
theorem b183:Tryz.f183.body=some A0Y:=by kernel_rfl
@[simp] theorem BLU:SX 8 (AG9 2) [oq 2 (.box (tq 0)),ot 3 false] [0,1] []∧SX 8 (AG9 5) [ol 4 226 1,ol 5 99 2,oq 6 (.call false none (tq 4) [tq 5]),ou 7 6,om 3 7] [0,1,2] [2]:=⟨rx,rx⟩
def NG:=rg Tryz.f110
def NH:Code:=(.seq (NG 2) (.seq (NG 5) (.seq (.block 0 (.seq (NG 35) (.cond (.tmp 9) (.seq (NG 147) .ret) (.seq (NG 179) (.cond (.tmp 35) (.seq (NG 627) .ret) (.seq (NG 755) (.cond (.tmp 81) (.seq (NG 2547) .ret) .skip))))))) (.seq (NG 23) .ret))))
theorem BCO:Tryz.f110.body=some NH:=by kernel_rfl
@[simp] theorem BLV:SX 112 (NG 2) [oq 1 (.box (tq 0)),ok 2 0] [0] [1,20,21,26,27,102,103,104]∧RX 112 (NG 5) (.drw [⟨[],[ol 5 40 1,oq 6 (.oth (.makeFunc (.func 141) #[tq 5] #[])),ol 7 40 1,oq 8 (.oth (.makeFunc (.func 142) #[tq 7] #[])),om 3 6,om 4 8],[]⟩]) (some ([1],[1]))∧SX 112 (NG 35) [oz 10 40 1 0,ol 11 3 10,oc 12 .gtr 3 11 4,om 13 12,gz 13 false 14 40 1 1,gl 13 false 15 3 14,gc 13 false 16 .gtr 3 15 3,oq 17 (.pick (tq 13) (cb true) (tq 16)),om 18 17,gz 18 false 19 40 1 2,gl 18 false 20 3 19,gc 18 false 21 .gtr 3 20 5,oq 22 (.pick (tq 18) (cb true) (tq 21)),om 23 22,gz 23 false 24 40 1 7,gl 23 false 25 37 24,ge 23 false 26 25 37,gc 23 false 27 .gtr 3 26 4,oq 28 (.pick (tq 23) (cb true) (tq 27)),om 29 28,gz 29 false 30 40 1 8,gl 29 false 31 38 30,ge 29 false 32 31 38,gc 29 false 33 .gtr 3 32 5,oq 34 (.pick (tq 29) (cb true) (tq 33)),om 9 34] [1,3,4] [1]∧SX 112 (NG 147) [ok 2 3] [] []∧SX 112 (NG 179) [oz 36 40 1 0,ol 37 3 36,oc 38 .lss 3 37 0,om 39 38,gz 39 false 40 40 1 1,gl 39 false 41 3 40,gc 39 false 42 .lss 3 41 1,oq 43 (.pick (tq 39) (cb true) (tq 42)),om 44 43,gz 44 false 45 40 1 2,gl 44 false 46 3 45,gc 44 false 47 .lss 3 46 1,oq 48 (.pick (tq 44) (cb true) (tq 47)),om 49 48,gz 49 false 50 40 1 3,gl 49 false 51 3 50,gd 49 false 52 143 [tq 51,ci 0,ci 4],og 49 false 53 (.oth (.unOp .not 4 (tq 52))),oq 54 (.pick (tq 49) (cb true) (tq 53)),om 55 54,gz 55 false 56 40 1 4,gl 55 false 57 22 56,ge 55 false 58 57 22,gz 55 false 59 40 1 1,gl 55 false 60 3 59,gb 55 false 61 .neq 3 58 60,oq 62 (.pick (tq 55) (cb true) (tq 61)),om 63 62,gz 63 false 64 40 1 5,gl 63 false 65 22 64,ge 63 false 66 65 22,gz 63 false 67 40 1 0,gl 63 false 68 3 67,gc 63 false 69 .add 3 68 1,gb 63 false 70 .neq 3 66 69,oq 71 (.pick (tq 63) (cb true) (tq 70)),om 72 71,gz 72 false 73 40 1 6,gl 72 false 74 23 73,ge 72 false 75 74 23,gz 72 false 76 40 1 0,gl 72 false 77 3 76,gc 72 false 78 .add 3 77 1,gb 72 false 79 .neq 3 75 78,oq 80 (.pick (tq 72) (cb true) (tq 79)),om 35 80] [1,3,4] [1]∧SX 112 (NG 627) [ok 2 1] [] []∧SX 112 (NG 755) [oz 82 40 1 4,ol 83 22 82,od 84 144 [tq 83,.func 145],ou 85 84,om 86 85,gz 86 false 87 40 1 5,gl 86 false 88 22 87,gd 86 false 89 144 [tq 88,.func 146],og 86 false 90 (.oth (.unOp .not 4 (tq 89))),oq 91 (.pick (tq 86) (cb true) (tq 90)),om 92 91,gz 92 false 93 40 1 6,gl 92 false 94 23 93,gd 92 false 95 147 [tq 94,.func 148],og 92 false 96 (.oth (.unOp .not 4 (tq 95))),oq 97 (.pick (tq 92) (cb true) (tq 96)),om 98 97,gz 98 false 99 40 1 7,gl 98 false 100 37 99,gm 98 false 101 3,gd 98 false 102 149 [tq 100,tq 101],og 98 false 103 (.oth (.unOp .not 4 (tq 102))),oq 104 (.pick (tq 98) (cb true) (tq 103)),om 105 104,gz 105 false 106 40 1 8,gl 105 false 107 38 106,gm 105 false 108 4,gd 105 false 109 150 [tq 107,tq 108],og 105 false 110 (.oth (.unOp .not 4 (tq 109))),oq 111 (.pick (tq 105) (cb true) (tq 110)),om 81 111] [1,3,4] [1]∧SX 112 (NG 2547) [ok 2 1] [] []∧SX 112 (NG 23) [ok 2 0] [] []:=⟨rx,rx,rx,rx,rx,rx,rx,rx,rx⟩
def AHA:=rg Tryz.f111
def APC:Code:=(.seq (AHA 2) (.seq (AHA 5) .ret))
theorem BCP:Tryz.f111.body=some APC:=by kernel_rfl
@[simp] theorem BLW:SX 16 (AHA 2) [oq 2 (.box (tq 0)),ot 4 false] [0,1] [2]∧SX 16 (AHA 5) [om 5 1,oe 6 5 23,oz 7 40 2 0,ol 8 3 7,oc 9 .add 3 8 1,ob 10 .eql 3 6 9,om 11 10,gm 11 true 12 1,og 11 true 13 (.oth (.makeFunc (.func 151) #[] #[tq 2])),gd 11 true 14 147 [tq 12,tq 13],oq 15 (.pick (tq 11) (tq 14) (cb false)),om 4 15] [1,2] [2]:=⟨rx,rx⟩
def AHB:=rg Tryz.f151
def APD:Code:=(.seq (AHB 2) (.seq (AHB 5) .ret))
theorem b151:Tryz.f151.body=some APD:=by kernel_rfl
@[simp] theorem BLX:SX 13 (AHB 2) [ot 3 false] [0,1,2] [3,4,5,9]∧SX 13 (AHB 5) [om 4 0,oe 5 4 22,oz 6 40 1 1,ol 7 3 6,ob 8 .eql 3 5 7,om 9 8,gm 9 true 10 0,gd 9 true 11 144 [tq 10,.func 145],oq 12 (.pick (tq 9) (tq 11) (cb false)),om 3 12] [0,1] []:=⟨rx,rx⟩
def AHC:=rg Tryz.f194
def A0Z:Code:=(.seq (AHC 2) (.seq (AHC 5) .ret))
theorem BCQ:Tryz.f194.body=some A0Z:=by kernel_rfl
@[simp] theorem BLY:SX 6 (AHC 2) [ok 2 0] [0,1] []∧SX 6 (AHC 5) [om 3 0,oc 4 .add 3 3 2,oc 5 .rem 3 4 4,om 2 5] [0,1] []:=⟨rx,rx⟩
def AHD:=rg Tryz.f195
def A00:Code:=(.seq (AHD 2) (.seq (AHD 5) .ret))
theorem BCR:Tryz.f195.body=some A00:=by kernel_rfl
@[simp] theorem BLZ:SX 11 (AHD 2) [oq 3 (.box (tq 0)),oq 4 (.box (tq 1)),oq 5 (.box (tq 2)),ot 6 false] [0,1,2] [3,4,5]∧SX 11 (AHD 5) [oz 7 40 3 7,ol 8 37 7,oq 9 (.oth (.makeFunc (.func 199) #[] #[tq 5,tq 4,tq 3])),od 10 180 [tq 8,tq 9],om 6 10] [3,4,5] [3,4,5]:=⟨rx,rx⟩
def KD:=rg Tryz.f199
def AAO:Code:=(.seq (KD 2) (.seq (KD 5) (.seq (.block 0 (.seq (KD 35) (.cond (.tmp 7) (KD 83) (.seq (KD 179) (.cond (.tmp 22) (KD 371) (.seq (KD 755) (.cond (.tmp 37) (KD 1523) (.seq (KD 3059) (.cond (.tmp 52) (KD 6131) .skip))))))))) (.seq (KD 23) .ret))))
theorem b199:Tryz.f199.body=some AAO:=by kernel_rfl
@[simp] theorem BL0:SX 71 (KD 2) [oq 4 (.box (tq 0)),ot 5 false] [0,1,2,3] []∧SX 71 (KD 5) [ok 6 0] [1,2,3,4] [4]∧SX 71 (KD 35) [ol 8 3 1,oc 9 .eql 3 8 0,om 10 9,gz 10 true 11 86 4 1,gl 10 true 12 3 11,gz 10 true 13 86 2 1,gl 10 true 14 3 13,gb 10 true 15 .eql 3 12 14,oq 16 (.pick (tq 10) (tq 15) (cb false)),om 7 16] [1,2,3,4,6] [4]∧SX 71 (KD 83) [oz 17 86 2 0,ol 18 3 17,oz 19 86 4 0,ol 20 3 19,ob 21 .sub 3 18 20,om 6 21] [2,3,4] [4]∧SX 71 (KD 179) [ol 23 3 1,oc 24 .eql 3 23 2,om 25 24,gz 25 true 26 86 4 1,gl 25 true 27 3 26,gz 25 true 28 86 2 1,gl 25 true 29 3 28,gb 25 true 30 .eql 3 27 29,oq 31 (.pick (tq 25) (tq 30) (cb false)),om 22 31] [1,2,3,4,6] [4]∧SX 71 (KD 371) [oz 32 86 4 0,ol 33 3 32,oz 34 86 2 0,ol 35 3 34,ob 36 .sub 3 33 35,om 6 36] [2,3,4] [4]∧SX 71 (KD 755) [ol 38 3 1,oc 39 .eql 3 38 3,om 40 39,gz 40 true 41 86 4 0,gl 40 true 42 3 41,gz 40 true 43 86 2 0,gl 40 true 44 3 43,gb 40 true 45 .eql 3 42 44,oq 46 (.pick (tq 40) (tq 45) (cb false)),om 37 46] [1,2,3,4,6] [4]∧SX 71 (KD 1523) [oz 47 86 2 1,ol 48 3 47,oz 49 86 4 1,ol 50 3 49,ob 51 .sub 3 48 50,om 6 51] [2,3,4] [4]∧SX 71 (KD 3059) [ol 53 3 1,oc 54 .eql 3 53 1,om 55 54,gz 55 true 56 86 4 0,gl 55 true 57 3 56,gz 55 true 58 86 2 0,gl 55 true 59 3 58,gb 55 true 60 .eql 3 57 59,oq 61 (.pick (tq 55) (tq 60) (cb false)),om 52 61] [1,2,3,4,6] [4]∧SX 71 (KD 6131) [oz 62 86 4 1,ol 63 3 62,oz 64 86 2 1,ol 65 3 64,ob 66 .sub 3 63 65,om 6 66] [2,3,4] [4]∧SX 71 (KD 23) [om 67 6,oz 68 40 3 3,ol 69 3 68,od 70 143 [tq 67,ci 1,tq 69],om 5 70] [3,6] []:=⟨rx,rx,rx,rx,rx,rx,rx,rx,rx,rx,rx⟩
def AHE:=rg Tryz.f184
def A01:Code:=(.seq (AHE 2) (.seq (AHE 5) .ret))
theorem BCS:Tryz.f184.body=some A01:=by kernel_rfl
@[simp] theorem BL1:SX 19 (AHE 2) [oq 4 (.box (tq 0)),oq 5 (.box (tq 1)),ot 8 false] [0,1,2,3] [4]∧SX 19 (AHE 5) [om 9 2,om 10 3,od 11 194 [tq 10],ob 12 .eql 3 9 11,om 13 12,gl 13 false 14 40 4,gl 13 false 15 86 5,gm 13 false 16 3,gd 13 false 17 195 [tq 14,tq 15,tq 16],oq 18 (.pick (tq 13) (cb true) (tq 17)),om 8 18] [2,3,4,5] [4,5]:=⟨rx,rx⟩
def P4:=rg Tryz.f153
def A02:Code:=(.seq (P4 2) (.seq (P4 5) (.seq (.seq (P4 19) (.cond (.tmp 25) (P4 43) .skip)) (.seq (.seq (P4 39) (.cond (.tmp 27) (P4 87) .skip)) (.seq (P4 47) (.seq (P4 95) .ret))))))
theorem BCT:Tryz.f153.body=some A02:=by kernel_rfl
@[simp] theorem BL2:SX 36 (P4 2) [oq 5 (.box (tq 0)),oq 6 (.box (tq 1)),oq 10 (.alloc 155)] [0,1,2,3,4] [5]∧RX 36 (P4 5) (.drw [⟨[],[oz 13 40 5 5,ol 14 22 13,om 15 2,oi 16 22 14 15,ol 17 3 16,om 18 3,ob 19 .eql 3 17 18,ol 20 40 5,ol 21 86 6,om 22 3,om 23 4,od 24 184 [tq 20,tq 21,tq 22,tq 23],om 11 19,om 12 24],[]⟩]) (some ([2,3,4,5,6,10],[5,6,10]))∧SX 36 (P4 19) [om 25 11] [10,11,12] [10]∧SX 36 (P4 43) [oz 26 155 10 0,os (.sto 3 (tq 26) (ci 1))] [10,12] [10]∧SX 36 (P4 39) [om 27 12] [10,12] [10]∧SX 36 (P4 87) [oz 28 155 10 1,os (.sto 3 (tq 28) (ci 1))] [10] [10]∧SX 36 (P4 47) [oz 29 155 10 0,ol 30 3 29,oz 31 155 10 1,ol 32 3 31,ob 33 .mul 3 30 32,oz 34 155 10 2,os (.sto 3 (tq 34) (tq 33))] [10] [10]∧SX 36 (P4 95) [ol 35 155 10,os (.sto 155 (tq 10) (tq 35))] [10] [10]:=⟨rx,rx,rx,rx,rx,rx,rx,rx⟩
def P5:=rg Tryz.f101
@[simp] def AAP:Code:=(lp (P5 267) 12 0 1 (.seq (P5 1099) (P5 1611)) (P5 459))
def R4:=AAP
def A03:Code:=(.seq (P5 2) (.seq (P5 5) (.seq (.seq (P5 19) (.block 0 (.loop R4))) (.seq (P5 23) .ret))))
theorem BCU:Tryz.f101.body=some A03:=by kernel_rfl
@[simp] theorem BL3:UX 35 R4 AAP∧SX 35 (P5 2) [oq 2 (.box (tq 0)),oq 4 (.mv (.const (.slice none 0 0)))] [0,1] [2]∧SX 35 (P5 5) [oq 5 (.mv (.const (.slice none 0 0)))] [1,2] [2]∧SX 35 (P5 19) [ok 6 0] [1,2,5] [2,29]∧SX 35 (P5 267) [om 8 6,oz 9 27 2 6,ol 10 23 9,oe 11 10 23,ob 12 .lss 3 8 11] [1,2,5,6] [2,29]∧SX 35 (P5 1099) [oz 15 27 2 6,ol 16 23 15,om 17 6,oi 18 23 16 17,ol 19 22 18,om 7 19] [1,2,5,6] [2,29]∧RX 35 (P5 1611) (.drw [⟨[],[om 20 5,om 21 7,om 22 1,om 23 7,oe 24 23 22,ob 25 .rem 3 22 24,oi 26 22 21 25,ol 27 3 26,oq 28 (.buildS 22 1 [(0,tq 27)]),om 30 1,om 31 7,oe 32 31 22,ob 33 .quo 3 30 32,oq 29 (.app [tq 20,tq 28] [22,22]),om 5 29,om 1 33],[]⟩]) (some ([1,2,5,6,7],[2,29]))∧SX 35 (P5 459) [om 13 6,oc 14 .add 3 13 1,om 6 14] [1,2,5,6] [2,29]∧SX 35 (P5 23) [om 34 5,om 4 34] [5] [29]∧LX 35 R4 [1,2,5,6] [2,29]:=⟨fun _ _=>rfl,rx,rx,rx,rx,rx,rx,rx,rx,lx⟩
def P6:=rg Tryz.f170
@[simp] def AAQ:Code:=(.seq (P6 69) (.seq (.cond (.tmp 9) .skip (.exit 0)) (.seq (.block 1 (.seq (P6 1125) (.seq (P6 2661) (.cond (.tmp 16) (.seq (P6 9829) .ret) .skip)))) (P6 485))))
def R5:=AAQ
def APE:Code:=(.seq (P6 2) (.seq (.seq (P6 9) (.block 0 (.loop R5))) (.seq (P6 11) .ret)))
theorem A04:Tryz.f170.body=some APE:=by kernel_rfl
@[simp] theorem BL4:UX 19 R5 AAQ∧SX 19 (P6 2) [ok 4 0] [0,1] []∧SX 19 (P6 9) [om 6 0,oe 7 6 22,ok 8 0] [0,1] []∧SX 19 (P6 69) [ob 9 .lss 3 8 7] [0,1,7,8] []∧SX 19 (P6 1125) [om 10 8,om 5 10] [0,1,7,8] []∧SX 19 (P6 2661) [om 11 1,om 12 0,om 13 5,oi 14 22 12 13,ol 15 3 14,ob 16 .eql 3 11 15] [0,1,5,7,8] []∧SX 19 (P6 9829) [om 17 5,om 4 17] [5] []∧SX 19 (P6 485) [oc 18 .add 3 8 1,om 8 18] [0,1,3,7,8] []∧SX 19 (P6 11) [oq 4 (.mv (.const (.int .i64 (Int.negSucc 0))))] [] []∧LX 19 R5 [0,1,7,8] []:=⟨fun _ _=>rfl,rx,rx,rx,rx,rx,rx,rx,rx,lx⟩
def AHF:=rg Tryz.f132
def A05:Code:=(.seq (AHF 2) (.seq (AHF 5) .ret))
theorem BCV:Tryz.f132.body=some A05:=by kernel_rfl
@[simp] theorem BL5:SX 9 (AHF 2) [ot 4 false] [0,1] [7]∧SX 9 (AHF 5) [om 5 0,om 6 1,od 7 170 [tq 5,tq 6],oc 8 .geq 3 7 0,om 4 8] [0,1,2,3] [2,3]:=⟨rx,rx⟩
def LB:=rg Tryz.f112
@[simp] def AAR:Code:=(.seq (LB 139) (.seq (.cond (.tmp 16) .skip (.exit 0)) (.seq (.block 1 (.seq (LB 2251) (.seq (LB 5323) (.cond (.tmp 27) (.seq (LB 19659) .ret) .skip)))) (LB 971))))
def R6:=AAR
def APF:Code:=(.seq (LB 2) (.seq (.seq (LB 9) (.cond (.tmp 12) (.seq (LB 37) .ret) .skip)) (.seq (.seq (LB 19) (.block 0 (.loop R6))) (.seq (LB 23) .ret))))
theorem BCW:Tryz.f112.body=some APF:=by kernel_rfl
@[simp] theorem BL6:UX 29 R6 AAR∧SX 29 (LB 2) [oq 2 (.box (tq 0)),ot 4 false] [0,1] [2]∧SX 29 (LB 9) [om 7 1,oe 8 7 22,oz 9 40 2 0,ol 10 3 9,oc 11 .add 3 10 1,ob 12 .neq 3 8 11] [1,2] [2]∧SX 29 (LB 37) [ot 4 false] [] []∧SX 29 (LB 19) [om 13 1,oe 14 13 22,ok 15 0] [1,2] [2]∧SX 29 (LB 139) [ob 16 .lss 3 15 14] [2,13,14,15] [2]∧SX 29 (LB 2251) [om 17 15,oi 18 22 13 15,ol 19 3 18,om 5 17,om 6 19] [2,13,14,15] [2]∧SX 29 (LB 5323) [oz 20 40 2 6,ol 21 23 20,om 22 5,oi 23 23 21 22,ol 24 22 23,om 25 6,od 26 132 [tq 24,tq 25],ou 27 26] [2,5,6,13,14,15] [2]∧SX 29 (LB 19659) [ot 4 false] [] []∧SX 29 (LB 971) [oc 28 .add 3 15 1,om 15 28] [2,13,14,15] [2]∧SX 29 (LB 23) [ot 4 true] [] []∧LX 29 R6 [2,13,14,15] [2]:=⟨fun _ _=>rfl,rx,rx,rx,rx,rx,rx,rx,rx,rx,rx,lx⟩
def P7:=rg Tryz.f164
@[simp] def AAS:Code:=(.seq (P7 69) (.seq (.cond (.tmp 13) .skip (.exit 0)) (.seq (.block 1 (.seq (P7 1125) (.seq (P7 2661) (.cond (.tmp 30) (.seq (P7 9829) .ret) .skip)))) (P7 485))))
def R7:=AAS
def A06:Code:=(.seq (P7 2) (.seq (.seq (P7 9) (.block 0 (.loop R7))) (.seq (P7 11) .ret)))
theorem BCX:Tryz.f164.body=some A06:=by kernel_rfl
@[simp] theorem BL7:UX 32 R7 AAS∧SX 32 (P7 2) [oq 3 (.box (tq 0)),ot 6 false] [0,1,2] [3]∧SX 32 (P7 9) [oz 9 40 3 8,ol 10 38 9,oe 11 10 38,ok 12 0] [1,2,3] [3]∧SX 32 (P7 69) [ob 13 .lss 3 12 11] [1,2,10,11,12] [3]∧SX 32 (P7 1125) [om 14 12,oi 15 38 10 12,ol 16 99 15,oq 8 (.alloc 99),om 7 14,os (.sto 99 (tq 8) (tq 16))] [1,2,10,11,12] [3]∧RX 32 (P7 2661) (.drw [⟨[],[om 17 2,om 18 7],[od 19 132 [tq 17,tq 18]]⟩,⟨[],[ou 20 19,om 21 20,gm 21 true 22 1,gz 21 true 23 99 8 0,gl 21 true 24 3 23,gi 21 true 25 22 22 24,gl 21 true 26 3 25,gz 21 true 27 99 8 1,gl 21 true 28 3 27,gb 21 true 29 .neq 3 26 28,oq 30 (.pick (tq 21) (tq 29) (cb false))],[]⟩]) (some ([1,2,7,8,10,11,12],[3,8]))∧SX 32 (P7 9829) [ot 6 false] [] []∧SX 32 (P7 485) [oc 31 .add 3 12 1,om 12 31] [1,2,10,11,12] [3]∧SX 32 (P7 11) [ot 6 true] [] []∧LX 32 R7 [1,2,10,11,12] [3]:=⟨fun _ _=>rfl,rx,rx,rx,rx,rx,rx,rx,rx,lx⟩
def AHG:=rg Tryz.f124
def AHH:Code:=(.seq (AHG 2) (.seq (AHG 5) .ret))
theorem BCY:Tryz.f124.body=some AHH:=by kernel_rfl
@[simp] theorem BL8:SX 18 (AHG 2) [oq 2 (.box (tq 0)),ot 4 false] [0,1] [2]∧SX 18 (AHG 5) [ol 5 40 2,od 6 110 [tq 5],oc 7 .eql 34 6 0,om 8 7,gl 8 true 9 40 2,gm 8 true 10 1,gd 8 true 11 112 [tq 9,tq 10],oq 12 (.pick (tq 8) (tq 11) (cb false)),om 13 12,gl 13 true 14 40 2,gm 13 true 15 1,gd 13 true 16 164 [tq 14,tq 15,.const (.slice none 0 0)],oq 17 (.pick (tq 13) (tq 16) (cb false)),om 4 17] [1,2] [2]:=⟨rx,rx⟩
def NX:=rg Tryz.f165
@[simp] def AAT:Code:=(lp (NX 535) 15 0 1 (NX 1175) (NX 919))
def fA:=AAT
def A07:Code:=(.seq (NX 2) (.seq (.seq (NX 9) (.cond (.tmp 7) (NX 21) .skip)) (.seq (NX 11) (.seq (.seq (NX 39) (.block 0 (.loop fA))) (.seq (NX 47) .ret)))))
theorem BCZ:Tryz.f165.body=some A07:=by kernel_rfl
@[simp] theorem BL9:UX 25 fA AAT∧SX 25 (NX 2) [ok 2 0] [0] []∧SX 25 (NX 9) [om 5 0,oe 6 5 22,oc 7 .lss 3 6 1] [0] []∧SX 25 (NX 11) [om 9 0,oq 10 (.oth (.indexAddr 22 (tq 9) (ci 0))),ol 11 3 10,om 3 11] [0] []∧SX 25 (NX 39) [ok 4 1] [0,3] []∧SX 25 (NX 535) [om 12 4,om 13 0,oe 14 13 22,ob 15 .lss 3 12 14] [0,3,4] []∧SX 25 (NX 1175) [om 18 3,om 19 0,om 20 4,oi 21 22 19 20,ol 22 3 21,oq 23 (.oth (.call ⟨.builtin .min,#[tq 18,tq 22],#[3,3]⟩)),om 3 23] [0,3,4] []∧SX 25 (NX 919) [om 16 4,oc 17 .add 3 16 1,om 4 17] [0,3,4] []∧SX 25 (NX 47) [om 24 3,om 2 24] [3] []∧LX 25 fA [0,3,4] []:=⟨fun _ _=>rfl,rx,rx,rx,rx,rx,rx,rx,rx,lx⟩
def AHI:=rg Tryz.f198
def A08:Code:=(.seq (AHI 2) (.seq (AHI 5) .ret))
theorem BC0:Tryz.f198.body=some A08:=by kernel_rfl
@[simp] theorem BMA:SX 5 (AHI 2) [ok 2 0] [0] []∧SX 5 (AHI 5) [om 3 0,od 4 165 [tq 3],om 2 4] [0,1,2] [1,2]:=⟨rx,rx⟩
def AHJ:=rg Tryz.f186
def A09:Code:=(.seq (AHJ 2) (.seq (AHJ 5) .ret))
theorem BC1:Tryz.f186.body=some A09:=by kernel_rfl
@[simp] theorem BMB:SX 15 (AHJ 2) [oq 2 (.box (tq 0)),oq 4 (.alloc 207)] [0,1] []∧RX 15 (AHJ 5) (.drw [⟨[],[oz 5 207 2 0,oq 6 (.ldz 3 (tq 5)),om 7 1,oq 8 (.buildS 22 2 [(0,tq 6),(1,tq 7)]),od 9 198 [tq 8],oz 10 207 2 1,oq 11 (.ldz 3 (tq 10)),om 12 1,oq 13 (.oth (.call ⟨.builtin .max,#[tq 11,tq 12],#[3,3]⟩)),oq 14 (.build 207 [(0,tq 9),(1,tq 13)])],[os (.sto 207 (tq 4) (tq 14))]⟩]) (some ([1,2,4],[2,4])):=⟨rx,rx⟩
def bL:=rg Tryz.f196
def A1A:Code:=(.seq (bL 2) (.seq (bL 5) (.seq (bL 11) (.seq (bL 23) (bL 31)))))
theorem b196:Tryz.f196.body=some A1A:=by kernel_rfl
@[simp] theorem BMC:SX 13 (bL 2) [oq 3 (.box (tq 0))] [0,1,2] [3,4,5,9]∧SX 13 (bL 5) [oz 6 40 1 0,ol 7 3 6,oc 8 .add 3 7 1,oq 9 (.mkS 22 (tq 8) (tq 8)),oq 4 (.alloc 22),os (.sto 22 (tq 4) (tq 9))] [1,2,3] [3,4,5,9]∧SX 13 (bL 11) [oq 5 (.alloc 177)] [1,2,3,4] [3,4,5,9]∧SX 13 (bL 23) [oq 10 (.oth (.makeFunc (.func 197) #[] #[tq 4,tq 1,tq 2,tq 3,tq 5])),os (.sto 177 (tq 5) (tq 10))] [1,2,3,4,5] [3,4,5,9]∧SX 13 (bL 31) [ol 11 177 5,oq 12 (.call false none (tq 11) [ci 0])] [5] [3,4,5,9]:=⟨rx,rx,rx,rx,rx⟩
def KE:=rg Tryz.f197
@[simp] def AAU:Code:=(.seq (KE 139) (.seq (.cond (.tmp 31) .skip (.exit 0)) (.seq (.block 1 (.seq (KE 2251) (.seq (KE 5323) (.seq (KE 11467) (.cond (.tmp 42) (.seq (KE 40139) .ret) .skip))))) (KE 971))))
def R8:=AAU
def wF:Code:=(.seq (KE 2) (.seq (.seq (KE 9) (.cond (.tmp 13) (.seq (KE 37) .ret) .skip)) (.seq (.seq (KE 19) (.block 0 (.loop R8))) (.seq (KE 23) .ret))))
theorem b197:Tryz.f197.body=some wF:=by kernel_rfl
@[simp] theorem BC2(n:Nat)(st:XS):AE Tryz.prog ann kn (n+1) 44 (KE 37) st=NN (IW Tryz.prog (cfU [20009,30009] (BN Tryz.prog ann kn n)) (.str [ol 14 40 2,ol 15 22 1,ol 16 22 3,od 17 164 [tq 14,tq 15,tq 16],ou 18 17,om 19 18,gl 19 false 20 193 4,gl 19 false 21 22 1,og 19 false 22 (.call false none (tq 20) [tq 21]),oq 23 (.pick (tq 19) (cb true) (tq 22)),om 7 23]) (CE (some ([1,2,3,4],[])) (LY [] st))) :=
 L6 (by kernel_rfl) (by kernel_rfl) (by kernel_rfl) (by kernel_rfl) (by kernel_rfl) (by kernel_rfl)
@[simp] theorem BMD:UX 44 R8 AAU∧SX 44 (KE 2) [ot 7 false] [0,1,2,3,4,5] []∧SX 44 (KE 9) [om 10 0,ol 11 22 1,oe 12 11 22,ob 13 .eql 3 10 12] [0,1,2,3,4,5] []∧SX 44 (KE 19) [oz 24 40 2 6,ol 25 23 24,om 26 0,oi 27 23 25 26,ol 28 22 27,oe 29 28 22,ok 30 0] [0,1,2,5] []∧SX 44 (KE 139) [ob 31 .lss 3 30 29] [0,1,5,28,29,30] []∧SX 44 (KE 2251) [oi 32 22 28 30,ol 33 3 32,om 9 33] [0,1,5,28,29,30] []∧SX 44 (KE 5323) [ol 34 22 1,om 35 0,om 36 9,oi 37 22 34 35,os (.sto 3 (tq 37) (tq 36))] [0,1,5,9,28,29,30] []∧SX 44 (KE 11467) [ol 38 177 5,om 39 0,oc 40 .add 3 39 1,oq 41 (.call false none (tq 38) [tq 40]),ou 42 41] [0,1,5,28,29,30] []∧SX 44 (KE 40139) [ot 7 false] [] []∧SX 44 (KE 971) [oc 43 .add 3 30 1,om 30 43] [0,1,5,28,29,30] []∧SX 44 (KE 23) [ot 7 true] [] []∧LX 44 R8 [0,1,5,28,29,30] []:=⟨fun _ _=>rfl,rx,rx,rx,rx,rx,rx,rx,rx,rx,rx,lx⟩
def AHK:=rg Tryz.f185
def A1B:Code:=(.seq (AHK 2) (.seq (AHK 5) .ret))
theorem BC3:Tryz.f185.body=some A1B:=by kernel_rfl
@[simp] theorem BME:SX 6 (AHK 2) [oq 2 (.box (tq 0)),oq 3 (.box (tq 1)),oq 4 (.mv (.const .nilFunc))] [0,1] [2,3]∧SX 6 (AHK 5) [oq 5 (.oth (.makeFunc (.func 196) #[] #[tq 2,tq 3])),om 4 5] [2,3] [2,3]:=⟨rx,rx⟩
def D1:=rg Tryz.f154
@[simp] def sP:Code:=(.seq (D1 36191) (.seq (.cond (.tmp 35) .skip (.exit 2)) (.seq (.block 3 (.seq (D1 576863) (.seq (D1 1363295) (.cond (.tmp 48) (D1 2936159) .skip)))) (D1 249183))))
def JO:=sP
def AAV:Code:=(.seq (D1 2) (.seq (.seq (D1 9) (.seq (D1 21) (.cond (.tmp 15) (.seq (D1 77) .ret) .skip))) (.seq (.seq (D1 19) (.cond (.tmp 19) (.seq (D1 75) .ret) .skip)) (.seq (D1 23) (.seq (D1 47) (.seq (.seq (D1 159) (.block 0 (.rangeFunc (.tmp 30) #[31] (D1 607) (.block 1 (.seq (D1 2399) (.seq (D1 5471) (.block 2 (.loop JO)))))))) (.seq (.seq (D1 319) (.cond (.tmp 67) (.seq (D1 1215) .ret) .skip)) (.seq (D1 383) .ret))))))))
theorem b154:Tryz.f154.body=some AAV:=by kernel_rfl
@[simp] theorem A84(n:Nat)(st:XS):AE Tryz.prog ann kn (n+1) 69 (D1 1363295) st=NN (IW Tryz.prog (cfU [20800,20801,20802,20803,20804] (BN Tryz.prog ann kn n)) (.str [ol 39 233 7,oq 40 (.oth (.nilCheck (tq 39))),oz 41 250 40 1,ol 42 23 41,om 43 10,oi 44 23 42 43,ol 45 22 44,om 46 11,od 47 132 [tq 45,tq 46],ou 48 47]) (CE (some ([7,10,11,32,33,34],[2,7,24,25,26,28,30,63,800,801,802,803,804])) (LY [] st))) :=
 L6 (by kernel_rfl) (by kernel_rfl) (by kernel_rfl) (by kernel_rfl) (by kernel_rfl) (by kernel_rfl)
@[simp] theorem A85(n:Nat)(st:XS):AE Tryz.prog ann kn (n+1) 69 (D1 249183) st=NN (IW Tryz.prog (BN Tryz.prog ann kn n) (.str [oc 65 .add 3 34 1,om 34 65]) (CE (some ([7,32,33,34],[2,7,24,25,26,28,30,63,800,801,802,803,804])) (LY [25008011801063] st))) :=
 DT (by kernel_rfl) (by kernel_rfl) (by kernel_rfl) (by kernel_rfl) (by kernel_rfl)
@[simp] theorem A86(n:Nat)(st:XS):AE Tryz.prog ann kn (n+1) 69 (D1 383) st=NN (IW Tryz.prog (BN Tryz.prog ann kn n) (.str [ol 68 233 7,om 4 68,ok 5 0]) (CE (some ([7],[2,7,24,25,26,28,30,63,800,801,802,803,804])) (LY [1000000000000024,24,901025,902026,903028] st))) :=
 DT (by kernel_rfl) (by kernel_rfl) (by kernel_rfl) (by kernel_rfl) (by kernel_rfl)
@[simp] theorem BMF:UX 69 JO sP∧SX 69 (D1 2) [oq 2 (.box (tq 0)),oq 4 (.mv (.const (.pointer none))),ok 5 0] [0,1] [2,7,24,25,26,28,30,63,800,801,802,803,804]∧SX 69 (D1 9) [ol 12 40 2,od 13 110 [tq 12],om 6 13] [1,2] [2,7,24,25,26,28,30,63,800,801,802,803,804]∧SX 69 (D1 21) [om 14 6,oc 15 .neq 34 14 0] [1,2,6] [2,7,24,25,26,28,30,63,800,801,802,803,804]∧SX 69 (D1 77) [om 16 6,oq 4 (.mv (.const (.pointer none))),om 5 16] [6] []∧SX 69 (D1 19) [om 17 1,oq 18 (.call false none (tq 17) []),ou 19 18] [1,2] [2,7,24,25,26,28,30,63,800,801,802,803,804]∧SX 69 (D1 75) [oq 4 (.mv (.const (.pointer none))),ok 5 2] [] []∧RX 69 (D1 23) (.drw [⟨[24,25,26,28,7],[oq 20 (.ldz 40 (tq 2)),oz 21 40 2 0,oq 22 (.ldz 3 (tq 21)),oc 23 .add 3 22 1,oq 24 (.mkS 23 (tq 23) (tq 23)),oq 25 (.mkM none),oq 26 (.mkM none),oq 27 (.build 250 [(0,tq 20),(1,tq 24),(2,tq 25),(3,tq 26)]),oq 28 (.box (tq 27)),oq 7 (.alloc 233)],[os (.sto 233 (tq 7) (tq 28))]⟩]) (some ([2],[2,30,63]))∧SX 69 (D1 47) [oq 8 (.alloc 4),os (.sto 4 (tq 8) (cb false))] [2,7] [2,7,24,25,26,28,30,63,800,801,802,803,804]∧SX 69 (D1 159) [ol 29 40 2,od 30 185 [tq 29,.const (.slice none 0 0)]] [2,7,8] [2,7,8,24,25,26,28,30,63,800,801,802,803,804]∧SX 69 (D1 607) [om 9 31] [7,8,31] [2,7,8,24,25,26,28,30,63,800,801,802,803,804]∧SX 69 (D1 2399) [os (.sto 4 (tq 8) (cb true))] [7,8,9] [2,7,8,24,25,26,28,30,63,800,801,802,803,804]∧SX 69 (D1 5471) [om 32 9,oe 33 32 22,ok 34 0] [7,9] [2,7,24,25,26,28,30,63,800,801,802,803,804]∧SX 69 (D1 36191) [ob 35 .lss 3 34 33] [7,32,33,34] [2,7,24,25,26,28,30,63,800,801,802,803,804]∧SX 69 (D1 576863) [om 36 34,oi 37 22 32 34,ol 38 3 37,om 10 36,om 11 38] [7,32,33,34] [2,7,24,25,26,28,30,63,800,801,802,803,804]∧RX 69 (D1 2936159) (.drw [⟨[],[ol 49 233 7,oq 50 (.oth (.nilCheck (tq 49))),oz 51 250 50 1,ol 52 23 51,om 53 10,ol 54 233 7,oq 55 (.oth (.nilCheck (tq 54))),oz 56 250 55 1,ol 57 23 56,om 58 10,oi 59 23 57 58,oq 60 (.ldz 22 (tq 59)),om 61 11,oq 62 (.buildS 22 1 [(0,tq 61)]),oq 63 (.app [tq 60,tq 62] [22,22]),oi 64 23 52 53],[os (.sto 22 (tq 64) (tq 63))]⟩]) (some ([7,10,11,32,33,34],[2,7,24,25,26,28,30,63,800,801,802,803,804]))∧SX 69 (D1 319) [ol 66 4 8,ou 67 66] [7,8] [2,7,8,24,25,26,28,30,63,800,801,802,803,804]∧SX 69 (D1 1215) [oq 4 (.mv (.const (.pointer none))),ok 5 11] [] []∧LX 69 JO [7,32,33,34] [2,7,24,25,26,28,30,63,800,801,802,803,804]:=⟨fun _ _=>rfl,rx,rx,rx,rx,rx,rx,rx,rx,rx,rx,rx,rx,rx,rx,rx,rx,rx,lx⟩
def FB:=rg Tryz.f113
@[simp] def AAW:Code:=(.seq (FB 36279909) (.seq (.cond (.tmp 29) .skip (.exit 4)) (.seq (.block 5 (.seq (FB 589928037) (FB 858363493))) (FB 254383717))))
def R9:=AAW
@[simp] def AAX:Code:=(.seq (FB 71269) (.seq (.cond (.tmp 24) .skip (.exit 2)) (.seq (.block 3 (.seq (FB 1152613) (.seq (.seq (FB 4822629) (.block 4 (.loop R9))) (FB 3774053)))) (FB 497253))))
def SA:=AAX
@[simp] def AAY:Code:=(.seq (FB 69) (.seq (.cond (.tmp 16) .skip (.exit 0)) (.seq (.block 1 (.seq (FB 1125) (.seq (FB 2661) (.seq (.seq (FB 9829) (.block 2 (.loop SA))) (FB 7781))))) (FB 485))))
def SB:=AAY
def APG:Code:=(.seq (FB 2) (.seq (.seq (FB 9) (.block 0 (.loop SB))) (.seq (FB 11) .ret)))
theorem b113:Tryz.f113.body=some APG:=by kernel_rfl
@[simp] theorem A87(n:Nat)(st:XS):AE Tryz.prog ann kn (n+1) 67 (FB 7781) st=NN (IW Tryz.prog (BN Tryz.prog ann kn n) (.str [om 60 6,om 61 9,oq 62 (.buildS 123 1 [(0,tq 61)]),oq 63 (.app [tq 60,tq 62] [123,123]),om 6 63]) (CE (some ([1,2,3,6,7,9,14,15],[3,20,63])) (LY [20] st))) :=
 DT (by kernel_rfl) (by kernel_rfl) (by kernel_rfl) (by kernel_rfl) (by kernel_rfl)
@[simp] theorem BMG:UX 67 R9 AAW∧UX 67 SA AAX∧UX 67 SB AAY∧SX 67 (FB 2) [oq 3 (.box (tq 0)),oq 6 (.mv (.const (.slice none 0 0))),ok 7 0] [0,1,2] [3]∧SX 67 (FB 9) [oz 13 40 3 1,ol 14 3 13,ok 15 0] [1,2,3,6,7] [3,63]∧SX 67 (FB 69) [ob 16 .lss 3 15 14] [1,2,3,6,7,14,15] [3,63]∧SX 67 (FB 1125) [om 17 15,om 8 17] [1,2,3,6,7,14,15] [3,63]∧SX 67 (FB 2661) [oz 18 40 3 2,ol 19 3 18,oq 20 (.mkS 156 (tq 19) (tq 19)),om 9 20] [1,2,3,6,7,8,14,15] [3,63]∧SX 67 (FB 9829) [om 21 9,oe 22 21 156,ok 23 0] [1,2,3,6,7,8,9,14,15] [3,20,63]∧SX 67 (FB 71269) [ob 24 .lss 3 23 22] [1,2,3,6,7,8,9,14,15,22,23] [3,20,63]∧SX 67 (FB 1152613) [om 25 23,om 10 25] [1,2,3,6,7,8,9,14,15,22,23] [3,20,63]∧SX 67 (FB 4822629) [om 26 2,oe 27 26 22,ok 28 0] [1,2,3,6,7,8,9,10,14,15,22,23] [3,20,63]∧SX 67 (FB 36279909) [ob 29 .lss 3 28 27] [1,2,3,6,7,8,9,10,14,15,22,23,26,27,28] [3,20,63]∧SX 67 (FB 589928037) [om 30 28,oi 31 22 26 28,ol 32 3 31,om 11 30,om 12 32] [1,2,3,6,7,8,9,10,14,15,22,23,26,27,28] [3,20,63]∧RX 67 (FB 858363493) (.drw [⟨[],[om 33 9,om 34 10,oi 35 156 33 34,ol 36 40 3,om 37 8,om 38 10,oq 39 (.build 86 [(0,tq 37),(1,tq 38)]),om 40 11,om 41 1,om 42 11,oi 43 23 41 42,ol 44 22 43,om 45 8,oi 46 22 44 45,ol 47 3 46,om 48 12,od 49 153 [tq 36,tq 39,tq 40,tq 47,tq 48]],[od 50 152 [tq 35,tq 49]]⟩,⟨[],[],[]⟩]) (some ([1,2,3,6,7,8,9,10,11,12,14,15,22,23,26,27,28],[3,20,63]))∧SX 67 (FB 254383717) [oc 51 .add 3 28 1,om 28 51] [1,2,3,6,7,8,9,10,14,15,22,23,26,27,28] [3,20,63]∧SX 67 (FB 3774053) [om 52 7,om 53 9,om 54 10,oi 55 156 53 54,oz 56 155 55 2,ol 57 3 56,ob 58 .add 3 52 57,om 7 58] [1,2,3,6,7,8,9,10,14,15,22,23] [3,20,63]∧SX 67 (FB 497253) [oc 59 .add 3 23 1,om 23 59] [1,2,3,6,7,8,9,14,15,22,23] [3,20,63]∧SX 67 (FB 485) [oc 64 .add 3 15 1,om 15 64] [1,2,3,6,7,14,15] [3,63]∧SX 67 (FB 11) [om 65 6,om 66 7,om 6 65,om 7 66] [6,7] [63]∧LX 67 SB [1,2,3,6,7,14,15] [3,63]∧LX 67 SA [1,2,3,6,7,8,9,14,15,22,23] [3,20,63]∧LX 67 R9 [1,2,3,6,7,8,9,10,14,15,22,23,26,27,28] [3,20,63]:=⟨fun _ _=>rfl,fun _ _=>rfl,fun _ _=>rfl,rx,rx,rx,rx,rx,rx,rx,rx,rx,rx,rx,rx,rx,rx,rx,rx,rx,lx,lx,lx⟩
def AHL:=rg Tryz.f152
def A1C:Code:=(.seq (AHL 2) (AHL 3))
theorem b152:Tryz.f152.body=some A1C:=by kernel_rfl
@[simp] theorem BMH:SX 34 (AHL 2) [oq 3 (.box (tq 1))] [0,1] []∧RX 34 (AHL 3) (.drw [⟨[],[om 4 0,om 5 0,om 6 0,om 7 0,oq 8 (.oth (.nilCheck (tq 7))),oz 9 155 8 0,oq 10 (.ldz 3 (tq 9)),oz 11 155 3 0,oq 12 (.ldz 3 (tq 11)),ob 13 .add 3 10 12,om 14 0,oq 15 (.oth (.nilCheck (tq 14))),oz 16 155 15 1,oq 17 (.ldz 3 (tq 16)),oz 18 155 3 1,ol 19 3 18,ob 20 .add 3 17 19,om 21 0,oq 22 (.oth (.nilCheck (tq 21))),oz 23 155 22 2,oq 24 (.ldz 3 (tq 23)),oz 25 155 3 2,ol 26 3 25,ob 27 .add 3 24 26,oq 28 (.oth (.nilCheck (tq 4))),oz 29 155 28 0,os (.sto 3 (tq 29) (tq 13)),oq 30 (.oth (.nilCheck (tq 5))),oz 31 155 30 1,os (.sto 3 (tq 31) (tq 20)),oq 32 (.oth (.nilCheck (tq 6))),oz 33 155 32 2,os (.sto 3 (tq 33) (tq 27))],[]⟩]) (some ([0,3],[3])):=⟨rx,rx⟩
def sQ:=rg Tryz.f66
def c66:Code:=(.seq (sQ 2) (.seq (.seq (sQ 9) (.seq (sQ 21) (.cond (.tmp 14) (.seq (sQ 77) .ret) .skip))) (.seq (.seq (sQ 19) (.cond (.tmp 25) (.seq (sQ 75) .ret) .skip)) (.seq (sQ 23) (.seq (sQ 47) .ret)))))
theorem b66:Tryz.f66.body=some c66:=by kernel_rfl
@[simp] theorem BH0(n:Nat)(st:XS):AE Tryz.prog ann kn (n+1) 34 (sQ 19) st=NN (IW Tryz.prog (cfU [20010] (BN Tryz.prog ann kn n)) (.str [ol 16 40 3,om 17 1,od 18 111 [tq 16,tq 17],ou 19 18,om 20 19,gl 20 false 21 40 3,gm 20 false 22 2,gd 20 false 23 112 [tq 21,tq 22],og 20 false 24 (.oth (.unOp .not 4 (tq 23))),oq 25 (.pick (tq 20) (cb true) (tq 24))]) (CE (some ([1,2,3],[3,30])) (LY [] st))) :=
 L6 (by kernel_rfl) (by kernel_rfl) (by kernel_rfl) (by kernel_rfl) (by kernel_rfl) (by kernel_rfl)
@[simp] theorem x66:SX 34 (sQ 2) [oq 3 (.box (tq 0)),oq 6 (.mv (.const (.slice none 0 0))),ok 7 0] [0,1,2] [3,30]∧SX 34 (sQ 9) [ol 11 40 3,od 12 110 [tq 11],om 8 12] [1,2,3] [3,30]∧SX 34 (sQ 21) [om 13 8,oc 14 .neq 34 13 0] [1,2,3,8] [3,30]∧SX 34 (sQ 23) [ol 27 40 3,om 28 1,om 29 2,od 30 113 [tq 27,tq 28,tq 29],om 26 30,oq 31 (.oth (.extract (tq 26) 0)),oq 32 (.oth (.extract (tq 26) 1)),om 9 31,om 10 32] [1,2,3] [3,30]∧SX 34 (sQ 47) [om 33 9,om 6 33,ok 7 0] [9] [3,30]:=⟨rx,rx,rx,rx,rx⟩
def bF:=rg Tryz.f68
@[simp] def ALQ:Code:=(lp (bF 267) 28 0 1 (bF 587) (bF 459))
def XK:=ALQ
@[simp] def ALR:Code:=(lp (bF 535) 46 2 3 (bF 1175) (bF 919))
def XL:=ALR
def c68:Code:=(.seq (bF 2) (.seq (bF 5) (.seq (.seq (bF 19) (.block 0 (.loop XK))) (.seq (.seq (bF 39) (.block 2 (.loop XL))) (.seq (bF 47) .ret)))))
theorem b68:Tryz.f68.body=some c68:=by kernel_rfl
@[simp] theorem x68:UX 68 XK ALQ∧UX 68 XL ALR∧SX 68 (bF 2) [oq 1 (.box (tq 0)),oq 2 (.alloc 40)] [0] [1,2,3,16,19,22,40,65]∧RX 68 (bF 5) (.drw [⟨[3],[oz 6 27 1 0,oq 7 (.ldz 3 (tq 6)),oz 8 27 1 1,oq 9 (.ldz 3 (tq 8)),oz 10 27 1 2,oq 11 (.ldz 3 (tq 10)),oz 12 27 1 3,oq 13 (.ldz 3 (tq 12)),oz 14 27 1 4,oq 15 (.ldz 22 (tq 14)),od 16 114 [tq 15],oz 17 27 1 5,oq 18 (.ldz 22 (tq 17)),od 19 114 [tq 18],oz 20 27 1 6,oq 21 (.ldz 23 (tq 20)),od 22 115 [tq 21],oq 23 (.build 40 [(0,tq 7),(1,tq 9),(2,tq 11),(3,tq 13),(4,tq 16),(5,tq 19),(6,tq 22)]),oq 3 (.alloc 40)],[os (.sto 40 (tq 3) (tq 23))]⟩]) (some ([1,2],[1,2,40,65]))∧SX 68 (bF 19) [ok 4 0] [1,2,3] [1,2,3,16,19,22,40,65]∧SX 68 (bF 267) [om 24 4,oz 25 27 1 7,ol 26 24 25,oe 27 26 24,ob 28 .lss 3 24 27] [1,2,3,4] [1,2,3,16,19,22,40,65]∧RX 68 (bF 587) (.drw [⟨[],[oz 31 40 3 7,oq 32 (.ldz 37 (tq 31)),oz 33 27 1 7,ol 34 24 33,om 35 4,oi 36 24 34 35,ol 37 59 36,od 38 48 [tq 37],oq 39 (.buildS 37 1 [(0,tq 38)]),oq 40 (.app [tq 32,tq 39] [37,37]),oz 41 40 3 7],[os (.sto 37 (tq 41) (tq 40))]⟩]) (some ([1,2,3,4],[1,2,3,16,19,22,40,65]))∧SX 68 (bF 459) [om 29 4,oc 30 .add 3 29 1,om 4 30] [1,2,3,4] [1,2,3,16,19,22,40,65]∧SX 68 (bF 39) [ok 5 0] [1,2,3] [1,2,3,16,19,22,40,65]∧SX 68 (bF 535) [om 42 5,oz 43 27 1 8,ol 44 25 43,oe 45 44 25,ob 46 .lss 3 42 45] [1,2,3,5] [1,2,3,16,19,22,40,65]∧RX 68 (bF 1175) (.drw [⟨[],[oz 49 40 3 8,oq 50 (.ldz 38 (tq 49)),oz 51 27 1 8,ol 52 25 51,om 53 5,oi 54 25 52 53,oz 55 188 54 0,ol 56 3 55,oz 57 27 1 8,ol 58 25 57,om 59 5,oi 60 25 58 59,oz 61 188 60 1,ol 62 3 61,oq 63 (.build 99 [(0,tq 56),(1,tq 62)]),oq 64 (.buildS 38 1 [(0,tq 63)]),oq 65 (.app [tq 50,tq 64] [38,38]),oz 66 40 3 8],[os (.sto 38 (tq 66) (tq 65))]⟩]) (some ([1,2,3,5],[1,2,3,16,19,22,40,65]))∧SX 68 (bF 919) [om 47 5,oc 48 .add 3 47 1,om 5 48] [1,2,3,5] [1,2,3,16,19,22,40,65]∧SX 68 (bF 47) [ol 67 40 3,os (.sto 40 (tq 2) (tq 67))] [2,3] [1,2,3,16,19,22,40,65]∧LX 68 XK [1,2,3,4] [1,2,3,16,19,22,40,65]∧LX 68 XL [1,2,3,5] [1,2,3,16,19,22,40,65]:=⟨fun _ _=>rfl,fun _ _=>rfl,rx,rx,rx,rx,rx,rx,rx,rx,rx,rx,rx,lx,lx⟩
def IF:=rg Tryz.f157
@[simp] def AAZ:Code:=(.seq (IF 71269) (.seq (.cond (.tmp 28) .skip (.exit 2)) (.seq (.block 3 (.seq (IF 1152613) (IF 1676901))) (IF 497253))))
def SD:=AAZ
@[simp] def AA0:Code:=(.seq (IF 69) (.seq (.cond (.tmp 20) .skip (.exit 0)) (.seq (.block 1 (.seq (IF 1125) (.seq (IF 2661) (.seq (.seq (IF 9829) (.block 2 (.loop SD))) (IF 7781))))) (IF 485))))
def SE:=AA0
def A1D:Code:=(.seq (IF 2) (.seq (.seq (IF 9) (.block 0 (.loop SE))) (.seq (IF 11) .ret)))
theorem BC4:Tryz.f157.body=some A1D:=by kernel_rfl
@[simp] theorem BMJ:UX 66 SD AAZ∧UX 66 SE AA0∧SX 66 (IF 2) [oq 4 (.box (tq 0)),oq 7 (.box (tq 3)),oq 8 (.alloc 207)] [0,1,2,3] [4]∧SX 66 (IF 9) [om 14 1,oq 15 (.oth (.nilCheck (tq 14))),oz 16 250 15 1,ol 17 23 16,oe 18 17 23,ok 19 0] [1,2,4,7,8] [4,7,8]∧SX 66 (IF 69) [ob 20 .lss 3 19 18] [1,2,4,7,8,17,18,19] [4,7,8]∧SX 66 (IF 1125) [om 21 19,oi 22 23 17 19,ol 23 22 22,om 9 21,om 10 23] [1,2,4,7,8,17,18,19] [4,7,8]∧SX 66 (IF 2661) [oq 24 (.build 207 [(0,ci 1),(1,ci 0)]),oq 11 (.alloc 207),os (.sto 207 (tq 11) (tq 24))] [1,2,4,7,8,9,10,17,18,19] [4,7,8]∧SX 66 (IF 9829) [om 25 10,oe 26 25 22,ok 27 0] [1,2,4,7,8,9,10,11,17,18,19] [4,7,8,11]∧SX 66 (IF 71269) [ob 28 .lss 3 27 26] [1,2,4,7,8,9,11,17,18,19,25,26,27] [4,7,8,11]∧SX 66 (IF 1152613) [oi 29 22 25 27,ol 30 3 29,om 13 30] [1,2,4,7,8,9,11,17,18,19,25,26,27] [4,7,8,11]∧RX 66 (IF 1676901) (.drw [⟨[],[oq 31 (.ldz 207 (tq 11)),oz 32 238 4 0,oq 33 (.ldz 236 (tq 32)),om 34 1,oq 35 (.oth (.nilCheck (tq 34))),oz 36 250 35 0,oq 37 (.ldz 40 (tq 36)),oq 38 (.ldz 86 (tq 7)),om 39 9,om 40 2,om 41 9,oi 42 23 40 41,oq 43 (.ldz 22 (tq 42)),oz 44 86 7 0,oq 45 (.ldz 3 (tq 44)),oi 46 22 43 45,oq 47 (.ldz 3 (tq 46)),om 48 13,od 49 153 [tq 37,tq 38,tq 39,tq 47,tq 48],oq 50 (.call false none (tq 33) [tq 49])],[oq 51 (.call true none (.func 186) [tq 31,tq 50])]⟩,⟨[],[],[os (.sto 207 (tq 11) (tq 51))]⟩]) (some ([1,2,4,7,8,9,11,13,17,18,19,25,26,27],[4,7,8,11]))∧SX 66 (IF 497253) [oc 52 .add 3 27 1,om 27 52] [1,2,4,7,8,9,11,17,18,19,25,26,27] [4,7,8,11]∧SX 66 (IF 7781) [oz 53 207 8 0,ol 54 3 53,oz 55 207 11 0,ol 56 3 55,ob 57 .add 3 54 56,oz 58 207 8 1,ol 59 3 58,oz 60 207 11 1,ol 61 3 60,ob 62 .add 3 59 61,oq 63 (.build 207 [(0,tq 57),(1,tq 62)]),os (.sto 207 (tq 8) (tq 63))] [1,2,4,7,8,11,17,18,19] [4,7,8,11]∧SX 66 (IF 485) [oc 64 .add 3 19 1,om 19 64] [1,2,4,7,8,17,18,19] [4,7,8]∧SX 66 (IF 11) [ol 65 207 8,os (.sto 207 (tq 8) (tq 65))] [8] [8]∧LX 66 SE [1,2,4,7,8,17,18,19] [4,7,8]∧LX 66 SD [1,2,4,7,8,9,11,17,18,19,25,26,27] [4,7,8,11]:=⟨fun _ _=>rfl,fun _ _=>rfl,rx,rx,rx,rx,rx,rx,rx,rx,rx,rx,rx,rx,rx,lx,lx⟩
def AHM:=rg Tryz.f156
def A1E:Code:=(.seq (AHM 2) (.seq (AHM 5) .ret))
theorem BC5:Tryz.f156.body=some A1E:=by kernel_rfl
@[simp] theorem BMK:SX 5 (AHM 2) [oq 1 (.box (tq 0)),ok 2 0] [0] [1]∧SX 5 (AHM 5) [oz 3 155 1 1,ol 4 3 3,om 2 4] [0,1,2] [1,2]:=⟨rx,rx⟩
def AHN:=rg Tryz.f158
def A1F:Code:=(.seq (AHN 2) (.seq (AHN 5) .ret))
theorem BC6:Tryz.f158.body=some A1F:=by kernel_rfl
@[simp] theorem BML:SX 5 (AHN 2) [oq 1 (.box (tq 0)),ok 2 0] [0] [1]∧SX 5 (AHN 5) [oz 3 155 1 2,ol 4 3 3,om 2 4] [0,1,2] [1,2]:=⟨rx,rx⟩
def D7:=rg Tryz.f117
@[simp] def sR:Code:=(.seq (D7 583840559) (.seq (.cond (.tmp 42) .skip (.exit 4)) (.seq (.block 5 (.seq (D7 9442210607) (D7 13737177903))) (D7 4073501487))))
def NY:=sR
@[simp] def sS:Code:=(.seq (D7 570159) (.seq (.cond (.tmp 34) .skip (.exit 2)) (.seq (.block 3 (.seq (D7 9220911) (.seq (D7 21803823) (.seq (.seq (D7 80524079) (.block 4 (.loop NY))) (D7 63746863))))) (D7 3978031))))
def N3:=sS
@[simp] def AA1:Code:=(.seq (D7 559) (.seq (.cond (.tmp 26) .skip (.exit 0)) (.seq (.block 1 (.seq (D7 9007) (.seq (D7 21295) (.seq (.seq (D7 78639) (.block 2 (.loop N3))) (D7 62255))))) (D7 3887))))
def SF:=AA1
def AA2:Code:=(.seq (D7 2) (.seq (D7 5) (.seq (.seq (D7 19) (.cond (.tmp 21) (.seq (D7 75) .ret) .skip)) (.seq (D7 23) (.seq (.seq (D7 79) (.block 0 (.loop SF))) (.seq (D7 95) .ret))))))
theorem BC7:Tryz.f117.body=some AA2:=by kernel_rfl
@[simp] theorem BC8(n:Nat)(st:XS):AE Tryz.prog ann kn (n+1) 90 (D7 23) st=NN (IW Tryz.prog (BN Tryz.prog ann kn n) (.str [oq 8 (.mv (.const (.slice none 0 0)))]) (CE (some ([2,3,6],[2,3,17,900,901,902])) (LY [902] st))) :=
 DT (by kernel_rfl) (by kernel_rfl) (by kernel_rfl) (by kernel_rfl) (by kernel_rfl)
@[simp] theorem A88(n:Nat)(st:XS):AE Tryz.prog ann kn (n+1) 90 (D7 62255) st=NN (IW Tryz.prog (BN Tryz.prog ann kn n) (.str [om 84 8,om 85 10,oq 86 (.buildS 197 1 [(0,tq 85)]),oq 87 (.app [tq 84,tq 86] [197,197]),om 8 87]) (CE (some ([2,3,6,8,10,24,25],[2,3,17,30,87])) (LY [30] st))) :=
 DT (by kernel_rfl) (by kernel_rfl) (by kernel_rfl) (by kernel_rfl) (by kernel_rfl)
@[simp] theorem BMM:UX 90 NY sR∧UX 90 N3 sS∧UX 90 SF AA1∧SX 90 (D7 2) [oq 2 (.box (tq 0)),oq 3 (.box (tq 1)),oq 4 (.mv (.const (.slice none 0 0))),ok 5 0] [0,1] [2,3,17,900,901,902]∧SX 90 (D7 5) [ol 15 40 2,oq 16 (.oth (.makeFunc (.func 155) #[] #[tq 2,tq 3])),od 17 154 [tq 15,tq 16],om 14 17,oq 18 (.oth (.extract (tq 14) 0)),oq 19 (.oth (.extract (tq 14) 1)),om 6 18,om 7 19] [2,3] [2,3,17,900,901,902]∧SX 90 (D7 19) [om 20 7,oc 21 .neq 34 20 0] [2,3,6,7] [2,3,17,900,901,902]∧SX 90 (D7 75) [om 22 7,oq 4 (.mv (.const (.slice none 0 0))),om 5 22] [7] []∧SX 90 (D7 79) [oz 23 40 2 1,ol 24 3 23,ok 25 0] [2,3,6,8] [2,3,17,87]∧SX 90 (D7 559) [ob 26 .lss 3 25 24] [2,3,6,8,24,25] [2,3,17,87]∧SX 90 (D7 9007) [om 27 25,om 9 27] [2,3,6,8,24,25] [2,3,17,87]∧SX 90 (D7 21295) [oz 28 40 2 2,ol 29 3 28,oq 30 (.mkS 204 (tq 29) (tq 29)),om 10 30] [2,3,6,8,9,24,25] [2,3,17,87]∧SX 90 (D7 78639) [om 31 10,oe 32 31 204,ok 33 0] [2,3,6,8,9,10,24,25] [2,3,17,30,87]∧SX 90 (D7 570159) [ob 34 .lss 3 33 32] [2,3,6,8,9,10,24,25,32,33] [2,3,17,30,87]∧SX 90 (D7 9220911) [om 35 33,om 11 35] [2,3,6,8,9,10,24,25,32,33] [2,3,17,30,87]∧SX 90 (D7 21803823) [om 36 9,om 37 11,oq 38 (.build 86 [(0,tq 36),(1,tq 37)]),oq 12 (.alloc 86),os (.sto 86 (tq 12) (tq 38))] [2,3,6,8,9,10,11,24,25,32,33] [2,3,17,30,87]∧SX 90 (D7 80524079) [ol 39 23 3,oe 40 39 23,ok 41 0] [2,3,6,8,9,10,11,12,24,25,32,33] [2,3,12,17,30,87]∧SX 90 (D7 583840559) [ob 42 .lss 3 41 40] [2,3,6,8,9,10,11,12,24,25,32,33,40,41] [2,3,12,17,30,87]∧SX 90 (D7 9442210607) [om 43 41,om 13 43] [2,3,6,8,9,10,11,12,24,25,32,33,40,41] [2,3,12,17,30,87]∧RX 90 (D7 13737177903) (.drw [⟨[],[om 44 10,om 45 11,oi 46 204 44 45,oz 47 209 46 0,oq 48 (.ldz 3 (tq 47)),oq 49 (.ldz 40 (tq 2)),oq 50 (.ldz 86 (tq 12)),om 51 13,oq 52 (.ldz 23 (tq 3)),om 53 13,oi 54 23 52 53,oq 55 (.ldz 22 (tq 54)),om 56 9,oi 57 22 55 56,oq 58 (.ldz 3 (tq 57)),od 59 153 [tq 49,tq 50,tq 51,tq 58,ci 0],oq 60 (.oth (.field 155 (tq 59) 0)),ob 61 .add 3 48 60,oi 62 204 44 45,oz 63 209 62 0,os (.sto 3 (tq 63) (tq 61))],[]⟩]) (some ([2,3,6,8,9,10,11,12,13,24,25,32,33,40,41],[2,3,12,17,30,87]))∧SX 90 (D7 4073501487) [oc 64 .add 3 41 1,om 41 64] [2,3,6,8,9,10,11,12,24,25,32,33,40,41] [2,3,12,17,30,87]∧RX 90 (D7 63746863) (.drw [⟨[73,78],[om 65 10,om 66 11,om 67 10,om 68 11,oq 69 (.build 238 [(0,.func 156)]),om 70 6,oq 71 (.ldz 23 (tq 3)),oq 72 (.ldz 86 (tq 12)),oq 74 (.build 238 [(0,.func 158)]),om 75 6,ol 76 23 3,ol 77 86 12,oq 73 (.call true none (.func 157) [tq 69,tq 70,tq 71,tq 72]),oq 78 (.call true none (.func 157) [tq 74,tq 75,tq 76,tq 77]),oi 79 204 65 66,oz 80 209 79 1,os (.sto 207 (tq 80) (tq 73)),oi 81 204 67 68,oz 82 209 81 2,os (.sto 207 (tq 82) (tq 78))],[]⟩]) (some ([2,3,6,8,9,10,11,12,24,25,32,33],[2,3,12,17,30,87]))∧SX 90 (D7 3978031) [oc 83 .add 3 33 1,om 33 83] [2,3,6,8,9,10,24,25,32,33] [2,3,17,30,87]∧SX 90 (D7 3887) [oc 88 .add 3 25 1,om 25 88] [2,3,6,8,24,25] [2,3,17,87]∧SX 90 (D7 95) [om 89 8,om 4 89,ok 5 0] [8] [87]∧LX 90 SF [2,3,6,8,24,25] [2,3,17,87]∧LX 90 N3 [2,3,6,8,9,10,24,25,32,33] [2,3,17,30,87]∧LX 90 NY [2,3,6,8,9,10,11,12,24,25,32,33,40,41] [2,3,12,17,30,87]:=⟨fun _ _=>rfl,fun _ _=>rfl,fun _ _=>rfl,rx,rx,rx,rx,rx,rx,rx,rx,rx,rx,rx,rx,rx,rx,rx,rx,rx,rx,rx,rx,rx,lx,lx,lx⟩
def AHO:=rg Tryz.f155
def A1G:Code:=(.seq (AHO 2) (.seq (AHO 5) .ret))
theorem b155:Tryz.f155.body=some A1G:=by kernel_rfl
@[simp] theorem BMN:SX 6 (AHO 2) [ot 2 false] [0,1] []∧SX 6 (AHO 5) [ol 3 40 0,ol 4 23 1,od 5 111 [tq 3,tq 4],om 2 5] [0,1] []:=⟨rx,rx⟩
def P8:=rg Tryz.f187
@[simp] def AA3:Code:=(.seq (P8 69) (.seq (.cond (.tmp 9) .skip (.exit 0)) (.seq (.block 1 (.seq (P8 1125) (.seq (P8 2661) (.cond (.tmp 16) (.seq (P8 9829) .ret) .skip)))) (P8 485))))
def SG:=AA3
def APH:Code:=(.seq (P8 2) (.seq (.seq (P8 9) (.block 0 (.loop SG))) (.seq (P8 11) .ret)))
theorem b187:Tryz.f187.body=some APH:=by kernel_rfl
@[simp] theorem BMO:UX 19 SG AA3∧SX 19 (P8 2) [ok 4 0] [0,1] []∧SX 19 (P8 9) [om 6 0,oe 7 6 28,ok 8 0] [0,1] []∧SX 19 (P8 69) [ob 9 .lss 3 8 7] [0,1,7,8] []∧SX 19 (P8 1125) [om 10 8,om 5 10] [0,1,7,8] []∧SX 19 (P8 2661) [om 11 1,om 12 0,om 13 5,oi 14 28 12 13,ol 15 97 14,oq 16 (.call false none (tq 11) [tq 15])] [0,1,5,7,8] []∧SX 19 (P8 9829) [om 17 5,om 4 17] [5] []∧SX 19 (P8 485) [oc 18 .add 3 8 1,om 8 18] [0,1,3,7,8] []∧SX 19 (P8 11) [oq 4 (.mv (.const (.int .i64 (Int.negSucc 0))))] [] []∧LX 19 SG [0,1,7,8] []:=⟨fun _ _=>rfl,rx,rx,rx,rx,rx,rx,rx,rx,lx⟩
def AHP:=rg Tryz.f159
def A1H:Code:=(.seq (AHP 2) (.seq (AHP 5) .ret))
theorem b159:Tryz.f159.body=some A1H:=by kernel_rfl
@[simp] theorem BMP:SX 9 (AHP 2) [ot 4 false] [0,1] [7]∧SX 9 (AHP 5) [om 5 0,om 6 1,od 7 187 [tq 5,tq 6],oc 8 .geq 3 7 0,om 4 8] [0,1,2,3] [2,3]:=⟨rx,rx⟩
def AHQ:=rg Tryz.f119
def A1I:Code:=(.seq (AHQ 2) (.seq (AHQ 5) .ret))
theorem BC9:Tryz.f119.body=some A1I:=by kernel_rfl
@[simp] theorem BMQ:SX 9 (AHQ 2) [oq 3 (.box (tq 1)),ot 4 false] [0,1,2] [3]∧SX 9 (AHQ 5) [om 5 0,oq 6 (.oth (.makeFunc (.func 160) #[] #[tq 3])),od 7 159 [tq 5,tq 6],ou 8 7,om 4 8] [0,1,2,3] [2,3]:=⟨rx,rx⟩
def AHR:=rg Tryz.f160
def A1J:Code:=(.seq (AHR 2) (.seq (AHR 5) .ret))
theorem b160:Tryz.f160.body=some A1J:=by kernel_rfl
@[simp] theorem BMR:SX 8 (AHR 2) [ot 3 false] [0,1] []∧SX 8 (AHR 5) [ol 4 200 1,om 5 0,oq 6 (.call false none (tq 4) [tq 5]),ou 7 6,om 3 7] [0,1,2] [2]:=⟨rx,rx⟩
def P9:=rg Tryz.f188
@[simp] def AA4:Code:=(.seq (P9 69) (.seq (.cond (.tmp 9) .skip (.exit 0)) (.seq (.block 1 (.seq (P9 1125) (.seq (P9 2661) (.cond (.tmp 16) (.seq (P9 9829) .ret) .skip)))) (P9 485))))
def SH:=AA4
def API:Code:=(.seq (P9 2) (.seq (.seq (P9 9) (.block 0 (.loop SH))) (.seq (P9 11) .ret)))
theorem b188:Tryz.f188.body=some API:=by kernel_rfl
@[simp] theorem BMS:UX 19 SH AA4∧SX 19 (P9 2) [ok 4 0] [0,1] []∧SX 19 (P9 9) [om 6 0,oe 7 6 41,ok 8 0] [0,1] []∧SX 19 (P9 69) [ob 9 .lss 3 8 7] [0,1,7,8] []∧SX 19 (P9 1125) [om 10 8,om 5 10] [0,1,7,8] []∧SX 19 (P9 2661) [om 11 1,om 12 0,om 13 5,oi 14 41 12 13,ol 15 94 14,oq 16 (.call false none (tq 11) [tq 15])] [0,1,5,7,8] []∧SX 19 (P9 9829) [om 17 5,om 4 17] [5] []∧SX 19 (P9 485) [oc 18 .add 3 8 1,om 8 18] [0,1,3,7,8] []∧SX 19 (P9 11) [oq 4 (.mv (.const (.int .i64 (Int.negSucc 0))))] [] []∧LX 19 SH [0,1,7,8] []:=⟨fun _ _=>rfl,rx,rx,rx,rx,rx,rx,rx,rx,lx⟩
def AHS:=rg Tryz.f161
def A1K:Code:=(.seq (AHS 2) (.seq (AHS 5) .ret))
theorem b161:Tryz.f161.body=some A1K:=by kernel_rfl
@[simp] theorem BMT:SX 9 (AHS 2) [ot 4 false] [0,1] [7]∧SX 9 (AHS 5) [om 5 0,om 6 1,od 7 188 [tq 5,tq 6],oc 8 .geq 3 7 0,om 4 8] [0,1,2,3] [2,3]:=⟨rx,rx⟩
def AHT:=rg Tryz.f120
def A1L:Code:=(.seq (AHT 2) (.seq (AHT 5) .ret))
theorem BDA:Tryz.f120.body=some A1L:=by kernel_rfl
@[simp] theorem BMU:SX 9 (AHT 2) [oq 3 (.box (tq 1)),ot 4 false] [0,1,2] [3]∧SX 9 (AHT 5) [om 5 0,oq 6 (.oth (.makeFunc (.func 162) #[] #[tq 3])),od 7 161 [tq 5,tq 6],ou 8 7,om 4 8] [0,1,2,3] [2,3]:=⟨rx,rx⟩
def AHU:=rg Tryz.f162
def A1M:Code:=(.seq (AHU 2) (.seq (AHU 5) .ret))
theorem b162:Tryz.f162.body=some A1M:=by kernel_rfl
@[simp] theorem BMV:SX 8 (AHU 2) [oq 2 (.box (tq 0)),ot 3 false] [0,1] []∧SX 8 (AHU 5) [ol 4 203 1,ol 5 94 2,oq 6 (.call false none (tq 4) [tq 5]),ou 7 6,om 3 7] [0,1,2] [2]:=⟨rx,rx⟩
def AHV:=rg Tryz.f163
def A1N:Code:=(.seq (AHV 2) (.seq (AHV 5) .ret))
theorem BDB:Tryz.f163.body=some A1N:=by kernel_rfl
@[simp] theorem BMW:SX 15 (AHV 2) [ot 6 false] [0,1,2] []∧SX 15 (AHV 5) [om 7 1,om 8 0,ob 9 .leq 3 7 8,om 10 9,gm 10 true 11 0,gm 10 true 12 2,gb 10 true 13 .leq 3 11 12,oq 14 (.pick (tq 10) (tq 13) (cb false)),om 6 14] [0,1,2] []:=⟨rx,rx⟩
def AHW:=rg Tryz.f121
def A1O:Code:=(.seq (AHW 2) (.seq (AHW 5) .ret))
theorem BDC:Tryz.f121.body=some A1O:=by kernel_rfl
@[simp] theorem BMX:SX 11 (AHW 2) [oq 1 (.box (tq 0)),ot 2 false] [0] [1,7,910,911]∧SX 11 (AHW 5) [oz 3 94 1 0,ol 4 3 3,od 5 163 [tq 4,ci 1,ci 4],om 6 5,gz 6 true 7 94 1 1,gl 6 true 8 3 7,gd 6 true 9 163 [tq 8,ci 0,ci 5],oq 10 (.pick (tq 6) (tq 9) (cb false)),om 2 10] [1] [1]:=⟨rx,rx⟩
def AHX:=rg Tryz.f118
def A1P:Code:=(.seq (AHX 2) (.seq (AHX 5) .ret))
theorem BDD:Tryz.f118.body=some A1P:=by kernel_rfl
@[simp] theorem BMY:SX 11 (AHX 2) [oq 2 (.box (tq 0)),ot 4 false] [0,1] [2]∧SX 11 (AHX 5) [om 5 1,oe 6 5 97,oz 7 43 2 0,oz 8 40 7 2,ol 9 3 8,ob 10 .eql 3 6 9,om 4 10] [1,2] [2]:=⟨rx,rx⟩
def KN:=rg Tryz.f71
@[simp] def AA5:Code:=(.seq (KN 4561279) (.seq (.cond (.tmp 63) .skip (.exit 2)) (.seq (.block 3 (.seq (KN 73767295) (KN 107321727))) (KN 31824255))))
def SI:=AA5
@[simp] def AA6:Code:=(.seq (KN 4479) (.seq (.cond (.tmp 57) .skip (.exit 0)) (.seq (.block 1 (.seq (KN 72063) (.seq (KN 170367) (.seq (.seq (KN 629119) (.block 2 (.loop SI))) (KN 498047))))) (KN 31103))))
def SJ:=AA6
def c71:Code:=(.seq (KN 2) (.seq (.seq (KN 9) (.cond (.tmp 16) (.seq (KN 37) .ret) .skip)) (.seq (KN 11) (.seq (.seq (KN 39) (.cond (.tmp 26) (.seq (KN 151) .ret) .skip)) (.seq (KN 47) (.seq (.seq (KN 159) (.cond (.tmp 49) (.seq (KN 607) .ret) .skip)) (.seq (KN 191) (.seq (.seq (KN 639) (.block 0 (.loop SJ))) (.seq (KN 767) .ret)))))))))
theorem b71:Tryz.f71.body=some c71:=by kernel_rfl
@[simp] theorem BDE(n:Nat)(st:XS):AE Tryz.prog ann kn (n+1) 85 (KN 767) st=NN (IW Tryz.prog (BN Tryz.prog ann kn n) (.str [om 84 7,om 2 84,ok 3 0]) (CE (some ([7],[1,22,51,53,80])) (LY [80,911051,912053] st))) :=
 DT (by kernel_rfl) (by kernel_rfl) (by kernel_rfl) (by kernel_rfl) (by kernel_rfl)
@[simp] theorem x71:UX 85 SI AA5∧UX 85 SJ AA6∧SX 85 (KN 2) [oq 1 (.box (tq 0)),oq 2 (.mv (.const (.pointer none))),ok 3 0] [0] [1,22,51,53,80]∧SX 85 (KN 9) [oz 13 43 1 3,ol 14 41 13,oe 15 14 41,oc 16 .gtr 3 15 3] [1] [1,22,51,53,80]∧SX 85 (KN 37) [oq 2 (.mv (.const (.pointer none))),ok 3 3] [] []∧SX 85 (KN 11) [oz 18 43 1 0,ol 19 40 18,oz 20 43 1 1,ol 21 23 20,od 22 117 [tq 19,tq 21],om 17 22,oq 23 (.oth (.extract (tq 17) 0)),oq 24 (.oth (.extract (tq 17) 1)),om 4 23,om 5 24] [1] [1,22,51,53,80]∧SX 85 (KN 39) [om 25 5,oc 26 .neq 34 25 0] [1,4,5] [1,22,51,53,80]∧SX 85 (KN 151) [om 27 5,oq 2 (.mv (.const (.pointer none))),om 3 27] [5] []∧SX 85 (KN 47) [ol 28 43 1,oq 29 (.oth (.makeFunc (.func 118) #[tq 28] #[])),om 6 29] [1,4] [1,22,51,53,80]∧SX 85 (KN 159) [oz 30 43 1 2,ol 31 28 30,oe 32 31 28,oz 33 43 1 0,oz 34 40 33 1,ol 35 3 34,ob 36 .neq 3 32 35,om 37 36,gz 37 false 38 43 1 2,gl 37 false 39 28 38,gm 37 false 40 6,gd 37 false 41 119 [tq 39,tq 40],og 37 false 42 (.oth (.unOp .not 4 (tq 41))),oq 43 (.pick (tq 37) (cb true) (tq 42)),om 44 43,gz 44 false 45 43 1 3,gl 44 false 46 41 45,gd 44 false 47 120 [tq 46,.func 121],og 44 false 48 (.oth (.unOp .not 4 (tq 47))),oq 49 (.pick (tq 44) (cb true) (tq 48))] [1,4,6] [1,22,51,53,80]∧SX 85 (KN 607) [oq 2 (.mv (.const (.pointer none))),ok 3 1] [] []∧SX 85 (KN 191) [ol 50 43 1,oq 51 (.mkM none),oq 52 (.build 175 [(0,tq 50),(1,.const (.slice none 0 0)),(2,tq 51)]),oq 53 (.box (tq 52)),om 7 53] [1,4] [1,22,51,53,80]∧SX 85 (KN 639) [om 54 4,oe 55 54 197,ok 56 0] [4,7] [1,22,51,53,80]∧SX 85 (KN 4479) [ob 57 .lss 3 56 55] [7,54,55,56] [1,22,51,53,80]∧SX 85 (KN 72063) [oi 58 197 54 56,ol 59 204 58,om 9 59] [7,54,55,56] [1,22,51,53,80]∧SX 85 (KN 170367) [oq 10 (.alloc 206)] [7,9,54,55,56] [1,22,51,53,80]∧SX 85 (KN 629119) [om 60 9,oe 61 60 204,ok 62 0] [7,9,10,54,55,56] [1,10,22,51,53,80]∧SX 85 (KN 4561279) [ob 63 .lss 3 62 61] [7,10,54,55,56,60,61,62] [1,10,22,51,53,80]∧SX 85 (KN 73767295) [om 64 62,oi 65 204 60 62,ol 66 209 65,oq 12 (.alloc 209),om 11 64,os (.sto 209 (tq 12) (tq 66))] [7,10,54,55,56,60,61,62] [1,10,22,51,53,80]∧SX 85 (KN 107321727) [om 67 11,oz 68 209 12 2,oz 69 207 68 0,ol 70 3 69,oi 71 206 10 67,os (.sto 3 (tq 71) (tq 70))] [7,10,11,12,54,55,56,60,61,62] [1,10,12,22,51,53,80]∧SX 85 (KN 31824255) [oc 72 .add 3 62 1,om 62 72] [7,10,54,55,56,60,61,62] [1,10,22,51,53,80]∧RX 85 (KN 498047) (.drw [⟨[],[om 73 7,om 74 7,oq 75 (.oth (.nilCheck (tq 74))),oz 76 175 75 1,oq 77 (.ldz 172 (tq 76)),ol 78 206 10,oq 79 (.buildS 172 1 [(0,tq 78)]),oq 80 (.app [tq 77,tq 79] [172,172]),oq 81 (.oth (.nilCheck (tq 73))),oz 82 175 81 1,os (.sto 172 (tq 82) (tq 80))],[]⟩]) (some ([7,10,54,55,56],[1,10,22,51,53,80]))∧SX 85 (KN 31103) [oc 83 .add 3 56 1,om 56 83] [7,54,55,56] [1,22,51,53,80]∧LX 85 SJ [7,54,55,56] [1,22,51,53,80]∧LX 85 SI [7,10,54,55,56,60,61,62] [1,10,22,51,53,80]:=⟨fun _ _=>rfl,fun _ _=>rfl,rx,rx,rx,rx,rx,rx,rx,rx,rx,rx,rx,rx,rx,rx,rx,rx,rx,rx,rx,rx,rx,lx,lx⟩
def g24:=rg Tryz.f24
def c24:Code:=(.seq (g24 2) (.seq (g24 5) (.seq (g24 11) .ret)))
theorem b24:Tryz.f24.body=some c24:=by kernel_rfl
@[simp] theorem x24:SX 11 (g24 2) [oq 1 (.box (tq 0)),ok 2 0] [0] [1,7,910,911]∧SX 11 (g24 5) [ol 6 43 1,od 7 71 [tq 6],om 5 7,oq 8 (.oth (.extract (tq 5) 0)),oq 9 (.oth (.extract (tq 5) 1)),om 3 8,om 4 9] [1] [1,7,910,911]∧SX 11 (g24 11) [om 10 4,om 2 10] [4] []:=⟨rx,rx,rx⟩
def QA:=rg Tryz.f189
@[simp] def AA7:Code:=(.seq (QA 69) (.seq (.cond (.tmp 9) .skip (.exit 0)) (.seq (.block 1 (.seq (QA 1125) (.seq (QA 2661) (.cond (.tmp 16) (.seq (QA 9829) .ret) .skip)))) (QA 485))))
def SK:=AA7
def APJ:Code:=(.seq (QA 2) (.seq (.seq (QA 9) (.block 0 (.loop SK))) (.seq (QA 11) .ret)))
theorem b189:Tryz.f189.body=some APJ:=by kernel_rfl
@[simp] theorem BM0:UX 19 SK AA7∧SX 19 (QA 2) [ok 4 0] [0,1] []∧SX 19 (QA 9) [om 6 0,oe 7 6 120,ok 8 0] [0,1] []∧SX 19 (QA 69) [ob 9 .lss 3 8 7] [0,1,7,8] []∧SX 19 (QA 1125) [om 10 8,om 5 10] [0,1,7,8] []∧SX 19 (QA 2661) [om 11 1,om 12 0,om 13 5,oi 14 120 12 13,ol 15 153 14,oq 16 (.call false none (tq 11) [tq 15])] [0,1,5,7,8] []∧SX 19 (QA 9829) [om 17 5,om 4 17] [5] []∧SX 19 (QA 485) [oc 18 .add 3 8 1,om 8 18] [0,1,3,7,8] []∧SX 19 (QA 11) [oq 4 (.mv (.const (.int .i64 (Int.negSucc 0))))] [] []∧LX 19 SK [0,1,7,8] []:=⟨fun _ _=>rfl,rx,rx,rx,rx,rx,rx,rx,rx,lx⟩
def AH0:=rg Tryz.f171
def A1Q:Code:=(.seq (AH0 2) (.seq (AH0 5) .ret))
theorem b171:Tryz.f171.body=some A1Q:=by kernel_rfl
@[simp] theorem BM1:SX 9 (AH0 2) [ot 4 false] [0,1] [7]∧SX 9 (AH0 5) [om 5 0,om 6 1,od 7 189 [tq 5,tq 6],oc 8 .geq 3 7 0,om 4 8] [0,1,2,3] [2,3]:=⟨rx,rx⟩
def AH1:=rg Tryz.f137
def A1R:Code:=(.seq (AH1 2) (.seq (AH1 5) .ret))
theorem b137:Tryz.f137.body=some A1R:=by kernel_rfl
@[simp] theorem BM2:SX 9 (AH1 2) [oq 3 (.box (tq 1)),ot 4 false] [0,1,2] [3]∧SX 9 (AH1 5) [om 5 0,oq 6 (.oth (.makeFunc (.func 172) #[] #[tq 3])),od 7 171 [tq 5,tq 6],ou 8 7,om 4 8] [0,1,2,3] [2,3]:=⟨rx,rx⟩
def AH2:=rg Tryz.f172
def A1S:Code:=(.seq (AH2 2) (.seq (AH2 5) .ret))
theorem b172:Tryz.f172.body=some A1S:=by kernel_rfl
@[simp] theorem BM3:SX 8 (AH2 2) [oq 2 (.box (tq 0)),ot 3 false] [0,1] []∧SX 8 (AH2 5) [ol 4 221 1,ol 5 153 2,oq 6 (.call false none (tq 4) [tq 5]),ou 7 6,om 3 7] [0,1,2] [2]:=⟨rx,rx⟩
def wG:=rg Tryz.f173
def A1T:Code:=(.seq (wG 2) (.seq (wG 5) (.seq (wG 11) .ret)))
theorem BDG:Tryz.f173.body=some A1T:=by kernel_rfl
@[simp] theorem BM4:SX 38 (wG 2) [oq 3 (.box (tq 0)),ot 6 false] [0,1,2] [3]∧RX 38 (wG 5) (.drw [⟨[7,8],[oz 9 43 3 3,oq 10 (.ldz 41 (tq 9)),om 11 1,oi 12 41 10 11,oq 13 (.ldz 94 (tq 12)),oz 14 43 3 3,ol 15 41 14,om 16 2,oi 17 41 15 16,ol 18 94 17,oq 7 (.alloc 94),oq 8 (.alloc 94),os (.sto 94 (tq 7) (tq 13))],[os (.sto 94 (tq 8) (tq 18))]⟩]) (some ([1,2,3],[3]))∧SX 38 (wG 11) [om 19 1,om 20 2,ob 21 .neq 3 19 20,om 22 21,gz 22 true 23 94 7 3,gl 22 true 24 4 23,gm 22 true 25 24,gz 25 true 26 94 8 2,gl 25 true 27 4 26,og 22 true 28 (.pick (tq 25) (tq 27) (cb false)),gm 22 true 29 28,gz 29 false 30 94 7 2,gl 29 false 31 4 30,gm 29 false 32 31,gz 32 true 33 94 8 3,gl 32 true 34 4 33,og 29 false 35 (.pick (tq 32) (tq 34) (cb false)),og 22 true 36 (.pick (tq 29) (cb true) (tq 35)),oq 37 (.pick (tq 22) (tq 36) (cb false)),om 6 37] [1,2,7,8] [7,8]:=⟨rx,rx,rx⟩
def AH3:=rg Tryz.f136
def A1U:Code:=(.seq (AH3 2) (.seq (AH3 5) .ret))
theorem BDH:Tryz.f136.body=some A1U:=by kernel_rfl
@[simp] theorem BM5:SX 26 (AH3 2) [oq 2 (.box (tq 0)),oq 3 (.box (tq 1)),ot 4 false] [0,1] [2]∧SX 26 (AH3 5) [oz 5 153 3 1,oz 6 86 5 0,ol 7 3 6,oz 8 43 2 0,oz 9 40 8 1,ol 10 3 9,oc 11 .sub 3 10 1,od 12 163 [tq 7,ci 0,tq 11],om 13 12,gz 13 true 14 153 3 1,gz 13 true 15 86 14 1,gl 13 true 16 3 15,gz 13 true 17 43 2 0,gz 13 true 18 40 17 2,gl 13 true 19 3 18,gz 13 true 20 153 3 0,gz 13 true 21 151 20 1,gl 13 true 22 3 21,gb 13 true 23 .sub 3 19 22,gd 13 true 24 163 [tq 16,ci 0,tq 23],oq 25 (.pick (tq 13) (tq 24) (cb false)),om 4 25] [2,3] [2,3]:=⟨rx,rx⟩
def bM:=rg Tryz.f139
def AA8:Code:=(.seq (bM 2) (.seq (.seq (bM 9) (.cond (.tmp 14) (.seq (bM 37) .ret) .skip)) (.seq (bM 11) (.seq (bM 23) .ret))))
theorem BDI:Tryz.f139.body=some AA8:=by kernel_rfl
@[simp] theorem BM6:SX 55 (bM 2) [oq 3 (.box (tq 0)),oq 4 (.box (tq 1)),oq 5 (.box (tq 2)),ot 6 false] [0,1,2] [3]∧SX 55 (bM 9) [oz 8 153 4 1,oz 9 86 8 0,ol 10 3 9,oz 11 153 5 1,oz 12 86 11 0,ol 13 3 12,ob 14 .neq 3 10 13] [3,4,5] [3,4,5]∧SX 55 (bM 37) [ot 6 true] [] []∧SX 55 (bM 11) [oz 15 153 4 1,oz 16 86 15 1,ol 17 3 16,oz 18 153 5 1,oz 19 86 18 1,ol 20 3 19,ob 21 .sub 3 17 20,oz 22 153 5 0,oz 23 151 22 1,ol 24 3 23,ob 25 .sub 3 21 24,oz 26 153 5 1,oz 27 86 26 1,ol 28 3 27,oz 29 153 4 1,oz 30 86 29 1,ol 31 3 30,ob 32 .sub 3 28 31,oz 33 153 4 0,oz 34 151 33 1,ol 35 3 34,ob 36 .sub 3 32 35,oq 37 (.oth (.call ⟨.builtin .max,#[tq 25,tq 36],#[3,3]⟩)),om 7 37] [3,4,5] [3,4,5]∧SX 55 (bM 23) [om 38 7,oc 39 .gtr 3 38 0,om 40 39,gm 40 false 41 7,gc 40 false 42 .eql 3 41 0,gm 40 false 43 42,gl 43 true 44 43 3,gz 43 true 45 153 4 0,gz 43 true 46 151 45 0,gl 43 true 47 3 46,gz 43 true 48 153 5 0,gz 43 true 49 151 48 0,gl 43 true 50 3 49,gd 43 true 51 173 [tq 44,tq 47,tq 50],og 43 true 52 (.oth (.unOp .not 4 (tq 51))),og 40 false 53 (.pick (tq 43) (tq 52) (cb false)),oq 54 (.pick (tq 40) (cb true) (tq 53)),om 6 54] [3,4,5,7] [3,4,5]:=⟨rx,rx,rx,rx,rx⟩
def JA:=rg Tryz.f140
@[simp] def AA9:Code:=(.seq (JA 18021) (.seq (.cond (.tmp 17) .skip (.exit 2)) (.seq (.block 3 (.seq (JA 288357) (.seq (JA 681573) (.cond (.tmp 20) (JA 1468005) .skip)))) (JA 124517))))
def SL:=AA9
@[simp] def ABA:Code:=(.seq (JA 69) (.seq (.cond (.tmp 11) .skip (.exit 0)) (.seq (.block 1 (.seq (JA 1125) (.seq (JA 2661) (.block 2 (.loop SL))))) (JA 485))))
def SN:=ABA
def A1V:Code:=(.seq (JA 2) (.seq (.seq (JA 9) (.block 0 (.loop SN))) (.seq (JA 11) .ret)))
theorem BDJ:Tryz.f140.body=some A1V:=by kernel_rfl
@[simp] theorem BM7:UX 26 SL AA9∧UX 26 SN ABA∧SX 26 (JA 2) [oq 1 (.box (tq 0)),ok 2 0] [0] [1]∧SX 26 (JA 9) [oz 7 43 1 2,ol 8 28 7,oe 9 8 28,ok 10 0] [1,2] [1]∧SX 26 (JA 69) [ob 11 .lss 3 10 9] [2,8,9,10] [1]∧SX 26 (JA 1125) [oi 12 28 8 10,ol 13 97 12,om 4 13] [2,8,9,10] [1]∧SX 26 (JA 2661) [om 14 4,oe 15 14 97,ok 16 0] [2,4,8,9,10] [1]∧SX 26 (JA 18021) [ob 17 .lss 3 16 15] [2,8,9,10,14,15,16] [1]∧SX 26 (JA 288357) [oi 18 97 14 16,ol 19 4 18,om 6 19] [2,8,9,10,14,15,16] [1]∧SX 26 (JA 681573) [om 20 6] [2,6,8,9,10,14,15,16] [1]∧SX 26 (JA 1468005) [om 21 2,oc 22 .add 3 21 1,om 2 22] [2,8,9,10,14,15,16] [1]∧SX 26 (JA 124517) [oc 23 .add 3 16 1,om 16 23] [2,8,9,10,14,15,16] [1]∧SX 26 (JA 485) [oc 24 .add 3 10 1,om 10 24] [2,8,9,10] [1]∧SX 26 (JA 11) [om 25 2,om 2 25] [2] []∧LX 26 SN [2,8,9,10] [1]∧LX 26 SL [2,8,9,10,14,15,16] [1]:=⟨fun _ _=>rfl,fun _ _=>rfl,rx,rx,rx,rx,rx,rx,rx,rx,rx,rx,rx,rx,lx,lx⟩
def iF:=rg Tryz.f92
@[simp] def ALS:Code:=(.seq (iF 69) (.seq (.cond (.tmp 11) .skip (.exit 0)) (.seq (.block 1 (.seq (iF 1125) (.seq (iF 2661) (.cond (.tmp 18) (iF 5733) .skip)))) (iF 485))))
def XM:=ALS
def c92:Code:=(.seq (iF 2) (.seq (.seq (iF 9) (.block 0 (.loop XM))) (.seq (iF 11) .ret)))
theorem b92:Tryz.f92.body=some c92:=by kernel_rfl
@[simp] theorem x92:UX 28 XM ALS∧SX 28 (iF 2) [oq 2 (.box (tq 0)),oq 4 (.mv (.const (.slice none 0 0)))] [0,1] [2]∧SX 28 (iF 9) [oz 7 43 2 3,ol 8 41 7,oe 9 8 41,ok 10 0] [1,2,4] [2,25]∧SX 28 (iF 69) [ob 11 .lss 3 10 9] [1,4,8,9,10] [2,25]∧SX 28 (iF 1125) [om 12 10,oi 13 41 8 10,ol 14 94 13,oq 6 (.alloc 94),om 5 12,os (.sto 94 (tq 6) (tq 14))] [1,4,8,9,10] [2,25]∧SX 28 (iF 2661) [om 15 1,om 16 5,od 17 132 [tq 15,tq 16],ou 18 17] [1,4,5,6,8,9,10] [2,6,25]∧SX 28 (iF 5733) [om 19 4,om 20 5,oz 21 94 6 0,ol 22 3 21,oq 23 (.build 151 [(0,tq 20),(1,tq 22)]),oq 24 (.buildS 170 1 [(0,tq 23)]),oq 25 (.app [tq 19,tq 24] [170,170]),om 4 25] [1,4,5,6,8,9,10] [2,6,25]∧SX 28 (iF 485) [oc 26 .add 3 10 1,om 10 26] [1,4,8,9,10] [2,25]∧SX 28 (iF 11) [om 27 4,om 4 27] [4] [25]∧LX 28 XM [1,4,8,9,10] [2,25]:=⟨fun _ _=>rfl,rx,rx,rx,rx,rx,rx,rx,rx,lx⟩
def LC:=rg Tryz.f109
@[simp] def ABB:Code:=(.seq (LC 139) (.seq (.cond (.tmp 11) .skip (.exit 0)) (.seq (.block 1 (.seq (LC 2251) (.seq (LC 5323) (.seq (LC 11467) (.cond (.tmp 31) (.seq (LC 40139) .ret) .skip))))) (LC 971))))
def SO:=ABB
def APK:Code:=(.seq (LC 2) (.seq (LC 5) (.seq (.seq (LC 19) (.block 0 (.loop SO))) (.seq (LC 23) .ret))))
theorem BDK:Tryz.f109.body=some APK:=by kernel_rfl
@[simp] theorem BM9:UX 37 SO ABB∧SX 37 (LC 2) [oq 2 (.box (tq 0)),ot 4 false] [0,1] [2,7,32]∧SX 37 (LC 5) [ok 5 0] [1,2] [2,7]∧SX 37 (LC 19) [om 8 1,oe 9 8 120,ok 10 0] [1,2,5] [2,7]∧SX 37 (LC 139) [ob 11 .lss 3 10 9] [1,2,5,8,9,10] [2,7]∧SX 37 (LC 2251) [om 12 10,oi 13 120 8 10,ol 14 153 13,oq 7 (.alloc 153),om 6 12,os (.sto 153 (tq 7) (tq 14))] [1,2,5,8,9,10] [2,7]∧SX 37 (LC 5323) [om 15 5,oz 16 153 7 0,oz 17 151 16 1,ol 18 3 17,ob 19 .add 3 15 18,om 5 19] [1,2,5,6,7,8,9,10] [2,7]∧SX 37 (LC 11467) [ol 20 43 2,ol 21 153 7,od 22 136 [tq 20,tq 21],ou 23 22,om 24 23,gm 24 false 25 1,gm 24 false 26 6,og 24 false 27 (.oth (.slice 120 (tq 25) none (some (tq 26)) none)),og 24 false 28 (.oth (.makeFunc (.func 138) #[] #[tq 2,tq 7])),gd 24 false 29 137 [tq 27,tq 28],og 24 false 30 (.oth (.unOp .not 4 (tq 29))),oq 31 (.pick (tq 24) (cb true) (tq 30))] [1,2,5,6,7,8,9,10] [2,7]∧SX 37 (LC 40139) [ot 4 false] [] []∧SX 37 (LC 971) [oc 32 .add 3 10 1,om 10 32] [1,2,5,6,8,9,10,16,17,18] [2,7,16,31]∧SX 37 (LC 23) [om 33 5,ol 34 43 2,od 35 140 [tq 34],ob 36 .leq 3 33 35,om 4 36] [2,5] [2,7]∧LX 37 SO [1,2,5,8,9,10] [2,7]:=⟨fun _ _=>rfl,rx,rx,rx,rx,rx,rx,rx,rx,rx,rx,lx⟩
def AH4:=rg Tryz.f138
def A1W:Code:=(.seq (AH4 2) (.seq (AH4 5) .ret))
theorem b138:Tryz.f138.body=some A1W:=by kernel_rfl
@[simp] theorem BNA:SX 9 (AH4 2) [oq 3 (.box (tq 0)),ot 4 false] [0,1,2] [3]∧SX 9 (AH4 5) [ol 5 43 1,ol 6 153 2,ol 7 153 3,od 8 139 [tq 5,tq 6,tq 7],om 4 8] [0,1,2,3] [2,3]:=⟨rx,rx⟩
def cN:=rg Tryz.f65
@[simp] def ALT:Code:=(.seq (cN 279) (.seq (.cond (.tmp 19) .skip (.exit 0)) (.seq (.block 1 (.seq (cN 4503) (cN 6551))) (cN 1943))))
def XN:=ALT
def c65:Code:=(.seq (cN 2) (.seq (.seq (cN 9) (.cond (.tmp 14) (.seq (cN 37) .ret) .skip)) (.seq (cN 11) (.seq (.seq (cN 39) (.block 0 (.loop XN))) (.seq (cN 47) .ret)))))
theorem b65:Tryz.f65.body=some c65:=by kernel_rfl
@[simp] theorem BH4(n:Nat)(st:XS):AE Tryz.prog ann kn (n+1) 37 (cN 47) st=NN (IW Tryz.prog (BN Tryz.prog ann kn n) (.str [om 33 6,ol 34 43 2,om 35 6,od 36 109 [tq 34,tq 35],om 4 33,om 5 36]) (CE (some ([2,6],[2,16,31])) (LY [31] st))) :=
 DT (by kernel_rfl) (by kernel_rfl) (by kernel_rfl) (by kernel_rfl) (by kernel_rfl)
@[simp] theorem x65:UX 37 XN ALT∧SX 37 (cN 2) [oq 2 (.box (tq 0)),oq 4 (.mv (.const (.slice none 0 0))),ot 5 false] [0,1] [2,16]∧SX 37 (cN 9) [om 9 1,oe 10 9 37,oz 11 43 2 3,ol 12 41 11,oe 13 12 41,ob 14 .neq 3 10 13] [1,2] [2,16]∧SX 37 (cN 37) [oq 4 (.mv (.const (.slice none 0 0))),ot 5 false] [] []∧SX 37 (cN 11) [oq 6 (.mv (.const (.slice none 0 0)))] [1,2] [2,16]∧SX 37 (cN 39) [ol 15 43 2,od 16 92 [tq 15,.const (.slice none 0 0)],oe 17 16 170,ok 18 0] [1,2,6] [2,16,31]∧SX 37 (cN 279) [ob 19 .lss 3 18 17] [1,2,6,16,17,18] [2,16,31]∧SX 37 (cN 4503) [om 20 18,oi 21 170 16 18,ol 22 151 21,oq 8 (.alloc 151),om 7 20,os (.sto 151 (tq 8) (tq 22))] [1,2,6,16,17,18] [2,16,31]∧RX 37 (cN 6551) (.drw [⟨[],[om 23 6,ol 24 151 8,om 25 1,om 26 7,oi 27 37 25 26,ol 28 86 27,oq 29 (.build 153 [(0,tq 24),(1,tq 28)]),oq 30 (.buildS 120 1 [(0,tq 29)]),oq 31 (.app [tq 23,tq 30] [120,120]),om 6 31],[]⟩]) (some ([1,2,6,7,8,16,17,18],[2,8,16,31]))∧SX 37 (cN 1943) [oc 32 .add 3 18 1,om 18 32] [1,2,5,6,8,9,10,16,17,18] [2,7,16,31]∧LX 37 XN [1,2,6,16,17,18] [2,16,31]:=⟨fun _ _=>rfl,rx,rx,rx,rx,rx,rx,rx,rx,rx,lx⟩
def VT:=rg Tryz.f67
@[simp] def ALU:Code:=(.seq (VT 71269) (.seq (.cond (.tmp 37) .skip (.exit 2)) (.seq (.block 3 (.seq (VT 1152613) (VT 1676901))) (VT 497253))))
def XO:=ALU
@[simp] def ALV:Code:=(.seq (VT 69) (.seq (.cond (.tmp 15) .skip (.exit 0)) (.seq (.block 1 (.seq (VT 1125) (.seq (VT 2661) (.seq (.seq (VT 9829) (.block 2 (.loop XO))) (VT 7781))))) (VT 485))))
def XP:=ALV
def c67:Code:=(.seq (VT 2) (.seq (.seq (VT 9) (.block 0 (.loop XP))) (.seq (VT 11) .ret)))
theorem b67:Tryz.f67.body=some c67:=by kernel_rfl
@[simp] theorem x67:UX 51 XO ALU∧UX 51 XP ALV∧SX 51 (VT 2) [oq 3 (.box (tq 0)),oq 6 (.mv (.const (.slice none 0 0)))] [0,1,2] [3]∧SX 51 (VT 9) [om 12 1,oe 13 12 120,ok 14 0] [1,2,6] [48]∧SX 51 (VT 69) [ob 15 .lss 3 14 13] [2,6,12,13,14] [48]∧SX 51 (VT 1125) [oi 16 120 12 14,ol 17 153 16,oq 8 (.alloc 153),os (.sto 153 (tq 8) (tq 17))] [2,6,12,13,14] [48]∧SX 51 (VT 2661) [ok 9 0] [2,6,8,12,13,14] [8,48]∧RX 51 (VT 9829) (.drw [⟨[],[om 18 2,oz 19 153 8 1,oz 20 86 19 0,ol 21 3 20,oi 22 123 18 21,ol 23 156 22,oz 24 153 8 1,oz 25 86 24 1,ol 26 3 25,oz 27 153 8 1,oz 28 86 27 1,ol 29 3 28,oz 30 153 8 0,oz 31 151 30 1,ol 32 3 31,ob 33 .add 3 29 32,oq 34 (.oth (.slice 156 (tq 23) (some (tq 26)) (some (tq 33)) none)),oe 35 34 156,ok 36 0],[]⟩]) (some ([2,6,8,9,12,13,14],[8,48]))∧SX 51 (VT 71269) [ob 37 .lss 3 36 35] [2,6,9,12,13,14,34,35,36] [48]∧SX 51 (VT 1152613) [oi 38 156 34 36,ol 39 155 38,oq 11 (.alloc 155),os (.sto 155 (tq 11) (tq 39))] [2,6,9,12,13,14,34,35,36] [48]∧SX 51 (VT 1676901) [om 40 9,oz 41 155 11 2,ol 42 3 41,ob 43 .add 3 40 42,om 9 43] [2,6,9,11,12,13,14,34,35,36] [11,48]∧SX 51 (VT 497253) [oc 44 .add 3 36 1,om 36 44] [2,6,9,12,13,14,34,35,36] [48]∧SX 51 (VT 7781) [om 45 6,om 46 9,oq 47 (.buildS 22 1 [(0,tq 46)]),oq 48 (.app [tq 45,tq 47] [22,22]),om 6 48] [2,6,9,12,13,14] [48]∧SX 51 (VT 485) [oc 49 .add 3 14 1,om 14 49] [2,6,12,13,14] [48]∧SX 51 (VT 11) [om 50 6,om 6 50] [6] [48]∧LX 51 XP [2,6,12,13,14] [48]∧LX 51 XO [2,6,9,12,13,14,34,35,36] [48]:=⟨fun _ _=>rfl,fun _ _=>rfl,rx,rx,rx,rx,rx,rx,rx,rx,rx,rx,rx,rx,rx,lx,lx⟩
def nT:=rg Tryz.f77
def c77:Code:=(.seq (nT 2) (.seq (.seq (nT 9) (.seq (nT 21) (.cond (.tmp 12) (.seq (nT 77) .ret) .skip))) (.seq (nT 11) (.seq (.seq (nT 39) (.cond (.tmp 21) (.seq (nT 151) .ret) .skip)) (.seq (nT 47) .ret)))))
theorem b77:Tryz.f77.body=some c77:=by kernel_rfl
@[simp] theorem x77:SX 23 (nT 2) [oq 2 (.box (tq 0)),oq 4 (.mv (.const (.slice none 0 0))),ok 5 0] [0,1] [2,17]∧SX 23 (nT 9) [ol 9 43 2,od 10 24 [tq 9],om 6 10] [1,2] [2,17]∧SX 23 (nT 21) [om 11 6,oc 12 .neq 34 11 0] [1,2,6] [2,17]∧SX 23 (nT 77) [om 13 6,oq 4 (.mv (.const (.slice none 0 0))),om 5 13] [6] []∧SX 23 (nT 11) [ol 15 43 2,om 16 1,od 17 65 [tq 15,tq 16],om 14 17,oq 18 (.oth (.extract (tq 14) 0)),oq 19 (.oth (.extract (tq 14) 1)),om 7 18,om 8 19] [1,2] [2,17]∧SX 23 (nT 39) [om 20 8,ou 21 20] [7,8] [2,17]∧SX 23 (nT 151) [oq 4 (.mv (.const (.slice none 0 0))),ok 5 2] [] []∧SX 23 (nT 47) [om 22 7,om 4 22,ok 5 0] [7] [2,17]:=⟨rx,rx,rx,rx,rx,rx,rx,rx⟩
def g78:=rg Tryz.f78
def c78:Code:=(.seq (g78 2) (.seq (g78 5) (.seq (g78 11) (.seq (g78 23) (g78 31)))))
theorem b78:Tryz.f78.body=some c78:=by kernel_rfl
@[simp] theorem x78:SX 14 (g78 2) [oq 2 (.box (tq 0)),oq 3 (.box (tq 1))] [0,1] [2,3,4,5,10]∧SX 14 (g78 5) [oz 6 43 2 0,oz 7 40 6 6,ol 8 23 7,oe 9 8 23,oq 10 (.mkS 22 (tq 9) (tq 9)),oq 4 (.alloc 22),os (.sto 22 (tq 4) (tq 10))] [2,3] [2,3,4,5,10]∧SX 14 (g78 11) [oq 5 (.alloc 211)] [2,3,4] [2,3,4,5,10]∧SX 14 (g78 23) [oq 11 (.oth (.makeFunc (.func 123) #[] #[tq 4,tq 2,tq 5,tq 3])),os (.sto 211 (tq 5) (tq 11))] [2,3,4,5] [2,3,4,5,10]∧SX 14 (g78 31) [ol 12 211 5,oq 13 (.call false none (tq 12) [ci 0])] [5] [2,3,4,5,10]:=⟨rx,rx,rx,rx,rx⟩
def LD:=rg Tryz.f123
@[simp] def ABC:Code:=(.seq (LD 274) (.seq (.cond (.tmp 22) .skip (.exit 0)) (.seq (.block 1 (.seq (LD 4498) (.seq (LD 10642) (LD 14738)))) (LD 1938))))
def SP:=ABC
def ABD:Code:=(.seq (.seq (LD 4) (.cond (.tmp 13) (.seq (.seq (LD 34) (.block 0 (.loop SP))) .ret) .skip)) (.seq (LD 5) (.cond (.tmp 37) (.seq (LD 19) (LD 27)) .skip)))
theorem b123:Tryz.f123.body=some ABD:=by kernel_rfl
@[simp] theorem BDL(n:Nat)(st:XS):AE Tryz.prog ann kn (n+1) 50 (LD 5) st=NN (IW Tryz.prog (cfU [20010] (BN Tryz.prog ann kn n)) (.str [oz 34 43 2 0,ol 35 40 34,ol 36 22 1,od 37 124 [tq 35,tq 36]]) (CE (some ([1,2,4],[44])) (LY [] st))) :=
 L6 (by kernel_rfl) (by kernel_rfl) (by kernel_rfl) (by kernel_rfl) (by kernel_rfl) (by kernel_rfl)
@[simp] theorem BNE:UX 50 SP ABC∧SX 50 (LD 4) [om 10 0,ol 11 22 1,oe 12 11 22,ob 13 .lss 3 10 12] [0,1,2,3,4] [44]∧SX 50 (LD 34) [oz 14 43 2 0,oz 15 40 14 6,ol 16 23 15,om 17 0,oi 18 23 16 17,ol 19 22 18,oe 20 19 22,ok 21 0] [0,1,2,3] [44]∧SX 50 (LD 274) [ob 22 .lss 3 21 20] [0,1,3,19,20,21] [44]∧SX 50 (LD 4498) [oi 23 22 19 21,ol 24 3 23,om 7 24] [0,1,3,19,20,21] [44]∧SX 50 (LD 10642) [ol 25 22 1,om 26 0,om 27 7,oi 28 22 25 26,os (.sto 3 (tq 28) (tq 27))] [0,1,3,7,19,20,21] [44]∧SX 50 (LD 14738) [ol 29 211 3,om 30 0,oc 31 .add 3 30 1,oq 32 (.call false none (tq 29) [tq 31])] [0,1,3,19,20,21] [44]∧SX 50 (LD 1938) [oc 33 .add 3 21 1,om 21 33] [0,1,3,19,20,21] [44]∧SX 50 (LD 19) [oz 39 43 2 0,ol 40 40 39,oz 41 43 2 1,ol 42 23 41,ol 43 22 1,od 44 66 [tq 40,tq 42,tq 43],om 38 44,oq 45 (.oth (.extract (tq 38) 0)),oq 46 (.oth (.extract (tq 38) 1)),om 8 45,om 9 46] [1,2,4] [44]∧SX 50 (LD 27) [ol 47 145 4,om 48 8,oq 49 (.call false none (tq 47) [tq 48])] [4,8] [44]∧LX 50 SP [0,1,3,19,20,21] [44]:=⟨fun _ _=>rfl,rx,rx,rx,rx,rx,rx,rx,rx,rx,lx⟩
def sT:=rg Tryz.f30
def c30:Code:=(.seq (sT 2) (.seq (sT 5) (.seq (.seq (sT 19) (.cond (.tmp 16) (.seq (sT 75) .ret) .skip)) (.seq (sT 23) (.seq (sT 47) (.seq (sT 95) .ret))))))
theorem b30:Tryz.f30.body=some c30:=by kernel_rfl
@[simp] theorem x30:SX 22 (sT 2) [oq 2 (.box (tq 0)),oq 4 (.mv (.const (.slice none 0 0))),ok 5 0] [0,1] [2,6,8,12,920]∧SX 22 (sT 5) [ol 10 43 2,om 11 1,od 12 77 [tq 10,tq 11],om 9 12,oq 13 (.oth (.extract (tq 9) 0)),oq 14 (.oth (.extract (tq 9) 1)),oq 6 (.alloc 120),os (.sto 120 (tq 6) (tq 13)),om 7 14] [1,2] [2,6,8,12,920]∧SX 22 (sT 19) [om 15 7,oc 16 .neq 34 15 0] [2,6,7] [2,6,8,12,920]∧SX 22 (sT 75) [om 17 7,oq 4 (.mv (.const (.slice none 0 0))),om 5 17] [7] []∧SX 22 (sT 23) [oq 8 (.alloc 61)] [2,6] [2,6,8,12,920]∧SX 22 (sT 47) [ol 18 43 2,oq 19 (.oth (.makeFunc (.func 79) #[] #[tq 2,tq 6,tq 8])),od 20 78 [tq 18,tq 19]] [2,6,8] [2,6,8,12,920]∧SX 22 (sT 95) [ol 21 61 8,om 4 21,ok 5 0] [8] [2,6,8,12,920]:=⟨rx,rx,rx,rx,rx,rx,rx⟩
def AH5:=rg Tryz.f125
def A1X:Code:=(.seq (AH5 2) (.seq (AH5 5) .ret))
theorem BDN:Tryz.f125.body=some A1X:=by kernel_rfl
@[simp] theorem BNG:SX 5 (AH5 2) [ok 2 0] [0] []∧SX 5 (AH5 5) [om 3 0,od 4 165 [tq 3],om 2 4] [0,1,2] [1,2]:=⟨rx,rx⟩
def g80:=rg Tryz.f80
def c80:Code:=(.seq (g80 2) (.seq (g80 5) .ret))
theorem b80:Tryz.f80.body=some c80:=by kernel_rfl
@[simp] theorem x80:SX 15 (g80 2) [oq 2 (.box (tq 0)),oq 4 (.alloc 69)] [0,1] []∧RX 15 (g80 5) (.drw [⟨[],[oz 5 69 2 0,oq 6 (.ldz 3 (tq 5)),om 7 1,oq 8 (.buildS 22 2 [(0,tq 6),(1,tq 7)]),od 9 125 [tq 8],oz 10 69 2 1,oq 11 (.ldz 3 (tq 10)),om 12 1,oq 13 (.oth (.call ⟨.builtin .max,#[tq 11,tq 12],#[3,3]⟩)),oq 14 (.build 69 [(0,tq 9),(1,tq 13)])],[os (.sto 69 (tq 4) (tq 14))]⟩]) (some ([1,2,4],[2,4])):=⟨rx,rx⟩
def sU:=rg Tryz.f79
@[simp] def ALW:Code:=(.seq (sU 17) (.seq (.cond (.tmp 13) .skip (.exit 0)) (.seq (.block 1 (.seq (sU 281) (.seq (.seq (sU 1177) (.cond (.tmp 20) (sU 2713) .skip)) (sU 921)))) (sU 121))))
def XQ:=ALW
def c79:Code:=(.seq (sU 2) (.block 0 (.loop XQ)))
theorem b79:Tryz.f79.body=some c79:=by kernel_rfl
@[simp] theorem BH8(n:Nat)(st:XS):AE Tryz.prog ann kn (n+1) 37 (sU 921) st=NN (IW Tryz.prog (BN Tryz.prog ann kn n) (.drw [⟨[34],[oq 27 (.ldz 61 (tq 3)),om 28 5,oq 29 (.ldz 61 (tq 3)),om 30 5,oi 31 61 29 30,oq 32 (.ldz 69 (tq 31)),om 33 6,oq 34 (.call true none (.func 80) [tq 32,tq 33]),oi 35 61 27 28],[os (.sto 69 (tq 35) (tq 34))]⟩]) (CE (some ([3,5,6,10,11,12],[10,26])) (LY [9004000921026] st))) :=
 DT (by kernel_rfl) (by kernel_rfl) (by kernel_rfl) (by kernel_rfl) (by kernel_rfl)
@[simp] theorem x79:UX 37 XQ ALW∧SX 37 (sU 2) [ol 7 43 1,ol 8 120 2,om 9 0,od 10 67 [tq 7,tq 8,tq 9],oe 11 10 22,ok 12 0] [0,1,2,3] [10,26]∧SX 37 (sU 17) [ob 13 .lss 3 12 11] [3,10,11,12] [10,26]∧SX 37 (sU 281) [om 14 12,oi 15 22 10 12,ol 16 3 15,om 5 14,om 6 16] [3,10,11,12] [10,26]∧SX 37 (sU 1177) [ol 17 61 3,oe 18 17 61,om 19 5,ob 20 .eql 3 18 19] [3,5,6,10,11,12] [10,26]∧SX 37 (sU 2713) [ol 21 61 3,om 22 6,om 23 6,oq 24 (.build 69 [(0,tq 22),(1,tq 23)]),oq 25 (.buildS 61 1 [(0,tq 24)]),oq 26 (.app [tq 21,tq 25] [61,61]),os (.sto 61 (tq 3) (tq 26))] [3,5,6,10,11,12] [10,26]∧SX 37 (sU 121) [oc 36 .add 3 12 1,om 12 36] [3,10,11,12] [10,26]∧LX 37 XQ [3,10,11,12] [10,26]:=⟨fun _ _=>rfl,rx,rx,rx,rx,rx,rx,lx⟩
def sV:=rg Tryz.f72
@[simp] def ALX:Code:=(lp (sV 267) 8 0 1 (sV 587) (sV 459))
def XR:=ALX
def c72:Code:=(.seq (sV 2) (.seq (sV 5) (.seq (.seq (sV 19) (.block 0 (.loop XR))) (.seq (sV 23) .ret))))
theorem b72:Tryz.f72.body=some c72:=by kernel_rfl
@[simp] theorem x72:UX 19 XR ALX∧SX 19 (sV 2) [ok 2 0] [0] []∧SX 19 (sV 5) [ok 3 0] [0] []∧SX 19 (sV 19) [ok 4 0] [0,3] []∧SX 19 (sV 267) [om 5 4,om 6 0,oe 7 6 49,ob 8 .lss 3 5 7] [0,3,4] []∧SX 19 (sV 587) [om 11 3,om 12 0,om 13 4,oi 14 49 12 13,oz 15 135 14 1,ol 16 3 15,ob 17 .add 3 11 16,om 3 17] [0,3,4] []∧SX 19 (sV 459) [om 9 4,oc 10 .add 3 9 1,om 4 10] [0,3,4] []∧SX 19 (sV 23) [om 18 3,om 2 18] [0,1,3,7,8] []∧LX 19 XR [0,3,4] []:=⟨fun _ _=>rfl,rx,rx,rx,rx,rx,rx,rx,lx⟩
def bG:=rg Tryz.f73
@[simp] def ALY:Code:=(lp (bG 16971) 20 2 3 (.seq (bG 70219) (.cond (.tmp 30) (bG 168523) .skip)) (bG 29259))
def XT:=ALY
@[simp] def ALZ:Code:=(lp (bG 267) 10 0 1 (.seq (bG 1099) (.block 2 (.loop XT))) (bG 459))
def XU:=ALZ
def c73:Code:=(.seq (bG 2) (.seq (bG 5) (.seq (.seq (bG 19) (.block 0 (.loop XU))) (.seq (bG 23) .ret))))
theorem b73:Tryz.f73.body=some c73:=by kernel_rfl
@[simp] theorem x73:UX 34 XT ALY∧UX 34 XU ALZ∧SX 34 (bG 2) [oq 1 (.box (tq 0)),ok 2 0] [0] [1]∧SX 34 (bG 5) [ok 3 0] [1] [1]∧SX 34 (bG 19) [ok 4 0] [1,3] [1]∧SX 34 (bG 267) [om 6 4,oz 7 31 1 2,ol 8 28 7,oe 9 8 28,ob 10 .lss 3 6 9] [1,3,4] [1]∧SX 34 (bG 1099) [ok 5 0] [1,3,4] [1]∧SX 34 (bG 16971) [om 13 5,oz 14 31 1 2,ol 15 28 14,om 16 4,oi 17 28 15 16,ol 18 97 17,oe 19 18 97,ob 20 .lss 3 13 19] [1,3,4,5] [1]∧SX 34 (bG 70219) [oz 23 31 1 2,ol 24 28 23,om 25 4,oi 26 28 24 25,ol 27 97 26,om 28 5,oi 29 97 27 28,ol 30 4 29] [1,3,4,5] [1]∧SX 34 (bG 168523) [om 31 3,oc 32 .add 3 31 1,om 3 32] [1,3,4,5] [1]∧SX 34 (bG 29259) [om 21 5,oc 22 .add 3 21 1,om 5 22] [1,3,4,5] [1]∧SX 34 (bG 459) [om 11 4,oc 12 .add 3 11 1,om 4 12] [1,3,4] [1]∧SX 34 (bG 23) [om 33 3,om 2 33] [3] []∧LX 34 XU [1,3,4] [1]∧LX 34 XT [1,3,4,5] [1]:=⟨fun _ _=>rfl,fun _ _=>rfl,rx,rx,rx,rx,rx,rx,rx,rx,rx,rx,rx,lx,lx⟩
def wH:=rg Tryz.f122
def A1Y:Code:=(.seq (wH 2) (.seq (wH 5) (.seq (wH 11) .ret)))
theorem BDP:Tryz.f122.body=some A1Y:=by kernel_rfl
@[simp] theorem BNK:SX 38 (wH 2) [oq 3 (.box (tq 0)),ot 6 false] [0,1,2] [3]∧RX 38 (wH 5) (.drw [⟨[7,8],[oz 9 31 3 3,oq 10 (.ldz 29 (tq 9)),om 11 1,oi 12 29 10 11,oq 13 (.ldz 57 (tq 12)),oz 14 31 3 3,ol 15 29 14,om 16 2,oi 17 29 15 16,ol 18 57 17,oq 7 (.alloc 57),oq 8 (.alloc 57),os (.sto 57 (tq 7) (tq 13))],[os (.sto 57 (tq 8) (tq 18))]⟩]) (some ([1,2,3],[3]))∧SX 38 (wH 11) [om 19 1,om 20 2,ob 21 .neq 3 19 20,om 22 21,gz 22 true 23 57 7 3,gl 22 true 24 4 23,gm 22 true 25 24,gz 25 true 26 57 8 2,gl 25 true 27 4 26,og 22 true 28 (.pick (tq 25) (tq 27) (cb false)),gm 22 true 29 28,gz 29 false 30 57 8 3,gl 29 false 31 4 30,gm 29 false 32 31,gz 32 true 33 57 7 2,gl 32 true 34 4 33,og 29 false 35 (.pick (tq 32) (tq 34) (cb false)),og 22 true 36 (.pick (tq 29) (cb true) (tq 35)),oq 37 (.pick (tq 22) (tq 36) (cb false)),om 6 37] [1,2,7,8] [7,8]:=⟨rx,rx,rx⟩
def M4:=rg Tryz.f74
@[simp] def ABE:Code:=(lp (M4 8689967) 73 4 5 (.seq (M4 35952943) (.seq (M4 86284591) (.cond (.tmp 111) (.seq (M4 321165615) .ret) .skip))) (M4 14981423))
def SQ:=ABE
@[simp] def ABF:Code:=(lp (M4 137519) 68 2 3 (.seq (M4 563503) (.block 4 (.loop SQ))) (M4 235823))
def SR:=ABF
@[simp] def AL0:Code:=(lp (M4 1071) 51 0 1 (.seq (.seq (M4 8495) (.cond (.tmp 61) (.exit 1) .skip)) (.seq (M4 10543) (.block 2 (.loop SR)))) (M4 1839))
def XV:=AL0
def c74:Code:=(.seq (M4 2) (.seq (M4 5) (.seq (M4 11) (.seq (.seq (M4 39) (.cond (.tmp 48) (.seq (M4 151) .ret) .skip)) (.seq (.seq (M4 79) (.block 0 (.loop XV))) (.seq (M4 95) .ret))))))
theorem b74:Tryz.f74.body=some c74:=by kernel_rfl
@[simp] theorem x74:UX 112 SQ ABE∧UX 112 SR ABF∧UX 112 XV AL0∧SX 112 (M4 2) [oq 3 (.box (tq 0)),ot 6 false] [0,1,2] [3]∧SX 112 (M4 5) [om 14 2,oe 15 14 24,oc 16 .sub 3 15 1,om 7 16] [1,2,3] [3]∧RX 112 (M4 11) (.drw [⟨[8],[om 17 2,om 18 7,oi 19 24 17 18,oq 20 (.ldz 59 (tq 19)),om 21 1,om 22 7,oi 23 49 21 22,oz 24 135 23 1,ol 25 3 24,oq 8 (.alloc 59),os (.sto 59 (tq 8) (tq 20)),om 9 25],[]⟩]) (some ([1,2,3,7],[3]))∧SX 112 (M4 39) [oz 26 59 8 0,ol 27 3 26,oz 28 31 3 0,oz 29 27 28 1,ol 30 3 29,oc 31 .sub 3 30 1,od 32 57 [tq 27,ci 0,tq 31],ou 33 32,om 34 33,gz 34 false 35 59 8 1,gl 34 false 36 3 35,gc 34 false 37 .lss 3 36 0,oq 38 (.pick (tq 34) (cb true) (tq 37)),om 39 38,gz 39 false 40 59 8 1,gl 39 false 41 3 40,gz 39 false 42 31 3 0,gz 39 false 43 27 42 2,gl 39 false 44 3 43,gm 39 false 45 9,gb 39 false 46 .sub 3 44 45,gb 39 false 47 .gtr 3 41 46,oq 48 (.pick (tq 39) (cb true) (tq 47))] [1,2,3,7,8,9] [3,8]∧SX 112 (M4 151) [ot 6 false] [] []∧SX 112 (M4 79) [ok 10 0] [1,2,3,7,8,9] [3,8]∧SX 112 (M4 1071) [om 49 10,om 50 7,ob 51 .lss 3 49 50] [1,2,3,7,8,9,10] [3,8]∧RX 112 (M4 8495) (.drw [⟨[],[om 54 2,om 55 10,oi 56 24 54 55,oz 57 59 56 0,ol 58 3 57,oz 59 59 8 0,ol 60 3 59,ob 61 .neq 3 58 60],[]⟩]) (some ([1,2,3,7,8,9,10],[3,8]))∧SX 112 (M4 10543) [ok 11 0] [1,2,3,7,8,9,10] [3,8]∧SX 112 (M4 137519) [om 62 11,om 63 1,om 64 10,oi 65 49 63 64,oz 66 135 65 1,ol 67 3 66,ob 68 .lss 3 62 67] [1,2,3,7,8,9,10,11] [3,8]∧SX 112 (M4 563503) [ok 12 0] [1,2,3,7,8,9,10,11] [3,8]∧SX 112 (M4 8689967) [om 71 12,om 72 9,ob 73 .lss 3 71 72] [1,2,3,7,8,9,10,11,12] [3,8]∧RX 112 (M4 35952943) (.drw [⟨[],[om 76 2,om 77 10,oi 78 24 76 77,oz 79 59 78 1,ol 80 3 79,om 81 11,ob 82 .add 3 80 81,oz 83 59 8 1,ol 84 3 83,ob 85 .sub 3 82 84,om 86 12,ob 87 .sub 3 85 86,om 13 87],[]⟩]) (some ([1,2,3,7,8,9,10,11,12],[3,8]))∧RX 112 (M4 86284591) (.drw [⟨[],[om 88 13,oc 89 .eql 3 88 0,om 90 89,gm 90 false 91 13,gc 90 false 92 .eql 3 91 1,gm 90 false 93 92,gm 93 false 94 13,og 93 false 95 (.bin .eql 3 (tq 94) (.const (.int .i64 (Int.negSucc 0)))),og 90 false 96 (.pick (tq 93) (cb true) (tq 95)),gm 90 false 97 96,gl 97 true 98 31 3,gm 97 true 99 1,gm 97 true 100 10,gi 97 true 101 49 99 100,gz 97 true 102 135 101 0,gl 97 true 103 3 102,gm 97 true 104 1,gm 97 true 105 7,gi 97 true 106 49 104 105,gz 97 true 107 135 106 0,gl 97 true 108 3 107],[gd 97 true 109 122 [tq 98,tq 103,tq 108]]⟩,⟨[],[og 90 false 110 (.pick (tq 97) (tq 109) (cb false)),oq 111 (.pick (tq 90) (cb true) (tq 110))],[]⟩]) (some ([1,2,3,7,8,9,10,11,12,13],[3,8]))∧SX 112 (M4 321165615) [ot 6 false] [] []∧SX 112 (M4 14981423) [om 74 12,oc 75 .add 3 74 1,om 12 75] [1,2,3,7,8,9,10,11,12] [3,8]∧SX 112 (M4 235823) [om 69 11,oc 70 .add 3 69 1,om 11 70] [1,2,3,7,8,9,10,11] [3,8]∧SX 112 (M4 1839) [om 52 10,oc 53 .add 3 52 1,om 10 53] [1,2,3,7,8,9,10] [3,8]∧SX 112 (M4 95) [ot 6 true] [] []∧LX 112 XV [1,2,3,7,8,9,10] [3,8]∧LX 112 SR [1,2,3,7,8,9,10,11] [3,8]∧LX 112 SQ [1,2,3,7,8,9,10,11,12] [3,8]:=⟨fun _ _=>rfl,fun _ _=>rfl,fun _ _=>rfl,rx,rx,rx,rx,rx,rx,rx,rx,rx,rx,rx,rx,rx,rx,rx,rx,rx,rx,rx,lx,lx,lx⟩
def UF:=rg Tryz.f18
@[simp] def AL1:Code:=(lp (UF 267) 31 0 1 (.seq (UF 1099) (.cond (.tmp 40) (.seq (UF 4683) .ret) .skip)) (UF 459))
def XW:=AL1
@[simp] def AL2:Code:=(lp (UF 535) 45 2 3 (.seq (UF 2199) (.cond (.tmp 54) (.seq (UF 9367) .ret) .skip)) (UF 919))
def XX:=AL2
def c18:Code:=(.seq (UF 2) (.seq (.seq (UF 9) (.cond (.tmp 26) (.seq (UF 37) .ret) .skip)) (.seq (.seq (UF 19) (.block 0 (.loop XW))) (.seq (.seq (UF 39) (.block 2 (.loop XX))) (.seq (UF 47) .ret)))))
theorem b18:Tryz.f18.body=some c18:=by kernel_rfl
@[simp] theorem x18:UX 55 XW AL1∧UX 55 XX AL2∧SX 55 (UF 2) [oq 1 (.box (tq 0)),ot 2 false] [0] [1]∧SX 55 (UF 9) [oz 5 31 1 0,ol 6 27 5,od 7 64 [tq 6],ou 8 7,om 9 8,gz 9 false 10 31 1 1,gl 9 false 11 23 10,ge 9 false 12 11 23,gc 9 false 13 .gtr 3 12 7,oq 14 (.pick (tq 9) (cb true) (tq 13)),om 15 14,gz 15 false 16 31 1 2,gl 15 false 17 28 16,ge 15 false 18 17 28,gc 15 false 19 .gtr 3 18 7,oq 20 (.pick (tq 15) (cb true) (tq 19)),om 21 20,gz 21 false 22 31 1 3,gl 21 false 23 29 22,ge 21 false 24 23 29,gc 21 false 25 .gtr 3 24 5,oq 26 (.pick (tq 21) (cb true) (tq 25))] [1] [1]∧SX 55 (UF 37) [ot 2 false] [] []∧SX 55 (UF 19) [ok 3 0] [1] [1]∧SX 55 (UF 267) [om 27 3,oz 28 31 1 1,ol 29 23 28,oe 30 29 23,ob 31 .lss 3 27 30] [1,3] [1]∧SX 55 (UF 1099) [oz 34 31 1 1,ol 35 23 34,om 36 3,oi 37 23 35 36,ol 38 22 37,oe 39 38 22,oc 40 .gtr 3 39 7] [1,3] [1]∧SX 55 (UF 4683) [ot 2 false] [] []∧SX 55 (UF 459) [om 32 3,oc 33 .add 3 32 1,om 3 33] [1,3] [1]∧SX 55 (UF 39) [ok 4 0] [1] [1]∧SX 55 (UF 535) [om 41 4,oz 42 31 1 2,ol 43 28 42,oe 44 43 28,ob 45 .lss 3 41 44] [1,4] [1]∧SX 55 (UF 2199) [oz 48 31 1 2,ol 49 28 48,om 50 4,oi 51 28 49 50,ol 52 97 51,oe 53 52 97,oc 54 .gtr 3 53 7] [1,4] [1]∧SX 55 (UF 9367) [ot 2 false] [] []∧SX 55 (UF 919) [om 46 4,oc 47 .add 3 46 1,om 4 47] [1,4] [1]∧SX 55 (UF 47) [ot 2 true] [] []∧LX 55 XW [1,3] [1]∧LX 55 XX [1,4] [1]:=⟨fun _ _=>rfl,fun _ _=>rfl,rx,rx,rx,rx,rx,rx,rx,rx,rx,rx,rx,rx,rx,rx,lx,lx⟩
def sW:=rg Tryz.f69
@[simp] def AL3:Code:=(lp (sW 267) 8 0 1 (sW 587) (sW 459))
def XY:=AL3
def c69:Code:=(.seq (sW 2) (.seq (sW 5) (.seq (.seq (sW 19) (.block 0 (.loop XY))) (.seq (sW 23) .ret))))
theorem b69:Tryz.f69.body=some c69:=by kernel_rfl
@[simp] theorem BIC(n:Nat)(st:XS):AE Tryz.prog ann kn (n+1) 20 (sW 459) st=NN (IW Tryz.prog (BN Tryz.prog ann kn n) (.str [om 9 4,oc 10 .add 3 9 1,om 4 10]) (CE (some ([0,3,4],[18])) (LY [16,2000000000000018] st))) :=
 DT (by kernel_rfl) (by kernel_rfl) (by kernel_rfl) (by kernel_rfl) (by kernel_rfl)
@[simp] theorem x69:UX 20 XY AL3∧SX 20 (sW 2) [oq 2 (.mv (.const (.slice none 0 0)))] [0] []∧SX 20 (sW 5) [oq 3 (.mv (.const (.slice none 0 0)))] [0] []∧SX 20 (sW 19) [ok 4 0] [0,3] [18]∧SX 20 (sW 267) [om 5 4,om 6 0,oe 7 6 23,ob 8 .lss 3 5 7] [0,3,4] [18]∧SX 20 (sW 587) [om 11 3,om 12 0,om 13 4,oi 14 23 12 13,ol 15 22 14,oq 16 (.app [.const (.slice none 0 0),tq 15] [22,22]),oq 17 (.buildS 23 1 [(0,tq 16)]),oq 18 (.app [tq 11,tq 17] [23,23]),om 3 18] [0,3,4] [18]∧SX 20 (sW 23) [om 19 3,om 2 19] [3] [18]∧LX 20 XY [0,3,4] [18]:=⟨fun _ _=>rfl,rx,rx,rx,rx,rx,rx,lx⟩
def oH:=rg Tryz.f22
@[simp] def AL4:Code:=(lp (oH 267) 8 0 1 (oH 587) (oH 459))
def XZ:=AL4
def c22:Code:=(.seq (oH 2) (.seq (oH 5) (.seq (.seq (oH 19) (.block 0 (.loop XZ))) (.seq (oH 23) .ret))))
theorem b22:Tryz.f22.body=some c22:=by kernel_rfl
@[simp] theorem BIE(n:Nat)(st:XS):AE Tryz.prog ann kn (n+1) 20 (oH 459) st=NN (IW Tryz.prog (BN Tryz.prog ann kn n) (.str [om 9 4,oc 10 .add 3 9 1,om 4 10]) (CE (some ([0,3,4],[18])) (LY [16,2000000000000018] st))) :=
 DT (by kernel_rfl) (by kernel_rfl) (by kernel_rfl) (by kernel_rfl) (by kernel_rfl)
@[simp] theorem x22:UX 20 XZ AL4∧SX 20 (oH 2) [oq 2 (.mv (.const (.slice none 0 0)))] [0] []∧SX 20 (oH 5) [oq 3 (.mv (.const (.slice none 0 0)))] [0] []∧SX 20 (oH 19) [ok 4 0] [0,3] [18]∧SX 20 (oH 267) [om 5 4,om 6 0,oe 7 6 24,ob 8 .lss 3 5 7] [0,3,4] [18]∧SX 20 (oH 587) [om 11 3,om 12 0,om 13 4,oi 14 24 12 13,ol 15 59 14,od 16 48 [tq 15],oq 17 (.buildS 37 1 [(0,tq 16)]),oq 18 (.app [tq 11,tq 17] [37,37]),om 3 18] [0,3,4] [18]∧SX 20 (oH 23) [om 19 3,om 2 19] [3] [18]∧LX 20 XZ [0,3,4] [18]:=⟨fun _ _=>rfl,rx,rx,rx,rx,rx,rx,lx⟩
def nU:=rg Tryz.f26
@[simp] def AL5:Code:=(lp (nU 267) 11 0 1 (.seq (nU 1099) (.cond (.tmp 19) (nU 2635) .skip)) (nU 459))
def X0:=AL5
def c26:Code:=(.seq (nU 2) (.seq (nU 5) (.seq (.seq (nU 19) (.block 0 (.loop X0))) (.seq (nU 23) .ret))))
theorem b26:Tryz.f26.body=some c26:=by kernel_rfl
@[simp] theorem x26:UX 32 X0 AL5∧SX 32 (nU 2) [oq 2 (.box (tq 0)),oq 4 (.mv (.const (.slice none 0 0)))] [0,1] [2]∧SX 32 (nU 5) [oq 5 (.mv (.const (.slice none 0 0)))] [1,2] [2]∧SX 32 (nU 19) [ok 6 0] [1,2,5] [2,30]∧SX 32 (nU 267) [om 7 6,oz 8 31 2 3,ol 9 29 8,oe 10 9 29,ob 11 .lss 3 7 10] [1,2,5,6] [2,30]∧SX 32 (nU 1099) [om 14 1,om 15 6,oq 16 (.oth (.convert 3 115 (tq 15))),ob 17 .shr 3 14 16,oc 18 .rem 3 17 2,oc 19 .eql 3 18 0] [1,2,5,6] [2,30]∧SX 32 (nU 2635) [om 20 5,om 21 6,oz 22 31 2 3,ol 23 29 22,om 24 6,oi 25 29 23 24,oz 26 57 25 0,ol 27 3 26,oq 28 (.build 135 [(0,tq 21),(1,tq 27)]),oq 29 (.buildS 49 1 [(0,tq 28)]),oq 30 (.app [tq 20,tq 29] [49,49]),om 5 30] [1,2,5,6] [2,30]∧SX 32 (nU 459) [om 12 6,oc 13 .add 3 12 1,om 6 13] [1,2,5,6] [2,30]∧SX 32 (nU 23) [om 31 5,om 4 31] [5] [30]∧LX 32 X0 [1,2,5,6] [2,30]:=⟨fun _ _=>rfl,rx,rx,rx,rx,rx,rx,rx,rx,lx⟩
def iG:=rg Tryz.f25
@[simp] def AL6:Code:=(lp (iG 267) 23 0 1 (.seq (iG 1099) (.cond (.tmp 33) (.seq (iG 4683) .ret) .skip)) (iG 459))
def X3:=AL6
def c25:Code:=(.seq (iG 2) (.seq (.seq (iG 9) (.cond (.tmp 19) (.seq (iG 37) .ret) .skip)) (.seq (.seq (iG 19) (.block 0 (.loop X3))) (.seq (iG 23) .ret))))
theorem b25:Tryz.f25.body=some c25:=by kernel_rfl
@[simp] theorem x25:UX 34 X3 AL6∧SX 34 (iG 2) [oq 3 (.box (tq 0)),ot 6 false] [0,1,2] [3]∧RX 34 (iG 9) (.drw [⟨[],[om 8 2,oe 9 8 24,om 10 1,oe 11 10 49,ob 12 .neq 3 9 11,om 13 12,gm 13 false 14 1,gd 13 false 15 72 [tq 14],gl 13 false 16 31 3],[gd 13 false 17 73 [tq 16]]⟩,⟨[],[gb 13 false 18 .gtr 3 15 17,oq 19 (.pick (tq 13) (cb true) (tq 18))],[]⟩]) (some ([1,2,3],[3]))∧SX 34 (iG 37) [ot 6 false] [] []∧SX 34 (iG 19) [ok 7 0] [1,2,3] [3]∧SX 34 (iG 267) [om 20 7,om 21 2,oe 22 21 24,ob 23 .lss 3 20 22] [1,2,3,7] [3]∧RX 34 (iG 1099) (.drw [⟨[],[ol 26 31 3,om 27 1,om 28 2,om 29 7,oc 30 .add 3 29 1,oq 31 (.oth (.slice 24 (tq 28) none (some (tq 30)) none))],[od 32 74 [tq 26,tq 27,tq 31]]⟩,⟨[],[ou 33 32],[]⟩]) (some ([1,2,3,7],[3]))∧SX 34 (iG 4683) [ot 6 false] [] []∧SX 34 (iG 459) [om 24 7,oc 25 .add 3 24 1,om 7 25] [1,2,3,7] [3]∧SX 34 (iG 23) [ot 6 true] [] []∧LX 34 X3 [1,2,3,7] [3]:=⟨fun _ _=>rfl,rx,rx,rx,rx,rx,rx,rx,rx,rx,lx⟩
def iH:=rg Tryz.f29
@[simp] def AL7:Code:=(lp (iH 267) 17 0 1 (.seq (iH 1099) (.seq (iH 2635) (iH 3659))) (iH 459))
def X4:=AL7
def c29:Code:=(.seq (iH 2) (.seq (iH 5) (.seq (.seq (iH 19) (.block 0 (.loop X4))) (.seq (iH 23) .ret))))
theorem b29:Tryz.f29.body=some c29:=by kernel_rfl
@[simp] theorem x29:UX 44 X4 AL7∧SX 44 (iH 2) [oq 4 (.box (tq 0)),oq 5 (.box (tq 1)),oq 6 (.box (tq 2)),ok 8 0,ot 9 false] [0,1,2,3] [4]∧SX 44 (iH 5) [ok 10 0,ot 11 true] [3,5,6] [5,6]∧SX 44 (iH 19) [ok 12 0] [3,5,6,10,11] [5,6]∧SX 44 (iH 267) [om 14 12,oz 15 57 5 0,ol 16 3 15,ob 17 .lss 3 14 16] [3,5,6,10,11,12] [5,6]∧RX 44 (iH 1099) (.drw [⟨[],[om 20 3,oz 21 59 6 0,ol 22 3 21,oi 23 52 20 22,ol 24 137 23,oz 25 59 6 1,ol 26 3 25,om 27 12,ob 28 .add 3 26 27,oi 29 137 24 28,oz 30 139 29 2,ol 31 3 30,om 13 31],[]⟩]) (some ([3,5,6,10,11,12],[5,6]))∧SX 44 (iH 2635) [om 32 10,om 33 13,ob 34 .add 3 32 33,om 10 34] [3,5,6,10,11,12,13] [5,6]∧SX 44 (iH 3659) [om 35 11,om 36 35,gm 36 true 37 13,gz 36 true 38 57 5 1,gl 36 true 39 3 38,gb 36 true 40 .geq 3 37 39,oq 41 (.pick (tq 36) (tq 40) (cb false)),om 11 41] [3,5,6,10,11,12,13] [5,6]∧SX 44 (iH 459) [om 18 12,oc 19 .add 3 18 1,om 12 19] [3,5,6,10,11,12] [5,6]∧SX 44 (iH 23) [om 42 10,om 43 11,om 8 42,om 9 43] [10,11] []∧LX 44 X4 [3,5,6,10,11,12] [5,6]:=⟨fun _ _=>rfl,rx,rx,rx,rx,rx,rx,rx,rx,rx,lx⟩
def SU:=rg Tryz.f116
@[simp] def ABG:Code:=(lp (SU 133) 9 0 1 (.seq (SU 549) (.cond (.tmp 27) (.seq (SU 2341) .ret) .skip)) (SU 229))
def SV:=ABG
def A1Z:Code:=(.seq (SU 2) (.seq (.seq (SU 9) (.block 0 (.loop SV))) (.seq (SU 11) .ret)))
theorem BDS:Tryz.f116.body=some A1Z:=by kernel_rfl
@[simp] theorem BNS:UX 34 SV ABG∧SX 34 (SU 2) [oq 2 (.box (tq 0)),ot 4 false] [0,1] [2]∧SX 34 (SU 9) [ok 5 0] [1,2] [2]∧SX 34 (SU 133) [om 6 5,om 7 1,oe 8 7 23,ob 9 .lss 3 6 8] [1,2,5] [2]∧RX 34 (SU 549) (.drw [⟨[],[om 12 1,om 13 5,oi 14 23 12 13,ol 15 22 14,oe 16 15 22,oz 17 27 2 1,ol 18 3 17,ob 19 .neq 3 16 18,om 20 19,gm 20 false 21 1,gm 20 false 22 5,gi 20 false 23 23 21 22,gl 20 false 24 22 23],[gd 20 false 25 134 [tq 24,ci 0]]⟩,⟨[],[og 20 false 26 (.oth (.unOp .not 4 (tq 25))),oq 27 (.pick (tq 20) (cb true) (tq 26))],[]⟩]) (some ([1,2,5],[2]))∧SX 34 (SU 2341) [ot 4 false] [] []∧SX 34 (SU 229) [om 10 5,oc 11 .add 3 10 1,om 5 11] [1,2,5] [2]∧SX 34 (SU 11) [om 28 1,oe 29 28 23,oz 30 27 2 0,ol 31 3 30,oc 32 .add 3 31 1,ob 33 .eql 3 29 32,om 4 33] [1,2] [2]∧LX 34 SV [1,2,5] [2]:=⟨fun _ _=>rfl,rx,rx,rx,rx,rx,rx,rx,lx⟩
def iI:=rg Tryz.f27
@[simp] def AL8:Code:=(lp (iI 267) 15 0 1 (.seq (iI 1099) (.cond (.tmp 28) (.seq (iI 4683) .ret) .skip)) (iI 459))
def X5:=AL8
def c27:Code:=(.seq (iI 2) (.seq (.seq (iI 9) (.cond (.tmp 11) (.seq (iI 37) .ret) .skip)) (.seq (.seq (iI 19) (.block 0 (.loop X5))) (.seq (iI 23) .ret))))
theorem b27:Tryz.f27.body=some c27:=by kernel_rfl
@[simp] theorem x27:UX 29 X5 AL8∧SX 29 (iI 2) [oq 2 (.box (tq 0)),ot 4 false] [0,1] [2]∧SX 29 (iI 9) [om 6 1,oe 7 6 22,oz 8 27 2 6,ol 9 23 8,oe 10 9 23,ob 11 .neq 3 7 10] [1,2] [2]∧SX 29 (iI 37) [ot 4 false] [] []∧SX 29 (iI 19) [ok 5 0] [1,2] [2]∧SX 29 (iI 267) [om 12 5,om 13 1,oe 14 13 22,ob 15 .lss 3 12 14] [1,2,5] [2]∧RX 29 (iI 1099) (.drw [⟨[],[oz 18 27 2 6,ol 19 23 18,om 20 5,oi 21 23 19 20,ol 22 22 21,om 23 1,om 24 5,oi 25 22 23 24,ol 26 3 25],[od 27 75 [tq 22,tq 26]]⟩,⟨[],[ou 28 27],[]⟩]) (some ([1,2,5],[2]))∧SX 29 (iI 4683) [ot 4 false] [] []∧SX 29 (iI 459) [om 16 5,oc 17 .add 3 16 1,om 5 17] [1,2,5] [2]∧SX 29 (iI 23) [ot 4 true] [] []∧LX 29 X5 [1,2,5] [2]:=⟨fun _ _=>rfl,rx,rx,rx,rx,rx,rx,rx,rx,rx,lx⟩
def NI:=rg Tryz.f102
@[simp] def ABH:Code:=(lp (NI 267) 14 0 1 (.seq (NI 1099) (.cond (.tmp 32) (.seq (NI 4683) .ret) .skip)) (NI 459))
def SW:=ABH
def APL:Code:=(.seq (NI 2) (.seq (.seq (NI 9) (.cond (.tmp 9) (.seq (NI 37) .ret) .skip)) (.seq (.seq (NI 19) (.block 0 (.loop SW))) (.seq (NI 23) .ret))))
theorem BDU:Tryz.f102.body=some APL:=by kernel_rfl
@[simp] theorem BNU:UX 33 SW ABH∧SX 33 (NI 2) [oq 2 (.box (tq 0)),ot 4 false] [0,1] [2,4,5,30]∧SX 33 (NI 9) [ol 6 27 2,om 7 1,od 8 27 [tq 6,tq 7],ou 9 8] [1,2] [2]∧SX 33 (NI 37) [ot 4 false] [] []∧SX 33 (NI 19) [ok 5 0] [1,2] [2]∧SX 33 (NI 267) [om 10 5,oz 11 27 2 8,ol 12 25 11,oe 13 12 25,ob 14 .lss 3 10 13] [1,2,5] [2]∧RX 33 (NI 1099) (.drw [⟨[],[om 17 1,oz 18 27 2 8,ol 19 25 18,om 20 5,oi 21 25 19 20,oz 22 188 21 0,ol 23 3 22,oi 24 22 17 23,ol 25 3 24,oz 26 27 2 8,ol 27 25 26,om 28 5,oi 29 25 27 28,oz 30 188 29 1,ol 31 3 30,ob 32 .neq 3 25 31],[]⟩]) (some ([1,2,5],[2]))∧SX 33 (NI 4683) [ot 4 false] [] []∧SX 33 (NI 459) [om 15 5,oc 16 .add 3 15 1,om 5 16] [1,2,5] [2]∧SX 33 (NI 23) [ot 4 true] [] []∧LX 33 SW [1,2,5] [2]:=⟨fun _ _=>rfl,rx,rx,rx,rx,rx,rx,rx,rx,rx,lx⟩
def KO:=rg Tryz.f76
@[simp] def ABI:Code:=(lp (KO 68759) 53 3 4 (.seq (KO 281751) (.cond (.tmp 62) (.seq (KO 1199255) .ret) .skip)) (KO 117911))
def SY:=ABI
@[simp] def AL9:Code:=(lp (KO 535) 21 0 1 (.seq (.seq (KO 4247) (.block 2 (.seq (KO 18583) (.cond (.tmp 25) (KO 43159) (.seq (KO 92311) (.cond (.tmp 31) (KO 190615) (.seq (KO 387223) (.cond (.tmp 37) (KO 780439) (.seq (KO 1566871) (.cond (.tmp 43) (KO 3139735) .skip)))))))))) (.seq (KO 5271) (.block 3 (.loop SY)))) (KO 919))
def X7:=AL9
def c76:Code:=(.seq (KO 2) (.seq (.seq (KO 9) (.cond (.tmp 16) (.seq (KO 37) .ret) .skip)) (.seq (KO 11) (.seq (.seq (KO 39) (.block 0 (.loop X7))) (.seq (KO 47) .ret)))))
theorem b76:Tryz.f76.body=some c76:=by kernel_rfl
@[simp] theorem x76:UX 63 SY ABI∧UX 63 X7 AL9∧SX 63 (KO 2) [oq 4 (.box (tq 0)),oq 5 (.box (tq 1)),ot 8 false] [0,1,2,3] [4]∧SX 63 (KO 9) [om 12 2,oc 13 .add 3 12 2,oc 14 .rem 3 13 4,om 15 3,ob 16 .eql 3 14 15] [2,3,4,5] [4,5]∧SX 63 (KO 37) [ot 8 true] [] []∧SX 63 (KO 11) [ol 17 59 5,oq 9 (.alloc 59),os (.sto 59 (tq 9) (tq 17))] [3,4,5] [4,5]∧SX 63 (KO 39) [ok 10 0] [3,4,9] [4,9]∧SX 63 (KO 535) [om 18 10,oz 19 27 4 3,ol 20 3 19,ob 21 .lss 3 18 20] [3,4,9,10] [4,9]∧SX 63 (KO 4247) [om 24 3] [3,4,9,10] [4,9]∧SX 63 (KO 18583) [oc 26 .eql 3 24 0,om 25 26] [3,4,9,10,24] [4,9]∧SX 63 (KO 43159) [oz 27 59 9 0,ol 28 3 27,oc 29 .sub 3 28 1,oz 30 59 9 0,os (.sto 3 (tq 30) (tq 29))] [3,4,9,10] [4,9]∧SX 63 (KO 92311) [oc 32 .eql 3 24 1,om 31 32] [3,4,9,10,24] [4,9]∧SX 63 (KO 190615) [oz 33 59 9 1,ol 34 3 33,oc 35 .add 3 34 1,oz 36 59 9 1,os (.sto 3 (tq 36) (tq 35))] [3,4,9,10] [4,9]∧SX 63 (KO 387223) [oc 38 .eql 3 24 2,om 37 38] [3,4,9,10,24] [4,9]∧SX 63 (KO 780439) [oz 39 59 9 0,ol 40 3 39,oc 41 .add 3 40 1,oz 42 59 9 0,os (.sto 3 (tq 42) (tq 41))] [3,4,9,10] [4,9]∧SX 63 (KO 1566871) [oc 44 .eql 3 24 3,om 43 44] [3,4,9,10,24] [4,9]∧SX 63 (KO 3139735) [oz 45 59 9 1,ol 46 3 45,oc 47 .sub 3 46 1,oz 48 59 9 1,os (.sto 3 (tq 48) (tq 47))] [3,4,9,10] [4,9]∧SX 63 (KO 5271) [ok 11 0] [3,4,9,10] [4,9]∧SX 63 (KO 68759) [om 49 11,oz 50 27 4 7,ol 51 24 50,oe 52 51 24,ob 53 .lss 3 49 52] [3,4,9,10,11] [4,9]∧RX 63 (KO 281751) (.drw [⟨[],[oz 56 27 4 7,ol 57 24 56,om 58 11,oi 59 24 57 58,ol 60 59 59,ol 61 59 9,ob 62 .eql 59 60 61],[]⟩]) (some ([3,4,9,10,11],[4,9]))∧SX 63 (KO 1199255) [ot 8 true] [] []∧SX 63 (KO 117911) [om 54 11,oc 55 .add 3 54 1,om 11 55] [3,4,9,10,11] [4,9]∧SX 63 (KO 919) [om 22 10,oc 23 .add 3 22 1,om 10 23] [3,4,9,10] [4,9]∧SX 63 (KO 47) [ot 8 false] [] []∧LX 63 X7 [3,4,9,10] [4,9]∧LX 63 SY [3,4,9,10,11] [4,9]:=⟨fun _ _=>rfl,fun _ _=>rfl,rx,rx,rx,rx,rx,rx,rx,rx,rx,rx,rx,rx,rx,rx,rx,rx,rx,rx,rx,rx,rx,rx,lx,lx⟩
def KB:=rg Tryz.f28
@[simp] def ABJ:Code:=(lp (KB 17451595) 30 4 5 (.seq (KB 71977547) (.seq (.seq (KB 306858571) (.cond (.tmp 62) (KB 709511755) .skip)) (.seq (.seq (KB 642402891) (.cond (.tmp 67) (KB 1447709259) .skip)) (.seq (KB 776620619) (.cond (.tmp 75) (KB 1581926987) .skip))))) (KB 30034507))
def SZ:=ABJ
@[simp] def AMA:Code:=(lp (KB 68171) 24 2 3 (.seq (KB 281163) (.seq (.seq (KB 1198667) (.block 4 (.loop SZ))) (KB 936523))) (KB 117323))
def X9:=AMA
@[simp] def AMB:Code:=(lp (KB 267) 18 0 1 (.seq (KB 1099) (.seq (.seq (KB 4683) (.block 2 (.loop X9))) (KB 3659))) (KB 459))
def YA:=AMB
def c28:Code:=(.seq (KB 2) (.seq (KB 5) (.seq (.seq (KB 19) (.block 0 (.loop YA))) (.seq (KB 23) .ret))))
theorem b28:Tryz.f28.body=some c28:=by kernel_rfl
@[simp] theorem BDW(n:Nat)(st:XS):AE Tryz.prog ann kn (n+1) 89 (KB 3659) st=NN (IW Tryz.prog (BN Tryz.prog ann kn n) (.str [om 84 7,om 85 9,oq 86 (.buildS 52 1 [(0,tq 85)]),oq 87 (.app [tq 84,tq 86] [52,52]),om 7 87]) (CE (some ([1,2,3,7,8,9],[3,83,87])) (LY [83] st))) :=
 DT (by kernel_rfl) (by kernel_rfl) (by kernel_rfl) (by kernel_rfl) (by kernel_rfl)
@[simp] theorem x28:UX 89 SZ ABJ∧UX 89 X9 AMA∧UX 89 YA AMB∧SX 89 (KB 2) [oq 3 (.box (tq 0)),oq 6 (.mv (.const (.slice none 0 0)))] [0,1,2] [3]∧SX 89 (KB 5) [oq 7 (.mv (.const (.slice none 0 0)))] [1,2,3] [3]∧SX 89 (KB 19) [ok 8 0] [1,2,3,7] [3,87]∧SX 89 (KB 267) [om 15 8,oz 16 27 3 1,ol 17 3 16,ob 18 .lss 3 15 17] [1,2,3,7,8] [3,87]∧SX 89 (KB 1099) [oq 9 (.mv (.const (.slice none 0 0)))] [1,2,3,7,8] [3,87]∧SX 89 (KB 4683) [ok 10 0] [1,2,3,7,8,9] [3,83,87]∧SX 89 (KB 68171) [om 21 10,oz 22 27 3 2,ol 23 3 22,ob 24 .lss 3 21 23] [1,2,3,7,8,9,10] [3,83,87]∧SX 89 (KB 281163) [oq 11 (.alloc 139)] [1,2,3,7,8,9,10] [3,83,87]∧SX 89 (KB 1198667) [ok 12 0] [1,2,3,7,8,9,10,11] [3,11,83,87]∧SX 89 (KB 17451595) [om 27 12,om 28 2,oe 29 28 22,ob 30 .lss 3 27 29] [1,2,3,7,8,9,10,11,12] [3,11,83,87]∧RX 89 (KB 71977547) (.drw [⟨[],[om 33 1,om 34 12,oi 35 23 33 34,ol 36 22 35,om 37 8,oi 38 22 36 37,ol 39 3 38,oz 40 27 3 5,ol 41 22 40,om 42 12,oi 43 22 41 42,ol 44 3 43,ob 45 .eql 3 39 44,ol 46 27 3,om 47 8,om 48 10,oq 49 (.build 59 [(0,tq 47),(1,tq 48)]),om 50 1,om 51 12,oi 52 23 50 51,ol 53 22 52,om 54 8,oi 55 22 53 54,ol 56 3 55,om 57 2,om 58 12,oi 59 22 57 58,ol 60 3 59,od 61 76 [tq 46,tq 49,tq 56,tq 60],om 13 45,om 14 61],[]⟩]) (some ([1,2,3,7,8,9,10,11,12],[3,11,83,87]))∧SX 89 (KB 306858571) [om 62 13] [1,2,3,7,8,9,10,11,12,13,14] [3,11,83,87]∧SX 89 (KB 709511755) [oz 63 139 11 0,ol 64 3 63,oc 65 .add 3 64 1,oz 66 139 11 0,os (.sto 3 (tq 66) (tq 65))] [1,2,3,7,8,9,10,11,12,13,14] [3,11,83,87]∧SX 89 (KB 642402891) [om 67 14] [1,2,3,7,8,9,10,11,12,13,14] [3,11,83,87]∧SX 89 (KB 1447709259) [oz 68 139 11 1,ol 69 3 68,oc 70 .add 3 69 1,oz 71 139 11 1,os (.sto 3 (tq 71) (tq 70))] [1,2,3,7,8,9,10,11,12,13,14] [3,11,83,87]∧SX 89 (KB 776620619) [om 72 13,om 73 72,gm 73 true 74 14,oq 75 (.pick (tq 73) (tq 74) (cb false))] [1,2,3,7,8,9,10,11,12,13,14] [3,11,83,87]∧SX 89 (KB 1581926987) [oz 76 139 11 2,ol 77 3 76,oc 78 .add 3 77 1,oz 79 139 11 2,os (.sto 3 (tq 79) (tq 78))] [1,2,3,7,8,9,10,11,12] [3,11,83,87]∧SX 89 (KB 30034507) [om 31 12,oc 32 .add 3 31 1,om 12 32] [1,2,3,7,8,9,10,11,12] [3,11,83,87]∧SX 89 (KB 936523) [om 80 9,ol 81 139 11,oq 82 (.buildS 137 1 [(0,tq 81)]),oq 83 (.app [tq 80,tq 82] [137,137]),om 9 83] [1,2,3,7,8,9,10,11] [3,11,83,87]∧SX 89 (KB 117323) [om 25 10,oc 26 .add 3 25 1,om 10 26] [1,2,3,7,8,9,10] [3,83,87]∧SX 89 (KB 459) [om 19 8,oc 20 .add 3 19 1,om 8 20] [1,2,3,7,8] [3,87]∧SX 89 (KB 23) [om 88 7,om 6 88] [7] [87]∧LX 89 YA [1,2,3,7,8] [3,87]∧LX 89 X9 [1,2,3,7,8,9,10] [3,83,87]∧LX 89 SZ [1,2,3,7,8,9,10,11,12] [3,11,83,87]:=⟨fun _ _=>rfl,fun _ _=>rfl,fun _ _=>rfl,rx,rx,rx,rx,rx,rx,rx,rx,rx,rx,rx,rx,rx,rx,rx,rx,rx,rx,rx,rx,rx,rx,lx,lx,lx⟩
def iJ:=rg Tryz.f55
@[simp] def AMC:Code:=(lp (iJ 267) 9 0 1 (.seq (iJ 1099) (.seq (iJ 2635) (.cond (.tmp 17) (iJ 5707) .skip))) (iJ 459))
def YB:=AMC
def c55:Code:=(.seq (iJ 2) (.seq (iJ 5) (.seq (.seq (iJ 19) (.block 0 (.loop YB))) (.seq (iJ 23) .ret))))
theorem b55:Tryz.f55.body=some c55:=by kernel_rfl
@[simp] theorem x55:UX 23 YB AMC∧SX 23 (iJ 2) [oq 1 (.box (tq 0)),oq 2 (.mv (.const (.slice none 0 0)))] [0] [1,14]∧SX 23 (iJ 5) [oq 3 (.mv (.const (.slice none 0 0)))] [0,1] [1,14]∧SX 23 (iJ 19) [ok 4 0] [0,1,3] [1,14,21]∧SX 23 (iJ 267) [om 6 4,ol 7 27 1,od 8 100 [tq 7],ob 9 .lss 3 6 8] [1,3,4] [1,14,21]∧SX 23 (iJ 1099) [ol 12 27 1,om 13 4,od 14 101 [tq 12,tq 13],om 5 14] [1,3,4] [1,14,21]∧SX 23 (iJ 2635) [ol 15 27 1,om 16 5,od 17 102 [tq 15,tq 16]] [1,3,4,5] [1,14,21]∧SX 23 (iJ 5707) [om 18 3,om 19 5,oq 20 (.buildS 23 1 [(0,tq 19)]),oq 21 (.app [tq 18,tq 20] [23,23]),om 3 21] [1,3,4,5] [1,14,21]∧SX 23 (iJ 459) [om 10 4,oc 11 .add 3 10 1,om 4 11] [0,1,3,4] [1,14,21]∧SX 23 (iJ 23) [om 22 3,om 2 22] [3] [21]∧LX 23 YB [1,3,4] [1,14,21]:=⟨fun _ _=>rfl,rx,rx,rx,rx,rx,rx,rx,rx,rx,lx⟩
def KC:=rg Tryz.f70
@[simp] def ABK:Code:=(lp (KC 4287) 38 0 1 (.seq (KC 17599) (.cond (.tmp 50) (.seq (KC 74943) .ret) .skip)) (KC 7359))
def S0:=ABK
@[simp] def ABL:Code:=(lp (KC 8575) 55 2 3 (.seq (KC 35199) (.cond (.tmp 75) (.seq (KC 149887) .ret) .skip)) (KC 14719))
def S1:=ABL
def c70:Code:=(.seq (KC 2) (.seq (.seq (KC 9) (.cond (.tmp 9) (.seq (KC 37) .ret) .skip)) (.seq (.seq (KC 19) (.seq (KC 43) (.cond (.tmp 14) (.seq (KC 155) .ret) .skip))) (.seq (.seq (KC 39) (.cond (.tmp 21) (.seq (KC 151) .ret) .skip)) (.seq (.seq (KC 79) (.cond (.tmp 26) (.seq (KC 303) .ret) .skip)) (.seq (.seq (KC 159) (.cond (.tmp 33) (.seq (KC 607) .ret) .skip)) (.seq (.seq (KC 319) (.block 0 (.loop S0))) (.seq (.seq (KC 639) (.block 2 (.loop S1))) (.seq (KC 767) .ret)))))))))
theorem b70:Tryz.f70.body=some c70:=by kernel_rfl
@[simp] theorem x70:UX 76 S0 ABK∧UX 76 S1 ABL∧SX 76 (KC 2) [oq 1 (.box (tq 0)),ok 2 0] [0] [1,24]∧SX 76 (KC 9) [oz 6 31 1 3,ol 7 29 6,oe 8 7 29,oc 9 .gtr 3 8 3] [1] [1,24]∧SX 76 (KC 37) [ok 2 3] [] []∧SX 76 (KC 19) [oz 10 31 1 0,ol 11 27 10,od 12 108 [tq 11],om 3 12] [1] [1,24]∧SX 76 (KC 43) [om 13 3,oc 14 .neq 3 13 0] [1,3] [1,24]∧SX 76 (KC 155) [om 15 3,om 2 15] [3] []∧SX 76 (KC 39) [oz 16 31 1 0,ol 17 27 16,oz 18 31 1 1,ol 19 23 18,od 20 116 [tq 17,tq 19],ou 21 20] [1] [1,24]∧SX 76 (KC 151) [ok 2 2] [] []∧SX 76 (KC 79) [oz 22 31 1 0,ol 23 27 22,od 24 55 [tq 23],oe 25 24 23,oc 26 .eql 3 25 0] [1] [1,24]∧SX 76 (KC 303) [ok 2 11] [] []∧SX 76 (KC 159) [oz 27 31 1 2,ol 28 28 27,oe 29 28 28,oz 30 31 1 0,oz 31 27 30 1,ol 32 3 31,ob 33 .neq 3 29 32] [1] [1,24]∧SX 76 (KC 607) [ok 2 1] [] []∧SX 76 (KC 319) [ok 4 0] [1] [1,24]∧SX 76 (KC 4287) [om 34 4,oz 35 31 1 2,ol 36 28 35,oe 37 36 28,ob 38 .lss 3 34 37] [1,4] [1,24]∧RX 76 (KC 17599) (.drw [⟨[],[oz 41 31 1 2,ol 42 28 41,om 43 4,oi 44 28 42 43,ol 45 97 44,oe 46 45 97,oz 47 31 1 0,oz 48 27 47 2,ol 49 3 48,ob 50 .neq 3 46 49],[]⟩]) (some ([1,4],[1,24]))∧SX 76 (KC 74943) [ok 2 1] [] []∧SX 76 (KC 7359) [om 39 4,oc 40 .add 3 39 1,om 4 40] [1,4] [1,24]∧SX 76 (KC 639) [ok 5 0] [1] [1,24]∧SX 76 (KC 8575) [om 51 5,oz 52 31 1 3,ol 53 29 52,oe 54 53 29,ob 55 .lss 3 51 54] [1,5] [1,24]∧SX 76 (KC 35199) [oz 58 31 1 3,ol 59 29 58,om 60 5,oi 61 29 59 60,oz 62 57 61 0,ol 63 3 62,od 64 57 [tq 63,ci 1,ci 4],ou 65 64,om 66 65,gz 66 false 67 31 1 3,gl 66 false 68 29 67,gm 66 false 69 5,gi 66 false 70 29 68 69,gz 66 false 71 57 70 1,gl 66 false 72 3 71,gd 66 false 73 57 [tq 72,ci 0,ci 5],og 66 false 74 (.oth (.unOp .not 4 (tq 73))),oq 75 (.pick (tq 66) (cb true) (tq 74))] [1,5] [1,24]∧SX 76 (KC 149887) [ok 2 1] [] []∧SX 76 (KC 14719) [om 56 5,oc 57 .add 3 56 1,om 5 57] [1,5] [1,24]∧SX 76 (KC 767) [ok 2 0] [] []∧LX 76 S0 [1,4] [1,24]∧LX 76 S1 [1,5] [1,24]:=⟨fun _ _=>rfl,fun _ _=>rfl,rx,rx,rx,rx,rx,rx,rx,rx,rx,rx,rx,rx,rx,rx,rx,rx,rx,rx,rx,rx,rx,rx,rx,lx,lx⟩
def WW:=rg Tryz.f21
@[simp] def AMD:Code:=(lp (WW 267) 18 0 1 (WW 587) (WW 459))
def YC:=AMD
@[simp] def AME:Code:=(lp (WW 535) 36 2 3 (.seq (WW 2199) (WW 3223)) (WW 919))
def YD:=AME
def c21:Code:=(.seq (WW 2) (.seq (WW 5) (.seq (.seq (WW 19) (.block 0 (.loop YC))) (.seq (.seq (WW 39) (.block 2 (.loop YD))) (.seq (WW 47) .ret)))))
theorem b21:Tryz.f21.body=some c21:=by kernel_rfl
@[simp] theorem BIJ(n:Nat)(st:XS):AE Tryz.prog ann kn (n+1) 59 (WW 459) st=NN (IW Tryz.prog (BN Tryz.prog ann kn n) (.str [om 19 4,oc 20 .add 3 19 1,om 4 20]) (CE (some ([1,2,3,4],[1,2,3,9,12,30,56])) (LY [28,2000000000000030] st))) :=
 DT (by kernel_rfl) (by kernel_rfl) (by kernel_rfl) (by kernel_rfl) (by kernel_rfl)
@[simp] theorem x21:UX 59 YC AMD∧UX 59 YD AME∧SX 59 (WW 2) [oq 1 (.box (tq 0)),oq 2 (.alloc 43)] [0] [1,2,3,9,12,30,56]∧RX 59 (WW 5) (.drw [⟨[3],[oz 7 31 1 0,oq 8 (.ldz 27 (tq 7)),od 9 68 [tq 8],oz 10 31 1 1,oq 11 (.ldz 23 (tq 10)),od 12 69 [tq 11],oq 13 (.build 43 [(0,tq 9),(1,tq 12)]),oq 3 (.alloc 43)],[os (.sto 43 (tq 3) (tq 13))]⟩]) (some ([1,2],[1,2,30,56]))∧SX 59 (WW 19) [ok 4 0] [1,2,3] [1,2,3,9,12,30,56]∧SX 59 (WW 267) [om 14 4,oz 15 31 1 2,ol 16 28 15,oe 17 16 28,ob 18 .lss 3 14 17] [1,2,3,4] [1,2,3,9,12,30,56]∧RX 59 (WW 587) (.drw [⟨[],[oz 21 43 3 2,ol 22 28 21,oz 23 31 1 2,ol 24 28 23,om 25 4,oi 26 28 24 25,ol 27 97 26,oq 28 (.app [.const (.slice none 0 0),tq 27] [97,97]),oq 29 (.buildS 28 1 [(0,tq 28)]),oq 30 (.app [tq 22,tq 29] [28,28]),oz 31 43 3 2],[os (.sto 28 (tq 31) (tq 30))]⟩]) (some ([1,2,3,4],[1,2,3,9,12,30,56]))∧SX 59 (WW 39) [ok 5 0] [1,2,3] [1,2,3,9,12,30,56]∧SX 59 (WW 535) [om 32 5,oz 33 31 1 3,ol 34 29 33,oe 35 34 29,ob 36 .lss 3 32 35] [1,2,3,5] [1,2,3,9,12,30,56]∧SX 59 (WW 2199) [oz 39 31 1 3,ol 40 29 39,om 41 5,oi 42 29 40 41,ol 43 57 42,oq 6 (.alloc 57),os (.sto 57 (tq 6) (tq 43))] [1,2,3,5] [1,2,3,9,12,30,56]∧SX 59 (WW 3223) [oz 44 43 3 3,ol 45 41 44,oz 46 57 6 0,ol 47 3 46,oz 48 57 6 1,ol 49 3 48,oz 50 57 6 2,ol 51 4 50,oz 52 57 6 3,ol 53 4 52,oq 54 (.build 94 [(0,tq 47),(1,tq 49),(2,tq 51),(3,tq 53)]),oq 55 (.buildS 41 1 [(0,tq 54)]),oq 56 (.app [tq 45,tq 55] [41,41]),oz 57 43 3 3,os (.sto 41 (tq 57) (tq 56))] [1,2,3,5,6] [1,2,3,6,9,12,30,56]∧SX 59 (WW 919) [om 37 5,oc 38 .add 3 37 1,om 5 38] [1,2,3,5] [1,2,3,9,12,30,56]∧SX 59 (WW 47) [ol 58 43 3,os (.sto 43 (tq 2) (tq 58))] [2,3] [1,2,3,9,12,30,56]∧LX 59 YC [1,2,3,4] [1,2,3,9,12,30,56]∧LX 59 YD [1,2,3,5] [1,2,3,9,12,30,56]:=⟨fun _ _=>rfl,fun _ _=>rfl,rx,rx,rx,rx,rx,rx,rx,rx,rx,rx,rx,lx,lx⟩
def g3:=rg Tryz.f3
@[simp] def AMF:Code:=(lp (g3 34303) 93 0 1 (.seq (g3 140799) (.seq (g3 337407) (.cond (.tmp 116) (.seq (g3 1254911) .ret) .skip))) (g3 58879))
def oI:=AMF
def c3:Code:=(.seq (g3 2) (.seq (.seq (g3 9) (.cond (.tmp 26) (.seq (g3 37) .ret) .skip)) (.seq (g3 11) (.seq (g3 23) (.seq (.seq (g3 79) (.cond (.tmp 44) (.seq (g3 303) .ret) .skip)) (.seq (.seq (g3 159) (.cond (.tmp 61) (g3 351) .skip)) (.seq (.seq (g3 319) (.cond (.tmp 63) (.seq (g3 1215) .ret) .skip)) (.seq (g3 383) (.seq (.seq (g3 1279) (.cond (.tmp 89) (.seq (g3 4863) .ret) .skip)) (.seq (.seq (g3 2559) (.block 0 (.loop oI))) (.seq (g3 3071) .ret)))))))))))
theorem b3:Tryz.f3.body=some c3:=by kernel_rfl
@[simp] theorem x3:UX 118 oI AMF∧SX 118 (g3 2) [oq 3 (.box (tq 0)),ot 6 false] [0,1,2] [3,30,32,34,35,41,50,80]∧SX 118 (g3 9) [ol 14 31 3,od 15 18 [tq 14],ou 16 15,om 17 16,gm 17 false 18 1,ge 17 false 19 18 24,gc 17 false 20 .gtr 3 19 6,oq 21 (.pick (tq 17) (cb true) (tq 20)),om 22 21,gm 22 false 23 2,ge 22 false 24 23 22,gc 22 false 25 .gtr 3 24 7,oq 26 (.pick (tq 22) (cb true) (tq 25))] [1,2,3] [3,30,32,34,35,41,50,80]∧SX 118 (g3 37) [od 27 19 [],om 6 27] [] []∧SX 118 (g3 11) [ol 29 31 3,od 30 21 [tq 29],om 31 1,od 32 22 [tq 31],om 33 2,oq 34 (.app [.const (.slice none 0 0),tq 33] [22,22]),oq 35 (.call false (some 34) (.func 20) [tq 30,tq 32,tq 34]),om 28 35,oq 36 (.oth (.extract (tq 28) 0)),oq 37 (.oth (.extract (tq 28) 1)),om 7 36,om 8 37] [1,2,3] [3,30,32,34,35,41,50,80]∧SX 118 (g3 23) [ol 38 31 3,od 39 23 [tq 38],om 9 39] [1,2,3,7,8] [3,30,32,34,35,41,50,80]∧SX 118 (g3 79) [ol 40 31 3,od 41 21 [tq 40],od 42 24 [tq 41],om 43 9,ob 44 .neq 34 42 43] [1,2,3,7,8,9] [3,30,32,34,35,41,50,80]∧SX 118 (g3 303) [ot 6 false] [] []∧RX 118 (g3 159) (.drw [⟨[],[om 45 9,oc 46 .eql 34 45 0,om 47 46,gl 47 true 48 31 3,gl 47 true 49 31 3,gd 47 true 50 26 [tq 49,ci 0],gm 47 true 51 1],[gd 47 true 52 25 [tq 48,tq 50,tq 51]]⟩,⟨[],[og 47 true 53 (.oth (.unOp .not 4 (tq 52))),gm 47 true 54 53,gz 54 false 55 31 3 0,gl 54 false 56 27 55,gm 54 false 57 2],[gd 54 false 58 27 [tq 56,tq 57]]⟩,⟨[],[og 54 false 59 (.oth (.unOp .not 4 (tq 58))),og 47 true 60 (.pick (tq 54) (cb true) (tq 59)),oq 61 (.pick (tq 47) (tq 60) (cb false))],[]⟩]) (some ([1,2,3,7,8,9],[3,30,32,34,35,41,80]))∧SX 118 (g3 351) [ok 9 2] [1,2,3,7,8] [3,30,32,34,35,41,50,80]∧SX 118 (g3 319) [om 62 9,oc 63 .neq 34 62 0] [1,2,3,7,8,9] [3,30,32,34,35,41,50,80]∧SX 118 (g3 1215) [om 64 8,om 65 9,ob 66 .eql 34 64 65,om 67 66,gm 67 true 68 7,ge 67 true 69 68 22,gc 67 true 70 .eql 3 69 0,oq 71 (.pick (tq 67) (tq 70) (cb false)),om 72 71,gd 72 true 73 19 [],oq 74 (.pick (tq 72) (tq 73) (cb false)),om 6 74] [7,8,9] [3,30,32,34,35,41,50,80]∧SX 118 (g3 383) [oz 75 31 3 0,ol 76 27 75,oz 77 31 3 1,ol 78 23 77,om 79 2,od 80 28 [tq 76,tq 78,tq 79],om 10 80] [1,2,3,7,8] [3,30,32,34,35,41,50,80]∧SX 118 (g3 1279) [om 81 8,oc 82 .neq 34 81 0,om 83 82,gm 83 false 84 7,ge 83 false 85 84 22,gm 83 false 86 1,ge 83 false 87 86 24,gb 83 false 88 .neq 3 85 87,oq 89 (.pick (tq 83) (cb true) (tq 88))] [1,3,7,8,10] [3,30,32,34,35,41,50,80]∧SX 118 (g3 4863) [ot 6 false] [] []∧SX 118 (g3 2559) [ok 11 0] [1,3,7,10] [3,30,32,34,35,41,50,80]∧SX 118 (g3 34303) [om 90 11,om 91 7,oe 92 91 22,ob 93 .lss 3 90 92] [1,3,7,10,11] [3,30,32,34,35,41,50,80]∧RX 118 (g3 140799) (.drw [⟨[],[ol 97 31 3,oz 98 31 3 3,ol 99 29 98,om 100 11,oi 101 29 99 100,ol 102 57 101,om 103 1,om 104 11,oi 105 24 103 104,ol 106 59 105,om 107 10],[od 108 29 [tq 97,tq 102,tq 106,tq 107]]⟩,⟨[],[om 96 108,oq 109 (.oth (.extract (tq 96) 0)),oq 110 (.oth (.extract (tq 96) 1)),om 12 109,om 13 110],[]⟩]) (some ([1,3,7,10,11],[3,30,32,34,35,41,50,80]))∧SX 118 (g3 337407) [om 111 7,om 112 11,oi 113 22 111 112,ol 114 3 113,om 115 12,ob 116 .neq 3 114 115] [1,3,7,10,11,12] [3,30,32,34,35,41,50,80]∧SX 118 (g3 1254911) [ot 6 false] [] []∧SX 118 (g3 58879) [om 94 11,oc 95 .add 3 94 1,om 11 95] [1,3,7,10,11] [3,30,32,34,35,41,50,80]∧SX 118 (g3 3071) [od 117 19 [],om 6 117] [] []∧LX 118 oI [1,3,7,10,11] [3,30,32,34,35,41,50,80]:=⟨fun _ _=>rfl,rx,rx,rx,rx,rx,rx,rx,rx,rx,rx,rx,rx,rx,rx,rx,rx,rx,rx,rx,rx,rx,lx⟩
def iW:=rg Tryz.f103
def APN:Code:=(.seq (iW 2) (.seq (.seq (iW 9) (.cond (.tmp 7) (.seq (iW 37) .ret) .skip)) (.seq (iW 11) .ret)))
theorem BDX:Tryz.f103.body=some APN:=by kernel_rfl
@[simp] theorem BN0:SX 16 (iW 2) [ok 4 0] [0,1] []∧SX 16 (iW 9) [om 5 0,oe 6 5 101,oc 7 .eql 3 6 0] [0,1] []∧SX 16 (iW 37) [ok 4 0] [] []∧SX 16 (iW 11) [om 8 0,om 9 1,om 10 0,oe 11 10 101,ob 12 .rem 3 9 11,oi 13 101 8 12,ol 14 100 13,oq 15 (.oth (.convert 100 3 (tq 14))),om 4 15] [0,1] []:=⟨rx,rx,rx,rx⟩
def g54:=rg Tryz.f54
def c54:Code:=(.seq (g54 2) (.seq (g54 5) .ret))
theorem b54:Tryz.f54.body=some c54:=by kernel_rfl
@[simp] theorem x54:SX 10 (g54 2) [oq 1 (.box (tq 0)),ot 2 false] [0] [1]∧SX 10 (g54 5) [ol 3 31 1,od 4 18 [tq 3],om 5 4,gl 5 true 6 31 1,gd 5 true 7 70 [tq 6],gc 5 true 8 .eql 3 7 0,oq 9 (.pick (tq 5) (tq 8) (cb false)),om 2 9] [0,1,2] [1,2,3,4]:=⟨rx,rx⟩
def NM:=rg Tryz.f56
@[simp] def AMG:Code:=(lp (NM 272687) 35 2 3 (.seq (NM 1124655) (.seq (NM 2697519) (.seq (NM 5843247) (.cond (.tmp 64) (NM 12134703) .skip)))) (NM 469295))
def YE:=AMG
@[simp] def AMH:Code:=(lp (NM 1071) 26 0 1 (.seq (NM 4399) (.seq (.seq (NM 18735) (.block 2 (.loop YE))) (.seq (NM 22831) (.cond (.tmp 67) (.seq (NM 80175) .ret) .skip)))) (NM 1839))
def QT:=AMH
def c56:Code:=(.seq (NM 2) (.seq (NM 5) (.seq (NM 11) (.seq (NM 23) (.seq (.seq (NM 79) (.block 0 (.loop QT))) (.seq (NM 95) .ret))))))
theorem b56:Tryz.f56.body=some c56:=by kernel_rfl
@[simp] theorem BD0(n:Nat)(st:XS):AE Tryz.prog ann kn (n+1) 73 (NM 5843247) st=NN (IW Tryz.prog (BN Tryz.prog ann kn n) (.str [ol 61 31 2,om 62 6,om 63 13,od 64 74 [tq 61,tq 62,tq 63]]) (CE (some ([1,2,6,7,8,9,10,11,13],[2,15,47,60])) (LY [47] st))) :=
 DT (by kernel_rfl) (by kernel_rfl) (by kernel_rfl) (by kernel_rfl) (by kernel_rfl)
@[simp] theorem x56:UX 73 YE AMG∧UX 73 QT AMH∧SX 73 (NM 2) [oq 2 (.box (tq 0)),oq 4 (.mv (.const (.slice none 0 0))),ot 5 false] [0,1] [2,15]∧SX 73 (NM 5) [ol 14 31 2,od 15 26 [tq 14,ci 0],om 6 15] [1,2] [2,15]∧SX 73 (NM 11) [oq 7 (.mv (.const (.slice none 0 0)))] [1,2,6] [2,15]∧SX 73 (NM 23) [oz 16 31 2 0,oz 17 27 16 1,ol 18 3 17,oz 19 31 2 0,oz 20 27 19 2,ol 21 3 20,ob 22 .mul 3 18 21,om 8 22] [1,2,6,7] [2,15,47,60]∧SX 73 (NM 79) [ok 9 0] [1,2,6,7,8] [2,15,47,60]∧SX 73 (NM 1071) [om 23 9,om 24 6,oe 25 24 49,ob 26 .lss 3 23 25] [1,2,6,7,8,9] [2,15,47,60]∧SX 73 (NM 4399) [ot 10 false] [1,2,6,7,8,9] [2,15,47,60]∧SX 73 (NM 18735) [ok 11 0] [1,2,6,7,8,9,10] [2,15,47,60]∧SX 73 (NM 272687) [om 29 11,om 30 8,ob 31 .lss 3 29 30,om 32 31,gm 32 true 33 10,og 32 true 34 (.oth (.unOp .not 4 (tq 33))),oq 35 (.pick (tq 32) (tq 34) (cb false))] [1,2,6,7,8,9,10,11] [2,15,47,60]∧SX 73 (NM 1124655) [om 38 1,om 39 9,od 40 103 [tq 38,tq 39],om 41 11,ob 42 .add 3 40 41,om 43 8,ob 44 .rem 3 42 43,om 12 44] [1,2,6,7,8,9,10,11] [2,15,47,60]∧RX 73 (NM 2697519) (.drw [⟨[],[oq 45 (.buildS 24 0 []),om 46 7,om 48 12,oz 49 31 2 0,oz 50 27 49 2,ol 51 3 50,ob 52 .quo 3 48 51,om 53 12,oz 54 31 2 0,oz 55 27 54 2,ol 56 3 55,ob 57 .rem 3 53 56,oq 58 (.build 59 [(0,tq 52),(1,tq 57)]),oq 59 (.buildS 24 1 [(0,tq 58)]),oq 47 (.app [tq 45,tq 46] [24,24]),oq 60 (.app [tq 47,tq 59] [24,24]),om 13 60],[]⟩]) (some ([1,2,6,7,8,9,10,11,12],[2,15,47,60]))∧SX 73 (NM 12134703) [om 65 13,om 7 65,ot 10 true] [1,2,6,8,9,11,13] [2,15,47,60]∧SX 73 (NM 469295) [om 36 11,oc 37 .add 3 36 1,om 11 37] [1,2,6,7,8,9,10,11] [2,15,47,60]∧SX 73 (NM 22831) [om 66 10,ou 67 66] [1,2,6,7,8,9,10] [2,15,47,60]∧SX 73 (NM 80175) [oq 4 (.mv (.const (.slice none 0 0))),ot 5 false] [] []∧SX 73 (NM 1839) [om 27 9,oc 28 .add 3 27 1,om 9 28] [1,2,6,7,8,9] [2,15,47,60]∧SX 73 (NM 95) [om 68 7,ol 69 31 2,om 70 6,om 71 7,od 72 25 [tq 69,tq 70,tq 71],om 4 68,om 5 72] [2,6,7] [2,15,47,60]∧LX 73 QT [1,2,6,7,8,9] [2,15,47,60]∧LX 73 YE [1,2,6,7,8,9,10,11] [2,15,47,60]:=⟨fun _ _=>rfl,fun _ _=>rfl,rx,rx,rx,rx,rx,rx,rx,rx,rx,rx,rx,rx,rx,rx,rx,rx,rx,lx,lx⟩
def EL:=rg Tryz.f10
@[simp] def ABM:Code:=(lp (EL 34303) 66 0 1 (.seq (EL 140799) (EL 206335)) (EL 58879))
def S2:=ABM
def c10:Code:=(.seq (EL 2) (.seq (.seq (EL 9) (.cond (.tmp 26) (.seq (EL 37) .ret) .skip)) (.seq (EL 11) (.seq (.seq (EL 39) (.cond (.tmp 35) (.seq (EL 151) .ret) .skip)) (.seq (EL 47) (.seq (EL 95) (.seq (.seq (EL 319) (.cond (.tmp 59) (.seq (EL 1215) .ret) .skip)) (.seq (EL 383) (.seq (EL 767) (.seq (.seq (EL 2559) (.block 0 (.loop S2))) (.seq (EL 3071) .ret)))))))))))
theorem b10:Tryz.f10.body=some c10:=by kernel_rfl
@[simp] theorem x10:UX 119 S2 ABM∧SX 119 (EL 2) [oq 3 (.box (tq 0)),ot 6 false] [0,1,2] [3,31,45,47,48,62,88]∧SX 119 (EL 9) [ol 18 31 3,od 19 54 [tq 18],ou 20 19,om 21 20,gz 21 false 22 31 3 3,gl 21 false 23 29 22,ge 21 false 24 23 29,gc 21 false 25 .eql 3 24 0,oq 26 (.pick (tq 21) (cb true) (tq 25))] [1,2,3] [3,31,45,47,48,62,88]∧SX 119 (EL 37) [od 27 19 [],om 6 27] [] []∧SX 119 (EL 11) [ol 29 31 3,om 30 1,od 31 56 [tq 29,tq 30],om 28 31,oq 32 (.oth (.extract (tq 28) 0)),oq 33 (.oth (.extract (tq 28) 1)),om 7 32,om 8 33] [1,2,3] [3,31,45,47,48,62,88]∧SX 119 (EL 39) [om 34 8,ou 35 34] [2,3,7,8] [3,31,45,47,48,62,88]∧SX 119 (EL 151) [od 36 19 [],om 6 36] [] []∧SX 119 (EL 47) [om 37 2,oq 38 (.oth (.convert 5 3 (tq 37))),oz 39 31 3 3,ol 40 29 39,oe 41 40 29,ob 42 .rem 3 38 41,om 9 42] [2,3,7] [3,31,45,47,48,62,88]∧SX 119 (EL 95) [ol 44 31 3,od 45 21 [tq 44],om 46 7,od 47 22 [tq 46],od 48 30 [tq 45,tq 47],om 43 48,oq 49 (.oth (.extract (tq 43) 0)),oq 50 (.oth (.extract (tq 43) 1)),om 10 49,om 11 50] [3,7,9] [3,31,45,47,48,62,88]∧SX 119 (EL 319) [om 51 11,oc 52 .neq 34 51 0,om 53 52,gm 53 false 54 10,ge 53 false 55 54 61,gm 53 false 56 7,ge 53 false 57 56 24,gb 53 false 58 .neq 3 55 57,oq 59 (.pick (tq 53) (cb true) (tq 58))] [3,7,9,10,11] [3,31,45,47,48,62,88]∧SX 119 (EL 383) [ot 12 false,ot 13 false] [3,7,9,10] [3,31,45,47,48,62,88]∧SX 119 (EL 767) [oz 60 31 3 0,ol 61 27 60,od 62 55 [tq 61],om 14 62] [3,7,9,10,12,13] [3,31,45,47,48,62,88]∧SX 119 (EL 2559) [ok 15 0] [3,7,9,10,12,13,14] [3,31,45,47,48,62,88]∧SX 119 (EL 34303) [om 63 15,om 64 14,oe 65 64 23,ob 66 .lss 3 63 65] [3,7,9,10,12,13,14,15] [3,31,45,47,48,62,88]∧RX 119 (EL 140799) (.drw [⟨[],[ol 70 31 3,oz 71 31 3 3,ol 72 29 71,om 73 9,oi 74 29 72 73,ol 75 57 74,om 76 7,om 77 9,oi 78 24 76 77,ol 79 59 78,oz 80 31 3 0,ol 81 27 80,oz 82 31 3 1,ol 83 23 82,om 84 14,om 85 15,oi 86 23 84 85,ol 87 22 86,od 88 28 [tq 81,tq 83,tq 87]],[od 89 29 [tq 70,tq 75,tq 79,tq 88]]⟩,⟨[],[om 69 89,oq 90 (.oth (.extract (tq 69) 0)),oq 91 (.oth (.extract (tq 69) 1)),om 16 90,om 17 91],[]⟩]) (some ([3,7,9,10,12,13,14,15],[3,31,45,47,48,62]))∧RX 119 (EL 206335) (.drw [⟨[],[om 92 12,om 93 92,gm 93 false 94 16,gm 93 false 95 10,gm 93 false 96 9,gi 93 false 97 61 95 96,gz 93 false 98 69 97 0,gl 93 false 99 3 98,gb 93 false 100 .eql 3 94 99,oq 101 (.pick (tq 93) (cb true) (tq 100)),om 102 13,om 103 102,gm 103 false 104 16,gm 103 false 105 10,gm 103 false 106 9,gi 103 false 107 61 105 106,gz 103 false 108 69 107 1,gl 103 false 109 3 108,gb 103 false 110 .eql 3 104 109,oq 111 (.pick (tq 103) (cb true) (tq 110)),om 12 101,om 13 111],[]⟩]) (some ([3,7,9,10,12,13,14,15,16],[3,31,45,47,48,62,88]))∧SX 119 (EL 58879) [om 67 15,oc 68 .add 3 67 1,om 15 68] [3,7,9,10,12,13,14,15] [3,31,45,47,48,62,88]∧SX 119 (EL 3071) [om 112 12,om 113 112,gm 113 true 114 13,oq 115 (.pick (tq 113) (tq 114) (cb false)),om 116 115,gd 116 true 117 19 [],oq 118 (.pick (tq 116) (tq 117) (cb false)),om 6 118] [12,13] []∧LX 119 S2 [3,7,9,10,12,13,14,15] [3,31,45,47,48,62,88]:=⟨fun _ _=>rfl,rx,rx,rx,rx,rx,rx,rx,rx,rx,rx,rx,rx,rx,rx,rx,rx,rx,lx⟩
end
end Go.Proofs.Tryz.Op
