/- The walk's ground of function 57: its regions worked out. No condition. -/
import Derived.Test.YthhdhbalenanjaaGreatGa
set_option maxRecDepth 100000
namespace Go.Proofs.Tryz.Op
open Go Go.Pg
noncomputable section
def g57:=rg Tryz.f57
def c57:Code:=(.seq (g57 2) (.seq (g57 5) .ret))
theorem b57:Tryz.f57.body=some c57:=by kernel_rfl
@[simp] theorem x57:SX 15 (g57 2) [ot 6 false] [0,1,2] []∧SX 15 (g57 5) [om 7 0,om 8 1,ob 9 .geq 3 7 8,om 10 9,gm 10 true 11 0,gm 10 true 12 2,gb 10 true 13 .leq 3 11 12,oq 14 (.pick (tq 10) (tq 13) (cb false)),om 6 14] [0,1,2] []:=⟨rx,rx⟩
def QV:=rg Tryz.f134
@[simp] def xK:Code:=(lp (QV 133) 9 0 1 (.seq (QV 549) (.cond (.tmp 18) (.seq (QV 2341) .ret) .skip)) (QV 229))
def QW:=xK
def AXK:Code:=(.seq (QV 2) (.seq (.seq (QV 9) (.block 0 (.loop QW))) (.seq (QV 11) .ret)))
theorem A82:Tryz.f134.body=some AXK:=by kernel_rfl
@[simp] theorem BIW:UX 19 QW xK∧SX 19 (QV 2) [ot 4 false] [0,1] []∧SX 19 (QV 9) [ok 5 0] [0,1] []∧SX 19 (QV 133) [om 6 5,om 7 0,oe 8 7 22,ob 9 .lss 3 6 8] [0,1,5] []∧SX 19 (QV 549) [om 12 0,om 13 5,oi 14 22 12 13,ol 15 3 14,om 16 1,od 17 57 [tq 15,tq 16,ci 3],ou 18 17] [0,1,5] []∧SX 19 (QV 2341) [ot 4 false] [] []∧SX 19 (QV 229) [om 10 5,oc 11 .add 3 10 1,om 5 11] [0,1,5] []∧SX 19 (QV 11) [ot 4 true] [] []∧LX 19 QW [0,1,5] []:=⟨fun _ _=>rfl,rx,rx,rx,rx,rx,rx,rx,lx⟩
def AEI:=rg Tryz.f135
def AXL:Code:=(.seq (AEI 2) (.seq (AEI 5) .ret))
theorem A83:Tryz.f135.body=some AXL:=by kernel_rfl
@[simp] theorem BIX:SX 19 (AEI 2) [oq 2 (.box (tq 0)),oq 3 (.box (tq 1)),ot 4 false] [0,1] [2]∧SX 19 (AEI 5) [oz 5 59 3 0,ol 6 3 5,oz 7 27 2 1,ol 8 3 7,oc 9 .sub 3 8 1,od 10 57 [tq 6,ci 0,tq 9],om 11 10,gz 11 true 12 59 3 1,gl 11 true 13 3 12,gz 11 true 14 27 2 2,gl 11 true 15 3 14,gc 11 true 16 .sub 3 15 1,gd 11 true 17 57 [tq 13,ci 0,tq 16],oq 18 (.pick (tq 11) (tq 17) (cb false)),om 4 18] [2,3] [2,3]:=⟨rx,rx⟩
def pO:=rg Tryz.f75
@[simp] def AI0:Code:=(lp (pO 133) 9 0 1 (.seq (pO 549) (.cond (.tmp 17) (.seq (pO 2341) .ret) .skip)) (pO 229))
def WO:=AI0
def c75:Code:=(.seq (pO 2) (.seq (.seq (pO 9) (.block 0 (.loop WO))) (.seq (pO 11) .ret)))
theorem b75:Tryz.f75.body=some c75:=by kernel_rfl
@[simp] theorem x75:UX 18 WO AI0∧SX 18 (pO 2) [ot 4 false] [0,1] []∧SX 18 (pO 9) [ok 5 0] [0,1] []∧SX 18 (pO 133) [om 6 5,om 7 0,oe 8 7 22,ob 9 .lss 3 6 8] [0,1,5] []∧SX 18 (pO 549) [om 12 0,om 13 5,oi 14 22 12 13,ol 15 3 14,om 16 1,ob 17 .eql 3 15 16] [0,1,5] []∧SX 18 (pO 2341) [ot 4 true] [] []∧SX 18 (pO 229) [om 10 5,oc 11 .add 3 10 1,om 5 11] [0,1,5] []∧SX 18 (pO 11) [ot 4 false] [] []∧LX 18 WO [0,1,5] []:=⟨fun _ _=>rfl,rx,rx,rx,rx,rx,rx,rx,lx⟩
def AEJ:=rg Tryz.f114
def AXM:Code:=(.seq (AEJ 2) (.seq (AEJ 5) .ret))
theorem A85:Tryz.f114.body=some AXM:=by kernel_rfl
@[simp] theorem BIZ:SX 6 (AEJ 2) [oq 2 (.mv (.const (.slice none 0 0)))] [0,1] []∧SX 6 (AEJ 5) [oq 3 (.buildS 22 0 []),om 4 0,oq 5 (.app [tq 3,tq 4] [22,22]),om 2 5] [0,1] []:=⟨rx,rx⟩
def QX:=rg Tryz.f115
@[simp] def xL:Code:=(lp (QX 267) 9 0 1 (QX 587) (QX 459))
def QY:=xL
def AXN:Code:=(.seq (QX 2) (.seq (QX 5) (.seq (.seq (QX 19) (.block 0 (.loop QY))) (.seq (QX 23) .ret))))
theorem A86:Tryz.f115.body=some AXN:=by kernel_rfl
@[simp] theorem BI0:UX 21 QY xL∧SX 21 (QX 2) [oq 2 (.mv (.const (.slice none 0 0)))] [0] [17]∧SX 21 (QX 5) [oq 5 (.buildS 23 0 []),om 3 5] [0] [17]∧SX 21 (QX 19) [ok 4 0] [0,1,3] [1,17,19]∧SX 21 (QX 267) [om 6 4,om 7 0,oe 8 7 23,ob 9 .lss 3 6 8] [0,3,4] [17,19]∧SX 21 (QX 587) [om 12 3,om 13 0,om 14 4,oi 15 23 13 14,ol 16 22 15,od 17 114 [tq 16],oq 18 (.buildS 23 1 [(0,tq 17)]),oq 19 (.app [tq 12,tq 18] [23,23]),om 3 19] [0,1,3,4] [1,17,19]∧SX 21 (QX 459) [om 10 4,oc 11 .add 3 10 1,om 4 11] [0,1,3,4] [1,17,19]∧SX 21 (QX 23) [om 20 3,om 2 20] [0,1,3,7,8] [19]∧LX 21 QY [0,3,4] [17,19]:=⟨fun _ _=>rfl,rx,rx,rx,rx,rx,rx,rx,lx⟩
def g48:=rg Tryz.f48
def c48:Code:=(.seq (g48 2) (.seq (g48 5) .ret))
theorem b48:Tryz.f48.body=some c48:=by kernel_rfl
@[simp] theorem x48:SX 8 (g48 2) [oq 1 (.box (tq 0)),oq 2 (.alloc 86)] [0] []∧SX 8 (g48 5) [oz 3 59 1 0,ol 4 3 3,oz 5 59 1 1,ol 6 3 5,oq 7 (.build 86 [(0,tq 4),(1,tq 6)]),os (.sto 86 (tq 2) (tq 7))] [1,2] [1,2]:=⟨rx,rx⟩
def QZ:=rg Tryz.f107
@[simp] def xM:Code:=(lp (QZ 133) 11 0 1 (.seq (QZ 549) (.cond (.tmp 19) (.seq (QZ 2341) .ret) .skip)) (QZ 229))
def Q0:=xM
def AXO:Code:=(.seq (QZ 2) (.seq (.seq (QZ 9) (.block 0 (.loop Q0))) (.seq (QZ 11) .ret)))
theorem A87:Tryz.f107.body=some AXO:=by kernel_rfl
@[simp] theorem BI2:UX 23 Q0 xM∧SX 23 (QZ 2) [ot 2 false] [0] []∧SX 23 (QZ 9) [ok 3 0] [0,1] [1,14]∧SX 23 (QZ 133) [om 4 3,om 5 0,oe 6 5 23,ob 7 .lss 3 4 6,om 8 7,gm 8 true 9 3,gc 8 true 10 .lss 3 9 8,oq 11 (.pick (tq 8) (tq 10) (cb false))] [0,3] []∧SX 23 (QZ 549) [om 14 0,om 15 3,oi 16 23 14 15,ol 17 22 16,oe 18 17 22,oc 19 .gtr 3 18 5] [0,3] []∧SX 23 (QZ 2341) [ot 2 false] [] []∧SX 23 (QZ 229) [om 12 3,oc 13 .add 3 12 1,om 3 13] [0,3] []∧SX 23 (QZ 11) [om 20 0,oe 21 20 23,oc 22 .leq 3 21 7,om 2 22] [0] []∧LX 23 Q0 [0,3] []:=⟨fun _ _=>rfl,rx,rx,rx,rx,rx,rx,rx,lx⟩
def Q1:=rg Tryz.f100
@[simp] def xN:Code:=(lp (Q1 267) 9 0 1 (Q1 587) (Q1 459))
def Q2:=xN
def AXP:Code:=(.seq (Q1 2) (.seq (Q1 5) (.seq (.seq (Q1 19) (.block 0 (.loop Q2))) (.seq (Q1 23) .ret))))
theorem A88:Tryz.f100.body=some AXP:=by kernel_rfl
@[simp] theorem BI3:UX 21 Q2 xN∧SX 21 (Q1 2) [oq 1 (.box (tq 0)),ok 2 0] [0] [1]∧SX 21 (Q1 5) [ok 3 1] [1] [1]∧SX 21 (Q1 19) [ok 4 0] [0,1,3] [1,17,19]∧SX 21 (Q1 267) [om 5 4,oz 6 27 1 6,ol 7 23 6,oe 8 7 23,ob 9 .lss 3 5 8] [1,3,4] [1]∧SX 21 (Q1 587) [om 12 3,oz 13 27 1 6,ol 14 23 13,om 15 4,oi 16 23 14 15,ol 17 22 16,oe 18 17 22,ob 19 .mul 3 12 18,om 3 19] [0,1,3,4] [1,17,19]∧SX 21 (Q1 459) [om 10 4,oc 11 .add 3 10 1,om 4 11] [0,1,3,4] [1,17,19]∧SX 21 (Q1 23) [om 20 3,om 2 20] [0,1,3,7,8] [19]∧LX 21 Q2 [1,3,4] [1]:=⟨fun _ _=>rfl,rx,rx,rx,rx,rx,rx,rx,lx⟩
def DL:=rg Tryz.f108
@[simp] def pP:Code:=(lp (DL 68759) 118 2 3 (.seq (DL 281751) (.cond (.tmp 138) (.seq (DL 1199255) .ret) .skip)) (DL 117911))
def M6:=pP
@[simp] def xO:Code:=(lp (DL 535) 92 0 1 (.seq (.seq (DL 4247) (.cond (.tmp 110) (.seq (DL 18583) .ret) .skip)) (.seq (DL 5271) (.block 2 (.loop M6)))) (DL 919))
def Q3:=xO
@[simp] def pQ:Code:=(lp (DL 1071) 143 4 5 (.seq (DL 4399) (.cond (.tmp 153) (.seq (DL 18735) .ret) .skip)) (DL 1839))
def M7:=pQ
@[simp] def pR:Code:=(lp (DL 2143) 158 6 7 (.seq (DL 8799) (.cond (.tmp 180) (.seq (DL 37471) .ret) .skip)) (DL 3679))
def M8:=pR
def MS:Code:=(.seq (DL 2) (.seq (.seq (DL 9) (.cond (.tmp 31) (.seq (DL 37) .ret) .skip)) (.seq (.seq (DL 19) (.cond (.tmp 88) (.seq (DL 75) .ret) .skip)) (.seq (.seq (DL 39) (.block 0 (.loop Q3))) (.seq (.seq (DL 79) (.block 4 (.loop M7))) (.seq (.seq (DL 159) (.block 6 (.loop M8))) (.seq (DL 191) .ret)))))))
theorem A89:Tryz.f108.body=some MS:=by kernel_rfl
@[simp] theorem BI4:UX 181 M6 pP∧UX 181 Q3 xO∧UX 181 M7 pQ∧UX 181 M8 pR∧SX 181 (DL 2) [oq 1 (.box (tq 0)),ok 2 0] [0] [1]∧SX 181 (DL 9) [oz 7 27 1 0,ol 8 3 7,oc 9 .gtr 3 8 4,om 10 9,gz 10 false 11 27 1 1,gl 10 false 12 3 11,gc 10 false 13 .gtr 3 12 3,oq 14 (.pick (tq 10) (cb true) (tq 13)),om 15 14,gz 15 false 16 27 1 2,gl 15 false 17 3 16,gc 15 false 18 .gtr 3 17 5,oq 19 (.pick (tq 15) (cb true) (tq 18)),om 20 19,gz 20 false 21 27 1 7,gl 20 false 22 24 21,ge 20 false 23 22 24,gc 20 false 24 .gtr 3 23 4,oq 25 (.pick (tq 20) (cb true) (tq 24)),om 26 25,gz 26 false 27 27 1 8,gl 26 false 28 25 27,ge 26 false 29 28 25,gc 26 false 30 .gtr 3 29 5,oq 31 (.pick (tq 26) (cb true) (tq 30))] [1] [1]∧SX 181 (DL 37) [ok 2 3] [] []∧SX 181 (DL 19) [oz 32 27 1 0,ol 33 3 32,oc 34 .lss 3 33 0,om 35 34,gz 35 false 36 27 1 1,gl 35 false 37 3 36,gc 35 false 38 .lss 3 37 1,oq 39 (.pick (tq 35) (cb true) (tq 38)),om 40 39,gz 40 false 41 27 1 2,gl 40 false 42 3 41,gc 40 false 43 .lss 3 42 1,oq 44 (.pick (tq 40) (cb true) (tq 43)),om 45 44,gz 45 false 46 27 1 3,gl 45 false 47 3 46,gd 45 false 48 57 [tq 47,ci 0,ci 4],og 45 false 49 (.oth (.unOp .not 4 (tq 48))),oq 50 (.pick (tq 45) (cb true) (tq 49)),om 51 50,gz 51 false 52 27 1 4,gl 51 false 53 22 52,ge 51 false 54 53 22,gz 51 false 55 27 1 1,gl 51 false 56 3 55,gb 51 false 57 .neq 3 54 56,oq 58 (.pick (tq 51) (cb true) (tq 57)),om 59 58,gz 59 false 60 27 1 5,gl 59 false 61 22 60,ge 59 false 62 61 22,gz 59 false 63 27 1 0,gl 59 false 64 3 63,gc 59 false 65 .add 3 64 1,gb 59 false 66 .neq 3 62 65,oq 67 (.pick (tq 59) (cb true) (tq 66)),om 68 67,gz 68 false 69 27 1 6,gl 68 false 70 23 69,ge 68 false 71 70 23,gz 68 false 72 27 1 0,gl 68 false 73 3 72,gc 68 false 74 .add 3 73 1,gb 68 false 75 .neq 3 71 74,oq 76 (.pick (tq 68) (cb true) (tq 75)),om 77 76,gz 77 false 78 27 1 4,gl 77 false 79 22 78,gd 77 false 80 134 [tq 79,ci 0],og 77 false 81 (.oth (.unOp .not 4 (tq 80))),oq 82 (.pick (tq 77) (cb true) (tq 81)),om 83 82,gz 83 false 84 27 1 5,gl 83 false 85 22 84,gd 83 false 86 134 [tq 85,.const (.int .i64 (Int.negSucc 0))],og 83 false 87 (.oth (.unOp .not 4 (tq 86))),oq 88 (.pick (tq 83) (cb true) (tq 87))] [1] [1]∧SX 181 (DL 75) [ok 2 1] [] []∧SX 181 (DL 39) [ok 3 0] [1] [1]∧SX 181 (DL 535) [om 89 3,oz 90 27 1 0,ol 91 3 90,ob 92 .leq 3 89 91] [1,3] [1]∧SX 181 (DL 4247) [oz 95 27 1 6,ol 96 23 95,om 97 3,oi 98 23 96 97,ol 99 22 98,oe 100 99 22,oc 101 .eql 3 100 0,om 102 101,gz 102 false 103 27 1 6,gl 102 false 104 23 103,gm 102 false 105 3,gi 102 false 106 23 104 105,gl 102 false 107 22 106,gd 102 false 108 134 [tq 107,ci 0],og 102 false 109 (.oth (.unOp .not 4 (tq 108))),oq 110 (.pick (tq 102) (cb true) (tq 109))] [1,3] [1]∧SX 181 (DL 18583) [ok 2 1] [] []∧SX 181 (DL 5271) [ok 4 1] [1,3] [1]∧SX 181 (DL 68759) [om 111 4,oz 112 27 1 6,ol 113 23 112,om 114 3,oi 115 23 113 114,ol 116 22 115,oe 117 116 22,ob 118 .lss 3 111 117] [1,3,4] [1]∧RX 181 (DL 281751) (.drw [⟨[],[oz 121 27 1 6,ol 122 23 121,om 123 3,oi 124 23 122 123,ol 125 22 124,om 126 4,oi 127 22 125 126,ol 128 3 127,oz 129 27 1 6,ol 130 23 129,om 131 3,oi 132 23 130 131,ol 133 22 132,om 134 4,oc 135 .sub 3 134 1,oi 136 22 133 135,ol 137 3 136,ob 138 .leq 3 128 137],[]⟩]) (some ([1,3,4],[1]))∧SX 181 (DL 1199255) [ok 2 1] [] []∧SX 181 (DL 117911) [om 119 4,oc 120 .add 3 119 1,om 4 120] [1,3,4] [1]∧SX 181 (DL 919) [om 93 3,oc 94 .add 3 93 1,om 3 94] [1,3] [1]∧SX 181 (DL 79) [ok 5 0] [1] [1]∧SX 181 (DL 1071) [om 139 5,oz 140 27 1 7,ol 141 24 140,oe 142 141 24,ob 143 .lss 3 139 142] [1,5] [1]∧RX 181 (DL 4399) (.drw [⟨[],[ol 146 27 1,oz 147 27 1 7,ol 148 24 147,om 149 5,oi 150 24 148 149,ol 151 59 150],[od 152 135 [tq 146,tq 151]]⟩,⟨[],[ou 153 152],[]⟩]) (some ([1,5],[1]))∧SX 181 (DL 18735) [ok 2 1] [] []∧SX 181 (DL 1839) [om 144 5,oc 145 .add 3 144 1,om 5 145] [1,5] [1]∧SX 181 (DL 159) [ok 6 0] [1] [1]∧SX 181 (DL 2143) [om 154 6,oz 155 27 1 8,ol 156 25 155,oe 157 156 25,ob 158 .lss 3 154 157] [1,6] [1]∧RX 181 (DL 8799) (.drw [⟨[],[oz 161 27 1 8,ol 162 25 161,om 163 6,oi 164 25 162 163,oz 165 188 164 0,ol 166 3 165,oz 167 27 1 0,ol 168 3 167],[od 169 57 [tq 166,ci 0,tq 168]]⟩,⟨[],[ou 170 169,om 171 170,gz 171 false 172 27 1 8,gl 171 false 173 25 172,gm 171 false 174 6,gi 171 false 175 25 173 174,gz 171 false 176 188 175 1,gl 171 false 177 3 176],[gd 171 false 178 57 [tq 177,ci 0,ci 3]]⟩,⟨[],[og 171 false 179 (.oth (.unOp .not 4 (tq 178))),oq 180 (.pick (tq 171) (cb true) (tq 179))],[]⟩]) (some ([1,6],[1]))∧SX 181 (DL 37471) [ok 2 1] [] []∧SX 181 (DL 3679) [om 159 6,oc 160 .add 3 159 1,om 6 160] [1,6] [1]∧SX 181 (DL 191) [ok 2 0] [] []∧LX 181 Q3 [1,3] [1]∧LX 181 M6 [1,3,4] [1]∧LX 181 M7 [1,5] [1]∧LX 181 M8 [1,6] [1]:=⟨fun _ _=>rfl,fun _ _=>rfl,fun _ _=>rfl,fun _ _=>rfl,rx,rx,rx,rx,rx,rx,rx,rx,rx,rx,rx,rx,rx,rx,rx,rx,rx,rx,rx,rx,rx,rx,rx,rx,rx,rx,lx,lx,lx,lx⟩
def g64:=rg Tryz.f64
def c64:Code:=(.seq (g64 2) (.seq (.seq (g64 9) (.cond (.tmp 30) (.seq (g64 37) .ret) .skip)) (.seq (g64 11) .ret)))
theorem b64:Tryz.f64.body=some c64:=by kernel_rfl
@[simp] theorem x64:SX 39 (g64 2) [oq 1 (.box (tq 0)),ot 2 false] [0] [1]∧SX 39 (g64 9) [oz 3 27 1 4,ol 4 22 3,oe 5 4 22,oc 6 .gtr 3 5 5,om 7 6,gz 7 false 8 27 1 5,gl 7 false 9 22 8,ge 7 false 10 9 22,gc 7 false 11 .gtr 3 10 7,oq 12 (.pick (tq 7) (cb true) (tq 11)),om 13 12,gz 13 false 14 27 1 6,gl 13 false 15 23 14,gd 13 false 16 107 [tq 15],og 13 false 17 (.oth (.unOp .not 4 (tq 16))),oq 18 (.pick (tq 13) (cb true) (tq 17)),om 19 18,gz 19 false 20 27 1 7,gl 19 false 21 24 20,ge 19 false 22 21 24,gc 19 false 23 .gtr 3 22 6,oq 24 (.pick (tq 19) (cb true) (tq 23)),om 25 24,gz 25 false 26 27 1 8,gl 25 false 27 25 26,ge 25 false 28 27 25,gc 25 false 29 .gtr 3 28 7,oq 30 (.pick (tq 25) (cb true) (tq 29))] [1] [1]∧SX 39 (g64 37) [ot 2 false] [] []∧SX 39 (g64 11) [ol 31 27 1,od 32 108 [tq 31],oc 33 .neq 3 32 0,om 34 33,gl 34 false 35 27 1,gd 34 false 36 100 [tq 35],gc 34 false 37 .leq 3 36 80,oq 38 (.pick (tq 34) (cb true) (tq 37)),om 2 38] [1] [1]:=⟨rx,rx,rx,rx⟩
def O8:=rg Tryz.f190
@[simp] def xP:Code:=(.seq (O8 69) (.seq (.cond (.tmp 9) .skip (.exit 0)) (.seq (.block 1 (.seq (O8 1125) (.seq (O8 2661) (.cond (.tmp 16) (.seq (O8 9829) .ret) .skip)))) (O8 485))))
def Q4:=xP
def AMA:Code:=(.seq (O8 2) (.seq (.seq (O8 9) (.block 0 (.loop Q4))) (.seq (O8 11) .ret)))
theorem b190:Tryz.f190.body=some AMA:=by kernel_rfl
@[simp] theorem BI6:UX 19 Q4 xP∧SX 19 (O8 2) [ok 4 0] [0,1] []∧SX 19 (O8 9) [om 6 0,oe 7 6 22,ok 8 0] [0,1] []∧SX 19 (O8 69) [ob 9 .lss 3 8 7] [0,1,7,8] []∧SX 19 (O8 1125) [om 10 8,om 5 10] [0,1,7,8] []∧SX 19 (O8 2661) [om 11 1,om 12 0,om 13 5,oi 14 22 12 13,ol 15 3 14,oq 16 (.call false none (tq 11) [tq 15])] [0,1,5,7,8] []∧SX 19 (O8 9829) [om 17 5,om 4 17] [5] []∧SX 19 (O8 485) [oc 18 .add 3 8 1,om 8 18] [0,1,3,7,8] []∧SX 19 (O8 11) [oq 4 (.mv (.const (.int .i64 (Int.negSucc 0))))] [] []∧LX 19 Q4 [0,1,7,8] []:=⟨fun _ _=>rfl,rx,rx,rx,rx,rx,rx,rx,rx,lx⟩
def AEK:=rg Tryz.f175
def AXQ:Code:=(.seq (AEK 2) (.seq (AEK 5) .ret))
theorem b175:Tryz.f175.body=some AXQ:=by kernel_rfl
@[simp] theorem BI7:SX 9 (AEK 2) [ot 4 false] [0,1] [7]∧SX 9 (AEK 5) [om 5 0,om 6 1,od 7 190 [tq 5,tq 6],oc 8 .geq 3 7 0,om 4 8] [0,1,2,3] [2,3]:=⟨rx,rx⟩
def AEL:=rg Tryz.f144
def AMB:Code:=(.seq (AEL 2) (.seq (AEL 5) .ret))
theorem b144:Tryz.f144.body=some AMB:=by kernel_rfl
@[simp] theorem BI8:SX 9 (AEL 2) [oq 3 (.box (tq 1)),ot 4 false] [0,1,2] [3]∧SX 9 (AEL 5) [om 5 0,oq 6 (.oth (.makeFunc (.func 176) #[] #[tq 3])),od 7 175 [tq 5,tq 6],ou 8 7,om 4 8] [0,1,2,3] [2,3]:=⟨rx,rx⟩
def AEM:=rg Tryz.f176
def AMC:Code:=(.seq (AEM 2) (.seq (AEM 5) .ret))
theorem b176:Tryz.f176.body=some AMC:=by kernel_rfl
@[simp] theorem BI9:SX 8 (AEM 2) [ot 3 false] [0,1] []∧SX 8 (AEM 5) [ol 4 177 1,om 5 0,oq 6 (.call false none (tq 4) [tq 5]),ou 7 6,om 3 7] [0,1,2] [2]:=⟨rx,rx⟩
def O9:=rg Tryz.f191
@[simp] def xQ:Code:=(.seq (O9 69) (.seq (.cond (.tmp 9) .skip (.exit 0)) (.seq (.block 1 (.seq (O9 1125) (.seq (O9 2661) (.cond (.tmp 16) (.seq (O9 9829) .ret) .skip)))) (O9 485))))
def Q5:=xQ
def AMD:Code:=(.seq (O9 2) (.seq (.seq (O9 9) (.block 0 (.loop Q5))) (.seq (O9 11) .ret)))
theorem b191:Tryz.f191.body=some AMD:=by kernel_rfl
@[simp] theorem BJA:UX 19 Q5 xQ∧SX 19 (O9 2) [ok 4 0] [0,1] []∧SX 19 (O9 9) [om 6 0,oe 7 6 23,ok 8 0] [0,1] []∧SX 19 (O9 69) [ob 9 .lss 3 8 7] [0,1,7,8] []∧SX 19 (O9 1125) [om 10 8,om 5 10] [0,1,7,8] []∧SX 19 (O9 2661) [om 11 1,om 12 0,om 13 5,oi 14 23 12 13,ol 15 22 14,oq 16 (.call false none (tq 11) [tq 15])] [0,1,5,7,8] []∧SX 19 (O9 9829) [om 17 5,om 4 17] [5] []∧SX 19 (O9 485) [oc 18 .add 3 8 1,om 8 18] [0,1,3,7,8] []∧SX 19 (O9 11) [oq 4 (.mv (.const (.int .i64 (Int.negSucc 0))))] [] []∧LX 19 Q5 [0,1,7,8] []:=⟨fun _ _=>rfl,rx,rx,rx,rx,rx,rx,rx,rx,lx⟩
def AEN:=rg Tryz.f177
def AXR:Code:=(.seq (AEN 2) (.seq (AEN 5) .ret))
theorem b177:Tryz.f177.body=some AXR:=by kernel_rfl
@[simp] theorem BJB:SX 9 (AEN 2) [ot 4 false] [0,1] [7]∧SX 9 (AEN 5) [om 5 0,om 6 1,od 7 191 [tq 5,tq 6],oc 8 .geq 3 7 0,om 4 8] [0,1,2,3] [2,3]:=⟨rx,rx⟩
def AEO:=rg Tryz.f147
def AME:Code:=(.seq (AEO 2) (.seq (AEO 5) .ret))
theorem b147:Tryz.f147.body=some AME:=by kernel_rfl
@[simp] theorem BJC:SX 9 (AEO 2) [oq 3 (.box (tq 1)),ot 4 false] [0,1,2] [3]∧SX 9 (AEO 5) [om 5 0,oq 6 (.oth (.makeFunc (.func 178) #[] #[tq 3])),od 7 177 [tq 5,tq 6],ou 8 7,om 4 8] [0,1,2,3] [2,3]:=⟨rx,rx⟩
def AEP:=rg Tryz.f178
def AMF:Code:=(.seq (AEP 2) (.seq (AEP 5) .ret))
theorem b178:Tryz.f178.body=some AMF:=by kernel_rfl
@[simp] theorem BJD:SX 8 (AEP 2) [ot 3 false] [0,1] []∧SX 8 (AEP 5) [ol 4 193 1,om 5 0,oq 6 (.call false none (tq 4) [tq 5]),ou 7 6,om 3 7] [0,1,2] [2]:=⟨rx,rx⟩
def AEQ:=rg Tryz.f143
def AXS:Code:=(.seq (AEQ 2) (.seq (AEQ 5) .ret))
theorem A9A:Tryz.f143.body=some AXS:=by kernel_rfl
@[simp] theorem BJE:SX 15 (AEQ 2) [ot 6 false] [0,1,2] []∧SX 15 (AEQ 5) [om 7 1,om 8 0,ob 9 .leq 3 7 8,om 10 9,gm 10 true 11 0,gm 10 true 12 2,gb 10 true 13 .leq 3 11 12,oq 14 (.pick (tq 10) (tq 13) (cb false)),om 6 14] [0,1,2] []:=⟨rx,rx⟩
def AER:=rg Tryz.f145
def AXT:Code:=(.seq (AER 2) (.seq (AER 5) .ret))
theorem A9B:Tryz.f145.body=some AXT:=by kernel_rfl
@[simp] theorem BJF:SX 5 (AER 2) [ot 2 false] [0] []∧SX 5 (AER 5) [om 3 0,od 4 143 [tq 3,ci 0,ci 3],om 2 4] [0,1,2] [1,2]:=⟨rx,rx⟩
def AES:=rg Tryz.f146
def AXU:Code:=(.seq (AES 2) (.seq (AES 5) .ret))
theorem A9C:Tryz.f146.body=some AXU:=by kernel_rfl
@[simp] theorem BJG:SX 5 (AES 2) [ot 2 false] [0] []∧SX 5 (AES 5) [om 3 0,od 4 143 [tq 3,.const (.int .i64 (Int.negSucc 0)),ci 3],om 2 4] [0,1,2] [1,2]:=⟨rx,rx⟩
def tN:=rg Tryz.f148
def AMG:Code:=(.seq (tN 2) (.seq (tN 5) (.seq (tN 11) .ret)))
theorem A9D:Tryz.f148.body=some AMG:=by kernel_rfl
@[simp] theorem BJH:SX 12 (tN 2) [ot 2 false] [0] []∧SX 12 (tN 5) [oq 3 (.alloc 3),os (.sto 3 (tq 3) (.const (.int .i64 (Int.negSucc 0))))] [0] []∧SX 12 (tN 11) [om 4 0,oe 5 4 22,oc 6 .gtr 3 5 0,om 7 6,gm 7 true 8 0,og 7 true 9 (.oth (.makeFunc (.func 179) #[] #[tq 3])),gd 7 true 10 144 [tq 8,tq 9],oq 11 (.pick (tq 7) (tq 10) (cb false)),om 2 11] [0,3] [3]:=⟨rx,rx,rx⟩
def fV:=rg Tryz.f179
def AXV:Code:=(.seq (fV 2) (.seq (fV 5) (.seq (fV 11) (.seq (fV 23) .ret))))
theorem b179:Tryz.f179.body=some AXV:=by kernel_rfl
@[simp] theorem BJI:SX 11 (fV 2) [ot 3 false] [0,1] []∧SX 11 (fV 5) [om 5 0,ol 6 3 1,oc 7 .add 3 6 1,od 8 143 [tq 5,tq 7,ci 3],om 4 8] [0,1] []∧SX 11 (fV 11) [om 9 0,os (.sto 3 (tq 1) (tq 9))] [0,1,4] []∧SX 11 (fV 23) [om 10 4,om 3 10] [4] []:=⟨rx,rx,rx,rx⟩
def AET:=rg Tryz.f174
def AXW:Code:=(.seq (AET 2) (.seq (AET 5) .ret))
theorem A9E:Tryz.f174.body=some AXW:=by kernel_rfl
@[simp] theorem BJJ:SX 9 (AET 2) [oq 2 (.box (tq 0)),ot 4 false] [0,1] [2]∧SX 9 (AET 5) [om 5 1,oz 6 40 2 0,ol 7 3 6,od 8 143 [tq 5,ci 0,tq 7],om 4 8] [0,1,2,3] [2,3]:=⟨rx,rx⟩
def AEU:=rg Tryz.f141
def AXX:Code:=(.seq (AEU 2) (.seq (AEU 5) .ret))
theorem A9F:Tryz.f141.body=some AXX:=by kernel_rfl
@[simp] theorem BJK:SX 19 (AEU 2) [oq 2 (.box (tq 0)),oq 3 (.box (tq 1)),ot 4 false] [0,1] [2]∧SX 19 (AEU 5) [oz 5 86 3 0,ol 6 3 5,oz 7 40 2 1,ol 8 3 7,oc 9 .sub 3 8 1,od 10 143 [tq 6,ci 0,tq 9],om 11 10,gz 11 true 12 86 3 1,gl 11 true 13 3 12,gz 11 true 14 40 2 2,gl 11 true 15 3 14,gc 11 true 16 .sub 3 15 1,gd 11 true 17 143 [tq 13,ci 0,tq 16],oq 18 (.pick (tq 11) (tq 17) (cb false)),om 4 18] [2,3] [2,3]:=⟨rx,rx⟩
def AEV:=rg Tryz.f142
def AXY:Code:=(.seq (AEV 2) (.seq (AEV 5) .ret))
theorem A9G:Tryz.f142.body=some AXY:=by kernel_rfl
@[simp] theorem BJL:SX 14 (AEV 2) [oq 2 (.box (tq 0)),oq 3 (.box (tq 1)),ot 4 false] [0,1] [2]∧SX 14 (AEV 5) [ol 5 40 2,oz 6 99 3 0,ol 7 3 6,od 8 174 [tq 5,tq 7],om 9 8,gz 9 true 10 99 3 1,gl 9 true 11 3 10,gd 9 true 12 145 [tq 11],oq 13 (.pick (tq 9) (tq 12) (cb false)),om 4 13] [1,2,3,4] [2,3,4]:=⟨rx,rx⟩
def PA:=rg Tryz.f192
@[simp] def xR:Code:=(.seq (PA 69) (.seq (.cond (.tmp 9) .skip (.exit 0)) (.seq (.block 1 (.seq (PA 1125) (.seq (PA 2661) (.cond (.tmp 16) (.seq (PA 9829) .ret) .skip)))) (PA 485))))
def Q6:=xR
def AMH:Code:=(.seq (PA 2) (.seq (.seq (PA 9) (.block 0 (.loop Q6))) (.seq (PA 11) .ret)))
theorem b192:Tryz.f192.body=some AMH:=by kernel_rfl
@[simp] theorem BJM:UX 19 Q6 xR∧SX 19 (PA 2) [ok 4 0] [0,1] []∧SX 19 (PA 9) [om 6 0,oe 7 6 37,ok 8 0] [0,1] []∧SX 19 (PA 69) [ob 9 .lss 3 8 7] [0,1,7,8] []∧SX 19 (PA 1125) [om 10 8,om 5 10] [0,1,7,8] []∧SX 19 (PA 2661) [om 11 1,om 12 0,om 13 5,oi 14 37 12 13,ol 15 86 14,oq 16 (.call false none (tq 11) [tq 15])] [0,1,5,7,8] []∧SX 19 (PA 9829) [om 17 5,om 4 17] [5] []∧SX 19 (PA 485) [oc 18 .add 3 8 1,om 8 18] [0,1,3,7,8] []∧SX 19 (PA 11) [oq 4 (.mv (.const (.int .i64 (Int.negSucc 0))))] [] []∧LX 19 Q6 [0,1,7,8] []:=⟨fun _ _=>rfl,rx,rx,rx,rx,rx,rx,rx,rx,lx⟩
def AEW:=rg Tryz.f180
def AXZ:Code:=(.seq (AEW 2) (.seq (AEW 5) .ret))
theorem b180:Tryz.f180.body=some AXZ:=by kernel_rfl
@[simp] theorem BJN:SX 9 (AEW 2) [ot 4 false] [0,1] [7]∧SX 9 (AEW 5) [om 5 0,om 6 1,od 7 192 [tq 5,tq 6],oc 8 .geq 3 7 0,om 4 8] [0,1,2,3] [2,3]:=⟨rx,rx⟩
def AEX:=rg Tryz.f149
def AX0:Code:=(.seq (AEX 2) (.seq (AEX 5) .ret))
theorem A9H:Tryz.f149.body=some AX0:=by kernel_rfl
@[simp] theorem BJO:SX 9 (AEX 2) [oq 3 (.box (tq 1)),ot 4 false] [0,1,2] [3]∧SX 9 (AEX 5) [om 5 0,oq 6 (.oth (.makeFunc (.func 181) #[] #[tq 3])),od 7 180 [tq 5,tq 6],ou 8 7,om 4 8] [0,1,2,3] [2,3]:=⟨rx,rx⟩
def AEY:=rg Tryz.f181
def AX1:Code:=(.seq (AEY 2) (.seq (AEY 5) .ret))
theorem b181:Tryz.f181.body=some AX1:=by kernel_rfl
@[simp] theorem BJP:SX 8 (AEY 2) [oq 2 (.box (tq 0)),ot 3 false] [0,1] []∧SX 8 (AEY 5) [ol 4 225 1,ol 5 86 2,oq 6 (.call false none (tq 4) [tq 5]),ou 7 6,om 3 7] [0,1,2] [2]:=⟨rx,rx⟩
def PB:=rg Tryz.f193
@[simp] def xS:Code:=(.seq (PB 69) (.seq (.cond (.tmp 9) .skip (.exit 0)) (.seq (.block 1 (.seq (PB 1125) (.seq (PB 2661) (.cond (.tmp 16) (.seq (PB 9829) .ret) .skip)))) (PB 485))))
def Q7:=xS
def AMI:Code:=(.seq (PB 2) (.seq (.seq (PB 9) (.block 0 (.loop Q7))) (.seq (PB 11) .ret)))
theorem b193:Tryz.f193.body=some AMI:=by kernel_rfl
@[simp] theorem BJQ:UX 19 Q7 xS∧SX 19 (PB 2) [ok 4 0] [0,1] []∧SX 19 (PB 9) [om 6 0,oe 7 6 38,ok 8 0] [0,1] []∧SX 19 (PB 69) [ob 9 .lss 3 8 7] [0,1,7,8] []∧SX 19 (PB 1125) [om 10 8,om 5 10] [0,1,7,8] []∧SX 19 (PB 2661) [om 11 1,om 12 0,om 13 5,oi 14 38 12 13,ol 15 99 14,oq 16 (.call false none (tq 11) [tq 15])] [0,1,5,7,8] []∧SX 19 (PB 9829) [om 17 5,om 4 17] [5] []∧SX 19 (PB 485) [oc 18 .add 3 8 1,om 8 18] [0,1,3,7,8] []∧SX 19 (PB 11) [oq 4 (.mv (.const (.int .i64 (Int.negSucc 0))))] [] []∧LX 19 Q7 [0,1,7,8] []:=⟨fun _ _=>rfl,rx,rx,rx,rx,rx,rx,rx,rx,lx⟩
def AEZ:=rg Tryz.f182
def AX2:Code:=(.seq (AEZ 2) (.seq (AEZ 5) .ret))
theorem b182:Tryz.f182.body=some AX2:=by kernel_rfl
@[simp] theorem BJR:SX 9 (AEZ 2) [ot 4 false] [0,1] [7]∧SX 9 (AEZ 5) [om 5 0,om 6 1,od 7 193 [tq 5,tq 6],oc 8 .geq 3 7 0,om 4 8] [0,1,2,3] [2,3]:=⟨rx,rx⟩
def AE0:=rg Tryz.f150
def AX3:Code:=(.seq (AE0 2) (.seq (AE0 5) .ret))
theorem A9I:Tryz.f150.body=some AX3:=by kernel_rfl
@[simp] theorem BJS:SX 9 (AE0 2) [oq 3 (.box (tq 1)),ot 4 false] [0,1,2] [3]∧SX 9 (AE0 5) [om 5 0,oq 6 (.oth (.makeFunc (.func 183) #[] #[tq 3])),od 7 182 [tq 5,tq 6],ou 8 7,om 4 8] [0,1,2,3] [2,3]:=⟨rx,rx⟩
def AE1:=rg Tryz.f183
def AX4:Code:=(.seq (AE1 2) (.seq (AE1 5) .ret))
theorem b183:Tryz.f183.body=some AX4:=by kernel_rfl
@[simp] theorem BJT:SX 8 (AE1 2) [oq 2 (.box (tq 0)),ot 3 false] [0,1] []∧SX 8 (AE1 5) [ol 4 226 1,ol 5 99 2,oq 6 (.call false none (tq 4) [tq 5]),ou 7 6,om 3 7] [0,1,2] [2]:=⟨rx,rx⟩
def MT:=rg Tryz.f110
def MU:Code:=(.seq (MT 2) (.seq (MT 5) (.seq (.block 0 (.seq (MT 35) (.cond (.tmp 9) (.seq (MT 147) .ret) (.seq (MT 179) (.cond (.tmp 35) (.seq (MT 627) .ret) (.seq (MT 755) (.cond (.tmp 81) (.seq (MT 2547) .ret) .skip))))))) (.seq (MT 23) .ret))))
theorem A9J:Tryz.f110.body=some MU:=by kernel_rfl
@[simp] theorem BJU:SX 112 (MT 2) [oq 1 (.box (tq 0)),ok 2 0] [0] [1,20,21,26,27,102,103,104]∧RX 112 (MT 5) (.drw [⟨[],[ol 5 40 1,oq 6 (.oth (.makeFunc (.func 141) #[tq 5] #[])),ol 7 40 1,oq 8 (.oth (.makeFunc (.func 142) #[tq 7] #[])),om 3 6,om 4 8],[]⟩]) (some ([1],[1]))∧SX 112 (MT 35) [oz 10 40 1 0,ol 11 3 10,oc 12 .gtr 3 11 4,om 13 12,gz 13 false 14 40 1 1,gl 13 false 15 3 14,gc 13 false 16 .gtr 3 15 3,oq 17 (.pick (tq 13) (cb true) (tq 16)),om 18 17,gz 18 false 19 40 1 2,gl 18 false 20 3 19,gc 18 false 21 .gtr 3 20 5,oq 22 (.pick (tq 18) (cb true) (tq 21)),om 23 22,gz 23 false 24 40 1 7,gl 23 false 25 37 24,ge 23 false 26 25 37,gc 23 false 27 .gtr 3 26 4,oq 28 (.pick (tq 23) (cb true) (tq 27)),om 29 28,gz 29 false 30 40 1 8,gl 29 false 31 38 30,ge 29 false 32 31 38,gc 29 false 33 .gtr 3 32 5,oq 34 (.pick (tq 29) (cb true) (tq 33)),om 9 34] [1,3,4] [1]∧SX 112 (MT 147) [ok 2 3] [] []∧SX 112 (MT 179) [oz 36 40 1 0,ol 37 3 36,oc 38 .lss 3 37 0,om 39 38,gz 39 false 40 40 1 1,gl 39 false 41 3 40,gc 39 false 42 .lss 3 41 1,oq 43 (.pick (tq 39) (cb true) (tq 42)),om 44 43,gz 44 false 45 40 1 2,gl 44 false 46 3 45,gc 44 false 47 .lss 3 46 1,oq 48 (.pick (tq 44) (cb true) (tq 47)),om 49 48,gz 49 false 50 40 1 3,gl 49 false 51 3 50,gd 49 false 52 143 [tq 51,ci 0,ci 4],og 49 false 53 (.oth (.unOp .not 4 (tq 52))),oq 54 (.pick (tq 49) (cb true) (tq 53)),om 55 54,gz 55 false 56 40 1 4,gl 55 false 57 22 56,ge 55 false 58 57 22,gz 55 false 59 40 1 1,gl 55 false 60 3 59,gb 55 false 61 .neq 3 58 60,oq 62 (.pick (tq 55) (cb true) (tq 61)),om 63 62,gz 63 false 64 40 1 5,gl 63 false 65 22 64,ge 63 false 66 65 22,gz 63 false 67 40 1 0,gl 63 false 68 3 67,gc 63 false 69 .add 3 68 1,gb 63 false 70 .neq 3 66 69,oq 71 (.pick (tq 63) (cb true) (tq 70)),om 72 71,gz 72 false 73 40 1 6,gl 72 false 74 23 73,ge 72 false 75 74 23,gz 72 false 76 40 1 0,gl 72 false 77 3 76,gc 72 false 78 .add 3 77 1,gb 72 false 79 .neq 3 75 78,oq 80 (.pick (tq 72) (cb true) (tq 79)),om 35 80] [1,3,4] [1]∧SX 112 (MT 627) [ok 2 1] [] []∧SX 112 (MT 755) [oz 82 40 1 4,ol 83 22 82,od 84 144 [tq 83,.func 145],ou 85 84,om 86 85,gz 86 false 87 40 1 5,gl 86 false 88 22 87,gd 86 false 89 144 [tq 88,.func 146],og 86 false 90 (.oth (.unOp .not 4 (tq 89))),oq 91 (.pick (tq 86) (cb true) (tq 90)),om 92 91,gz 92 false 93 40 1 6,gl 92 false 94 23 93,gd 92 false 95 147 [tq 94,.func 148],og 92 false 96 (.oth (.unOp .not 4 (tq 95))),oq 97 (.pick (tq 92) (cb true) (tq 96)),om 98 97,gz 98 false 99 40 1 7,gl 98 false 100 37 99,gm 98 false 101 3,gd 98 false 102 149 [tq 100,tq 101],og 98 false 103 (.oth (.unOp .not 4 (tq 102))),oq 104 (.pick (tq 98) (cb true) (tq 103)),om 105 104,gz 105 false 106 40 1 8,gl 105 false 107 38 106,gm 105 false 108 4,gd 105 false 109 150 [tq 107,tq 108],og 105 false 110 (.oth (.unOp .not 4 (tq 109))),oq 111 (.pick (tq 105) (cb true) (tq 110)),om 81 111] [1,3,4] [1]∧SX 112 (MT 2547) [ok 2 1] [] []∧SX 112 (MT 23) [ok 2 0] [] []:=⟨rx,rx,rx,rx,rx,rx,rx,rx,rx⟩
def AE2:=rg Tryz.f111
def AMJ:Code:=(.seq (AE2 2) (.seq (AE2 5) .ret))
theorem A9K:Tryz.f111.body=some AMJ:=by kernel_rfl
@[simp] theorem BJV:SX 16 (AE2 2) [oq 2 (.box (tq 0)),ot 4 false] [0,1] [2]∧SX 16 (AE2 5) [om 5 1,oe 6 5 23,oz 7 40 2 0,ol 8 3 7,oc 9 .add 3 8 1,ob 10 .eql 3 6 9,om 11 10,gm 11 true 12 1,og 11 true 13 (.oth (.makeFunc (.func 151) #[] #[tq 2])),gd 11 true 14 147 [tq 12,tq 13],oq 15 (.pick (tq 11) (tq 14) (cb false)),om 4 15] [1,2] [2]:=⟨rx,rx⟩
def AE3:=rg Tryz.f151
def AMK:Code:=(.seq (AE3 2) (.seq (AE3 5) .ret))
theorem b151:Tryz.f151.body=some AMK:=by kernel_rfl
@[simp] theorem BJW:SX 13 (AE3 2) [ot 3 false] [0,1,2] [3,4,5,9]∧SX 13 (AE3 5) [om 4 0,oe 5 4 22,oz 6 40 1 1,ol 7 3 6,ob 8 .eql 3 5 7,om 9 8,gm 9 true 10 0,gd 9 true 11 144 [tq 10,.func 145],oq 12 (.pick (tq 9) (tq 11) (cb false)),om 3 12] [0,1] []:=⟨rx,rx⟩
def AE4:=rg Tryz.f194
def AX5:Code:=(.seq (AE4 2) (.seq (AE4 5) .ret))
theorem A9L:Tryz.f194.body=some AX5:=by kernel_rfl
@[simp] theorem BJX:SX 6 (AE4 2) [ok 2 0] [0,1] []∧SX 6 (AE4 5) [om 3 0,oc 4 .add 3 3 2,oc 5 .rem 3 4 4,om 2 5] [0,1] []:=⟨rx,rx⟩
def AE5:=rg Tryz.f195
def AX6:Code:=(.seq (AE5 2) (.seq (AE5 5) .ret))
theorem A9M:Tryz.f195.body=some AX6:=by kernel_rfl
@[simp] theorem BJY:SX 11 (AE5 2) [oq 3 (.box (tq 0)),oq 4 (.box (tq 1)),oq 5 (.box (tq 2)),ot 6 false] [0,1,2] [3,4,5]∧SX 11 (AE5 5) [oz 7 40 3 7,ol 8 37 7,oq 9 (.oth (.makeFunc (.func 199) #[] #[tq 5,tq 4,tq 3])),od 10 180 [tq 8,tq 9],om 6 10] [3,4,5] [3,4,5]:=⟨rx,rx⟩
def JR:=rg Tryz.f199
def xT:Code:=(.seq (JR 2) (.seq (JR 5) (.seq (.block 0 (.seq (JR 35) (.cond (.tmp 7) (JR 83) (.seq (JR 179) (.cond (.tmp 22) (JR 371) (.seq (JR 755) (.cond (.tmp 37) (JR 1523) (.seq (JR 3059) (.cond (.tmp 52) (JR 6131) .skip))))))))) (.seq (JR 23) .ret))))
theorem b199:Tryz.f199.body=some xT:=by kernel_rfl
@[simp] theorem BJZ:SX 71 (JR 2) [oq 4 (.box (tq 0)),ot 5 false] [0,1,2,3] []∧SX 71 (JR 5) [ok 6 0] [1,2,3,4] [4]∧SX 71 (JR 35) [ol 8 3 1,oc 9 .eql 3 8 0,om 10 9,gz 10 true 11 86 4 1,gl 10 true 12 3 11,gz 10 true 13 86 2 1,gl 10 true 14 3 13,gb 10 true 15 .eql 3 12 14,oq 16 (.pick (tq 10) (tq 15) (cb false)),om 7 16] [1,2,3,4,6] [4]∧SX 71 (JR 83) [oz 17 86 2 0,ol 18 3 17,oz 19 86 4 0,ol 20 3 19,ob 21 .sub 3 18 20,om 6 21] [2,3,4] [4]∧SX 71 (JR 179) [ol 23 3 1,oc 24 .eql 3 23 2,om 25 24,gz 25 true 26 86 4 1,gl 25 true 27 3 26,gz 25 true 28 86 2 1,gl 25 true 29 3 28,gb 25 true 30 .eql 3 27 29,oq 31 (.pick (tq 25) (tq 30) (cb false)),om 22 31] [1,2,3,4,6] [4]∧SX 71 (JR 371) [oz 32 86 4 0,ol 33 3 32,oz 34 86 2 0,ol 35 3 34,ob 36 .sub 3 33 35,om 6 36] [2,3,4] [4]∧SX 71 (JR 755) [ol 38 3 1,oc 39 .eql 3 38 3,om 40 39,gz 40 true 41 86 4 0,gl 40 true 42 3 41,gz 40 true 43 86 2 0,gl 40 true 44 3 43,gb 40 true 45 .eql 3 42 44,oq 46 (.pick (tq 40) (tq 45) (cb false)),om 37 46] [1,2,3,4,6] [4]∧SX 71 (JR 1523) [oz 47 86 2 1,ol 48 3 47,oz 49 86 4 1,ol 50 3 49,ob 51 .sub 3 48 50,om 6 51] [2,3,4] [4]∧SX 71 (JR 3059) [ol 53 3 1,oc 54 .eql 3 53 1,om 55 54,gz 55 true 56 86 4 0,gl 55 true 57 3 56,gz 55 true 58 86 2 0,gl 55 true 59 3 58,gb 55 true 60 .eql 3 57 59,oq 61 (.pick (tq 55) (tq 60) (cb false)),om 52 61] [1,2,3,4,6] [4]∧SX 71 (JR 6131) [oz 62 86 4 1,ol 63 3 62,oz 64 86 2 1,ol 65 3 64,ob 66 .sub 3 63 65,om 6 66] [2,3,4] [4]∧SX 71 (JR 23) [om 67 6,oz 68 40 3 3,ol 69 3 68,od 70 143 [tq 67,ci 1,tq 69],om 5 70] [3,6] []:=⟨rx,rx,rx,rx,rx,rx,rx,rx,rx,rx,rx⟩
def AE6:=rg Tryz.f184
def AX7:Code:=(.seq (AE6 2) (.seq (AE6 5) .ret))
theorem A9N:Tryz.f184.body=some AX7:=by kernel_rfl
@[simp] theorem BJ0:SX 19 (AE6 2) [oq 4 (.box (tq 0)),oq 5 (.box (tq 1)),ot 8 false] [0,1,2,3] [4]∧SX 19 (AE6 5) [om 9 2,om 10 3,od 11 194 [tq 10],ob 12 .eql 3 9 11,om 13 12,gl 13 false 14 40 4,gl 13 false 15 86 5,gm 13 false 16 3,gd 13 false 17 195 [tq 14,tq 15,tq 16],oq 18 (.pick (tq 13) (cb true) (tq 17)),om 8 18] [2,3,4,5] [4,5]:=⟨rx,rx⟩
def PC:=rg Tryz.f153
def AX8:Code:=(.seq (PC 2) (.seq (PC 5) (.seq (.seq (PC 19) (.cond (.tmp 25) (PC 43) .skip)) (.seq (.seq (PC 39) (.cond (.tmp 27) (PC 87) .skip)) (.seq (PC 47) (.seq (PC 95) .ret))))))
theorem A9O:Tryz.f153.body=some AX8:=by kernel_rfl
@[simp] theorem BJ1:SX 36 (PC 2) [oq 5 (.box (tq 0)),oq 6 (.box (tq 1)),oq 10 (.alloc 155)] [0,1,2,3,4] [5]∧RX 36 (PC 5) (.drw [⟨[],[oz 13 40 5 5,ol 14 22 13,om 15 2,oi 16 22 14 15,ol 17 3 16,om 18 3,ob 19 .eql 3 17 18,ol 20 40 5,ol 21 86 6,om 22 3,om 23 4,od 24 184 [tq 20,tq 21,tq 22,tq 23],om 11 19,om 12 24],[]⟩]) (some ([2,3,4,5,6,10],[5,6,10]))∧SX 36 (PC 19) [om 25 11] [10,11,12] [10]∧SX 36 (PC 43) [oz 26 155 10 0,os (.sto 3 (tq 26) (ci 1))] [10,12] [10]∧SX 36 (PC 39) [om 27 12] [10,12] [10]∧SX 36 (PC 87) [oz 28 155 10 1,os (.sto 3 (tq 28) (ci 1))] [10] [10]∧SX 36 (PC 47) [oz 29 155 10 0,ol 30 3 29,oz 31 155 10 1,ol 32 3 31,ob 33 .mul 3 30 32,oz 34 155 10 2,os (.sto 3 (tq 34) (tq 33))] [10] [10]∧SX 36 (PC 95) [ol 35 155 10,os (.sto 155 (tq 10) (tq 35))] [10] [10]:=⟨rx,rx,rx,rx,rx,rx,rx,rx⟩
def PD:=rg Tryz.f101
@[simp] def xU:Code:=(lp (PD 267) 12 0 1 (.seq (PD 1099) (PD 1611)) (PD 459))
def Q8:=xU
def AX9:Code:=(.seq (PD 2) (.seq (PD 5) (.seq (.seq (PD 19) (.block 0 (.loop Q8))) (.seq (PD 23) .ret))))
theorem A9P:Tryz.f101.body=some AX9:=by kernel_rfl
@[simp] theorem BJ2:UX 35 Q8 xU∧SX 35 (PD 2) [oq 2 (.box (tq 0)),oq 4 (.mv (.const (.slice none 0 0)))] [0,1] [2]∧SX 35 (PD 5) [oq 5 (.mv (.const (.slice none 0 0)))] [1,2] [2]∧SX 35 (PD 19) [ok 6 0] [1,2,5] [2,29]∧SX 35 (PD 267) [om 8 6,oz 9 27 2 6,ol 10 23 9,oe 11 10 23,ob 12 .lss 3 8 11] [1,2,5,6] [2,29]∧SX 35 (PD 1099) [oz 15 27 2 6,ol 16 23 15,om 17 6,oi 18 23 16 17,ol 19 22 18,om 7 19] [1,2,5,6] [2,29]∧RX 35 (PD 1611) (.drw [⟨[],[om 20 5,om 21 7,om 22 1,om 23 7,oe 24 23 22,ob 25 .rem 3 22 24,oi 26 22 21 25,ol 27 3 26,oq 28 (.buildS 22 1 [(0,tq 27)]),om 30 1,om 31 7,oe 32 31 22,ob 33 .quo 3 30 32,oq 29 (.app [tq 20,tq 28] [22,22]),om 5 29,om 1 33],[]⟩]) (some ([1,2,5,6,7],[2,29]))∧SX 35 (PD 459) [om 13 6,oc 14 .add 3 13 1,om 6 14] [1,2,5,6] [2,29]∧SX 35 (PD 23) [om 34 5,om 4 34] [5] [29]∧LX 35 Q8 [1,2,5,6] [2,29]:=⟨fun _ _=>rfl,rx,rx,rx,rx,rx,rx,rx,rx,lx⟩
def PE:=rg Tryz.f170
@[simp] def xV:Code:=(.seq (PE 69) (.seq (.cond (.tmp 9) .skip (.exit 0)) (.seq (.block 1 (.seq (PE 1125) (.seq (PE 2661) (.cond (.tmp 16) (.seq (PE 9829) .ret) .skip)))) (PE 485))))
def Q9:=xV
def AML:Code:=(.seq (PE 2) (.seq (.seq (PE 9) (.block 0 (.loop Q9))) (.seq (PE 11) .ret)))
theorem AYA:Tryz.f170.body=some AML:=by kernel_rfl
@[simp] theorem BJ3:UX 19 Q9 xV∧SX 19 (PE 2) [ok 4 0] [0,1] []∧SX 19 (PE 9) [om 6 0,oe 7 6 22,ok 8 0] [0,1] []∧SX 19 (PE 69) [ob 9 .lss 3 8 7] [0,1,7,8] []∧SX 19 (PE 1125) [om 10 8,om 5 10] [0,1,7,8] []∧SX 19 (PE 2661) [om 11 1,om 12 0,om 13 5,oi 14 22 12 13,ol 15 3 14,ob 16 .eql 3 11 15] [0,1,5,7,8] []∧SX 19 (PE 9829) [om 17 5,om 4 17] [5] []∧SX 19 (PE 485) [oc 18 .add 3 8 1,om 8 18] [0,1,3,7,8] []∧SX 19 (PE 11) [oq 4 (.mv (.const (.int .i64 (Int.negSucc 0))))] [] []∧LX 19 Q9 [0,1,7,8] []:=⟨fun _ _=>rfl,rx,rx,rx,rx,rx,rx,rx,rx,lx⟩
def AE7:=rg Tryz.f132
def AYB:Code:=(.seq (AE7 2) (.seq (AE7 5) .ret))
theorem A9Q:Tryz.f132.body=some AYB:=by kernel_rfl
@[simp] theorem BJ4:SX 9 (AE7 2) [ot 4 false] [0,1] [7]∧SX 9 (AE7 5) [om 5 0,om 6 1,od 7 170 [tq 5,tq 6],oc 8 .geq 3 7 0,om 4 8] [0,1,2,3] [2,3]:=⟨rx,rx⟩
def KM:=rg Tryz.f112
@[simp] def xW:Code:=(.seq (KM 139) (.seq (.cond (.tmp 16) .skip (.exit 0)) (.seq (.block 1 (.seq (KM 2251) (.seq (KM 5323) (.cond (.tmp 27) (.seq (KM 19659) .ret) .skip)))) (KM 971))))
def RA:=xW
def AMM:Code:=(.seq (KM 2) (.seq (.seq (KM 9) (.cond (.tmp 12) (.seq (KM 37) .ret) .skip)) (.seq (.seq (KM 19) (.block 0 (.loop RA))) (.seq (KM 23) .ret))))
theorem A9R:Tryz.f112.body=some AMM:=by kernel_rfl
@[simp] theorem BJ5:UX 29 RA xW∧SX 29 (KM 2) [oq 2 (.box (tq 0)),ot 4 false] [0,1] [2]∧SX 29 (KM 9) [om 7 1,oe 8 7 22,oz 9 40 2 0,ol 10 3 9,oc 11 .add 3 10 1,ob 12 .neq 3 8 11] [1,2] [2]∧SX 29 (KM 37) [ot 4 false] [] []∧SX 29 (KM 19) [om 13 1,oe 14 13 22,ok 15 0] [1,2] [2]∧SX 29 (KM 139) [ob 16 .lss 3 15 14] [2,13,14,15] [2]∧SX 29 (KM 2251) [om 17 15,oi 18 22 13 15,ol 19 3 18,om 5 17,om 6 19] [2,13,14,15] [2]∧SX 29 (KM 5323) [oz 20 40 2 6,ol 21 23 20,om 22 5,oi 23 23 21 22,ol 24 22 23,om 25 6,od 26 132 [tq 24,tq 25],ou 27 26] [2,5,6,13,14,15] [2]∧SX 29 (KM 19659) [ot 4 false] [] []∧SX 29 (KM 971) [oc 28 .add 3 15 1,om 15 28] [2,13,14,15] [2]∧SX 29 (KM 23) [ot 4 true] [] []∧LX 29 RA [2,13,14,15] [2]:=⟨fun _ _=>rfl,rx,rx,rx,rx,rx,rx,rx,rx,rx,rx,lx⟩
def PF:=rg Tryz.f164
@[simp] def xX:Code:=(.seq (PF 69) (.seq (.cond (.tmp 13) .skip (.exit 0)) (.seq (.block 1 (.seq (PF 1125) (.seq (PF 2661) (.cond (.tmp 30) (.seq (PF 9829) .ret) .skip)))) (PF 485))))
def RB:=xX
def AYC:Code:=(.seq (PF 2) (.seq (.seq (PF 9) (.block 0 (.loop RB))) (.seq (PF 11) .ret)))
theorem A9S:Tryz.f164.body=some AYC:=by kernel_rfl
@[simp] theorem BJ6:UX 32 RB xX∧SX 32 (PF 2) [oq 3 (.box (tq 0)),ot 6 false] [0,1,2] [3]∧SX 32 (PF 9) [oz 9 40 3 8,ol 10 38 9,oe 11 10 38,ok 12 0] [1,2,3] [3]∧SX 32 (PF 69) [ob 13 .lss 3 12 11] [1,2,10,11,12] [3]∧SX 32 (PF 1125) [om 14 12,oi 15 38 10 12,ol 16 99 15,oq 8 (.alloc 99),om 7 14,os (.sto 99 (tq 8) (tq 16))] [1,2,10,11,12] [3]∧RX 32 (PF 2661) (.drw [⟨[],[om 17 2,om 18 7],[od 19 132 [tq 17,tq 18]]⟩,⟨[],[ou 20 19,om 21 20,gm 21 true 22 1,gz 21 true 23 99 8 0,gl 21 true 24 3 23,gi 21 true 25 22 22 24,gl 21 true 26 3 25,gz 21 true 27 99 8 1,gl 21 true 28 3 27,gb 21 true 29 .neq 3 26 28,oq 30 (.pick (tq 21) (tq 29) (cb false))],[]⟩]) (some ([1,2,7,8,10,11,12],[3,8]))∧SX 32 (PF 9829) [ot 6 false] [] []∧SX 32 (PF 485) [oc 31 .add 3 12 1,om 12 31] [1,2,10,11,12] [3]∧SX 32 (PF 11) [ot 6 true] [] []∧LX 32 RB [1,2,10,11,12] [3]:=⟨fun _ _=>rfl,rx,rx,rx,rx,rx,rx,rx,rx,lx⟩
def AYD:=rg Tryz.f124
def BJ7:Code:=(.seq (AYD 2) (.seq (AYD 5) .ret))
def M9:=rg Tryz.f165
@[simp] def xY:Code:=(lp (M9 535) 15 0 1 (M9 1175) (M9 919))
def dG:=xY
def AYE:Code:=(.seq (M9 2) (.seq (.seq (M9 9) (.cond (.tmp 7) (M9 21) .skip)) (.seq (M9 11) (.seq (.seq (M9 39) (.block 0 (.loop dG))) (.seq (M9 47) .ret)))))
theorem A9T:Tryz.f165.body=some AYE:=by kernel_rfl
@[simp] theorem BJ8:UX 25 dG xY∧SX 25 (M9 2) [ok 2 0] [0] []∧SX 25 (M9 9) [om 5 0,oe 6 5 22,oc 7 .lss 3 6 1] [0] []∧SX 25 (M9 11) [om 9 0,oq 10 (.oth (.indexAddr 22 (tq 9) (ci 0))),ol 11 3 10,om 3 11] [0] []∧SX 25 (M9 39) [ok 4 1] [0,3] []∧SX 25 (M9 535) [om 12 4,om 13 0,oe 14 13 22,ob 15 .lss 3 12 14] [0,3,4] []∧SX 25 (M9 1175) [om 18 3,om 19 0,om 20 4,oi 21 22 19 20,ol 22 3 21,oq 23 (.oth (.call ⟨.builtin .min,#[tq 18,tq 22],#[3,3]⟩)),om 3 23] [0,3,4] []∧SX 25 (M9 919) [om 16 4,oc 17 .add 3 16 1,om 4 17] [0,3,4] []∧SX 25 (M9 47) [om 24 3,om 2 24] [3] []∧LX 25 dG [0,3,4] []:=⟨fun _ _=>rfl,rx,rx,rx,rx,rx,rx,rx,rx,lx⟩
def AE8:=rg Tryz.f198
def AYF:Code:=(.seq (AE8 2) (.seq (AE8 5) .ret))
theorem A9U:Tryz.f198.body=some AYF:=by kernel_rfl
@[simp] theorem BJ9:SX 5 (AE8 2) [ok 2 0] [0] []∧SX 5 (AE8 5) [om 3 0,od 4 165 [tq 3],om 2 4] [0,1,2] [1,2]:=⟨rx,rx⟩
def AE9:=rg Tryz.f186
def AYG:Code:=(.seq (AE9 2) (.seq (AE9 5) .ret))
theorem A9V:Tryz.f186.body=some AYG:=by kernel_rfl
@[simp] theorem BKA:SX 15 (AE9 2) [oq 2 (.box (tq 0)),oq 4 (.alloc 207)] [0,1] []∧RX 15 (AE9 5) (.drw [⟨[],[oz 5 207 2 0,oq 6 (.ldz 3 (tq 5)),om 7 1,oq 8 (.buildS 22 2 [(0,tq 6),(1,tq 7)]),od 9 198 [tq 8],oz 10 207 2 1,oq 11 (.ldz 3 (tq 10)),om 12 1,oq 13 (.oth (.call ⟨.builtin .max,#[tq 11,tq 12],#[3,3]⟩)),oq 14 (.build 207 [(0,tq 9),(1,tq 13)])],[os (.sto 207 (tq 4) (tq 14))]⟩]) (some ([1,2,4],[2,4])):=⟨rx,rx⟩
def Z6:=rg Tryz.f196
def AYH:Code:=(.seq (Z6 2) (.seq (Z6 5) (.seq (Z6 11) (.seq (Z6 23) (Z6 31)))))
theorem b196:Tryz.f196.body=some AYH:=by kernel_rfl
@[simp] theorem BKB:SX 13 (Z6 2) [oq 3 (.box (tq 0))] [0,1,2] [3,4,5,9]∧SX 13 (Z6 5) [oz 6 40 1 0,ol 7 3 6,oc 8 .add 3 7 1,oq 9 (.mkS 22 (tq 8) (tq 8)),oq 4 (.alloc 22),os (.sto 22 (tq 4) (tq 9))] [1,2,3] [3,4,5,9]∧SX 13 (Z6 11) [oq 5 (.alloc 177)] [1,2,3,4] [3,4,5,9]∧SX 13 (Z6 23) [oq 10 (.oth (.makeFunc (.func 197) #[] #[tq 4,tq 1,tq 2,tq 3,tq 5])),os (.sto 177 (tq 5) (tq 10))] [1,2,3,4,5] [3,4,5,9]∧SX 13 (Z6 31) [ol 11 177 5,oq 12 (.call false none (tq 11) [ci 0])] [5] [3,4,5,9]:=⟨rx,rx,rx,rx,rx⟩
def JS:=rg Tryz.f197
@[simp] def xZ:Code:=(.seq (JS 139) (.seq (.cond (.tmp 31) .skip (.exit 0)) (.seq (.block 1 (.seq (JS 2251) (.seq (JS 5323) (.seq (JS 11467) (.cond (.tmp 42) (.seq (JS 40139) .ret) .skip))))) (JS 971))))
def RC:=xZ
def tO:Code:=(.seq (JS 2) (.seq (.seq (JS 9) (.cond (.tmp 13) (.seq (JS 37) .ret) .skip)) (.seq (.seq (JS 19) (.block 0 (.loop RC))) (.seq (JS 23) .ret))))
theorem b197:Tryz.f197.body=some tO:=by kernel_rfl
@[simp] theorem A9W(n:Nat)(st:XS):AE Tryz.prog ann kn (n+1) 44 (JS 37) st=PN (JN Tryz.prog (cfU [20009,30009] (BQ Tryz.prog ann kn n)) (.str [ol 14 40 2,ol 15 22 1,ol 16 22 3,od 17 164 [tq 14,tq 15,tq 16],ou 18 17,om 19 18,gl 19 false 20 193 4,gl 19 false 21 22 1,og 19 false 22 (.call false none (tq 20) [tq 21]),oq 23 (.pick (tq 19) (cb true) (tq 22)),om 7 23]) (CB (some ([1,2,3,4],[])) (N6 [] st))) :=
 O4 (by kernel_rfl) (by kernel_rfl) (by kernel_rfl) (by kernel_rfl) (by kernel_rfl) (by kernel_rfl)
@[simp] theorem BKC:UX 44 RC xZ∧SX 44 (JS 2) [ot 7 false] [0,1,2,3,4,5] []∧SX 44 (JS 9) [om 10 0,ol 11 22 1,oe 12 11 22,ob 13 .eql 3 10 12] [0,1,2,3,4,5] []∧SX 44 (JS 19) [oz 24 40 2 6,ol 25 23 24,om 26 0,oi 27 23 25 26,ol 28 22 27,oe 29 28 22,ok 30 0] [0,1,2,5] []∧SX 44 (JS 139) [ob 31 .lss 3 30 29] [0,1,5,28,29,30] []∧SX 44 (JS 2251) [oi 32 22 28 30,ol 33 3 32,om 9 33] [0,1,5,28,29,30] []∧SX 44 (JS 5323) [ol 34 22 1,om 35 0,om 36 9,oi 37 22 34 35,os (.sto 3 (tq 37) (tq 36))] [0,1,5,9,28,29,30] []∧SX 44 (JS 11467) [ol 38 177 5,om 39 0,oc 40 .add 3 39 1,oq 41 (.call false none (tq 38) [tq 40]),ou 42 41] [0,1,5,28,29,30] []∧SX 44 (JS 40139) [ot 7 false] [] []∧SX 44 (JS 971) [oc 43 .add 3 30 1,om 30 43] [0,1,5,28,29,30] []∧SX 44 (JS 23) [ot 7 true] [] []∧LX 44 RC [0,1,5,28,29,30] []:=⟨fun _ _=>rfl,rx,rx,rx,rx,rx,rx,rx,rx,rx,rx,lx⟩
def AFA:=rg Tryz.f185
def AYI:Code:=(.seq (AFA 2) (.seq (AFA 5) .ret))
theorem A9X:Tryz.f185.body=some AYI:=by kernel_rfl
@[simp] theorem BKD:SX 6 (AFA 2) [oq 2 (.box (tq 0)),oq 3 (.box (tq 1)),oq 4 (.mv (.const .nilFunc))] [0,1] [2,3]∧SX 6 (AFA 5) [oq 5 (.oth (.makeFunc (.func 196) #[] #[tq 2,tq 3])),om 4 5] [2,3] [2,3]:=⟨rx,rx⟩
def DS:=rg Tryz.f154
@[simp] def pS:Code:=(.seq (DS 36191) (.seq (.cond (.tmp 35) .skip (.exit 2)) (.seq (.block 3 (.seq (DS 576863) (.seq (DS 1363295) (.cond (.tmp 48) (DS 2936159) .skip)))) (DS 249183))))
def I7:=pS
def yA:Code:=(.seq (DS 2) (.seq (.seq (DS 9) (.seq (DS 21) (.cond (.tmp 15) (.seq (DS 77) .ret) .skip))) (.seq (.seq (DS 19) (.cond (.tmp 19) (.seq (DS 75) .ret) .skip)) (.seq (DS 23) (.seq (DS 47) (.seq (.seq (DS 159) (.block 0 (.rangeFunc (.tmp 30) #[31] (DS 607) (.block 1 (.seq (DS 2399) (.seq (DS 5471) (.block 2 (.loop I7)))))))) (.seq (.seq (DS 319) (.cond (.tmp 67) (.seq (DS 1215) .ret) .skip)) (.seq (DS 383) .ret))))))))
theorem b154:Tryz.f154.body=some yA:=by kernel_rfl
@[simp] theorem A5Y(n:Nat)(st:XS):AE Tryz.prog ann kn (n+1) 69 (DS 1363295) st=PN (JN Tryz.prog (cfU [20800,20801,20802,20803,20804] (BQ Tryz.prog ann kn n)) (.str [ol 39 233 7,oq 40 (.oth (.nilCheck (tq 39))),oz 41 250 40 1,ol 42 23 41,om 43 10,oi 44 23 42 43,ol 45 22 44,om 46 11,od 47 132 [tq 45,tq 46],ou 48 47]) (CB (some ([7,10,11,32,33,34],[2,7,24,25,26,28,30,63,800,801,802,803,804])) (N6 [] st))) :=
 O4 (by kernel_rfl) (by kernel_rfl) (by kernel_rfl) (by kernel_rfl) (by kernel_rfl) (by kernel_rfl)
@[simp] theorem A5Z(n:Nat)(st:XS):AE Tryz.prog ann kn (n+1) 69 (DS 249183) st=PN (JN Tryz.prog (BQ Tryz.prog ann kn n) (.str [oc 65 .add 3 34 1,om 34 65]) (CB (some ([7,32,33,34],[2,7,24,25,26,28,30,63,800,801,802,803,804])) (N6 [25008011801063] st))) :=
 D1 (by kernel_rfl) (by kernel_rfl) (by kernel_rfl) (by kernel_rfl) (by kernel_rfl)
@[simp] theorem A50(n:Nat)(st:XS):AE Tryz.prog ann kn (n+1) 69 (DS 383) st=PN (JN Tryz.prog (BQ Tryz.prog ann kn n) (.str [ol 68 233 7,om 4 68,ok 5 0]) (CB (some ([7],[2,7,24,25,26,28,30,63,800,801,802,803,804])) (N6 [1000000000000024,24,901025,902026,903028] st))) :=
 D1 (by kernel_rfl) (by kernel_rfl) (by kernel_rfl) (by kernel_rfl) (by kernel_rfl)
@[simp] theorem BKE:UX 69 I7 pS∧SX 69 (DS 2) [oq 2 (.box (tq 0)),oq 4 (.mv (.const (.pointer none))),ok 5 0] [0,1] [2,7,24,25,26,28,30,63,800,801,802,803,804]∧SX 69 (DS 9) [ol 12 40 2,od 13 110 [tq 12],om 6 13] [1,2] [2,7,24,25,26,28,30,63,800,801,802,803,804]∧SX 69 (DS 21) [om 14 6,oc 15 .neq 34 14 0] [1,2,6] [2,7,24,25,26,28,30,63,800,801,802,803,804]∧SX 69 (DS 77) [om 16 6,oq 4 (.mv (.const (.pointer none))),om 5 16] [6] []∧SX 69 (DS 19) [om 17 1,oq 18 (.call false none (tq 17) []),ou 19 18] [1,2] [2,7,24,25,26,28,30,63,800,801,802,803,804]∧SX 69 (DS 75) [oq 4 (.mv (.const (.pointer none))),ok 5 2] [] []∧RX 69 (DS 23) (.drw [⟨[24,25,26,28,7],[oq 20 (.ldz 40 (tq 2)),oz 21 40 2 0,oq 22 (.ldz 3 (tq 21)),oc 23 .add 3 22 1,oq 24 (.mkS 23 (tq 23) (tq 23)),oq 25 (.mkM none),oq 26 (.mkM none),oq 27 (.build 250 [(0,tq 20),(1,tq 24),(2,tq 25),(3,tq 26)]),oq 28 (.box (tq 27)),oq 7 (.alloc 233)],[os (.sto 233 (tq 7) (tq 28))]⟩]) (some ([2],[2,30,63]))∧SX 69 (DS 47) [oq 8 (.alloc 4),os (.sto 4 (tq 8) (cb false))] [2,7] [2,7,24,25,26,28,30,63,800,801,802,803,804]∧SX 69 (DS 159) [ol 29 40 2,od 30 185 [tq 29,.const (.slice none 0 0)]] [2,7,8] [2,7,8,24,25,26,28,30,63,800,801,802,803,804]∧SX 69 (DS 607) [om 9 31] [7,8,31] [2,7,8,24,25,26,28,30,63,800,801,802,803,804]∧SX 69 (DS 2399) [os (.sto 4 (tq 8) (cb true))] [7,8,9] [2,7,8,24,25,26,28,30,63,800,801,802,803,804]∧SX 69 (DS 5471) [om 32 9,oe 33 32 22,ok 34 0] [7,9] [2,7,24,25,26,28,30,63,800,801,802,803,804]∧SX 69 (DS 36191) [ob 35 .lss 3 34 33] [7,32,33,34] [2,7,24,25,26,28,30,63,800,801,802,803,804]∧SX 69 (DS 576863) [om 36 34,oi 37 22 32 34,ol 38 3 37,om 10 36,om 11 38] [7,32,33,34] [2,7,24,25,26,28,30,63,800,801,802,803,804]∧RX 69 (DS 2936159) (.drw [⟨[],[ol 49 233 7,oq 50 (.oth (.nilCheck (tq 49))),oz 51 250 50 1,ol 52 23 51,om 53 10,ol 54 233 7,oq 55 (.oth (.nilCheck (tq 54))),oz 56 250 55 1,ol 57 23 56,om 58 10,oi 59 23 57 58,oq 60 (.ldz 22 (tq 59)),om 61 11,oq 62 (.buildS 22 1 [(0,tq 61)]),oq 63 (.app [tq 60,tq 62] [22,22]),oi 64 23 52 53],[os (.sto 22 (tq 64) (tq 63))]⟩]) (some ([7,10,11,32,33,34],[2,7,24,25,26,28,30,63,800,801,802,803,804]))∧SX 69 (DS 319) [ol 66 4 8,ou 67 66] [7,8] [2,7,8,24,25,26,28,30,63,800,801,802,803,804]∧SX 69 (DS 1215) [oq 4 (.mv (.const (.pointer none))),ok 5 11] [] []∧LX 69 I7 [7,32,33,34] [2,7,24,25,26,28,30,63,800,801,802,803,804]:=⟨fun _ _=>rfl,rx,rx,rx,rx,rx,rx,rx,rx,rx,rx,rx,rx,rx,rx,rx,rx,rx,lx⟩
def E0:=rg Tryz.f113
@[simp] def yB:Code:=(.seq (E0 36279909) (.seq (.cond (.tmp 29) .skip (.exit 4)) (.seq (.block 5 (.seq (E0 589928037) (E0 858363493))) (E0 254383717))))
def RD:=yB
@[simp] def yC:Code:=(.seq (E0 71269) (.seq (.cond (.tmp 24) .skip (.exit 2)) (.seq (.block 3 (.seq (E0 1152613) (.seq (.seq (E0 4822629) (.block 4 (.loop RD))) (E0 3774053)))) (E0 497253))))
def RE:=yC
@[simp] def yD:Code:=(.seq (E0 69) (.seq (.cond (.tmp 16) .skip (.exit 0)) (.seq (.block 1 (.seq (E0 1125) (.seq (E0 2661) (.seq (.seq (E0 9829) (.block 2 (.loop RE))) (E0 7781))))) (E0 485))))
def RF:=yD
def AYJ:Code:=(.seq (E0 2) (.seq (.seq (E0 9) (.block 0 (.loop RF))) (.seq (E0 11) .ret)))
theorem A9Y:Tryz.f113.body=some AYJ:=by kernel_rfl
@[simp] theorem A51(n:Nat)(st:XS):AE Tryz.prog ann kn (n+1) 67 (E0 7781) st=PN (JN Tryz.prog (BQ Tryz.prog ann kn n) (.str [om 60 6,om 61 9,oq 62 (.buildS 123 1 [(0,tq 61)]),oq 63 (.app [tq 60,tq 62] [123,123]),om 6 63]) (CB (some ([1,2,3,6,7,9,14,15],[3,20,63])) (N6 [20] st))) :=
 D1 (by kernel_rfl) (by kernel_rfl) (by kernel_rfl) (by kernel_rfl) (by kernel_rfl)
@[simp] theorem BKF:UX 67 RD yB∧UX 67 RE yC∧UX 67 RF yD∧SX 67 (E0 2) [oq 3 (.box (tq 0)),oq 6 (.mv (.const (.slice none 0 0))),ok 7 0] [0,1,2] [3]∧SX 67 (E0 9) [oz 13 40 3 1,ol 14 3 13,ok 15 0] [1,2,3,6,7] [3,63]∧SX 67 (E0 69) [ob 16 .lss 3 15 14] [1,2,3,6,7,14,15] [3,63]∧SX 67 (E0 1125) [om 17 15,om 8 17] [1,2,3,6,7,14,15] [3,63]∧SX 67 (E0 2661) [oz 18 40 3 2,ol 19 3 18,oq 20 (.mkS 156 (tq 19) (tq 19)),om 9 20] [1,2,3,6,7,8,14,15] [3,63]∧SX 67 (E0 9829) [om 21 9,oe 22 21 156,ok 23 0] [1,2,3,6,7,8,9,14,15] [3,20,63]∧SX 67 (E0 71269) [ob 24 .lss 3 23 22] [1,2,3,6,7,8,9,14,15,22,23] [3,20,63]∧SX 67 (E0 1152613) [om 25 23,om 10 25] [1,2,3,6,7,8,9,14,15,22,23] [3,20,63]∧SX 67 (E0 4822629) [om 26 2,oe 27 26 22,ok 28 0] [1,2,3,6,7,8,9,10,14,15,22,23] [3,20,63]∧SX 67 (E0 36279909) [ob 29 .lss 3 28 27] [1,2,3,6,7,8,9,10,14,15,22,23,26,27,28] [3,20,63]∧SX 67 (E0 589928037) [om 30 28,oi 31 22 26 28,ol 32 3 31,om 11 30,om 12 32] [1,2,3,6,7,8,9,10,14,15,22,23,26,27,28] [3,20,63]∧RX 67 (E0 858363493) (.drw [⟨[],[om 33 9,om 34 10,oi 35 156 33 34,ol 36 40 3,om 37 8,om 38 10,oq 39 (.build 86 [(0,tq 37),(1,tq 38)]),om 40 11,om 41 1,om 42 11,oi 43 23 41 42,ol 44 22 43,om 45 8,oi 46 22 44 45,ol 47 3 46,om 48 12,od 49 153 [tq 36,tq 39,tq 40,tq 47,tq 48]],[od 50 152 [tq 35,tq 49]]⟩,⟨[],[],[]⟩]) (some ([1,2,3,6,7,8,9,10,11,12,14,15,22,23,26,27,28],[3,20,63]))∧SX 67 (E0 254383717) [oc 51 .add 3 28 1,om 28 51] [1,2,3,6,7,8,9,10,14,15,22,23,26,27,28] [3,20,63]∧SX 67 (E0 3774053) [om 52 7,om 53 9,om 54 10,oi 55 156 53 54,oz 56 155 55 2,ol 57 3 56,ob 58 .add 3 52 57,om 7 58] [1,2,3,6,7,8,9,10,14,15,22,23] [3,20,63]∧SX 67 (E0 497253) [oc 59 .add 3 23 1,om 23 59] [1,2,3,6,7,8,9,14,15,22,23] [3,20,63]∧SX 67 (E0 485) [oc 64 .add 3 15 1,om 15 64] [1,2,3,6,7,14,15] [3,63]∧SX 67 (E0 11) [om 65 6,om 66 7,om 6 65,om 7 66] [6,7] [63]∧LX 67 RF [1,2,3,6,7,14,15] [3,63]∧LX 67 RE [1,2,3,6,7,8,9,14,15,22,23] [3,20,63]∧LX 67 RD [1,2,3,6,7,8,9,10,14,15,22,23,26,27,28] [3,20,63]:=⟨fun _ _=>rfl,fun _ _=>rfl,fun _ _=>rfl,rx,rx,rx,rx,rx,rx,rx,rx,rx,rx,rx,rx,rx,rx,rx,rx,rx,lx,lx,lx⟩
def AFB:=rg Tryz.f152
def AYK:Code:=(.seq (AFB 2) (AFB 3))
theorem b152:Tryz.f152.body=some AYK:=by kernel_rfl
@[simp] theorem BKG:SX 34 (AFB 2) [oq 3 (.box (tq 1))] [0,1] []∧RX 34 (AFB 3) (.drw [⟨[],[om 4 0,om 5 0,om 6 0,om 7 0,oq 8 (.oth (.nilCheck (tq 7))),oz 9 155 8 0,oq 10 (.ldz 3 (tq 9)),oz 11 155 3 0,oq 12 (.ldz 3 (tq 11)),ob 13 .add 3 10 12,om 14 0,oq 15 (.oth (.nilCheck (tq 14))),oz 16 155 15 1,oq 17 (.ldz 3 (tq 16)),oz 18 155 3 1,ol 19 3 18,ob 20 .add 3 17 19,om 21 0,oq 22 (.oth (.nilCheck (tq 21))),oz 23 155 22 2,oq 24 (.ldz 3 (tq 23)),oz 25 155 3 2,ol 26 3 25,ob 27 .add 3 24 26,oq 28 (.oth (.nilCheck (tq 4))),oz 29 155 28 0,os (.sto 3 (tq 29) (tq 13)),oq 30 (.oth (.nilCheck (tq 5))),oz 31 155 30 1,os (.sto 3 (tq 31) (tq 20)),oq 32 (.oth (.nilCheck (tq 6))),oz 33 155 32 2,os (.sto 3 (tq 33) (tq 27))],[]⟩]) (some ([0,3],[3])):=⟨rx,rx⟩
def lP:=rg Tryz.f66
def c66:Code:=(.seq (lP 2) (.seq (.seq (lP 9) (.seq (lP 21) (.cond (.tmp 14) (.seq (lP 77) .ret) .skip))) (.seq (.seq (lP 19) (.cond (.tmp 25) (.seq (lP 75) .ret) .skip)) (.seq (lP 23) (.seq (lP 47) .ret)))))
theorem b66:Tryz.f66.body=some c66:=by kernel_rfl
@[simp] theorem BEJ(n:Nat)(st:XS):AE Tryz.prog ann kn (n+1) 34 (lP 19) st=PN (JN Tryz.prog (cfU [20010] (BQ Tryz.prog ann kn n)) (.str [ol 16 40 3,om 17 1,od 18 111 [tq 16,tq 17],ou 19 18,om 20 19,gl 20 false 21 40 3,gm 20 false 22 2,gd 20 false 23 112 [tq 21,tq 22],og 20 false 24 (.oth (.unOp .not 4 (tq 23))),oq 25 (.pick (tq 20) (cb true) (tq 24))]) (CB (some ([1,2,3],[3,30])) (N6 [] st))) :=
 O4 (by kernel_rfl) (by kernel_rfl) (by kernel_rfl) (by kernel_rfl) (by kernel_rfl) (by kernel_rfl)
@[simp] theorem x66:SX 34 (lP 2) [oq 3 (.box (tq 0)),oq 6 (.mv (.const (.slice none 0 0))),ok 7 0] [0,1,2] [3,30]∧SX 34 (lP 9) [ol 11 40 3,od 12 110 [tq 11],om 8 12] [1,2,3] [3,30]∧SX 34 (lP 21) [om 13 8,oc 14 .neq 34 13 0] [1,2,3,8] [3,30]∧SX 34 (lP 77) [om 15 8,oq 6 (.mv (.const (.slice none 0 0))),om 7 15] [8] []∧SX 34 (lP 75) [oq 6 (.mv (.const (.slice none 0 0))),ok 7 2] [] []∧SX 34 (lP 23) [ol 27 40 3,om 28 1,om 29 2,od 30 113 [tq 27,tq 28,tq 29],om 26 30,oq 31 (.oth (.extract (tq 26) 0)),oq 32 (.oth (.extract (tq 26) 1)),om 9 31,om 10 32] [1,2,3] [3,30]∧SX 34 (lP 47) [om 33 9,om 6 33,ok 7 0] [9] [3,30]:=⟨rx,rx,rx,rx,rx,rx,rx⟩
def Z0:=rg Tryz.f68
@[simp] def AI3:Code:=(lp (Z0 267) 28 0 1 (Z0 587) (Z0 459))
def WP:=AI3
@[simp] def AI4:Code:=(lp (Z0 535) 46 2 3 (Z0 1175) (Z0 919))
def WQ:=AI4
def c68:Code:=(.seq (Z0 2) (.seq (Z0 5) (.seq (.seq (Z0 19) (.block 0 (.loop WP))) (.seq (.seq (Z0 39) (.block 2 (.loop WQ))) (.seq (Z0 47) .ret)))))
theorem b68:Tryz.f68.body=some c68:=by kernel_rfl
@[simp] theorem x68:UX 68 WP AI3∧UX 68 WQ AI4∧SX 68 (Z0 2) [oq 1 (.box (tq 0)),oq 2 (.alloc 40)] [0] [1,2,3,16,19,22,40,65]∧RX 68 (Z0 5) (.drw [⟨[3],[oz 6 27 1 0,oq 7 (.ldz 3 (tq 6)),oz 8 27 1 1,oq 9 (.ldz 3 (tq 8)),oz 10 27 1 2,oq 11 (.ldz 3 (tq 10)),oz 12 27 1 3,oq 13 (.ldz 3 (tq 12)),oz 14 27 1 4,oq 15 (.ldz 22 (tq 14)),od 16 114 [tq 15],oz 17 27 1 5,oq 18 (.ldz 22 (tq 17)),od 19 114 [tq 18],oz 20 27 1 6,oq 21 (.ldz 23 (tq 20)),od 22 115 [tq 21],oq 23 (.build 40 [(0,tq 7),(1,tq 9),(2,tq 11),(3,tq 13),(4,tq 16),(5,tq 19),(6,tq 22)]),oq 3 (.alloc 40)],[os (.sto 40 (tq 3) (tq 23))]⟩]) (some ([1,2],[1,2,40,65]))∧SX 68 (Z0 19) [ok 4 0] [1,2,3] [1,2,3,16,19,22,40,65]∧SX 68 (Z0 267) [om 24 4,oz 25 27 1 7,ol 26 24 25,oe 27 26 24,ob 28 .lss 3 24 27] [1,2,3,4] [1,2,3,16,19,22,40,65]∧RX 68 (Z0 587) (.drw [⟨[],[oz 31 40 3 7,oq 32 (.ldz 37 (tq 31)),oz 33 27 1 7,ol 34 24 33,om 35 4,oi 36 24 34 35,ol 37 59 36,od 38 48 [tq 37],oq 39 (.buildS 37 1 [(0,tq 38)]),oq 40 (.app [tq 32,tq 39] [37,37]),oz 41 40 3 7],[os (.sto 37 (tq 41) (tq 40))]⟩]) (some ([1,2,3,4],[1,2,3,16,19,22,40,65]))∧SX 68 (Z0 459) [om 29 4,oc 30 .add 3 29 1,om 4 30] [1,2,3,4] [1,2,3,16,19,22,40,65]∧SX 68 (Z0 39) [ok 5 0] [1,2,3] [1,2,3,16,19,22,40,65]∧SX 68 (Z0 535) [om 42 5,oz 43 27 1 8,ol 44 25 43,oe 45 44 25,ob 46 .lss 3 42 45] [1,2,3,5] [1,2,3,16,19,22,40,65]∧RX 68 (Z0 1175) (.drw [⟨[],[oz 49 40 3 8,oq 50 (.ldz 38 (tq 49)),oz 51 27 1 8,ol 52 25 51,om 53 5,oi 54 25 52 53,oz 55 188 54 0,ol 56 3 55,oz 57 27 1 8,ol 58 25 57,om 59 5,oi 60 25 58 59,oz 61 188 60 1,ol 62 3 61,oq 63 (.build 99 [(0,tq 56),(1,tq 62)]),oq 64 (.buildS 38 1 [(0,tq 63)]),oq 65 (.app [tq 50,tq 64] [38,38]),oz 66 40 3 8],[os (.sto 38 (tq 66) (tq 65))]⟩]) (some ([1,2,3,5],[1,2,3,16,19,22,40,65]))∧SX 68 (Z0 919) [om 47 5,oc 48 .add 3 47 1,om 5 48] [1,2,3,5] [1,2,3,16,19,22,40,65]∧SX 68 (Z0 47) [ol 67 40 3,os (.sto 40 (tq 2) (tq 67))] [2,3] [1,2,3,16,19,22,40,65]∧LX 68 WP [1,2,3,4] [1,2,3,16,19,22,40,65]∧LX 68 WQ [1,2,3,5] [1,2,3,16,19,22,40,65]:=⟨fun _ _=>rfl,fun _ _=>rfl,rx,rx,rx,rx,rx,rx,rx,rx,rx,rx,rx,lx,lx⟩
def H2:=rg Tryz.f157
@[simp] def yE:Code:=(.seq (H2 71269) (.seq (.cond (.tmp 28) .skip (.exit 2)) (.seq (.block 3 (.seq (H2 1152613) (H2 1676901))) (H2 497253))))
def RG:=yE
@[simp] def yF:Code:=(.seq (H2 69) (.seq (.cond (.tmp 20) .skip (.exit 0)) (.seq (.block 1 (.seq (H2 1125) (.seq (H2 2661) (.seq (.seq (H2 9829) (.block 2 (.loop RG))) (H2 7781))))) (H2 485))))
def RH:=yF
def AYM:Code:=(.seq (H2 2) (.seq (.seq (H2 9) (.block 0 (.loop RH))) (.seq (H2 11) .ret)))
theorem A9Z:Tryz.f157.body=some AYM:=by kernel_rfl
@[simp] theorem BKJ:UX 66 RG yE∧UX 66 RH yF∧SX 66 (H2 2) [oq 4 (.box (tq 0)),oq 7 (.box (tq 3)),oq 8 (.alloc 207)] [0,1,2,3] [4]∧SX 66 (H2 9) [om 14 1,oq 15 (.oth (.nilCheck (tq 14))),oz 16 250 15 1,ol 17 23 16,oe 18 17 23,ok 19 0] [1,2,4,7,8] [4,7,8]∧SX 66 (H2 69) [ob 20 .lss 3 19 18] [1,2,4,7,8,17,18,19] [4,7,8]∧SX 66 (H2 1125) [om 21 19,oi 22 23 17 19,ol 23 22 22,om 9 21,om 10 23] [1,2,4,7,8,17,18,19] [4,7,8]∧SX 66 (H2 2661) [oq 24 (.build 207 [(0,ci 1),(1,ci 0)]),oq 11 (.alloc 207),os (.sto 207 (tq 11) (tq 24))] [1,2,4,7,8,9,10,17,18,19] [4,7,8]∧SX 66 (H2 9829) [om 25 10,oe 26 25 22,ok 27 0] [1,2,4,7,8,9,10,11,17,18,19] [4,7,8,11]∧SX 66 (H2 71269) [ob 28 .lss 3 27 26] [1,2,4,7,8,9,11,17,18,19,25,26,27] [4,7,8,11]∧SX 66 (H2 1152613) [oi 29 22 25 27,ol 30 3 29,om 13 30] [1,2,4,7,8,9,11,17,18,19,25,26,27] [4,7,8,11]∧RX 66 (H2 1676901) (.drw [⟨[],[oq 31 (.ldz 207 (tq 11)),oz 32 238 4 0,oq 33 (.ldz 236 (tq 32)),om 34 1,oq 35 (.oth (.nilCheck (tq 34))),oz 36 250 35 0,oq 37 (.ldz 40 (tq 36)),oq 38 (.ldz 86 (tq 7)),om 39 9,om 40 2,om 41 9,oi 42 23 40 41,oq 43 (.ldz 22 (tq 42)),oz 44 86 7 0,oq 45 (.ldz 3 (tq 44)),oi 46 22 43 45,oq 47 (.ldz 3 (tq 46)),om 48 13,od 49 153 [tq 37,tq 38,tq 39,tq 47,tq 48],oq 50 (.call false none (tq 33) [tq 49])],[oq 51 (.call true none (.func 186) [tq 31,tq 50])]⟩,⟨[],[],[os (.sto 207 (tq 11) (tq 51))]⟩]) (some ([1,2,4,7,8,9,11,13,17,18,19,25,26,27],[4,7,8,11]))∧SX 66 (H2 497253) [oc 52 .add 3 27 1,om 27 52] [1,2,4,7,8,9,11,17,18,19,25,26,27] [4,7,8,11]∧SX 66 (H2 7781) [oz 53 207 8 0,ol 54 3 53,oz 55 207 11 0,ol 56 3 55,ob 57 .add 3 54 56,oz 58 207 8 1,ol 59 3 58,oz 60 207 11 1,ol 61 3 60,ob 62 .add 3 59 61,oq 63 (.build 207 [(0,tq 57),(1,tq 62)]),os (.sto 207 (tq 8) (tq 63))] [1,2,4,7,8,11,17,18,19] [4,7,8,11]∧SX 66 (H2 485) [oc 64 .add 3 19 1,om 19 64] [1,2,4,7,8,17,18,19] [4,7,8]∧SX 66 (H2 11) [ol 65 207 8,os (.sto 207 (tq 8) (tq 65))] [8] [8]∧LX 66 RH [1,2,4,7,8,17,18,19] [4,7,8]∧LX 66 RG [1,2,4,7,8,9,11,17,18,19,25,26,27] [4,7,8,11]:=⟨fun _ _=>rfl,fun _ _=>rfl,rx,rx,rx,rx,rx,rx,rx,rx,rx,rx,rx,rx,rx,lx,lx⟩
def AFC:=rg Tryz.f156
def AYN:Code:=(.seq (AFC 2) (.seq (AFC 5) .ret))
theorem A90:Tryz.f156.body=some AYN:=by kernel_rfl
@[simp] theorem BKK:SX 5 (AFC 2) [oq 1 (.box (tq 0)),ok 2 0] [0] [1]∧SX 5 (AFC 5) [oz 3 155 1 1,ol 4 3 3,om 2 4] [0,1,2] [1,2]:=⟨rx,rx⟩
def AFD:=rg Tryz.f158
def AYO:Code:=(.seq (AFD 2) (.seq (AFD 5) .ret))
theorem A91:Tryz.f158.body=some AYO:=by kernel_rfl
@[simp] theorem BKL:SX 5 (AFD 2) [oq 1 (.box (tq 0)),ok 2 0] [0] [1]∧SX 5 (AFD 5) [oz 3 155 1 2,ol 4 3 3,om 2 4] [0,1,2] [1,2]:=⟨rx,rx⟩
def DW:=rg Tryz.f117
@[simp] def pT:Code:=(.seq (DW 583840559) (.seq (.cond (.tmp 42) .skip (.exit 4)) (.seq (.block 5 (.seq (DW 9442210607) (DW 13737177903))) (DW 4073501487))))
def NA:=pT
@[simp] def pU:Code:=(.seq (DW 570159) (.seq (.cond (.tmp 34) .skip (.exit 2)) (.seq (.block 3 (.seq (DW 9220911) (.seq (DW 21803823) (.seq (.seq (DW 80524079) (.block 4 (.loop NA))) (DW 63746863))))) (DW 3978031))))
def NB:=pU
@[simp] def yG:Code:=(.seq (DW 559) (.seq (.cond (.tmp 26) .skip (.exit 0)) (.seq (.block 1 (.seq (DW 9007) (.seq (DW 21295) (.seq (.seq (DW 78639) (.block 2 (.loop NB))) (DW 62255))))) (DW 3887))))
def RI:=yG
def yH:Code:=(.seq (DW 2) (.seq (DW 5) (.seq (.seq (DW 19) (.cond (.tmp 21) (.seq (DW 75) .ret) .skip)) (.seq (DW 23) (.seq (.seq (DW 79) (.block 0 (.loop RI))) (.seq (DW 95) .ret))))))
theorem A92:Tryz.f117.body=some yH:=by kernel_rfl
@[simp] theorem A93(n:Nat)(st:XS):AE Tryz.prog ann kn (n+1) 90 (DW 23) st=PN (JN Tryz.prog (BQ Tryz.prog ann kn n) (.str [oq 8 (.mv (.const (.slice none 0 0)))]) (CB (some ([2,3,6],[2,3,17,900,901,902])) (N6 [902] st))) :=
 D1 (by kernel_rfl) (by kernel_rfl) (by kernel_rfl) (by kernel_rfl) (by kernel_rfl)
@[simp] theorem A52(n:Nat)(st:XS):AE Tryz.prog ann kn (n+1) 90 (DW 62255) st=PN (JN Tryz.prog (BQ Tryz.prog ann kn n) (.str [om 84 8,om 85 10,oq 86 (.buildS 197 1 [(0,tq 85)]),oq 87 (.app [tq 84,tq 86] [197,197]),om 8 87]) (CB (some ([2,3,6,8,10,24,25],[2,3,17,30,87])) (N6 [30] st))) :=
 D1 (by kernel_rfl) (by kernel_rfl) (by kernel_rfl) (by kernel_rfl) (by kernel_rfl)
@[simp] theorem BKM:UX 90 NA pT∧UX 90 NB pU∧UX 90 RI yG∧SX 90 (DW 2) [oq 2 (.box (tq 0)),oq 3 (.box (tq 1)),oq 4 (.mv (.const (.slice none 0 0))),ok 5 0] [0,1] [2,3,17,900,901,902]∧SX 90 (DW 5) [ol 15 40 2,oq 16 (.oth (.makeFunc (.func 155) #[] #[tq 2,tq 3])),od 17 154 [tq 15,tq 16],om 14 17,oq 18 (.oth (.extract (tq 14) 0)),oq 19 (.oth (.extract (tq 14) 1)),om 6 18,om 7 19] [2,3] [2,3,17,900,901,902]∧SX 90 (DW 19) [om 20 7,oc 21 .neq 34 20 0] [2,3,6,7] [2,3,17,900,901,902]∧SX 90 (DW 75) [om 22 7,oq 4 (.mv (.const (.slice none 0 0))),om 5 22] [7] []∧SX 90 (DW 79) [oz 23 40 2 1,ol 24 3 23,ok 25 0] [2,3,6,8] [2,3,17,87]∧SX 90 (DW 559) [ob 26 .lss 3 25 24] [2,3,6,8,24,25] [2,3,17,87]∧SX 90 (DW 9007) [om 27 25,om 9 27] [2,3,6,8,24,25] [2,3,17,87]∧SX 90 (DW 21295) [oz 28 40 2 2,ol 29 3 28,oq 30 (.mkS 204 (tq 29) (tq 29)),om 10 30] [2,3,6,8,9,24,25] [2,3,17,87]∧SX 90 (DW 78639) [om 31 10,oe 32 31 204,ok 33 0] [2,3,6,8,9,10,24,25] [2,3,17,30,87]∧SX 90 (DW 570159) [ob 34 .lss 3 33 32] [2,3,6,8,9,10,24,25,32,33] [2,3,17,30,87]∧SX 90 (DW 9220911) [om 35 33,om 11 35] [2,3,6,8,9,10,24,25,32,33] [2,3,17,30,87]∧SX 90 (DW 21803823) [om 36 9,om 37 11,oq 38 (.build 86 [(0,tq 36),(1,tq 37)]),oq 12 (.alloc 86),os (.sto 86 (tq 12) (tq 38))] [2,3,6,8,9,10,11,24,25,32,33] [2,3,17,30,87]∧SX 90 (DW 80524079) [ol 39 23 3,oe 40 39 23,ok 41 0] [2,3,6,8,9,10,11,12,24,25,32,33] [2,3,12,17,30,87]∧SX 90 (DW 583840559) [ob 42 .lss 3 41 40] [2,3,6,8,9,10,11,12,24,25,32,33,40,41] [2,3,12,17,30,87]∧SX 90 (DW 9442210607) [om 43 41,om 13 43] [2,3,6,8,9,10,11,12,24,25,32,33,40,41] [2,3,12,17,30,87]∧RX 90 (DW 13737177903) (.drw [⟨[],[om 44 10,om 45 11,oi 46 204 44 45,oz 47 209 46 0,oq 48 (.ldz 3 (tq 47)),oq 49 (.ldz 40 (tq 2)),oq 50 (.ldz 86 (tq 12)),om 51 13,oq 52 (.ldz 23 (tq 3)),om 53 13,oi 54 23 52 53,oq 55 (.ldz 22 (tq 54)),om 56 9,oi 57 22 55 56,oq 58 (.ldz 3 (tq 57)),od 59 153 [tq 49,tq 50,tq 51,tq 58,ci 0],oq 60 (.oth (.field 155 (tq 59) 0)),ob 61 .add 3 48 60,oi 62 204 44 45,oz 63 209 62 0,os (.sto 3 (tq 63) (tq 61))],[]⟩]) (some ([2,3,6,8,9,10,11,12,13,24,25,32,33,40,41],[2,3,12,17,30,87]))∧SX 90 (DW 4073501487) [oc 64 .add 3 41 1,om 41 64] [2,3,6,8,9,10,11,12,24,25,32,33,40,41] [2,3,12,17,30,87]∧RX 90 (DW 63746863) (.drw [⟨[73,78],[om 65 10,om 66 11,om 67 10,om 68 11,oq 69 (.build 238 [(0,.func 156)]),om 70 6,oq 71 (.ldz 23 (tq 3)),oq 72 (.ldz 86 (tq 12)),oq 74 (.build 238 [(0,.func 158)]),om 75 6,ol 76 23 3,ol 77 86 12,oq 73 (.call true none (.func 157) [tq 69,tq 70,tq 71,tq 72]),oq 78 (.call true none (.func 157) [tq 74,tq 75,tq 76,tq 77]),oi 79 204 65 66,oz 80 209 79 1,os (.sto 207 (tq 80) (tq 73)),oi 81 204 67 68,oz 82 209 81 2,os (.sto 207 (tq 82) (tq 78))],[]⟩]) (some ([2,3,6,8,9,10,11,12,24,25,32,33],[2,3,12,17,30,87]))∧SX 90 (DW 3978031) [oc 83 .add 3 33 1,om 33 83] [2,3,6,8,9,10,24,25,32,33] [2,3,17,30,87]∧SX 90 (DW 3887) [oc 88 .add 3 25 1,om 25 88] [2,3,6,8,24,25] [2,3,17,87]∧SX 90 (DW 95) [om 89 8,om 4 89,ok 5 0] [8] [87]∧LX 90 RI [2,3,6,8,24,25] [2,3,17,87]∧LX 90 NB [2,3,6,8,9,10,24,25,32,33] [2,3,17,30,87]∧LX 90 NA [2,3,6,8,9,10,11,12,24,25,32,33,40,41] [2,3,12,17,30,87]:=⟨fun _ _=>rfl,fun _ _=>rfl,fun _ _=>rfl,rx,rx,rx,rx,rx,rx,rx,rx,rx,rx,rx,rx,rx,rx,rx,rx,rx,rx,rx,rx,rx,lx,lx,lx⟩
def AFE:=rg Tryz.f155
def AYP:Code:=(.seq (AFE 2) (.seq (AFE 5) .ret))
theorem b155:Tryz.f155.body=some AYP:=by kernel_rfl
@[simp] theorem BKN:SX 6 (AFE 2) [ot 2 false] [0,1] []∧SX 6 (AFE 5) [ol 3 40 0,ol 4 23 1,od 5 111 [tq 3,tq 4],om 2 5] [0,1] []:=⟨rx,rx⟩
def PH:=rg Tryz.f187
@[simp] def yI:Code:=(.seq (PH 69) (.seq (.cond (.tmp 9) .skip (.exit 0)) (.seq (.block 1 (.seq (PH 1125) (.seq (PH 2661) (.cond (.tmp 16) (.seq (PH 9829) .ret) .skip)))) (PH 485))))
def RJ:=yI
def AMN:Code:=(.seq (PH 2) (.seq (.seq (PH 9) (.block 0 (.loop RJ))) (.seq (PH 11) .ret)))
theorem b187:Tryz.f187.body=some AMN:=by kernel_rfl
@[simp] theorem BKO:UX 19 RJ yI∧SX 19 (PH 2) [ok 4 0] [0,1] []∧SX 19 (PH 9) [om 6 0,oe 7 6 28,ok 8 0] [0,1] []∧SX 19 (PH 69) [ob 9 .lss 3 8 7] [0,1,7,8] []∧SX 19 (PH 1125) [om 10 8,om 5 10] [0,1,7,8] []∧SX 19 (PH 2661) [om 11 1,om 12 0,om 13 5,oi 14 28 12 13,ol 15 97 14,oq 16 (.call false none (tq 11) [tq 15])] [0,1,5,7,8] []∧SX 19 (PH 9829) [om 17 5,om 4 17] [5] []∧SX 19 (PH 485) [oc 18 .add 3 8 1,om 8 18] [0,1,3,7,8] []∧SX 19 (PH 11) [oq 4 (.mv (.const (.int .i64 (Int.negSucc 0))))] [] []∧LX 19 RJ [0,1,7,8] []:=⟨fun _ _=>rfl,rx,rx,rx,rx,rx,rx,rx,rx,lx⟩
def AFF:=rg Tryz.f159
def AYQ:Code:=(.seq (AFF 2) (.seq (AFF 5) .ret))
theorem b159:Tryz.f159.body=some AYQ:=by kernel_rfl
@[simp] theorem BKP:SX 9 (AFF 2) [ot 4 false] [0,1] [7]∧SX 9 (AFF 5) [om 5 0,om 6 1,od 7 187 [tq 5,tq 6],oc 8 .geq 3 7 0,om 4 8] [0,1,2,3] [2,3]:=⟨rx,rx⟩
def AFG:=rg Tryz.f119
def AYR:Code:=(.seq (AFG 2) (.seq (AFG 5) .ret))
theorem A94:Tryz.f119.body=some AYR:=by kernel_rfl
@[simp] theorem BKQ:SX 9 (AFG 2) [oq 3 (.box (tq 1)),ot 4 false] [0,1,2] [3]∧SX 9 (AFG 5) [om 5 0,oq 6 (.oth (.makeFunc (.func 160) #[] #[tq 3])),od 7 159 [tq 5,tq 6],ou 8 7,om 4 8] [0,1,2,3] [2,3]:=⟨rx,rx⟩
def AFH:=rg Tryz.f160
def AYS:Code:=(.seq (AFH 2) (.seq (AFH 5) .ret))
theorem b160:Tryz.f160.body=some AYS:=by kernel_rfl
@[simp] theorem BKR:SX 8 (AFH 2) [ot 3 false] [0,1] []∧SX 8 (AFH 5) [ol 4 200 1,om 5 0,oq 6 (.call false none (tq 4) [tq 5]),ou 7 6,om 3 7] [0,1,2] [2]:=⟨rx,rx⟩
def PI:=rg Tryz.f188
@[simp] def yJ:Code:=(.seq (PI 69) (.seq (.cond (.tmp 9) .skip (.exit 0)) (.seq (.block 1 (.seq (PI 1125) (.seq (PI 2661) (.cond (.tmp 16) (.seq (PI 9829) .ret) .skip)))) (PI 485))))
def RK:=yJ
def AMO:Code:=(.seq (PI 2) (.seq (.seq (PI 9) (.block 0 (.loop RK))) (.seq (PI 11) .ret)))
theorem b188:Tryz.f188.body=some AMO:=by kernel_rfl
@[simp] theorem BKS:UX 19 RK yJ∧SX 19 (PI 2) [ok 4 0] [0,1] []∧SX 19 (PI 9) [om 6 0,oe 7 6 41,ok 8 0] [0,1] []∧SX 19 (PI 69) [ob 9 .lss 3 8 7] [0,1,7,8] []∧SX 19 (PI 1125) [om 10 8,om 5 10] [0,1,7,8] []∧SX 19 (PI 2661) [om 11 1,om 12 0,om 13 5,oi 14 41 12 13,ol 15 94 14,oq 16 (.call false none (tq 11) [tq 15])] [0,1,5,7,8] []∧SX 19 (PI 9829) [om 17 5,om 4 17] [5] []∧SX 19 (PI 485) [oc 18 .add 3 8 1,om 8 18] [0,1,3,7,8] []∧SX 19 (PI 11) [oq 4 (.mv (.const (.int .i64 (Int.negSucc 0))))] [] []∧LX 19 RK [0,1,7,8] []:=⟨fun _ _=>rfl,rx,rx,rx,rx,rx,rx,rx,rx,lx⟩
def AFI:=rg Tryz.f161
def AYT:Code:=(.seq (AFI 2) (.seq (AFI 5) .ret))
theorem b161:Tryz.f161.body=some AYT:=by kernel_rfl
@[simp] theorem BKT:SX 9 (AFI 2) [ot 4 false] [0,1] [7]∧SX 9 (AFI 5) [om 5 0,om 6 1,od 7 188 [tq 5,tq 6],oc 8 .geq 3 7 0,om 4 8] [0,1,2,3] [2,3]:=⟨rx,rx⟩
def AFJ:=rg Tryz.f120
def AYU:Code:=(.seq (AFJ 2) (.seq (AFJ 5) .ret))
theorem A95:Tryz.f120.body=some AYU:=by kernel_rfl
@[simp] theorem BKU:SX 9 (AFJ 2) [oq 3 (.box (tq 1)),ot 4 false] [0,1,2] [3]∧SX 9 (AFJ 5) [om 5 0,oq 6 (.oth (.makeFunc (.func 162) #[] #[tq 3])),od 7 161 [tq 5,tq 6],ou 8 7,om 4 8] [0,1,2,3] [2,3]:=⟨rx,rx⟩
def AFK:=rg Tryz.f162
def AYV:Code:=(.seq (AFK 2) (.seq (AFK 5) .ret))
theorem b162:Tryz.f162.body=some AYV:=by kernel_rfl
@[simp] theorem BKV:SX 8 (AFK 2) [oq 2 (.box (tq 0)),ot 3 false] [0,1] []∧SX 8 (AFK 5) [ol 4 203 1,ol 5 94 2,oq 6 (.call false none (tq 4) [tq 5]),ou 7 6,om 3 7] [0,1,2] [2]:=⟨rx,rx⟩
def AFL:=rg Tryz.f163
def AYW:Code:=(.seq (AFL 2) (.seq (AFL 5) .ret))
theorem A96:Tryz.f163.body=some AYW:=by kernel_rfl
@[simp] theorem BKW:SX 15 (AFL 2) [ot 6 false] [0,1,2] []∧SX 15 (AFL 5) [om 7 1,om 8 0,ob 9 .leq 3 7 8,om 10 9,gm 10 true 11 0,gm 10 true 12 2,gb 10 true 13 .leq 3 11 12,oq 14 (.pick (tq 10) (tq 13) (cb false)),om 6 14] [0,1,2] []:=⟨rx,rx⟩
def AFM:=rg Tryz.f121
def AYX:Code:=(.seq (AFM 2) (.seq (AFM 5) .ret))
theorem A97:Tryz.f121.body=some AYX:=by kernel_rfl
@[simp] theorem BKX:SX 11 (AFM 2) [oq 1 (.box (tq 0)),ot 2 false] [0] [1,7,910,911]∧SX 11 (AFM 5) [oz 3 94 1 0,ol 4 3 3,od 5 163 [tq 4,ci 1,ci 4],om 6 5,gz 6 true 7 94 1 1,gl 6 true 8 3 7,gd 6 true 9 163 [tq 8,ci 0,ci 5],oq 10 (.pick (tq 6) (tq 9) (cb false)),om 2 10] [1] [1]:=⟨rx,rx⟩
def AFN:=rg Tryz.f118
def AYY:Code:=(.seq (AFN 2) (.seq (AFN 5) .ret))
theorem A98:Tryz.f118.body=some AYY:=by kernel_rfl
@[simp] theorem BKY:SX 11 (AFN 2) [oq 2 (.box (tq 0)),ot 4 false] [0,1] [2]∧SX 11 (AFN 5) [om 5 1,oe 6 5 97,oz 7 43 2 0,oz 8 40 7 2,ol 9 3 8,ob 10 .eql 3 6 9,om 4 10] [1,2] [2]:=⟨rx,rx⟩
def JZ:=rg Tryz.f71
@[simp] def yK:Code:=(.seq (JZ 4561279) (.seq (.cond (.tmp 63) .skip (.exit 2)) (.seq (.block 3 (.seq (JZ 73767295) (JZ 107321727))) (JZ 31824255))))
def RL:=yK
@[simp] def yL:Code:=(.seq (JZ 4479) (.seq (.cond (.tmp 57) .skip (.exit 0)) (.seq (.block 1 (.seq (JZ 72063) (.seq (JZ 170367) (.seq (.seq (JZ 629119) (.block 2 (.loop RL))) (JZ 498047))))) (JZ 31103))))
def RM:=yL
def c71:Code:=(.seq (JZ 2) (.seq (.seq (JZ 9) (.cond (.tmp 16) (.seq (JZ 37) .ret) .skip)) (.seq (JZ 11) (.seq (.seq (JZ 39) (.cond (.tmp 26) (.seq (JZ 151) .ret) .skip)) (.seq (JZ 47) (.seq (.seq (JZ 159) (.cond (.tmp 49) (.seq (JZ 607) .ret) .skip)) (.seq (JZ 191) (.seq (.seq (JZ 639) (.block 0 (.loop RM))) (.seq (JZ 767) .ret)))))))))
theorem b71:Tryz.f71.body=some c71:=by kernel_rfl
@[simp] theorem A99(n:Nat)(st:XS):AE Tryz.prog ann kn (n+1) 85 (JZ 767) st=PN (JN Tryz.prog (BQ Tryz.prog ann kn n) (.str [om 84 7,om 2 84,ok 3 0]) (CB (some ([7],[1,22,51,53,80])) (N6 [80,911051,912053] st))) :=
 D1 (by kernel_rfl) (by kernel_rfl) (by kernel_rfl) (by kernel_rfl) (by kernel_rfl)
@[simp] theorem x71:UX 85 RL yK∧UX 85 RM yL∧SX 85 (JZ 2) [oq 1 (.box (tq 0)),oq 2 (.mv (.const (.pointer none))),ok 3 0] [0] [1,22,51,53,80]∧SX 85 (JZ 9) [oz 13 43 1 3,ol 14 41 13,oe 15 14 41,oc 16 .gtr 3 15 3] [1] [1,22,51,53,80]∧SX 85 (JZ 37) [oq 2 (.mv (.const (.pointer none))),ok 3 3] [] []∧SX 85 (JZ 11) [oz 18 43 1 0,ol 19 40 18,oz 20 43 1 1,ol 21 23 20,od 22 117 [tq 19,tq 21],om 17 22,oq 23 (.oth (.extract (tq 17) 0)),oq 24 (.oth (.extract (tq 17) 1)),om 4 23,om 5 24] [1] [1,22,51,53,80]∧SX 85 (JZ 39) [om 25 5,oc 26 .neq 34 25 0] [1,4,5] [1,22,51,53,80]∧SX 85 (JZ 151) [om 27 5,oq 2 (.mv (.const (.pointer none))),om 3 27] [5] []∧SX 85 (JZ 47) [ol 28 43 1,oq 29 (.oth (.makeFunc (.func 118) #[tq 28] #[])),om 6 29] [1,4] [1,22,51,53,80]∧SX 85 (JZ 159) [oz 30 43 1 2,ol 31 28 30,oe 32 31 28,oz 33 43 1 0,oz 34 40 33 1,ol 35 3 34,ob 36 .neq 3 32 35,om 37 36,gz 37 false 38 43 1 2,gl 37 false 39 28 38,gm 37 false 40 6,gd 37 false 41 119 [tq 39,tq 40],og 37 false 42 (.oth (.unOp .not 4 (tq 41))),oq 43 (.pick (tq 37) (cb true) (tq 42)),om 44 43,gz 44 false 45 43 1 3,gl 44 false 46 41 45,gd 44 false 47 120 [tq 46,.func 121],og 44 false 48 (.oth (.unOp .not 4 (tq 47))),oq 49 (.pick (tq 44) (cb true) (tq 48))] [1,4,6] [1,22,51,53,80]∧SX 85 (JZ 607) [oq 2 (.mv (.const (.pointer none))),ok 3 1] [] []∧SX 85 (JZ 191) [ol 50 43 1,oq 51 (.mkM none),oq 52 (.build 175 [(0,tq 50),(1,.const (.slice none 0 0)),(2,tq 51)]),oq 53 (.box (tq 52)),om 7 53] [1,4] [1,22,51,53,80]∧SX 85 (JZ 639) [om 54 4,oe 55 54 197,ok 56 0] [4,7] [1,22,51,53,80]∧SX 85 (JZ 4479) [ob 57 .lss 3 56 55] [7,54,55,56] [1,22,51,53,80]∧SX 85 (JZ 72063) [oi 58 197 54 56,ol 59 204 58,om 9 59] [7,54,55,56] [1,22,51,53,80]∧SX 85 (JZ 170367) [oq 10 (.alloc 206)] [7,9,54,55,56] [1,22,51,53,80]∧SX 85 (JZ 629119) [om 60 9,oe 61 60 204,ok 62 0] [7,9,10,54,55,56] [1,10,22,51,53,80]∧SX 85 (JZ 4561279) [ob 63 .lss 3 62 61] [7,10,54,55,56,60,61,62] [1,10,22,51,53,80]∧SX 85 (JZ 73767295) [om 64 62,oi 65 204 60 62,ol 66 209 65,oq 12 (.alloc 209),om 11 64,os (.sto 209 (tq 12) (tq 66))] [7,10,54,55,56,60,61,62] [1,10,22,51,53,80]∧SX 85 (JZ 107321727) [om 67 11,oz 68 209 12 2,oz 69 207 68 0,ol 70 3 69,oi 71 206 10 67,os (.sto 3 (tq 71) (tq 70))] [7,10,11,12,54,55,56,60,61,62] [1,10,12,22,51,53,80]∧SX 85 (JZ 31824255) [oc 72 .add 3 62 1,om 62 72] [7,10,54,55,56,60,61,62] [1,10,22,51,53,80]∧RX 85 (JZ 498047) (.drw [⟨[],[om 73 7,om 74 7,oq 75 (.oth (.nilCheck (tq 74))),oz 76 175 75 1,oq 77 (.ldz 172 (tq 76)),ol 78 206 10,oq 79 (.buildS 172 1 [(0,tq 78)]),oq 80 (.app [tq 77,tq 79] [172,172]),oq 81 (.oth (.nilCheck (tq 73))),oz 82 175 81 1,os (.sto 172 (tq 82) (tq 80))],[]⟩]) (some ([7,10,54,55,56],[1,10,22,51,53,80]))∧SX 85 (JZ 31103) [oc 83 .add 3 56 1,om 56 83] [7,54,55,56] [1,22,51,53,80]∧LX 85 RM [7,54,55,56] [1,22,51,53,80]∧LX 85 RL [7,10,54,55,56,60,61,62] [1,10,22,51,53,80]:=⟨fun _ _=>rfl,fun _ _=>rfl,rx,rx,rx,rx,rx,rx,rx,rx,rx,rx,rx,rx,rx,rx,rx,rx,rx,rx,rx,rx,rx,lx,lx⟩
def g24:=rg Tryz.f24
def c24:Code:=(.seq (g24 2) (.seq (g24 5) (.seq (g24 11) .ret)))
theorem b24:Tryz.f24.body=some c24:=by kernel_rfl
@[simp] theorem x24:SX 11 (g24 2) [oq 1 (.box (tq 0)),ok 2 0] [0] [1,7,910,911]∧SX 11 (g24 5) [ol 6 43 1,od 7 71 [tq 6],om 5 7,oq 8 (.oth (.extract (tq 5) 0)),oq 9 (.oth (.extract (tq 5) 1)),om 3 8,om 4 9] [1] [1,7,910,911]∧SX 11 (g24 11) [om 10 4,om 2 10] [4] []:=⟨rx,rx,rx⟩
def PJ:=rg Tryz.f189
@[simp] def yM:Code:=(.seq (PJ 69) (.seq (.cond (.tmp 9) .skip (.exit 0)) (.seq (.block 1 (.seq (PJ 1125) (.seq (PJ 2661) (.cond (.tmp 16) (.seq (PJ 9829) .ret) .skip)))) (PJ 485))))
def RN:=yM
def AMP:Code:=(.seq (PJ 2) (.seq (.seq (PJ 9) (.block 0 (.loop RN))) (.seq (PJ 11) .ret)))
theorem b189:Tryz.f189.body=some AMP:=by kernel_rfl
@[simp] theorem BK0:UX 19 RN yM∧SX 19 (PJ 2) [ok 4 0] [0,1] []∧SX 19 (PJ 9) [om 6 0,oe 7 6 120,ok 8 0] [0,1] []∧SX 19 (PJ 69) [ob 9 .lss 3 8 7] [0,1,7,8] []∧SX 19 (PJ 1125) [om 10 8,om 5 10] [0,1,7,8] []∧SX 19 (PJ 2661) [om 11 1,om 12 0,om 13 5,oi 14 120 12 13,ol 15 153 14,oq 16 (.call false none (tq 11) [tq 15])] [0,1,5,7,8] []∧SX 19 (PJ 9829) [om 17 5,om 4 17] [5] []∧SX 19 (PJ 485) [oc 18 .add 3 8 1,om 8 18] [0,1,3,7,8] []∧SX 19 (PJ 11) [oq 4 (.mv (.const (.int .i64 (Int.negSucc 0))))] [] []∧LX 19 RN [0,1,7,8] []:=⟨fun _ _=>rfl,rx,rx,rx,rx,rx,rx,rx,rx,lx⟩
def AFQ:=rg Tryz.f171
def AYZ:Code:=(.seq (AFQ 2) (.seq (AFQ 5) .ret))
theorem b171:Tryz.f171.body=some AYZ:=by kernel_rfl
@[simp] theorem BK1:SX 9 (AFQ 2) [ot 4 false] [0,1] [7]∧SX 9 (AFQ 5) [om 5 0,om 6 1,od 7 189 [tq 5,tq 6],oc 8 .geq 3 7 0,om 4 8] [0,1,2,3] [2,3]:=⟨rx,rx⟩
def AFR:=rg Tryz.f137
def AY0:Code:=(.seq (AFR 2) (.seq (AFR 5) .ret))
theorem b137:Tryz.f137.body=some AY0:=by kernel_rfl
@[simp] theorem BK2:SX 9 (AFR 2) [oq 3 (.box (tq 1)),ot 4 false] [0,1,2] [3]∧SX 9 (AFR 5) [om 5 0,oq 6 (.oth (.makeFunc (.func 172) #[] #[tq 3])),od 7 171 [tq 5,tq 6],ou 8 7,om 4 8] [0,1,2,3] [2,3]:=⟨rx,rx⟩
def AFS:=rg Tryz.f172
def AY1:Code:=(.seq (AFS 2) (.seq (AFS 5) .ret))
theorem b172:Tryz.f172.body=some AY1:=by kernel_rfl
@[simp] theorem BK3:SX 8 (AFS 2) [oq 2 (.box (tq 0)),ot 3 false] [0,1] []∧SX 8 (AFS 5) [ol 4 221 1,ol 5 153 2,oq 6 (.call false none (tq 4) [tq 5]),ou 7 6,om 3 7] [0,1,2] [2]:=⟨rx,rx⟩
def tP:=rg Tryz.f173
def AY2:Code:=(.seq (tP 2) (.seq (tP 5) (.seq (tP 11) .ret)))
theorem BAB:Tryz.f173.body=some AY2:=by kernel_rfl
@[simp] theorem BK4:SX 38 (tP 2) [oq 3 (.box (tq 0)),ot 6 false] [0,1,2] [3]∧RX 38 (tP 5) (.drw [⟨[7,8],[oz 9 43 3 3,oq 10 (.ldz 41 (tq 9)),om 11 1,oi 12 41 10 11,oq 13 (.ldz 94 (tq 12)),oz 14 43 3 3,ol 15 41 14,om 16 2,oi 17 41 15 16,ol 18 94 17,oq 7 (.alloc 94),oq 8 (.alloc 94),os (.sto 94 (tq 7) (tq 13))],[os (.sto 94 (tq 8) (tq 18))]⟩]) (some ([1,2,3],[3]))∧SX 38 (tP 11) [om 19 1,om 20 2,ob 21 .neq 3 19 20,om 22 21,gz 22 true 23 94 7 3,gl 22 true 24 4 23,gm 22 true 25 24,gz 25 true 26 94 8 2,gl 25 true 27 4 26,og 22 true 28 (.pick (tq 25) (tq 27) (cb false)),gm 22 true 29 28,gz 29 false 30 94 7 2,gl 29 false 31 4 30,gm 29 false 32 31,gz 32 true 33 94 8 3,gl 32 true 34 4 33,og 29 false 35 (.pick (tq 32) (tq 34) (cb false)),og 22 true 36 (.pick (tq 29) (cb true) (tq 35)),oq 37 (.pick (tq 22) (tq 36) (cb false)),om 6 37] [1,2,7,8] [7,8]:=⟨rx,rx,rx⟩
def AFT:=rg Tryz.f136
def AY3:Code:=(.seq (AFT 2) (.seq (AFT 5) .ret))
theorem BAC:Tryz.f136.body=some AY3:=by kernel_rfl
@[simp] theorem BK5:SX 26 (AFT 2) [oq 2 (.box (tq 0)),oq 3 (.box (tq 1)),ot 4 false] [0,1] [2]∧SX 26 (AFT 5) [oz 5 153 3 1,oz 6 86 5 0,ol 7 3 6,oz 8 43 2 0,oz 9 40 8 1,ol 10 3 9,oc 11 .sub 3 10 1,od 12 163 [tq 7,ci 0,tq 11],om 13 12,gz 13 true 14 153 3 1,gz 13 true 15 86 14 1,gl 13 true 16 3 15,gz 13 true 17 43 2 0,gz 13 true 18 40 17 2,gl 13 true 19 3 18,gz 13 true 20 153 3 0,gz 13 true 21 151 20 1,gl 13 true 22 3 21,gb 13 true 23 .sub 3 19 22,gd 13 true 24 163 [tq 16,ci 0,tq 23],oq 25 (.pick (tq 13) (tq 24) (cb false)),om 4 25] [2,3] [2,3]:=⟨rx,rx⟩
def Z7:=rg Tryz.f139
def yN:Code:=(.seq (Z7 2) (.seq (.seq (Z7 9) (.cond (.tmp 14) (.seq (Z7 37) .ret) .skip)) (.seq (Z7 11) (.seq (Z7 23) .ret))))
theorem BAD:Tryz.f139.body=some yN:=by kernel_rfl
@[simp] theorem BK6:SX 55 (Z7 2) [oq 3 (.box (tq 0)),oq 4 (.box (tq 1)),oq 5 (.box (tq 2)),ot 6 false] [0,1,2] [3]∧SX 55 (Z7 9) [oz 8 153 4 1,oz 9 86 8 0,ol 10 3 9,oz 11 153 5 1,oz 12 86 11 0,ol 13 3 12,ob 14 .neq 3 10 13] [3,4,5] [3,4,5]∧SX 55 (Z7 37) [ot 6 true] [] []∧SX 55 (Z7 11) [oz 15 153 4 1,oz 16 86 15 1,ol 17 3 16,oz 18 153 5 1,oz 19 86 18 1,ol 20 3 19,ob 21 .sub 3 17 20,oz 22 153 5 0,oz 23 151 22 1,ol 24 3 23,ob 25 .sub 3 21 24,oz 26 153 5 1,oz 27 86 26 1,ol 28 3 27,oz 29 153 4 1,oz 30 86 29 1,ol 31 3 30,ob 32 .sub 3 28 31,oz 33 153 4 0,oz 34 151 33 1,ol 35 3 34,ob 36 .sub 3 32 35,oq 37 (.oth (.call ⟨.builtin .max,#[tq 25,tq 36],#[3,3]⟩)),om 7 37] [3,4,5] [3,4,5]∧SX 55 (Z7 23) [om 38 7,oc 39 .gtr 3 38 0,om 40 39,gm 40 false 41 7,gc 40 false 42 .eql 3 41 0,gm 40 false 43 42,gl 43 true 44 43 3,gz 43 true 45 153 4 0,gz 43 true 46 151 45 0,gl 43 true 47 3 46,gz 43 true 48 153 5 0,gz 43 true 49 151 48 0,gl 43 true 50 3 49,gd 43 true 51 173 [tq 44,tq 47,tq 50],og 43 true 52 (.oth (.unOp .not 4 (tq 51))),og 40 false 53 (.pick (tq 43) (tq 52) (cb false)),oq 54 (.pick (tq 40) (cb true) (tq 53)),om 6 54] [3,4,5,7] [3,4,5]:=⟨rx,rx,rx,rx,rx⟩
def IV:=rg Tryz.f140
@[simp] def yO:Code:=(.seq (IV 18021) (.seq (.cond (.tmp 17) .skip (.exit 2)) (.seq (.block 3 (.seq (IV 288357) (.seq (IV 681573) (.cond (.tmp 20) (IV 1468005) .skip)))) (IV 124517))))
def RO:=yO
@[simp] def yP:Code:=(.seq (IV 69) (.seq (.cond (.tmp 11) .skip (.exit 0)) (.seq (.block 1 (.seq (IV 1125) (.seq (IV 2661) (.block 2 (.loop RO))))) (IV 485))))
def RP:=yP
def AY4:Code:=(.seq (IV 2) (.seq (.seq (IV 9) (.block 0 (.loop RP))) (.seq (IV 11) .ret)))
theorem BAE:Tryz.f140.body=some AY4:=by kernel_rfl
@[simp] theorem BK7:UX 26 RO yO∧UX 26 RP yP∧SX 26 (IV 2) [oq 1 (.box (tq 0)),ok 2 0] [0] [1]∧SX 26 (IV 9) [oz 7 43 1 2,ol 8 28 7,oe 9 8 28,ok 10 0] [1,2] [1]∧SX 26 (IV 69) [ob 11 .lss 3 10 9] [2,8,9,10] [1]∧SX 26 (IV 1125) [oi 12 28 8 10,ol 13 97 12,om 4 13] [2,8,9,10] [1]∧SX 26 (IV 2661) [om 14 4,oe 15 14 97,ok 16 0] [2,4,8,9,10] [1]∧SX 26 (IV 18021) [ob 17 .lss 3 16 15] [2,8,9,10,14,15,16] [1]∧SX 26 (IV 288357) [oi 18 97 14 16,ol 19 4 18,om 6 19] [2,8,9,10,14,15,16] [1]∧SX 26 (IV 681573) [om 20 6] [2,6,8,9,10,14,15,16] [1]∧SX 26 (IV 1468005) [om 21 2,oc 22 .add 3 21 1,om 2 22] [2,8,9,10,14,15,16] [1]∧SX 26 (IV 124517) [oc 23 .add 3 16 1,om 16 23] [2,8,9,10,14,15,16] [1]∧SX 26 (IV 485) [oc 24 .add 3 10 1,om 10 24] [2,8,9,10] [1]∧SX 26 (IV 11) [om 25 2,om 2 25] [2] []∧LX 26 RP [2,8,9,10] [1]∧LX 26 RO [2,8,9,10,14,15,16] [1]:=⟨fun _ _=>rfl,fun _ _=>rfl,rx,rx,rx,rx,rx,rx,rx,rx,rx,rx,rx,rx,lx,lx⟩
def lQ:=rg Tryz.f92
@[simp] def AI5:Code:=(.seq (lQ 69) (.seq (.cond (.tmp 11) .skip (.exit 0)) (.seq (.block 1 (.seq (lQ 1125) (.seq (lQ 2661) (.cond (.tmp 18) (lQ 5733) .skip)))) (lQ 485))))
def WR:=AI5
def c92:Code:=(.seq (lQ 2) (.seq (.seq (lQ 9) (.block 0 (.loop WR))) (.seq (lQ 11) .ret)))
theorem b92:Tryz.f92.body=some c92:=by kernel_rfl
@[simp] theorem x92:UX 28 WR AI5∧SX 28 (lQ 2) [oq 2 (.box (tq 0)),oq 4 (.mv (.const (.slice none 0 0)))] [0,1] [2]∧SX 28 (lQ 9) [oz 7 43 2 3,ol 8 41 7,oe 9 8 41,ok 10 0] [1,2,4] [2,25]∧SX 28 (lQ 69) [ob 11 .lss 3 10 9] [1,4,8,9,10] [2,25]∧SX 28 (lQ 1125) [om 12 10,oi 13 41 8 10,ol 14 94 13,oq 6 (.alloc 94),om 5 12,os (.sto 94 (tq 6) (tq 14))] [1,4,8,9,10] [2,25]∧SX 28 (lQ 2661) [om 15 1,om 16 5,od 17 132 [tq 15,tq 16],ou 18 17] [1,4,5,6,8,9,10] [2,6,25]∧SX 28 (lQ 5733) [om 19 4,om 20 5,oz 21 94 6 0,ol 22 3 21,oq 23 (.build 151 [(0,tq 20),(1,tq 22)]),oq 24 (.buildS 170 1 [(0,tq 23)]),oq 25 (.app [tq 19,tq 24] [170,170]),om 4 25] [1,4,5,6,8,9,10] [2,6,25]∧SX 28 (lQ 485) [oc 26 .add 3 10 1,om 10 26] [1,4,8,9,10] [2,25]∧SX 28 (lQ 11) [om 27 4,om 4 27] [4] [25]∧LX 28 WR [1,4,8,9,10] [2,25]:=⟨fun _ _=>rfl,rx,rx,rx,rx,rx,rx,rx,rx,lx⟩
def pV:=rg Tryz.f72
@[simp] def AI6:Code:=(lp (pV 267) 8 0 1 (pV 587) (pV 459))
def WS:=AI6
def c72:Code:=(.seq (pV 2) (.seq (pV 5) (.seq (.seq (pV 19) (.block 0 (.loop WS))) (.seq (pV 23) .ret))))
theorem b72:Tryz.f72.body=some c72:=by kernel_rfl
@[simp] theorem x72:UX 19 WS AI6∧SX 19 (pV 2) [ok 2 0] [0] []∧SX 19 (pV 5) [ok 3 0] [0] []∧SX 19 (pV 19) [ok 4 0] [0,3] []∧SX 19 (pV 267) [om 5 4,om 6 0,oe 7 6 49,ob 8 .lss 3 5 7] [0,3,4] []∧SX 19 (pV 587) [om 11 3,om 12 0,om 13 4,oi 14 49 12 13,oz 15 135 14 1,ol 16 3 15,ob 17 .add 3 11 16,om 3 17] [0,3,4] []∧SX 19 (pV 459) [om 9 4,oc 10 .add 3 9 1,om 4 10] [0,3,4] []∧SX 19 (pV 23) [om 18 3,om 2 18] [0,1,3,7,8] []∧LX 19 WS [0,3,4] []:=⟨fun _ _=>rfl,rx,rx,rx,rx,rx,rx,rx,lx⟩
def Z1:=rg Tryz.f73
@[simp] def AI7:Code:=(lp (Z1 16971) 20 2 3 (.seq (Z1 70219) (.cond (.tmp 30) (Z1 168523) .skip)) (Z1 29259))
def WT:=AI7
@[simp] def AI8:Code:=(lp (Z1 267) 10 0 1 (.seq (Z1 1099) (.block 2 (.loop WT))) (Z1 459))
def WU:=AI8
def c73:Code:=(.seq (Z1 2) (.seq (Z1 5) (.seq (.seq (Z1 19) (.block 0 (.loop WU))) (.seq (Z1 23) .ret))))
theorem b73:Tryz.f73.body=some c73:=by kernel_rfl
@[simp] theorem x73:UX 34 WT AI7∧UX 34 WU AI8∧SX 34 (Z1 2) [oq 1 (.box (tq 0)),ok 2 0] [0] [1]∧SX 34 (Z1 5) [ok 3 0] [1] [1]∧SX 34 (Z1 19) [ok 4 0] [1,3] [1]∧SX 34 (Z1 267) [om 6 4,oz 7 31 1 2,ol 8 28 7,oe 9 8 28,ob 10 .lss 3 6 9] [1,3,4] [1]∧SX 34 (Z1 1099) [ok 5 0] [1,3,4] [1]∧SX 34 (Z1 16971) [om 13 5,oz 14 31 1 2,ol 15 28 14,om 16 4,oi 17 28 15 16,ol 18 97 17,oe 19 18 97,ob 20 .lss 3 13 19] [1,3,4,5] [1]∧SX 34 (Z1 70219) [oz 23 31 1 2,ol 24 28 23,om 25 4,oi 26 28 24 25,ol 27 97 26,om 28 5,oi 29 97 27 28,ol 30 4 29] [1,3,4,5] [1]∧SX 34 (Z1 168523) [om 31 3,oc 32 .add 3 31 1,om 3 32] [1,3,4,5] [1]∧SX 34 (Z1 29259) [om 21 5,oc 22 .add 3 21 1,om 5 22] [1,3,4,5] [1]∧SX 34 (Z1 459) [om 11 4,oc 12 .add 3 11 1,om 4 12] [1,3,4] [1]∧SX 34 (Z1 23) [om 33 3,om 2 33] [3] []∧LX 34 WU [1,3,4] [1]∧LX 34 WT [1,3,4,5] [1]:=⟨fun _ _=>rfl,fun _ _=>rfl,rx,rx,rx,rx,rx,rx,rx,rx,rx,rx,rx,lx,lx⟩
def tQ:=rg Tryz.f122
def AY5:Code:=(.seq (tQ 2) (.seq (tQ 5) (.seq (tQ 11) .ret)))
theorem BAF:Tryz.f122.body=some AY5:=by kernel_rfl
@[simp] theorem BLB:SX 38 (tQ 2) [oq 3 (.box (tq 0)),ot 6 false] [0,1,2] [3]∧RX 38 (tQ 5) (.drw [⟨[7,8],[oz 9 31 3 3,oq 10 (.ldz 29 (tq 9)),om 11 1,oi 12 29 10 11,oq 13 (.ldz 57 (tq 12)),oz 14 31 3 3,ol 15 29 14,om 16 2,oi 17 29 15 16,ol 18 57 17,oq 7 (.alloc 57),oq 8 (.alloc 57),os (.sto 57 (tq 7) (tq 13))],[os (.sto 57 (tq 8) (tq 18))]⟩]) (some ([1,2,3],[3]))∧SX 38 (tQ 11) [om 19 1,om 20 2,ob 21 .neq 3 19 20,om 22 21,gz 22 true 23 57 7 3,gl 22 true 24 4 23,gm 22 true 25 24,gz 25 true 26 57 8 2,gl 25 true 27 4 26,og 22 true 28 (.pick (tq 25) (tq 27) (cb false)),gm 22 true 29 28,gz 29 false 30 57 8 3,gl 29 false 31 4 30,gm 29 false 32 31,gz 32 true 33 57 7 2,gl 32 true 34 4 33,og 29 false 35 (.pick (tq 32) (tq 34) (cb false)),og 22 true 36 (.pick (tq 29) (cb true) (tq 35)),oq 37 (.pick (tq 22) (tq 36) (cb false)),om 6 37] [1,2,7,8] [7,8]:=⟨rx,rx,rx⟩
def MH:=rg Tryz.f74
@[simp] def yQ:Code:=(lp (MH 8689967) 73 4 5 (.seq (MH 35952943) (.seq (MH 86284591) (.cond (.tmp 111) (.seq (MH 321165615) .ret) .skip))) (MH 14981423))
def RQ:=yQ
@[simp] def yR:Code:=(lp (MH 137519) 68 2 3 (.seq (MH 563503) (.block 4 (.loop RQ))) (MH 235823))
def RS:=yR
@[simp] def AI9:Code:=(lp (MH 1071) 51 0 1 (.seq (.seq (MH 8495) (.cond (.tmp 61) (.exit 1) .skip)) (.seq (MH 10543) (.block 2 (.loop RS)))) (MH 1839))
def WV:=AI9
def c74:Code:=(.seq (MH 2) (.seq (MH 5) (.seq (MH 11) (.seq (.seq (MH 39) (.cond (.tmp 48) (.seq (MH 151) .ret) .skip)) (.seq (.seq (MH 79) (.block 0 (.loop WV))) (.seq (MH 95) .ret))))))
theorem b74:Tryz.f74.body=some c74:=by kernel_rfl
@[simp] theorem x74:UX 112 RQ yQ∧UX 112 RS yR∧UX 112 WV AI9∧SX 112 (MH 2) [oq 3 (.box (tq 0)),ot 6 false] [0,1,2] [3]∧SX 112 (MH 5) [om 14 2,oe 15 14 24,oc 16 .sub 3 15 1,om 7 16] [1,2,3] [3]∧RX 112 (MH 11) (.drw [⟨[8],[om 17 2,om 18 7,oi 19 24 17 18,oq 20 (.ldz 59 (tq 19)),om 21 1,om 22 7,oi 23 49 21 22,oz 24 135 23 1,ol 25 3 24,oq 8 (.alloc 59),os (.sto 59 (tq 8) (tq 20)),om 9 25],[]⟩]) (some ([1,2,3,7],[3]))∧SX 112 (MH 39) [oz 26 59 8 0,ol 27 3 26,oz 28 31 3 0,oz 29 27 28 1,ol 30 3 29,oc 31 .sub 3 30 1,od 32 57 [tq 27,ci 0,tq 31],ou 33 32,om 34 33,gz 34 false 35 59 8 1,gl 34 false 36 3 35,gc 34 false 37 .lss 3 36 0,oq 38 (.pick (tq 34) (cb true) (tq 37)),om 39 38,gz 39 false 40 59 8 1,gl 39 false 41 3 40,gz 39 false 42 31 3 0,gz 39 false 43 27 42 2,gl 39 false 44 3 43,gm 39 false 45 9,gb 39 false 46 .sub 3 44 45,gb 39 false 47 .gtr 3 41 46,oq 48 (.pick (tq 39) (cb true) (tq 47))] [1,2,3,7,8,9] [3,8]∧SX 112 (MH 151) [ot 6 false] [] []∧SX 112 (MH 79) [ok 10 0] [1,2,3,7,8,9] [3,8]∧SX 112 (MH 1071) [om 49 10,om 50 7,ob 51 .lss 3 49 50] [1,2,3,7,8,9,10] [3,8]∧RX 112 (MH 8495) (.drw [⟨[],[om 54 2,om 55 10,oi 56 24 54 55,oz 57 59 56 0,ol 58 3 57,oz 59 59 8 0,ol 60 3 59,ob 61 .neq 3 58 60],[]⟩]) (some ([1,2,3,7,8,9,10],[3,8]))∧SX 112 (MH 10543) [ok 11 0] [1,2,3,7,8,9,10] [3,8]∧SX 112 (MH 137519) [om 62 11,om 63 1,om 64 10,oi 65 49 63 64,oz 66 135 65 1,ol 67 3 66,ob 68 .lss 3 62 67] [1,2,3,7,8,9,10,11] [3,8]∧SX 112 (MH 563503) [ok 12 0] [1,2,3,7,8,9,10,11] [3,8]∧SX 112 (MH 8689967) [om 71 12,om 72 9,ob 73 .lss 3 71 72] [1,2,3,7,8,9,10,11,12] [3,8]∧RX 112 (MH 35952943) (.drw [⟨[],[om 76 2,om 77 10,oi 78 24 76 77,oz 79 59 78 1,ol 80 3 79,om 81 11,ob 82 .add 3 80 81,oz 83 59 8 1,ol 84 3 83,ob 85 .sub 3 82 84,om 86 12,ob 87 .sub 3 85 86,om 13 87],[]⟩]) (some ([1,2,3,7,8,9,10,11,12],[3,8]))∧RX 112 (MH 86284591) (.drw [⟨[],[om 88 13,oc 89 .eql 3 88 0,om 90 89,gm 90 false 91 13,gc 90 false 92 .eql 3 91 1,gm 90 false 93 92,gm 93 false 94 13,og 93 false 95 (.bin .eql 3 (tq 94) (.const (.int .i64 (Int.negSucc 0)))),og 90 false 96 (.pick (tq 93) (cb true) (tq 95)),gm 90 false 97 96,gl 97 true 98 31 3,gm 97 true 99 1,gm 97 true 100 10,gi 97 true 101 49 99 100,gz 97 true 102 135 101 0,gl 97 true 103 3 102,gm 97 true 104 1,gm 97 true 105 7,gi 97 true 106 49 104 105,gz 97 true 107 135 106 0,gl 97 true 108 3 107],[gd 97 true 109 122 [tq 98,tq 103,tq 108]]⟩,⟨[],[og 90 false 110 (.pick (tq 97) (tq 109) (cb false)),oq 111 (.pick (tq 90) (cb true) (tq 110))],[]⟩]) (some ([1,2,3,7,8,9,10,11,12,13],[3,8]))∧SX 112 (MH 321165615) [ot 6 false] [] []∧SX 112 (MH 14981423) [om 74 12,oc 75 .add 3 74 1,om 12 75] [1,2,3,7,8,9,10,11,12] [3,8]∧SX 112 (MH 235823) [om 69 11,oc 70 .add 3 69 1,om 11 70] [1,2,3,7,8,9,10,11] [3,8]∧SX 112 (MH 1839) [om 52 10,oc 53 .add 3 52 1,om 10 53] [1,2,3,7,8,9,10] [3,8]∧SX 112 (MH 95) [ot 6 true] [] []∧LX 112 WV [1,2,3,7,8,9,10] [3,8]∧LX 112 RS [1,2,3,7,8,9,10,11] [3,8]∧LX 112 RQ [1,2,3,7,8,9,10,11,12] [3,8]:=⟨fun _ _=>rfl,fun _ _=>rfl,fun _ _=>rfl,rx,rx,rx,rx,rx,rx,rx,rx,rx,rx,rx,rx,rx,rx,rx,rx,rx,rx,rx,lx,lx,lx⟩
def KN:=rg Tryz.f109
@[simp] def yS:Code:=(.seq (KN 139) (.seq (.cond (.tmp 11) .skip (.exit 0)) (.seq (.block 1 (.seq (KN 2251) (.seq (KN 5323) (.seq (KN 11467) (.cond (.tmp 31) (.seq (KN 40139) .ret) .skip))))) (KN 971))))
def RT:=yS
def AMQ:Code:=(.seq (KN 2) (.seq (KN 5) (.seq (.seq (KN 19) (.block 0 (.loop RT))) (.seq (KN 23) .ret))))
theorem BAH:Tryz.f109.body=some AMQ:=by kernel_rfl
@[simp] theorem BLD:UX 37 RT yS∧SX 37 (KN 2) [oq 2 (.box (tq 0)),ot 4 false] [0,1] [2,7,32]∧SX 37 (KN 5) [ok 5 0] [1,2] [2,7]∧SX 37 (KN 19) [om 8 1,oe 9 8 120,ok 10 0] [1,2,5] [2,7]∧SX 37 (KN 139) [ob 11 .lss 3 10 9] [1,2,5,8,9,10] [2,7]∧SX 37 (KN 2251) [om 12 10,oi 13 120 8 10,ol 14 153 13,oq 7 (.alloc 153),om 6 12,os (.sto 153 (tq 7) (tq 14))] [1,2,5,8,9,10] [2,7]∧SX 37 (KN 5323) [om 15 5,oz 16 153 7 0,oz 17 151 16 1,ol 18 3 17,ob 19 .add 3 15 18,om 5 19] [1,2,5,6,7,8,9,10] [2,7]∧SX 37 (KN 11467) [ol 20 43 2,ol 21 153 7,od 22 136 [tq 20,tq 21],ou 23 22,om 24 23,gm 24 false 25 1,gm 24 false 26 6,og 24 false 27 (.oth (.slice 120 (tq 25) none (some (tq 26)) none)),og 24 false 28 (.oth (.makeFunc (.func 138) #[] #[tq 2,tq 7])),gd 24 false 29 137 [tq 27,tq 28],og 24 false 30 (.oth (.unOp .not 4 (tq 29))),oq 31 (.pick (tq 24) (cb true) (tq 30))] [1,2,5,6,7,8,9,10] [2,7]∧SX 37 (KN 40139) [ot 4 false] [] []∧SX 37 (KN 971) [oc 32 .add 3 10 1,om 10 32] [1,2,5,6,8,9,10,16,17,18] [2,7,16,31]∧SX 37 (KN 23) [om 33 5,ol 34 43 2,od 35 140 [tq 34],ob 36 .leq 3 33 35,om 4 36] [2,5] [2,7]∧LX 37 RT [1,2,5,8,9,10] [2,7]:=⟨fun _ _=>rfl,rx,rx,rx,rx,rx,rx,rx,rx,rx,rx,lx⟩
def AFU:=rg Tryz.f138
def AY6:Code:=(.seq (AFU 2) (.seq (AFU 5) .ret))
theorem b138:Tryz.f138.body=some AY6:=by kernel_rfl
@[simp] theorem BLE:SX 9 (AFU 2) [oq 3 (.box (tq 0)),ot 4 false] [0,1,2] [3]∧SX 9 (AFU 5) [ol 5 43 1,ol 6 153 2,ol 7 153 3,od 8 139 [tq 5,tq 6,tq 7],om 4 8] [0,1,2,3] [2,3]:=⟨rx,rx⟩
def aW:=rg Tryz.f65
@[simp] def AJA:Code:=(.seq (aW 279) (.seq (.cond (.tmp 19) .skip (.exit 0)) (.seq (.block 1 (.seq (aW 4503) (aW 6551))) (aW 1943))))
def WW:=AJA
def c65:Code:=(.seq (aW 2) (.seq (.seq (aW 9) (.cond (.tmp 14) (.seq (aW 37) .ret) .skip)) (.seq (aW 11) (.seq (.seq (aW 39) (.block 0 (.loop WW))) (.seq (aW 47) .ret)))))
theorem b65:Tryz.f65.body=some c65:=by kernel_rfl
@[simp] theorem BEP(n:Nat)(st:XS):AE Tryz.prog ann kn (n+1) 37 (aW 47) st=PN (JN Tryz.prog (BQ Tryz.prog ann kn n) (.str [om 33 6,ol 34 43 2,om 35 6,od 36 109 [tq 34,tq 35],om 4 33,om 5 36]) (CB (some ([2,6],[2,16,31])) (N6 [31] st))) :=
 D1 (by kernel_rfl) (by kernel_rfl) (by kernel_rfl) (by kernel_rfl) (by kernel_rfl)
@[simp] theorem x65:UX 37 WW AJA∧SX 37 (aW 2) [oq 2 (.box (tq 0)),oq 4 (.mv (.const (.slice none 0 0))),ot 5 false] [0,1] [2,16]∧SX 37 (aW 9) [om 9 1,oe 10 9 37,oz 11 43 2 3,ol 12 41 11,oe 13 12 41,ob 14 .neq 3 10 13] [1,2] [2,16]∧SX 37 (aW 37) [oq 4 (.mv (.const (.slice none 0 0))),ot 5 false] [] []∧SX 37 (aW 11) [oq 6 (.mv (.const (.slice none 0 0)))] [1,2] [2,16]∧SX 37 (aW 39) [ol 15 43 2,od 16 92 [tq 15,.const (.slice none 0 0)],oe 17 16 170,ok 18 0] [1,2,6] [2,16,31]∧SX 37 (aW 279) [ob 19 .lss 3 18 17] [1,2,6,16,17,18] [2,16,31]∧SX 37 (aW 4503) [om 20 18,oi 21 170 16 18,ol 22 151 21,oq 8 (.alloc 151),om 7 20,os (.sto 151 (tq 8) (tq 22))] [1,2,6,16,17,18] [2,16,31]∧RX 37 (aW 6551) (.drw [⟨[],[om 23 6,ol 24 151 8,om 25 1,om 26 7,oi 27 37 25 26,ol 28 86 27,oq 29 (.build 153 [(0,tq 24),(1,tq 28)]),oq 30 (.buildS 120 1 [(0,tq 29)]),oq 31 (.app [tq 23,tq 30] [120,120]),om 6 31],[]⟩]) (some ([1,2,6,7,8,16,17,18],[2,8,16,31]))∧SX 37 (aW 1943) [oc 32 .add 3 18 1,om 18 32] [1,2,5,6,8,9,10,16,17,18] [2,7,16,31]∧LX 37 WW [1,2,6,16,17,18] [2,16,31]:=⟨fun _ _=>rfl,rx,rx,rx,rx,rx,rx,rx,rx,rx,lx⟩
def TK:=rg Tryz.f18
@[simp] def AJB:Code:=(lp (TK 267) 31 0 1 (.seq (TK 1099) (.cond (.tmp 40) (.seq (TK 4683) .ret) .skip)) (TK 459))
def WX:=AJB
@[simp] def AJC:Code:=(lp (TK 535) 45 2 3 (.seq (TK 2199) (.cond (.tmp 54) (.seq (TK 9367) .ret) .skip)) (TK 919))
def WY:=AJC
def c18:Code:=(.seq (TK 2) (.seq (.seq (TK 9) (.cond (.tmp 26) (.seq (TK 37) .ret) .skip)) (.seq (.seq (TK 19) (.block 0 (.loop WX))) (.seq (.seq (TK 39) (.block 2 (.loop WY))) (.seq (TK 47) .ret)))))
theorem b18:Tryz.f18.body=some c18:=by kernel_rfl
@[simp] theorem x18:UX 55 WX AJB∧UX 55 WY AJC∧SX 55 (TK 2) [oq 1 (.box (tq 0)),ot 2 false] [0] [1]∧SX 55 (TK 9) [oz 5 31 1 0,ol 6 27 5,od 7 64 [tq 6],ou 8 7,om 9 8,gz 9 false 10 31 1 1,gl 9 false 11 23 10,ge 9 false 12 11 23,gc 9 false 13 .gtr 3 12 7,oq 14 (.pick (tq 9) (cb true) (tq 13)),om 15 14,gz 15 false 16 31 1 2,gl 15 false 17 28 16,ge 15 false 18 17 28,gc 15 false 19 .gtr 3 18 7,oq 20 (.pick (tq 15) (cb true) (tq 19)),om 21 20,gz 21 false 22 31 1 3,gl 21 false 23 29 22,ge 21 false 24 23 29,gc 21 false 25 .gtr 3 24 5,oq 26 (.pick (tq 21) (cb true) (tq 25))] [1] [1]∧SX 55 (TK 37) [ot 2 false] [] []∧SX 55 (TK 19) [ok 3 0] [1] [1]∧SX 55 (TK 267) [om 27 3,oz 28 31 1 1,ol 29 23 28,oe 30 29 23,ob 31 .lss 3 27 30] [1,3] [1]∧SX 55 (TK 1099) [oz 34 31 1 1,ol 35 23 34,om 36 3,oi 37 23 35 36,ol 38 22 37,oe 39 38 22,oc 40 .gtr 3 39 7] [1,3] [1]∧SX 55 (TK 4683) [ot 2 false] [] []∧SX 55 (TK 459) [om 32 3,oc 33 .add 3 32 1,om 3 33] [1,3] [1]∧SX 55 (TK 39) [ok 4 0] [1] [1]∧SX 55 (TK 535) [om 41 4,oz 42 31 1 2,ol 43 28 42,oe 44 43 28,ob 45 .lss 3 41 44] [1,4] [1]∧SX 55 (TK 2199) [oz 48 31 1 2,ol 49 28 48,om 50 4,oi 51 28 49 50,ol 52 97 51,oe 53 52 97,oc 54 .gtr 3 53 7] [1,4] [1]∧SX 55 (TK 9367) [ot 2 false] [] []∧SX 55 (TK 919) [om 46 4,oc 47 .add 3 46 1,om 4 47] [1,4] [1]∧SX 55 (TK 47) [ot 2 true] [] []∧LX 55 WX [1,3] [1]∧LX 55 WY [1,4] [1]:=⟨fun _ _=>rfl,fun _ _=>rfl,rx,rx,rx,rx,rx,rx,rx,rx,rx,rx,rx,rx,rx,rx,lx,lx⟩
def pW:=rg Tryz.f69
@[simp] def AJD:Code:=(lp (pW 267) 8 0 1 (pW 587) (pW 459))
def WZ:=AJD
def c69:Code:=(.seq (pW 2) (.seq (pW 5) (.seq (.seq (pW 19) (.block 0 (.loop WZ))) (.seq (pW 23) .ret))))
theorem b69:Tryz.f69.body=some c69:=by kernel_rfl
@[simp] theorem BER(n:Nat)(st:XS):AE Tryz.prog ann kn (n+1) 20 (pW 459) st=PN (JN Tryz.prog (BQ Tryz.prog ann kn n) (.str [om 9 4,oc 10 .add 3 9 1,om 4 10]) (CB (some ([0,3,4],[18])) (N6 [16,2000000000000018] st))) :=
 D1 (by kernel_rfl) (by kernel_rfl) (by kernel_rfl) (by kernel_rfl) (by kernel_rfl)
@[simp] theorem x69:UX 20 WZ AJD∧SX 20 (pW 2) [oq 2 (.mv (.const (.slice none 0 0)))] [0] []∧SX 20 (pW 5) [oq 3 (.mv (.const (.slice none 0 0)))] [0] []∧SX 20 (pW 19) [ok 4 0] [0,3] [18]∧SX 20 (pW 267) [om 5 4,om 6 0,oe 7 6 23,ob 8 .lss 3 5 7] [0,3,4] [18]∧SX 20 (pW 587) [om 11 3,om 12 0,om 13 4,oi 14 23 12 13,ol 15 22 14,oq 16 (.app [.const (.slice none 0 0),tq 15] [22,22]),oq 17 (.buildS 23 1 [(0,tq 16)]),oq 18 (.app [tq 11,tq 17] [23,23]),om 3 18] [0,3,4] [18]∧SX 20 (pW 23) [om 19 3,om 2 19] [3] [18]∧LX 20 WZ [0,3,4] [18]:=⟨fun _ _=>rfl,rx,rx,rx,rx,rx,rx,lx⟩
def pX:=rg Tryz.f22
@[simp] def AJE:Code:=(lp (pX 267) 8 0 1 (pX 587) (pX 459))
def W0:=AJE
def c22:Code:=(.seq (pX 2) (.seq (pX 5) (.seq (.seq (pX 19) (.block 0 (.loop W0))) (.seq (pX 23) .ret))))
theorem b22:Tryz.f22.body=some c22:=by kernel_rfl
@[simp] theorem BET(n:Nat)(st:XS):AE Tryz.prog ann kn (n+1) 20 (pX 459) st=PN (JN Tryz.prog (BQ Tryz.prog ann kn n) (.str [om 9 4,oc 10 .add 3 9 1,om 4 10]) (CB (some ([0,3,4],[18])) (N6 [16,2000000000000018] st))) :=
 D1 (by kernel_rfl) (by kernel_rfl) (by kernel_rfl) (by kernel_rfl) (by kernel_rfl)
@[simp] theorem x22:UX 20 W0 AJE∧SX 20 (pX 2) [oq 2 (.mv (.const (.slice none 0 0)))] [0] []∧SX 20 (pX 5) [oq 3 (.mv (.const (.slice none 0 0)))] [0] []∧SX 20 (pX 19) [ok 4 0] [0,3] [18]∧SX 20 (pX 267) [om 5 4,om 6 0,oe 7 6 24,ob 8 .lss 3 5 7] [0,3,4] [18]∧SX 20 (pX 587) [om 11 3,om 12 0,om 13 4,oi 14 24 12 13,ol 15 59 14,od 16 48 [tq 15],oq 17 (.buildS 37 1 [(0,tq 16)]),oq 18 (.app [tq 11,tq 17] [37,37]),om 3 18] [0,3,4] [18]∧SX 20 (pX 23) [om 19 3,om 2 19] [3] [18]∧LX 20 W0 [0,3,4] [18]:=⟨fun _ _=>rfl,rx,rx,rx,rx,rx,rx,lx⟩
def lR:=rg Tryz.f26
@[simp] def AJF:Code:=(lp (lR 267) 11 0 1 (.seq (lR 1099) (.cond (.tmp 19) (lR 2635) .skip)) (lR 459))
def W1:=AJF
def c26:Code:=(.seq (lR 2) (.seq (lR 5) (.seq (.seq (lR 19) (.block 0 (.loop W1))) (.seq (lR 23) .ret))))
theorem b26:Tryz.f26.body=some c26:=by kernel_rfl
@[simp] theorem x26:UX 32 W1 AJF∧SX 32 (lR 2) [oq 2 (.box (tq 0)),oq 4 (.mv (.const (.slice none 0 0)))] [0,1] [2]∧SX 32 (lR 5) [oq 5 (.mv (.const (.slice none 0 0)))] [1,2] [2]∧SX 32 (lR 19) [ok 6 0] [1,2,5] [2,30]∧SX 32 (lR 267) [om 7 6,oz 8 31 2 3,ol 9 29 8,oe 10 9 29,ob 11 .lss 3 7 10] [1,2,5,6] [2,30]∧SX 32 (lR 1099) [om 14 1,om 15 6,oq 16 (.oth (.convert 3 115 (tq 15))),ob 17 .shr 3 14 16,oc 18 .rem 3 17 2,oc 19 .eql 3 18 0] [1,2,5,6] [2,30]∧SX 32 (lR 2635) [om 20 5,om 21 6,oz 22 31 2 3,ol 23 29 22,om 24 6,oi 25 29 23 24,oz 26 57 25 0,ol 27 3 26,oq 28 (.build 135 [(0,tq 21),(1,tq 27)]),oq 29 (.buildS 49 1 [(0,tq 28)]),oq 30 (.app [tq 20,tq 29] [49,49]),om 5 30] [1,2,5,6] [2,30]∧SX 32 (lR 459) [om 12 6,oc 13 .add 3 12 1,om 6 13] [1,2,5,6] [2,30]∧SX 32 (lR 23) [om 31 5,om 4 31] [5] [30]∧LX 32 W1 [1,2,5,6] [2,30]:=⟨fun _ _=>rfl,rx,rx,rx,rx,rx,rx,rx,rx,lx⟩
def U0:=rg Tryz.f67
@[simp] def AJG:Code:=(.seq (U0 71269) (.seq (.cond (.tmp 37) .skip (.exit 2)) (.seq (.block 3 (.seq (U0 1152613) (U0 1676901))) (U0 497253))))
def W2:=AJG
@[simp] def AJH:Code:=(.seq (U0 69) (.seq (.cond (.tmp 15) .skip (.exit 0)) (.seq (.block 1 (.seq (U0 1125) (.seq (U0 2661) (.seq (.seq (U0 9829) (.block 2 (.loop W2))) (U0 7781))))) (U0 485))))
def W3:=AJH
def c67:Code:=(.seq (U0 2) (.seq (.seq (U0 9) (.block 0 (.loop W3))) (.seq (U0 11) .ret)))
theorem b67:Tryz.f67.body=some c67:=by kernel_rfl
@[simp] theorem x67:UX 51 W2 AJG∧UX 51 W3 AJH∧SX 51 (U0 2) [oq 3 (.box (tq 0)),oq 6 (.mv (.const (.slice none 0 0)))] [0,1,2] [3]∧SX 51 (U0 9) [om 12 1,oe 13 12 120,ok 14 0] [1,2,6] [48]∧SX 51 (U0 69) [ob 15 .lss 3 14 13] [2,6,12,13,14] [48]∧SX 51 (U0 1125) [oi 16 120 12 14,ol 17 153 16,oq 8 (.alloc 153),os (.sto 153 (tq 8) (tq 17))] [2,6,12,13,14] [48]∧SX 51 (U0 2661) [ok 9 0] [2,6,8,12,13,14] [8,48]∧RX 51 (U0 9829) (.drw [⟨[],[om 18 2,oz 19 153 8 1,oz 20 86 19 0,ol 21 3 20,oi 22 123 18 21,ol 23 156 22,oz 24 153 8 1,oz 25 86 24 1,ol 26 3 25,oz 27 153 8 1,oz 28 86 27 1,ol 29 3 28,oz 30 153 8 0,oz 31 151 30 1,ol 32 3 31,ob 33 .add 3 29 32,oq 34 (.oth (.slice 156 (tq 23) (some (tq 26)) (some (tq 33)) none)),oe 35 34 156,ok 36 0],[]⟩]) (some ([2,6,8,9,12,13,14],[8,48]))∧SX 51 (U0 71269) [ob 37 .lss 3 36 35] [2,6,9,12,13,14,34,35,36] [48]∧SX 51 (U0 1152613) [oi 38 156 34 36,ol 39 155 38,oq 11 (.alloc 155),os (.sto 155 (tq 11) (tq 39))] [2,6,9,12,13,14,34,35,36] [48]∧SX 51 (U0 1676901) [om 40 9,oz 41 155 11 2,ol 42 3 41,ob 43 .add 3 40 42,om 9 43] [2,6,9,11,12,13,14,34,35,36] [11,48]∧SX 51 (U0 497253) [oc 44 .add 3 36 1,om 36 44] [2,6,9,12,13,14,34,35,36] [48]∧SX 51 (U0 7781) [om 45 6,om 46 9,oq 47 (.buildS 22 1 [(0,tq 46)]),oq 48 (.app [tq 45,tq 47] [22,22]),om 6 48] [2,6,9,12,13,14] [48]∧SX 51 (U0 485) [oc 49 .add 3 14 1,om 14 49] [2,6,12,13,14] [48]∧SX 51 (U0 11) [om 50 6,om 6 50] [6] [48]∧LX 51 W3 [2,6,12,13,14] [48]∧LX 51 W2 [2,6,9,12,13,14,34,35,36] [48]:=⟨fun _ _=>rfl,fun _ _=>rfl,rx,rx,rx,rx,rx,rx,rx,rx,rx,rx,rx,rx,rx,lx,lx⟩
def fH:=rg Tryz.f25
@[simp] def AJI:Code:=(lp (fH 267) 23 0 1 (.seq (fH 1099) (.cond (.tmp 33) (.seq (fH 4683) .ret) .skip)) (fH 459))
def W4:=AJI
def c25:Code:=(.seq (fH 2) (.seq (.seq (fH 9) (.cond (.tmp 19) (.seq (fH 37) .ret) .skip)) (.seq (.seq (fH 19) (.block 0 (.loop W4))) (.seq (fH 23) .ret))))
theorem b25:Tryz.f25.body=some c25:=by kernel_rfl
@[simp] theorem x25:UX 34 W4 AJI∧SX 34 (fH 2) [oq 3 (.box (tq 0)),ot 6 false] [0,1,2] [3]∧RX 34 (fH 9) (.drw [⟨[],[om 8 2,oe 9 8 24,om 10 1,oe 11 10 49,ob 12 .neq 3 9 11,om 13 12,gm 13 false 14 1,gd 13 false 15 72 [tq 14],gl 13 false 16 31 3],[gd 13 false 17 73 [tq 16]]⟩,⟨[],[gb 13 false 18 .gtr 3 15 17,oq 19 (.pick (tq 13) (cb true) (tq 18))],[]⟩]) (some ([1,2,3],[3]))∧SX 34 (fH 37) [ot 6 false] [] []∧SX 34 (fH 19) [ok 7 0] [1,2,3] [3]∧SX 34 (fH 267) [om 20 7,om 21 2,oe 22 21 24,ob 23 .lss 3 20 22] [1,2,3,7] [3]∧RX 34 (fH 1099) (.drw [⟨[],[ol 26 31 3,om 27 1,om 28 2,om 29 7,oc 30 .add 3 29 1,oq 31 (.oth (.slice 24 (tq 28) none (some (tq 30)) none))],[od 32 74 [tq 26,tq 27,tq 31]]⟩,⟨[],[ou 33 32],[]⟩]) (some ([1,2,3,7],[3]))∧SX 34 (fH 4683) [ot 6 false] [] []∧SX 34 (fH 459) [om 24 7,oc 25 .add 3 24 1,om 7 25] [1,2,3,7] [3]∧SX 34 (fH 23) [ot 6 true] [] []∧LX 34 W4 [1,2,3,7] [3]:=⟨fun _ _=>rfl,rx,rx,rx,rx,rx,rx,rx,rx,rx,lx⟩
def fI:=rg Tryz.f29
@[simp] def AJJ:Code:=(lp (fI 267) 17 0 1 (.seq (fI 1099) (.seq (fI 2635) (fI 3659))) (fI 459))
def W5:=AJJ
def c29:Code:=(.seq (fI 2) (.seq (fI 5) (.seq (.seq (fI 19) (.block 0 (.loop W5))) (.seq (fI 23) .ret))))
theorem b29:Tryz.f29.body=some c29:=by kernel_rfl
@[simp] theorem x29:UX 44 W5 AJJ∧SX 44 (fI 2) [oq 4 (.box (tq 0)),oq 5 (.box (tq 1)),oq 6 (.box (tq 2)),ok 8 0,ot 9 false] [0,1,2,3] [4]∧SX 44 (fI 5) [ok 10 0,ot 11 true] [3,5,6] [5,6]∧SX 44 (fI 19) [ok 12 0] [3,5,6,10,11] [5,6]∧SX 44 (fI 267) [om 14 12,oz 15 57 5 0,ol 16 3 15,ob 17 .lss 3 14 16] [3,5,6,10,11,12] [5,6]∧RX 44 (fI 1099) (.drw [⟨[],[om 20 3,oz 21 59 6 0,ol 22 3 21,oi 23 52 20 22,ol 24 137 23,oz 25 59 6 1,ol 26 3 25,om 27 12,ob 28 .add 3 26 27,oi 29 137 24 28,oz 30 139 29 2,ol 31 3 30,om 13 31],[]⟩]) (some ([3,5,6,10,11,12],[5,6]))∧SX 44 (fI 2635) [om 32 10,om 33 13,ob 34 .add 3 32 33,om 10 34] [3,5,6,10,11,12,13] [5,6]∧SX 44 (fI 3659) [om 35 11,om 36 35,gm 36 true 37 13,gz 36 true 38 57 5 1,gl 36 true 39 3 38,gb 36 true 40 .geq 3 37 39,oq 41 (.pick (tq 36) (tq 40) (cb false)),om 11 41] [3,5,6,10,11,12,13] [5,6]∧SX 44 (fI 459) [om 18 12,oc 19 .add 3 18 1,om 12 19] [3,5,6,10,11,12] [5,6]∧SX 44 (fI 23) [om 42 10,om 43 11,om 8 42,om 9 43] [10,11] []∧LX 44 W5 [3,5,6,10,11,12] [5,6]:=⟨fun _ _=>rfl,rx,rx,rx,rx,rx,rx,rx,rx,rx,lx⟩
def V1:=rg Tryz.f21
@[simp] def AJK:Code:=(lp (V1 267) 18 0 1 (V1 587) (V1 459))
def W6:=AJK
@[simp] def AJL:Code:=(lp (V1 535) 36 2 3 (.seq (V1 2199) (V1 3223)) (V1 919))
def W7:=AJL
def c21:Code:=(.seq (V1 2) (.seq (V1 5) (.seq (.seq (V1 19) (.block 0 (.loop W6))) (.seq (.seq (V1 39) (.block 2 (.loop W7))) (.seq (V1 47) .ret)))))
theorem b21:Tryz.f21.body=some c21:=by kernel_rfl
@[simp] theorem BEX(n:Nat)(st:XS):AE Tryz.prog ann kn (n+1) 59 (V1 459) st=PN (JN Tryz.prog (BQ Tryz.prog ann kn n) (.str [om 19 4,oc 20 .add 3 19 1,om 4 20]) (CB (some ([1,2,3,4],[1,2,3,9,12,30,56])) (N6 [28,2000000000000030] st))) :=
 D1 (by kernel_rfl) (by kernel_rfl) (by kernel_rfl) (by kernel_rfl) (by kernel_rfl)
@[simp] theorem x21:UX 59 W6 AJK∧UX 59 W7 AJL∧SX 59 (V1 2) [oq 1 (.box (tq 0)),oq 2 (.alloc 43)] [0] [1,2,3,9,12,30,56]∧RX 59 (V1 5) (.drw [⟨[3],[oz 7 31 1 0,oq 8 (.ldz 27 (tq 7)),od 9 68 [tq 8],oz 10 31 1 1,oq 11 (.ldz 23 (tq 10)),od 12 69 [tq 11],oq 13 (.build 43 [(0,tq 9),(1,tq 12)]),oq 3 (.alloc 43)],[os (.sto 43 (tq 3) (tq 13))]⟩]) (some ([1,2],[1,2,30,56]))∧SX 59 (V1 19) [ok 4 0] [1,2,3] [1,2,3,9,12,30,56]∧SX 59 (V1 267) [om 14 4,oz 15 31 1 2,ol 16 28 15,oe 17 16 28,ob 18 .lss 3 14 17] [1,2,3,4] [1,2,3,9,12,30,56]∧RX 59 (V1 587) (.drw [⟨[],[oz 21 43 3 2,ol 22 28 21,oz 23 31 1 2,ol 24 28 23,om 25 4,oi 26 28 24 25,ol 27 97 26,oq 28 (.app [.const (.slice none 0 0),tq 27] [97,97]),oq 29 (.buildS 28 1 [(0,tq 28)]),oq 30 (.app [tq 22,tq 29] [28,28]),oz 31 43 3 2],[os (.sto 28 (tq 31) (tq 30))]⟩]) (some ([1,2,3,4],[1,2,3,9,12,30,56]))∧SX 59 (V1 39) [ok 5 0] [1,2,3] [1,2,3,9,12,30,56]∧SX 59 (V1 535) [om 32 5,oz 33 31 1 3,ol 34 29 33,oe 35 34 29,ob 36 .lss 3 32 35] [1,2,3,5] [1,2,3,9,12,30,56]∧SX 59 (V1 2199) [oz 39 31 1 3,ol 40 29 39,om 41 5,oi 42 29 40 41,ol 43 57 42,oq 6 (.alloc 57),os (.sto 57 (tq 6) (tq 43))] [1,2,3,5] [1,2,3,9,12,30,56]∧SX 59 (V1 3223) [oz 44 43 3 3,ol 45 41 44,oz 46 57 6 0,ol 47 3 46,oz 48 57 6 1,ol 49 3 48,oz 50 57 6 2,ol 51 4 50,oz 52 57 6 3,ol 53 4 52,oq 54 (.build 94 [(0,tq 47),(1,tq 49),(2,tq 51),(3,tq 53)]),oq 55 (.buildS 41 1 [(0,tq 54)]),oq 56 (.app [tq 45,tq 55] [41,41]),oz 57 43 3 3,os (.sto 41 (tq 57) (tq 56))] [1,2,3,5,6] [1,2,3,6,9,12,30,56]∧SX 59 (V1 919) [om 37 5,oc 38 .add 3 37 1,om 5 38] [1,2,3,5] [1,2,3,9,12,30,56]∧SX 59 (V1 47) [ol 58 43 3,os (.sto 43 (tq 2) (tq 58))] [2,3] [1,2,3,9,12,30,56]∧LX 59 W6 [1,2,3,4] [1,2,3,9,12,30,56]∧LX 59 W7 [1,2,3,5] [1,2,3,9,12,30,56]:=⟨fun _ _=>rfl,fun _ _=>rfl,rx,rx,rx,rx,rx,rx,rx,rx,rx,rx,rx,lx,lx⟩
def RU:=rg Tryz.f116
@[simp] def yT:Code:=(lp (RU 133) 9 0 1 (.seq (RU 549) (.cond (.tmp 27) (.seq (RU 2341) .ret) .skip)) (RU 229))
def RV:=yT
def AY8:Code:=(.seq (RU 2) (.seq (.seq (RU 9) (.block 0 (.loop RV))) (.seq (RU 11) .ret)))
theorem BAJ:Tryz.f116.body=some AY8:=by kernel_rfl
@[simp] theorem BLO:UX 34 RV yT∧SX 34 (RU 2) [oq 2 (.box (tq 0)),ot 4 false] [0,1] [2]∧SX 34 (RU 9) [ok 5 0] [1,2] [2]∧SX 34 (RU 133) [om 6 5,om 7 1,oe 8 7 23,ob 9 .lss 3 6 8] [1,2,5] [2]∧RX 34 (RU 549) (.drw [⟨[],[om 12 1,om 13 5,oi 14 23 12 13,ol 15 22 14,oe 16 15 22,oz 17 27 2 1,ol 18 3 17,ob 19 .neq 3 16 18,om 20 19,gm 20 false 21 1,gm 20 false 22 5,gi 20 false 23 23 21 22,gl 20 false 24 22 23],[gd 20 false 25 134 [tq 24,ci 0]]⟩,⟨[],[og 20 false 26 (.oth (.unOp .not 4 (tq 25))),oq 27 (.pick (tq 20) (cb true) (tq 26))],[]⟩]) (some ([1,2,5],[2]))∧SX 34 (RU 2341) [ot 4 false] [] []∧SX 34 (RU 229) [om 10 5,oc 11 .add 3 10 1,om 5 11] [1,2,5] [2]∧SX 34 (RU 11) [om 28 1,oe 29 28 23,oz 30 27 2 0,ol 31 3 30,oc 32 .add 3 31 1,ob 33 .eql 3 29 32,om 4 33] [1,2] [2]∧LX 34 RV [1,2,5] [2]:=⟨fun _ _=>rfl,rx,rx,rx,rx,rx,rx,rx,lx⟩
def fJ:=rg Tryz.f27
@[simp] def AJM:Code:=(lp (fJ 267) 15 0 1 (.seq (fJ 1099) (.cond (.tmp 28) (.seq (fJ 4683) .ret) .skip)) (fJ 459))
def W8:=AJM
def c27:Code:=(.seq (fJ 2) (.seq (.seq (fJ 9) (.cond (.tmp 11) (.seq (fJ 37) .ret) .skip)) (.seq (.seq (fJ 19) (.block 0 (.loop W8))) (.seq (fJ 23) .ret))))
theorem b27:Tryz.f27.body=some c27:=by kernel_rfl
@[simp] theorem x27:UX 29 W8 AJM∧SX 29 (fJ 2) [oq 2 (.box (tq 0)),ot 4 false] [0,1] [2]∧SX 29 (fJ 9) [om 6 1,oe 7 6 22,oz 8 27 2 6,ol 9 23 8,oe 10 9 23,ob 11 .neq 3 7 10] [1,2] [2]∧SX 29 (fJ 37) [ot 4 false] [] []∧SX 29 (fJ 19) [ok 5 0] [1,2] [2]∧SX 29 (fJ 267) [om 12 5,om 13 1,oe 14 13 22,ob 15 .lss 3 12 14] [1,2,5] [2]∧RX 29 (fJ 1099) (.drw [⟨[],[oz 18 27 2 6,ol 19 23 18,om 20 5,oi 21 23 19 20,ol 22 22 21,om 23 1,om 24 5,oi 25 22 23 24,ol 26 3 25],[od 27 75 [tq 22,tq 26]]⟩,⟨[],[ou 28 27],[]⟩]) (some ([1,2,5],[2]))∧SX 29 (fJ 4683) [ot 4 false] [] []∧SX 29 (fJ 459) [om 16 5,oc 17 .add 3 16 1,om 5 17] [1,2,5] [2]∧SX 29 (fJ 23) [ot 4 true] [] []∧LX 29 W8 [1,2,5] [2]:=⟨fun _ _=>rfl,rx,rx,rx,rx,rx,rx,rx,rx,rx,lx⟩
def MV:=rg Tryz.f102
@[simp] def yU:Code:=(lp (MV 267) 14 0 1 (.seq (MV 1099) (.cond (.tmp 32) (.seq (MV 4683) .ret) .skip)) (MV 459))
def RW:=yU
def AMR:Code:=(.seq (MV 2) (.seq (.seq (MV 9) (.cond (.tmp 9) (.seq (MV 37) .ret) .skip)) (.seq (.seq (MV 19) (.block 0 (.loop RW))) (.seq (MV 23) .ret))))
theorem BAL:Tryz.f102.body=some AMR:=by kernel_rfl
@[simp] theorem BLQ:UX 33 RW yU∧SX 33 (MV 2) [oq 2 (.box (tq 0)),ot 4 false] [0,1] [2,4,5,30]∧SX 33 (MV 9) [ol 6 27 2,om 7 1,od 8 27 [tq 6,tq 7],ou 9 8] [1,2] [2]∧SX 33 (MV 37) [ot 4 false] [] []∧SX 33 (MV 19) [ok 5 0] [1,2] [2]∧SX 33 (MV 267) [om 10 5,oz 11 27 2 8,ol 12 25 11,oe 13 12 25,ob 14 .lss 3 10 13] [1,2,5] [2]∧RX 33 (MV 1099) (.drw [⟨[],[om 17 1,oz 18 27 2 8,ol 19 25 18,om 20 5,oi 21 25 19 20,oz 22 188 21 0,ol 23 3 22,oi 24 22 17 23,ol 25 3 24,oz 26 27 2 8,ol 27 25 26,om 28 5,oi 29 25 27 28,oz 30 188 29 1,ol 31 3 30,ob 32 .neq 3 25 31],[]⟩]) (some ([1,2,5],[2]))∧SX 33 (MV 4683) [ot 4 false] [] []∧SX 33 (MV 459) [om 15 5,oc 16 .add 3 15 1,om 5 16] [1,2,5] [2]∧SX 33 (MV 23) [ot 4 true] [] []∧LX 33 RW [1,2,5] [2]:=⟨fun _ _=>rfl,rx,rx,rx,rx,rx,rx,rx,rx,rx,lx⟩
def J0:=rg Tryz.f76
@[simp] def yV:Code:=(lp (J0 68759) 53 3 4 (.seq (J0 281751) (.cond (.tmp 62) (.seq (J0 1199255) .ret) .skip)) (J0 117911))
def RY:=yV
@[simp] def AJN:Code:=(lp (J0 535) 21 0 1 (.seq (.seq (J0 4247) (.block 2 (.seq (J0 18583) (.cond (.tmp 25) (J0 43159) (.seq (J0 92311) (.cond (.tmp 31) (J0 190615) (.seq (J0 387223) (.cond (.tmp 37) (J0 780439) (.seq (J0 1566871) (.cond (.tmp 43) (J0 3139735) .skip)))))))))) (.seq (J0 5271) (.block 3 (.loop RY)))) (J0 919))
def W9:=AJN
def c76:Code:=(.seq (J0 2) (.seq (.seq (J0 9) (.cond (.tmp 16) (.seq (J0 37) .ret) .skip)) (.seq (J0 11) (.seq (.seq (J0 39) (.block 0 (.loop W9))) (.seq (J0 47) .ret)))))
theorem b76:Tryz.f76.body=some c76:=by kernel_rfl
@[simp] theorem x76:UX 63 RY yV∧UX 63 W9 AJN∧SX 63 (J0 2) [oq 4 (.box (tq 0)),oq 5 (.box (tq 1)),ot 8 false] [0,1,2,3] [4]∧SX 63 (J0 9) [om 12 2,oc 13 .add 3 12 2,oc 14 .rem 3 13 4,om 15 3,ob 16 .eql 3 14 15] [2,3,4,5] [4,5]∧SX 63 (J0 37) [ot 8 true] [] []∧SX 63 (J0 11) [ol 17 59 5,oq 9 (.alloc 59),os (.sto 59 (tq 9) (tq 17))] [3,4,5] [4,5]∧SX 63 (J0 39) [ok 10 0] [3,4,9] [4,9]∧SX 63 (J0 535) [om 18 10,oz 19 27 4 3,ol 20 3 19,ob 21 .lss 3 18 20] [3,4,9,10] [4,9]∧SX 63 (J0 4247) [om 24 3] [3,4,9,10] [4,9]∧SX 63 (J0 18583) [oc 26 .eql 3 24 0,om 25 26] [3,4,9,10,24] [4,9]∧SX 63 (J0 43159) [oz 27 59 9 0,ol 28 3 27,oc 29 .sub 3 28 1,oz 30 59 9 0,os (.sto 3 (tq 30) (tq 29))] [3,4,9,10] [4,9]∧SX 63 (J0 92311) [oc 32 .eql 3 24 1,om 31 32] [3,4,9,10,24] [4,9]∧SX 63 (J0 190615) [oz 33 59 9 1,ol 34 3 33,oc 35 .add 3 34 1,oz 36 59 9 1,os (.sto 3 (tq 36) (tq 35))] [3,4,9,10] [4,9]∧SX 63 (J0 387223) [oc 38 .eql 3 24 2,om 37 38] [3,4,9,10,24] [4,9]∧SX 63 (J0 780439) [oz 39 59 9 0,ol 40 3 39,oc 41 .add 3 40 1,oz 42 59 9 0,os (.sto 3 (tq 42) (tq 41))] [3,4,9,10] [4,9]∧SX 63 (J0 1566871) [oc 44 .eql 3 24 3,om 43 44] [3,4,9,10,24] [4,9]∧SX 63 (J0 3139735) [oz 45 59 9 1,ol 46 3 45,oc 47 .sub 3 46 1,oz 48 59 9 1,os (.sto 3 (tq 48) (tq 47))] [3,4,9,10] [4,9]∧SX 63 (J0 5271) [ok 11 0] [3,4,9,10] [4,9]∧SX 63 (J0 68759) [om 49 11,oz 50 27 4 7,ol 51 24 50,oe 52 51 24,ob 53 .lss 3 49 52] [3,4,9,10,11] [4,9]∧RX 63 (J0 281751) (.drw [⟨[],[oz 56 27 4 7,ol 57 24 56,om 58 11,oi 59 24 57 58,ol 60 59 59,ol 61 59 9,ob 62 .eql 59 60 61],[]⟩]) (some ([3,4,9,10,11],[4,9]))∧SX 63 (J0 1199255) [ot 8 true] [] []∧SX 63 (J0 117911) [om 54 11,oc 55 .add 3 54 1,om 11 55] [3,4,9,10,11] [4,9]∧SX 63 (J0 919) [om 22 10,oc 23 .add 3 22 1,om 10 23] [3,4,9,10] [4,9]∧SX 63 (J0 47) [ot 8 false] [] []∧LX 63 W9 [3,4,9,10] [4,9]∧LX 63 RY [3,4,9,10,11] [4,9]:=⟨fun _ _=>rfl,fun _ _=>rfl,rx,rx,rx,rx,rx,rx,rx,rx,rx,rx,rx,rx,rx,rx,rx,rx,rx,rx,rx,rx,rx,rx,lx,lx⟩
def JP:=rg Tryz.f28
@[simp] def yW:Code:=(lp (JP 17451595) 30 4 5 (.seq (JP 71977547) (.seq (.seq (JP 306858571) (.cond (.tmp 62) (JP 709511755) .skip)) (.seq (.seq (JP 642402891) (.cond (.tmp 67) (JP 1447709259) .skip)) (.seq (JP 776620619) (.cond (.tmp 75) (JP 1581926987) .skip))))) (JP 30034507))
def RZ:=yW
@[simp] def AJO:Code:=(lp (JP 68171) 24 2 3 (.seq (JP 281163) (.seq (.seq (JP 1198667) (.block 4 (.loop RZ))) (JP 936523))) (JP 117323))
def XA:=AJO
@[simp] def AJP:Code:=(lp (JP 267) 18 0 1 (.seq (JP 1099) (.seq (.seq (JP 4683) (.block 2 (.loop XA))) (JP 3659))) (JP 459))
def XB:=AJP
def c28:Code:=(.seq (JP 2) (.seq (JP 5) (.seq (.seq (JP 19) (.block 0 (.loop XB))) (.seq (JP 23) .ret))))
theorem b28:Tryz.f28.body=some c28:=by kernel_rfl
@[simp] theorem BAN(n:Nat)(st:XS):AE Tryz.prog ann kn (n+1) 89 (JP 3659) st=PN (JN Tryz.prog (BQ Tryz.prog ann kn n) (.str [om 84 7,om 85 9,oq 86 (.buildS 52 1 [(0,tq 85)]),oq 87 (.app [tq 84,tq 86] [52,52]),om 7 87]) (CB (some ([1,2,3,7,8,9],[3,83,87])) (N6 [83] st))) :=
 D1 (by kernel_rfl) (by kernel_rfl) (by kernel_rfl) (by kernel_rfl) (by kernel_rfl)
@[simp] theorem x28:UX 89 RZ yW∧UX 89 XA AJO∧UX 89 XB AJP∧SX 89 (JP 2) [oq 3 (.box (tq 0)),oq 6 (.mv (.const (.slice none 0 0)))] [0,1,2] [3]∧SX 89 (JP 5) [oq 7 (.mv (.const (.slice none 0 0)))] [1,2,3] [3]∧SX 89 (JP 19) [ok 8 0] [1,2,3,7] [3,87]∧SX 89 (JP 267) [om 15 8,oz 16 27 3 1,ol 17 3 16,ob 18 .lss 3 15 17] [1,2,3,7,8] [3,87]∧SX 89 (JP 1099) [oq 9 (.mv (.const (.slice none 0 0)))] [1,2,3,7,8] [3,87]∧SX 89 (JP 4683) [ok 10 0] [1,2,3,7,8,9] [3,83,87]∧SX 89 (JP 68171) [om 21 10,oz 22 27 3 2,ol 23 3 22,ob 24 .lss 3 21 23] [1,2,3,7,8,9,10] [3,83,87]∧SX 89 (JP 281163) [oq 11 (.alloc 139)] [1,2,3,7,8,9,10] [3,83,87]∧SX 89 (JP 1198667) [ok 12 0] [1,2,3,7,8,9,10,11] [3,11,83,87]∧SX 89 (JP 17451595) [om 27 12,om 28 2,oe 29 28 22,ob 30 .lss 3 27 29] [1,2,3,7,8,9,10,11,12] [3,11,83,87]∧RX 89 (JP 71977547) (.drw [⟨[],[om 33 1,om 34 12,oi 35 23 33 34,ol 36 22 35,om 37 8,oi 38 22 36 37,ol 39 3 38,oz 40 27 3 5,ol 41 22 40,om 42 12,oi 43 22 41 42,ol 44 3 43,ob 45 .eql 3 39 44,ol 46 27 3,om 47 8,om 48 10,oq 49 (.build 59 [(0,tq 47),(1,tq 48)]),om 50 1,om 51 12,oi 52 23 50 51,ol 53 22 52,om 54 8,oi 55 22 53 54,ol 56 3 55,om 57 2,om 58 12,oi 59 22 57 58,ol 60 3 59,od 61 76 [tq 46,tq 49,tq 56,tq 60],om 13 45,om 14 61],[]⟩]) (some ([1,2,3,7,8,9,10,11,12],[3,11,83,87]))∧SX 89 (JP 306858571) [om 62 13] [1,2,3,7,8,9,10,11,12,13,14] [3,11,83,87]∧SX 89 (JP 709511755) [oz 63 139 11 0,ol 64 3 63,oc 65 .add 3 64 1,oz 66 139 11 0,os (.sto 3 (tq 66) (tq 65))] [1,2,3,7,8,9,10,11,12,13,14] [3,11,83,87]∧SX 89 (JP 642402891) [om 67 14] [1,2,3,7,8,9,10,11,12,13,14] [3,11,83,87]∧SX 89 (JP 1447709259) [oz 68 139 11 1,ol 69 3 68,oc 70 .add 3 69 1,oz 71 139 11 1,os (.sto 3 (tq 71) (tq 70))] [1,2,3,7,8,9,10,11,12,13,14] [3,11,83,87]∧SX 89 (JP 776620619) [om 72 13,om 73 72,gm 73 true 74 14,oq 75 (.pick (tq 73) (tq 74) (cb false))] [1,2,3,7,8,9,10,11,12,13,14] [3,11,83,87]∧SX 89 (JP 1581926987) [oz 76 139 11 2,ol 77 3 76,oc 78 .add 3 77 1,oz 79 139 11 2,os (.sto 3 (tq 79) (tq 78))] [1,2,3,7,8,9,10,11,12] [3,11,83,87]∧SX 89 (JP 30034507) [om 31 12,oc 32 .add 3 31 1,om 12 32] [1,2,3,7,8,9,10,11,12] [3,11,83,87]∧SX 89 (JP 936523) [om 80 9,ol 81 139 11,oq 82 (.buildS 137 1 [(0,tq 81)]),oq 83 (.app [tq 80,tq 82] [137,137]),om 9 83] [1,2,3,7,8,9,10,11] [3,11,83,87]∧SX 89 (JP 117323) [om 25 10,oc 26 .add 3 25 1,om 10 26] [1,2,3,7,8,9,10] [3,83,87]∧SX 89 (JP 459) [om 19 8,oc 20 .add 3 19 1,om 8 20] [1,2,3,7,8] [3,87]∧SX 89 (JP 23) [om 88 7,om 6 88] [7] [87]∧LX 89 XB [1,2,3,7,8] [3,87]∧LX 89 XA [1,2,3,7,8,9,10] [3,83,87]∧LX 89 RZ [1,2,3,7,8,9,10,11,12] [3,11,83,87]:=⟨fun _ _=>rfl,fun _ _=>rfl,fun _ _=>rfl,rx,rx,rx,rx,rx,rx,rx,rx,rx,rx,rx,rx,rx,rx,rx,rx,rx,rx,rx,rx,rx,rx,lx,lx,lx⟩
def AY9:=rg Tryz.f130
def BLT:Code:=(.seq (AY9 2) (.seq (AY9 5) .ret))
def AZA:=rg Tryz.f131
def BLU:Code:=(.seq (AZA 2) (.seq (AZA 5) .ret))
def fK:=rg Tryz.f55
@[simp] def AJQ:Code:=(lp (fK 267) 9 0 1 (.seq (fK 1099) (.seq (fK 2635) (.cond (.tmp 17) (fK 5707) .skip))) (fK 459))
def XC:=AJQ
def c55:Code:=(.seq (fK 2) (.seq (fK 5) (.seq (.seq (fK 19) (.block 0 (.loop XC))) (.seq (fK 23) .ret))))
theorem b55:Tryz.f55.body=some c55:=by kernel_rfl
@[simp] theorem x55:UX 23 XC AJQ∧SX 23 (fK 2) [oq 1 (.box (tq 0)),oq 2 (.mv (.const (.slice none 0 0)))] [0] [1,14]∧SX 23 (fK 5) [oq 3 (.mv (.const (.slice none 0 0)))] [0,1] [1,14]∧SX 23 (fK 19) [ok 4 0] [0,1,3] [1,14,21]∧SX 23 (fK 267) [om 6 4,ol 7 27 1,od 8 100 [tq 7],ob 9 .lss 3 6 8] [1,3,4] [1,14,21]∧SX 23 (fK 1099) [ol 12 27 1,om 13 4,od 14 101 [tq 12,tq 13],om 5 14] [1,3,4] [1,14,21]∧SX 23 (fK 2635) [ol 15 27 1,om 16 5,od 17 102 [tq 15,tq 16]] [1,3,4,5] [1,14,21]∧SX 23 (fK 5707) [om 18 3,om 19 5,oq 20 (.buildS 23 1 [(0,tq 19)]),oq 21 (.app [tq 18,tq 20] [23,23]),om 3 21] [1,3,4,5] [1,14,21]∧SX 23 (fK 459) [om 10 4,oc 11 .add 3 10 1,om 4 11] [0,1,3,4] [1,14,21]∧SX 23 (fK 23) [om 22 3,om 2 22] [3] [21]∧LX 23 XC [1,3,4] [1,14,21]:=⟨fun _ _=>rfl,rx,rx,rx,rx,rx,rx,rx,rx,rx,lx⟩
def JQ:=rg Tryz.f70
@[simp] def yX:Code:=(lp (JQ 4287) 38 0 1 (.seq (JQ 17599) (.cond (.tmp 50) (.seq (JQ 74943) .ret) .skip)) (JQ 7359))
def R3:=yX
@[simp] def yY:Code:=(lp (JQ 8575) 55 2 3 (.seq (JQ 35199) (.cond (.tmp 75) (.seq (JQ 149887) .ret) .skip)) (JQ 14719))
def R4:=yY
def c70:Code:=(.seq (JQ 2) (.seq (.seq (JQ 9) (.cond (.tmp 9) (.seq (JQ 37) .ret) .skip)) (.seq (.seq (JQ 19) (.seq (JQ 43) (.cond (.tmp 14) (.seq (JQ 155) .ret) .skip))) (.seq (.seq (JQ 39) (.cond (.tmp 21) (.seq (JQ 151) .ret) .skip)) (.seq (.seq (JQ 79) (.cond (.tmp 26) (.seq (JQ 303) .ret) .skip)) (.seq (.seq (JQ 159) (.cond (.tmp 33) (.seq (JQ 607) .ret) .skip)) (.seq (.seq (JQ 319) (.block 0 (.loop R3))) (.seq (.seq (JQ 639) (.block 2 (.loop R4))) (.seq (JQ 767) .ret)))))))))
theorem b70:Tryz.f70.body=some c70:=by kernel_rfl
@[simp] theorem x70:UX 76 R3 yX∧UX 76 R4 yY∧SX 76 (JQ 2) [oq 1 (.box (tq 0)),ok 2 0] [0] [1,24]∧SX 76 (JQ 9) [oz 6 31 1 3,ol 7 29 6,oe 8 7 29,oc 9 .gtr 3 8 3] [1] [1,24]∧SX 76 (JQ 37) [ok 2 3] [] []∧SX 76 (JQ 19) [oz 10 31 1 0,ol 11 27 10,od 12 108 [tq 11],om 3 12] [1] [1,24]∧SX 76 (JQ 43) [om 13 3,oc 14 .neq 3 13 0] [1,3] [1,24]∧SX 76 (JQ 155) [om 15 3,om 2 15] [3] []∧SX 76 (JQ 39) [oz 16 31 1 0,ol 17 27 16,oz 18 31 1 1,ol 19 23 18,od 20 116 [tq 17,tq 19],ou 21 20] [1] [1,24]∧SX 76 (JQ 151) [ok 2 2] [] []∧SX 76 (JQ 79) [oz 22 31 1 0,ol 23 27 22,od 24 55 [tq 23],oe 25 24 23,oc 26 .eql 3 25 0] [1] [1,24]∧SX 76 (JQ 303) [ok 2 11] [] []∧SX 76 (JQ 159) [oz 27 31 1 2,ol 28 28 27,oe 29 28 28,oz 30 31 1 0,oz 31 27 30 1,ol 32 3 31,ob 33 .neq 3 29 32] [1] [1,24]∧SX 76 (JQ 607) [ok 2 1] [] []∧SX 76 (JQ 319) [ok 4 0] [1] [1,24]∧SX 76 (JQ 4287) [om 34 4,oz 35 31 1 2,ol 36 28 35,oe 37 36 28,ob 38 .lss 3 34 37] [1,4] [1,24]∧RX 76 (JQ 17599) (.drw [⟨[],[oz 41 31 1 2,ol 42 28 41,om 43 4,oi 44 28 42 43,ol 45 97 44,oe 46 45 97,oz 47 31 1 0,oz 48 27 47 2,ol 49 3 48,ob 50 .neq 3 46 49],[]⟩]) (some ([1,4],[1,24]))∧SX 76 (JQ 74943) [ok 2 1] [] []∧SX 76 (JQ 7359) [om 39 4,oc 40 .add 3 39 1,om 4 40] [1,4] [1,24]∧SX 76 (JQ 639) [ok 5 0] [1] [1,24]∧SX 76 (JQ 8575) [om 51 5,oz 52 31 1 3,ol 53 29 52,oe 54 53 29,ob 55 .lss 3 51 54] [1,5] [1,24]∧SX 76 (JQ 35199) [oz 58 31 1 3,ol 59 29 58,om 60 5,oi 61 29 59 60,oz 62 57 61 0,ol 63 3 62,od 64 57 [tq 63,ci 1,ci 4],ou 65 64,om 66 65,gz 66 false 67 31 1 3,gl 66 false 68 29 67,gm 66 false 69 5,gi 66 false 70 29 68 69,gz 66 false 71 57 70 1,gl 66 false 72 3 71,gd 66 false 73 57 [tq 72,ci 0,ci 5],og 66 false 74 (.oth (.unOp .not 4 (tq 73))),oq 75 (.pick (tq 66) (cb true) (tq 74))] [1,5] [1,24]∧SX 76 (JQ 149887) [ok 2 1] [] []∧SX 76 (JQ 14719) [om 56 5,oc 57 .add 3 56 1,om 5 57] [1,5] [1,24]∧SX 76 (JQ 767) [ok 2 0] [] []∧LX 76 R3 [1,4] [1,24]∧LX 76 R4 [1,5] [1,24]:=⟨fun _ _=>rfl,fun _ _=>rfl,rx,rx,rx,rx,rx,rx,rx,rx,rx,rx,rx,rx,rx,rx,rx,rx,rx,rx,rx,rx,rx,rx,rx,lx,lx⟩
def g23:=rg Tryz.f23
def c23:Code:=(.seq (g23 2) (.seq (g23 5) .ret))
theorem b23:Tryz.f23.body=some c23:=by kernel_rfl
@[simp] theorem x23:SX 5 (g23 2) [oq 1 (.box (tq 0)),ok 2 0] [0] [1]∧SX 5 (g23 5) [ol 3 31 1,od 4 70 [tq 3],om 2 4] [0,1,2] [1,2]:=⟨rx,rx⟩
def fL:=rg Tryz.f20
def c20:Code:=(.seq (fL 2) (.seq (.seq (fL 9) (.seq (fL 21) (.cond (.tmp 16) (.seq (fL 77) .ret) .skip))) (.seq (fL 11) (.seq (fL 23) (.seq (.seq (fL 79) (.cond (.tmp 38) (.seq (fL 303) .ret) .skip)) (.seq (fL 95) .ret))))))
theorem b20:Tryz.f20.body=some c20:=by kernel_rfl
@[simp] theorem x20:SX 43 (fL 2) [oq 3 (.box (tq 0)),oq 6 (.mv (.const (.slice none 0 0))),ok 7 0] [0,1,2] [3,21,30,42]∧SX 43 (fL 9) [ol 13 43 3,od 14 24 [tq 13],om 8 14] [1,2,3] [3,21,30,42]∧SX 43 (fL 21) [om 15 8,oc 16 .neq 34 15 0] [1,2,3,8] [3,21,30,42]∧SX 43 (fL 77) [om 17 8,oq 6 (.mv (.const (.slice none 0 0))),om 7 17] [1,2,3,7,8] [3,23,38]∧SX 43 (fL 11) [ol 19 43 3,om 20 1,od 21 65 [tq 19,tq 20],om 18 21,oq 22 (.oth (.extract (tq 18) 0)),oq 23 (.oth (.extract (tq 18) 1)),om 9 22,om 10 23] [1,2,3] [3,21,30,42]∧SX 43 (fL 23) [oz 25 43 3 0,ol 26 40 25,oz 27 43 3 1,ol 28 23 27,om 29 2,od 30 66 [tq 26,tq 28,tq 29],om 24 30,oq 31 (.oth (.extract (tq 24) 0)),oq 32 (.oth (.extract (tq 24) 1)),om 11 31,om 12 32] [2,3,9,10] [3,21,30,42]∧SX 43 (fL 79) [om 33 10,ou 34 33,om 35 34,gm 35 false 36 12,gc 35 false 37 .neq 34 36 0,oq 38 (.pick (tq 35) (cb true) (tq 37))] [3,9,10,11,12] [3,21,30,42]∧SX 43 (fL 303) [oq 6 (.mv (.const (.slice none 0 0))),ok 7 2] [] []∧SX 43 (fL 95) [ol 39 43 3,om 40 9,om 41 11,od 42 67 [tq 39,tq 40,tq 41],om 6 42,ok 7 0] [3,9,11] [3,21,30,42]:=⟨rx,rx,rx,rx,rx,rx,rx,rx,rx⟩
def g3:=rg Tryz.f3
@[simp] def AJR:Code:=(lp (g3 34303) 93 0 1 (.seq (g3 140799) (.seq (g3 337407) (.cond (.tmp 116) (.seq (g3 1254911) .ret) .skip))) (g3 58879))
def XD:=AJR
def c3:Code:=(.seq (g3 2) (.seq (.seq (g3 9) (.cond (.tmp 26) (.seq (g3 37) .ret) .skip)) (.seq (g3 11) (.seq (g3 23) (.seq (.seq (g3 79) (.cond (.tmp 44) (.seq (g3 303) .ret) .skip)) (.seq (.seq (g3 159) (.cond (.tmp 61) (g3 351) .skip)) (.seq (.seq (g3 319) (.cond (.tmp 63) (.seq (g3 1215) .ret) .skip)) (.seq (g3 383) (.seq (.seq (g3 1279) (.cond (.tmp 89) (.seq (g3 4863) .ret) .skip)) (.seq (.seq (g3 2559) (.block 0 (.loop XD))) (.seq (g3 3071) .ret)))))))))))
theorem b3:Tryz.f3.body=some c3:=by kernel_rfl
@[simp] theorem x3:UX 118 XD AJR∧SX 118 (g3 2) [oq 3 (.box (tq 0)),ot 6 false] [0,1,2] [3,30,32,34,35,41,50,80]∧SX 118 (g3 9) [ol 14 31 3,od 15 18 [tq 14],ou 16 15,om 17 16,gm 17 false 18 1,ge 17 false 19 18 24,gc 17 false 20 .gtr 3 19 6,oq 21 (.pick (tq 17) (cb true) (tq 20)),om 22 21,gm 22 false 23 2,ge 22 false 24 23 22,gc 22 false 25 .gtr 3 24 7,oq 26 (.pick (tq 22) (cb true) (tq 25))] [1,2,3] [3,30,32,34,35,41,50,80]∧SX 118 (g3 37) [od 27 19 [],om 6 27] [] []∧SX 118 (g3 11) [ol 29 31 3,od 30 21 [tq 29],om 31 1,od 32 22 [tq 31],om 33 2,oq 34 (.app [.const (.slice none 0 0),tq 33] [22,22]),oq 35 (.call false (some 34) (.func 20) [tq 30,tq 32,tq 34]),om 28 35,oq 36 (.oth (.extract (tq 28) 0)),oq 37 (.oth (.extract (tq 28) 1)),om 7 36,om 8 37] [1,2,3] [3,30,32,34,35,41,50,80]∧SX 118 (g3 23) [ol 38 31 3,od 39 23 [tq 38],om 9 39] [1,2,3,7,8] [3,30,32,34,35,41,50,80]∧SX 118 (g3 79) [ol 40 31 3,od 41 21 [tq 40],od 42 24 [tq 41],om 43 9,ob 44 .neq 34 42 43] [1,2,3,7,8,9] [3,30,32,34,35,41,50,80]∧SX 118 (g3 303) [ot 6 false] [] []∧RX 118 (g3 159) (.drw [⟨[],[om 45 9,oc 46 .eql 34 45 0,om 47 46,gl 47 true 48 31 3,gl 47 true 49 31 3,gd 47 true 50 26 [tq 49,ci 0],gm 47 true 51 1],[gd 47 true 52 25 [tq 48,tq 50,tq 51]]⟩,⟨[],[og 47 true 53 (.oth (.unOp .not 4 (tq 52))),gm 47 true 54 53,gz 54 false 55 31 3 0,gl 54 false 56 27 55,gm 54 false 57 2],[gd 54 false 58 27 [tq 56,tq 57]]⟩,⟨[],[og 54 false 59 (.oth (.unOp .not 4 (tq 58))),og 47 true 60 (.pick (tq 54) (cb true) (tq 59)),oq 61 (.pick (tq 47) (tq 60) (cb false))],[]⟩]) (some ([1,2,3,7,8,9],[3,30,32,34,35,41,80]))∧SX 118 (g3 351) [ok 9 2] [1,2,3,7,8] [3,30,32,34,35,41,50,80]∧SX 118 (g3 319) [om 62 9,oc 63 .neq 34 62 0] [1,2,3,7,8,9] [3,30,32,34,35,41,50,80]∧SX 118 (g3 1215) [om 64 8,om 65 9,ob 66 .eql 34 64 65,om 67 66,gm 67 true 68 7,ge 67 true 69 68 22,gc 67 true 70 .eql 3 69 0,oq 71 (.pick (tq 67) (tq 70) (cb false)),om 72 71,gd 72 true 73 19 [],oq 74 (.pick (tq 72) (tq 73) (cb false)),om 6 74] [7,8,9] [3,30,32,34,35,41,50,80]∧SX 118 (g3 383) [oz 75 31 3 0,ol 76 27 75,oz 77 31 3 1,ol 78 23 77,om 79 2,od 80 28 [tq 76,tq 78,tq 79],om 10 80] [1,2,3,7,8] [3,30,32,34,35,41,50,80]∧SX 118 (g3 1279) [om 81 8,oc 82 .neq 34 81 0,om 83 82,gm 83 false 84 7,ge 83 false 85 84 22,gm 83 false 86 1,ge 83 false 87 86 24,gb 83 false 88 .neq 3 85 87,oq 89 (.pick (tq 83) (cb true) (tq 88))] [1,3,7,8,10] [3,30,32,34,35,41,50,80]∧SX 118 (g3 4863) [ot 6 false] [] []∧SX 118 (g3 2559) [ok 11 0] [1,3,7,10] [3,30,32,34,35,41,50,80]∧SX 118 (g3 34303) [om 90 11,om 91 7,oe 92 91 22,ob 93 .lss 3 90 92] [1,3,7,10,11] [3,30,32,34,35,41,50,80]∧RX 118 (g3 140799) (.drw [⟨[],[ol 97 31 3,oz 98 31 3 3,ol 99 29 98,om 100 11,oi 101 29 99 100,ol 102 57 101,om 103 1,om 104 11,oi 105 24 103 104,ol 106 59 105,om 107 10],[od 108 29 [tq 97,tq 102,tq 106,tq 107]]⟩,⟨[],[om 96 108,oq 109 (.oth (.extract (tq 96) 0)),oq 110 (.oth (.extract (tq 96) 1)),om 12 109,om 13 110],[]⟩]) (some ([1,3,7,10,11],[3,30,32,34,35,41,50,80]))∧SX 118 (g3 337407) [om 111 7,om 112 11,oi 113 22 111 112,ol 114 3 113,om 115 12,ob 116 .neq 3 114 115] [1,3,7,10,11,12] [3,30,32,34,35,41,50,80]∧SX 118 (g3 1254911) [ot 6 false] [] []∧SX 118 (g3 58879) [om 94 11,oc 95 .add 3 94 1,om 11 95] [1,3,7,10,11] [3,30,32,34,35,41,50,80]∧SX 118 (g3 3071) [od 117 19 [],om 6 117] [] []∧LX 118 XD [1,3,7,10,11] [3,30,32,34,35,41,50,80]:=⟨fun _ _=>rfl,rx,rx,rx,rx,rx,rx,rx,rx,rx,rx,rx,rx,rx,rx,rx,rx,rx,rx,rx,rx,rx,lx⟩
end
end Go.Proofs.Tryz.Op
