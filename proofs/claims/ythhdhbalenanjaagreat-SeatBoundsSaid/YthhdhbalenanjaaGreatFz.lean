/- The walk's ground of function 57: its regions worked out. No condition. -/
import Derived.Test.YthhdhbalenanjaaGreatGa
set_option maxRecDepth 100000
namespace Go.Proofs.Tryz.Op
open Go Go.Pg
noncomputable section
def g57:=rg Tryz.f57
def c57:Code:=(.seq (g57 2) (.seq (g57 5) .ret))
theorem b57:Tryz.f57.body=some c57:=by kernel_rfl
@[simp] theorem x57:SX 15 (g57 2) [ot 6 false] [0,1,2] []∧SX 15 (g57 5) [om 7 0,om 8 1,ob 9 .geq 3 7 8,om 10 9,gm 10 true 11 0,gm 10 true 12 2,gb 10 true 13 .leq 3 11 12,oq 14 (.pick (tq 10) (tq 13) (cb false)),om 6 14] [0,1,2] []:=⟨rx,rx⟩
def RQ:=rg Tryz.f134
@[simp] def AAV:Code:=(lp (RQ 133) 9 0 1 (.seq (RQ 549) (.cond (.tmp 18) (.seq (RQ 2341) .ret) .skip)) (RQ 229))
def RS:=AAV
def A00:Code:=(.seq (RQ 2) (.seq (.seq (RQ 9) (.block 0 (.loop RS))) (.seq (RQ 11) .ret)))
theorem BCU:Tryz.f134.body=some A00:=by kernel_rfl
@[simp] theorem BLK:UX 19 RS AAV∧SX 19 (RQ 2) [ot 4 false] [0,1] []∧SX 19 (RQ 9) [ok 5 0] [0,1] []∧SX 19 (RQ 133) [om 6 5,om 7 0,oe 8 7 22,ob 9 .lss 3 6 8] [0,1,5] []∧SX 19 (RQ 549) [om 12 0,om 13 5,oi 14 22 12 13,ol 15 3 14,om 16 1,od 17 57 [tq 15,tq 16,ci 3],ou 18 17] [0,1,5] []∧SX 19 (RQ 2341) [ot 4 false] [] []∧SX 19 (RQ 229) [om 10 5,oc 11 .add 3 10 1,om 5 11] [0,1,5] []∧SX 19 (RQ 11) [ot 4 true] [] []∧LX 19 RS [0,1,5] []:=⟨fun _ _=>rfl,rx,rx,rx,rx,rx,rx,rx,lx⟩
def AHA:=rg Tryz.f135
def A01:Code:=(.seq (AHA 2) (.seq (AHA 5) .ret))
theorem BCV:Tryz.f135.body=some A01:=by kernel_rfl
@[simp] theorem BLL:SX 19 (AHA 2) [oq 2 (.box (tq 0)),oq 3 (.box (tq 1)),ot 4 false] [0,1] [2]∧SX 19 (AHA 5) [oz 5 59 3 0,ol 6 3 5,oz 7 27 2 1,ol 8 3 7,oc 9 .sub 3 8 1,od 10 57 [tq 6,ci 0,tq 9],om 11 10,gz 11 true 12 59 3 1,gl 11 true 13 3 12,gz 11 true 14 27 2 2,gl 11 true 15 3 14,gc 11 true 16 .sub 3 15 1,gd 11 true 17 57 [tq 13,ci 0,tq 16],oq 18 (.pick (tq 11) (tq 17) (cb false)),om 4 18] [2,3] [2,3]:=⟨rx,rx⟩
def sV:=rg Tryz.f75
@[simp] def AL3:Code:=(lp (sV 133) 9 0 1 (.seq (sV 549) (.cond (.tmp 17) (.seq (sV 2341) .ret) .skip)) (sV 229))
def XO:=AL3
def c75:Code:=(.seq (sV 2) (.seq (.seq (sV 9) (.block 0 (.loop XO))) (.seq (sV 11) .ret)))
theorem b75:Tryz.f75.body=some c75:=by kernel_rfl
@[simp] theorem x75:UX 18 XO AL3∧SX 18 (sV 2) [ot 4 false] [0,1] []∧SX 18 (sV 9) [ok 5 0] [0,1] []∧SX 18 (sV 133) [om 6 5,om 7 0,oe 8 7 22,ob 9 .lss 3 6 8] [0,1,5] []∧SX 18 (sV 549) [om 12 0,om 13 5,oi 14 22 12 13,ol 15 3 14,om 16 1,ob 17 .eql 3 15 16] [0,1,5] []∧SX 18 (sV 2341) [ot 4 true] [] []∧SX 18 (sV 229) [om 10 5,oc 11 .add 3 10 1,om 5 11] [0,1,5] []∧SX 18 (sV 11) [ot 4 false] [] []∧LX 18 XO [0,1,5] []:=⟨fun _ _=>rfl,rx,rx,rx,rx,rx,rx,rx,lx⟩
def AHB:=rg Tryz.f114
def A02:Code:=(.seq (AHB 2) (.seq (AHB 5) .ret))
theorem BCX:Tryz.f114.body=some A02:=by kernel_rfl
@[simp] theorem BLN:SX 6 (AHB 2) [oq 2 (.mv (.const (.slice none 0 0)))] [0,1] []∧SX 6 (AHB 5) [oq 3 (.buildS 22 0 []),om 4 0,oq 5 (.app [tq 3,tq 4] [22,22]),om 2 5] [0,1] []:=⟨rx,rx⟩
def RT:=rg Tryz.f115
@[simp] def AAW:Code:=(lp (RT 267) 9 0 1 (RT 587) (RT 459))
def RU:=AAW
def A03:Code:=(.seq (RT 2) (.seq (RT 5) (.seq (.seq (RT 19) (.block 0 (.loop RU))) (.seq (RT 23) .ret))))
theorem BCY:Tryz.f115.body=some A03:=by kernel_rfl
@[simp] theorem BLO:UX 21 RU AAW∧SX 21 (RT 2) [oq 2 (.mv (.const (.slice none 0 0)))] [0] [17]∧SX 21 (RT 5) [oq 5 (.buildS 23 0 []),om 3 5] [0] [17]∧SX 21 (RT 19) [ok 4 0] [0,1,3] [1,17,19]∧SX 21 (RT 267) [om 6 4,om 7 0,oe 8 7 23,ob 9 .lss 3 6 8] [0,3,4] [17,19]∧SX 21 (RT 587) [om 12 3,om 13 0,om 14 4,oi 15 23 13 14,ol 16 22 15,od 17 114 [tq 16],oq 18 (.buildS 23 1 [(0,tq 17)]),oq 19 (.app [tq 12,tq 18] [23,23]),om 3 19] [0,1,3,4] [1,17,19]∧SX 21 (RT 459) [om 10 4,oc 11 .add 3 10 1,om 4 11] [0,1,3,4] [1,17,19]∧SX 21 (RT 23) [om 20 3,om 2 20] [0,1,3,7,8] [19]∧LX 21 RU [0,3,4] [17,19]:=⟨fun _ _=>rfl,rx,rx,rx,rx,rx,rx,rx,lx⟩
def g48:=rg Tryz.f48
def c48:Code:=(.seq (g48 2) (.seq (g48 5) .ret))
theorem b48:Tryz.f48.body=some c48:=by kernel_rfl
@[simp] theorem x48:SX 8 (g48 2) [oq 1 (.box (tq 0)),oq 2 (.alloc 86)] [0] []∧SX 8 (g48 5) [oz 3 59 1 0,ol 4 3 3,oz 5 59 1 1,ol 6 3 5,oq 7 (.build 86 [(0,tq 4),(1,tq 6)]),os (.sto 86 (tq 2) (tq 7))] [1,2] [1,2]:=⟨rx,rx⟩
def RV:=rg Tryz.f107
@[simp] def AAX:Code:=(lp (RV 133) 11 0 1 (.seq (RV 549) (.cond (.tmp 19) (.seq (RV 2341) .ret) .skip)) (RV 229))
def RW:=AAX
def A04:Code:=(.seq (RV 2) (.seq (.seq (RV 9) (.block 0 (.loop RW))) (.seq (RV 11) .ret)))
theorem BCZ:Tryz.f107.body=some A04:=by kernel_rfl
@[simp] theorem BLQ:UX 23 RW AAX∧SX 23 (RV 2) [ot 2 false] [0] []∧SX 23 (RV 9) [ok 3 0] [0,1] [1,14]∧SX 23 (RV 133) [om 4 3,om 5 0,oe 6 5 23,ob 7 .lss 3 4 6,om 8 7,gm 8 true 9 3,gc 8 true 10 .lss 3 9 8,oq 11 (.pick (tq 8) (tq 10) (cb false))] [0,3] []∧SX 23 (RV 549) [om 14 0,om 15 3,oi 16 23 14 15,ol 17 22 16,oe 18 17 22,oc 19 .gtr 3 18 5] [0,3] []∧SX 23 (RV 2341) [ot 2 false] [] []∧SX 23 (RV 229) [om 12 3,oc 13 .add 3 12 1,om 3 13] [0,3] []∧SX 23 (RV 11) [om 20 0,oe 21 20 23,oc 22 .leq 3 21 7,om 2 22] [0] []∧LX 23 RW [0,3] []:=⟨fun _ _=>rfl,rx,rx,rx,rx,rx,rx,rx,lx⟩
def RY:=rg Tryz.f100
@[simp] def AAY:Code:=(lp (RY 267) 9 0 1 (RY 587) (RY 459))
def RZ:=AAY
def A05:Code:=(.seq (RY 2) (.seq (RY 5) (.seq (.seq (RY 19) (.block 0 (.loop RZ))) (.seq (RY 23) .ret))))
theorem BC0:Tryz.f100.body=some A05:=by kernel_rfl
@[simp] theorem BLR:UX 21 RZ AAY∧SX 21 (RY 2) [oq 1 (.box (tq 0)),ok 2 0] [0] [1]∧SX 21 (RY 5) [ok 3 1] [1] [1]∧SX 21 (RY 19) [ok 4 0] [0,1,3] [1,17,19]∧SX 21 (RY 267) [om 5 4,oz 6 27 1 6,ol 7 23 6,oe 8 7 23,ob 9 .lss 3 5 8] [1,3,4] [1]∧SX 21 (RY 587) [om 12 3,oz 13 27 1 6,ol 14 23 13,om 15 4,oi 16 23 14 15,ol 17 22 16,oe 18 17 22,ob 19 .mul 3 12 18,om 3 19] [0,1,3,4] [1,17,19]∧SX 21 (RY 459) [om 10 4,oc 11 .add 3 10 1,om 4 11] [0,1,3,4] [1,17,19]∧SX 21 (RY 23) [om 20 3,om 2 20] [0,1,3,7,8] [19]∧LX 21 RZ [1,3,4] [1]:=⟨fun _ _=>rfl,rx,rx,rx,rx,rx,rx,rx,lx⟩
def DU:=rg Tryz.f108
@[simp] def sW:Code:=(lp (DU 68759) 118 2 3 (.seq (DU 281751) (.cond (.tmp 138) (.seq (DU 1199255) .ret) .skip)) (DU 117911))
def NX:=sW
@[simp] def AAZ:Code:=(lp (DU 535) 92 0 1 (.seq (.seq (DU 4247) (.cond (.tmp 110) (.seq (DU 18583) .ret) .skip)) (.seq (DU 5271) (.block 2 (.loop NX)))) (DU 919))
def R3:=AAZ
@[simp] def sX:Code:=(lp (DU 1071) 143 4 5 (.seq (DU 4399) (.cond (.tmp 153) (.seq (DU 18735) .ret) .skip)) (DU 1839))
def NY:=sX
@[simp] def sY:Code:=(lp (DU 2143) 158 6 7 (.seq (DU 8799) (.cond (.tmp 180) (.seq (DU 37471) .ret) .skip)) (DU 3679))
def N3:=sY
def NH:Code:=(.seq (DU 2) (.seq (.seq (DU 9) (.cond (.tmp 31) (.seq (DU 37) .ret) .skip)) (.seq (.seq (DU 19) (.cond (.tmp 88) (.seq (DU 75) .ret) .skip)) (.seq (.seq (DU 39) (.block 0 (.loop R3))) (.seq (.seq (DU 79) (.block 4 (.loop NY))) (.seq (.seq (DU 159) (.block 6 (.loop N3))) (.seq (DU 191) .ret)))))))
theorem BC1:Tryz.f108.body=some NH:=by kernel_rfl
@[simp] theorem BLS:UX 181 NX sW∧UX 181 R3 AAZ∧UX 181 NY sX∧UX 181 N3 sY∧SX 181 (DU 2) [oq 1 (.box (tq 0)),ok 2 0] [0] [1]∧SX 181 (DU 9) [oz 7 27 1 0,ol 8 3 7,oc 9 .gtr 3 8 4,om 10 9,gz 10 false 11 27 1 1,gl 10 false 12 3 11,gc 10 false 13 .gtr 3 12 3,oq 14 (.pick (tq 10) (cb true) (tq 13)),om 15 14,gz 15 false 16 27 1 2,gl 15 false 17 3 16,gc 15 false 18 .gtr 3 17 5,oq 19 (.pick (tq 15) (cb true) (tq 18)),om 20 19,gz 20 false 21 27 1 7,gl 20 false 22 24 21,ge 20 false 23 22 24,gc 20 false 24 .gtr 3 23 4,oq 25 (.pick (tq 20) (cb true) (tq 24)),om 26 25,gz 26 false 27 27 1 8,gl 26 false 28 25 27,ge 26 false 29 28 25,gc 26 false 30 .gtr 3 29 5,oq 31 (.pick (tq 26) (cb true) (tq 30))] [1] [1]∧SX 181 (DU 37) [ok 2 3] [] []∧SX 181 (DU 19) [oz 32 27 1 0,ol 33 3 32,oc 34 .lss 3 33 0,om 35 34,gz 35 false 36 27 1 1,gl 35 false 37 3 36,gc 35 false 38 .lss 3 37 1,oq 39 (.pick (tq 35) (cb true) (tq 38)),om 40 39,gz 40 false 41 27 1 2,gl 40 false 42 3 41,gc 40 false 43 .lss 3 42 1,oq 44 (.pick (tq 40) (cb true) (tq 43)),om 45 44,gz 45 false 46 27 1 3,gl 45 false 47 3 46,gd 45 false 48 57 [tq 47,ci 0,ci 4],og 45 false 49 (.oth (.unOp .not 4 (tq 48))),oq 50 (.pick (tq 45) (cb true) (tq 49)),om 51 50,gz 51 false 52 27 1 4,gl 51 false 53 22 52,ge 51 false 54 53 22,gz 51 false 55 27 1 1,gl 51 false 56 3 55,gb 51 false 57 .neq 3 54 56,oq 58 (.pick (tq 51) (cb true) (tq 57)),om 59 58,gz 59 false 60 27 1 5,gl 59 false 61 22 60,ge 59 false 62 61 22,gz 59 false 63 27 1 0,gl 59 false 64 3 63,gc 59 false 65 .add 3 64 1,gb 59 false 66 .neq 3 62 65,oq 67 (.pick (tq 59) (cb true) (tq 66)),om 68 67,gz 68 false 69 27 1 6,gl 68 false 70 23 69,ge 68 false 71 70 23,gz 68 false 72 27 1 0,gl 68 false 73 3 72,gc 68 false 74 .add 3 73 1,gb 68 false 75 .neq 3 71 74,oq 76 (.pick (tq 68) (cb true) (tq 75)),om 77 76,gz 77 false 78 27 1 4,gl 77 false 79 22 78,gd 77 false 80 134 [tq 79,ci 0],og 77 false 81 (.oth (.unOp .not 4 (tq 80))),oq 82 (.pick (tq 77) (cb true) (tq 81)),om 83 82,gz 83 false 84 27 1 5,gl 83 false 85 22 84,gd 83 false 86 134 [tq 85,.const (.int .i64 (Int.negSucc 0))],og 83 false 87 (.oth (.unOp .not 4 (tq 86))),oq 88 (.pick (tq 83) (cb true) (tq 87))] [1] [1]∧SX 181 (DU 75) [ok 2 1] [] []∧SX 181 (DU 39) [ok 3 0] [1] [1]∧SX 181 (DU 535) [om 89 3,oz 90 27 1 0,ol 91 3 90,ob 92 .leq 3 89 91] [1,3] [1]∧SX 181 (DU 4247) [oz 95 27 1 6,ol 96 23 95,om 97 3,oi 98 23 96 97,ol 99 22 98,oe 100 99 22,oc 101 .eql 3 100 0,om 102 101,gz 102 false 103 27 1 6,gl 102 false 104 23 103,gm 102 false 105 3,gi 102 false 106 23 104 105,gl 102 false 107 22 106,gd 102 false 108 134 [tq 107,ci 0],og 102 false 109 (.oth (.unOp .not 4 (tq 108))),oq 110 (.pick (tq 102) (cb true) (tq 109))] [1,3] [1]∧SX 181 (DU 18583) [ok 2 1] [] []∧SX 181 (DU 5271) [ok 4 1] [1,3] [1]∧SX 181 (DU 68759) [om 111 4,oz 112 27 1 6,ol 113 23 112,om 114 3,oi 115 23 113 114,ol 116 22 115,oe 117 116 22,ob 118 .lss 3 111 117] [1,3,4] [1]∧RX 181 (DU 281751) (.drw [⟨[],[oz 121 27 1 6,ol 122 23 121,om 123 3,oi 124 23 122 123,ol 125 22 124,om 126 4,oi 127 22 125 126,ol 128 3 127,oz 129 27 1 6,ol 130 23 129,om 131 3,oi 132 23 130 131,ol 133 22 132,om 134 4,oc 135 .sub 3 134 1,oi 136 22 133 135,ol 137 3 136,ob 138 .leq 3 128 137],[]⟩]) (some ([1,3,4],[1]))∧SX 181 (DU 1199255) [ok 2 1] [] []∧SX 181 (DU 117911) [om 119 4,oc 120 .add 3 119 1,om 4 120] [1,3,4] [1]∧SX 181 (DU 919) [om 93 3,oc 94 .add 3 93 1,om 3 94] [1,3] [1]∧SX 181 (DU 79) [ok 5 0] [1] [1]∧SX 181 (DU 1071) [om 139 5,oz 140 27 1 7,ol 141 24 140,oe 142 141 24,ob 143 .lss 3 139 142] [1,5] [1]∧RX 181 (DU 4399) (.drw [⟨[],[ol 146 27 1,oz 147 27 1 7,ol 148 24 147,om 149 5,oi 150 24 148 149,ol 151 59 150],[od 152 135 [tq 146,tq 151]]⟩,⟨[],[ou 153 152],[]⟩]) (some ([1,5],[1]))∧SX 181 (DU 18735) [ok 2 1] [] []∧SX 181 (DU 1839) [om 144 5,oc 145 .add 3 144 1,om 5 145] [1,5] [1]∧SX 181 (DU 159) [ok 6 0] [1] [1]∧SX 181 (DU 2143) [om 154 6,oz 155 27 1 8,ol 156 25 155,oe 157 156 25,ob 158 .lss 3 154 157] [1,6] [1]∧RX 181 (DU 8799) (.drw [⟨[],[oz 161 27 1 8,ol 162 25 161,om 163 6,oi 164 25 162 163,oz 165 188 164 0,ol 166 3 165,oz 167 27 1 0,ol 168 3 167],[od 169 57 [tq 166,ci 0,tq 168]]⟩,⟨[],[ou 170 169,om 171 170,gz 171 false 172 27 1 8,gl 171 false 173 25 172,gm 171 false 174 6,gi 171 false 175 25 173 174,gz 171 false 176 188 175 1,gl 171 false 177 3 176],[gd 171 false 178 57 [tq 177,ci 0,ci 3]]⟩,⟨[],[og 171 false 179 (.oth (.unOp .not 4 (tq 178))),oq 180 (.pick (tq 171) (cb true) (tq 179))],[]⟩]) (some ([1,6],[1]))∧SX 181 (DU 37471) [ok 2 1] [] []∧SX 181 (DU 3679) [om 159 6,oc 160 .add 3 159 1,om 6 160] [1,6] [1]∧SX 181 (DU 191) [ok 2 0] [] []∧LX 181 R3 [1,3] [1]∧LX 181 NX [1,3,4] [1]∧LX 181 NY [1,5] [1]∧LX 181 N3 [1,6] [1]:=⟨fun _ _=>rfl,fun _ _=>rfl,fun _ _=>rfl,fun _ _=>rfl,rx,rx,rx,rx,rx,rx,rx,rx,rx,rx,rx,rx,rx,rx,rx,rx,rx,rx,rx,rx,rx,rx,rx,rx,rx,rx,lx,lx,lx,lx⟩
def g64:=rg Tryz.f64
def c64:Code:=(.seq (g64 2) (.seq (.seq (g64 9) (.cond (.tmp 30) (.seq (g64 37) .ret) .skip)) (.seq (g64 11) .ret)))
theorem b64:Tryz.f64.body=some c64:=by kernel_rfl
@[simp] theorem x64:SX 39 (g64 2) [oq 1 (.box (tq 0)),ot 2 false] [0] [1]∧SX 39 (g64 9) [oz 3 27 1 4,ol 4 22 3,oe 5 4 22,oc 6 .gtr 3 5 5,om 7 6,gz 7 false 8 27 1 5,gl 7 false 9 22 8,ge 7 false 10 9 22,gc 7 false 11 .gtr 3 10 7,oq 12 (.pick (tq 7) (cb true) (tq 11)),om 13 12,gz 13 false 14 27 1 6,gl 13 false 15 23 14,gd 13 false 16 107 [tq 15],og 13 false 17 (.oth (.unOp .not 4 (tq 16))),oq 18 (.pick (tq 13) (cb true) (tq 17)),om 19 18,gz 19 false 20 27 1 7,gl 19 false 21 24 20,ge 19 false 22 21 24,gc 19 false 23 .gtr 3 22 6,oq 24 (.pick (tq 19) (cb true) (tq 23)),om 25 24,gz 25 false 26 27 1 8,gl 25 false 27 25 26,ge 25 false 28 27 25,gc 25 false 29 .gtr 3 28 7,oq 30 (.pick (tq 25) (cb true) (tq 29))] [1] [1]∧SX 39 (g64 37) [ot 2 false] [] []∧SX 39 (g64 11) [ol 31 27 1,od 32 108 [tq 31],oc 33 .neq 3 32 0,om 34 33,gl 34 false 35 27 1,gd 34 false 36 100 [tq 35],gc 34 false 37 .leq 3 36 80,oq 38 (.pick (tq 34) (cb true) (tq 37)),om 2 38] [1] [1]:=⟨rx,rx,rx,rx⟩
def P5:=rg Tryz.f190
@[simp] def AA0:Code:=(.seq (P5 69) (.seq (.cond (.tmp 9) .skip (.exit 0)) (.seq (.block 1 (.seq (P5 1125) (.seq (P5 2661) (.cond (.tmp 16) (.seq (P5 9829) .ret) .skip)))) (P5 485))))
def R4:=AA0
def APK:Code:=(.seq (P5 2) (.seq (.seq (P5 9) (.block 0 (.loop R4))) (.seq (P5 11) .ret)))
theorem b190:Tryz.f190.body=some APK:=by kernel_rfl
@[simp] theorem BLU:UX 19 R4 AA0∧SX 19 (P5 2) [ok 4 0] [0,1] []∧SX 19 (P5 9) [om 6 0,oe 7 6 22,ok 8 0] [0,1] []∧SX 19 (P5 69) [ob 9 .lss 3 8 7] [0,1,7,8] []∧SX 19 (P5 1125) [om 10 8,om 5 10] [0,1,7,8] []∧SX 19 (P5 2661) [om 11 1,om 12 0,om 13 5,oi 14 22 12 13,ol 15 3 14,oq 16 (.call false none (tq 11) [tq 15])] [0,1,5,7,8] []∧SX 19 (P5 9829) [om 17 5,om 4 17] [5] []∧SX 19 (P5 485) [oc 18 .add 3 8 1,om 8 18] [0,1,3,7,8] []∧SX 19 (P5 11) [oq 4 (.mv (.const (.int .i64 (Int.negSucc 0))))] [] []∧LX 19 R4 [0,1,7,8] []:=⟨fun _ _=>rfl,rx,rx,rx,rx,rx,rx,rx,rx,lx⟩
def AHC:=rg Tryz.f175
def A06:Code:=(.seq (AHC 2) (.seq (AHC 5) .ret))
theorem b175:Tryz.f175.body=some A06:=by kernel_rfl
@[simp] theorem BLV:SX 9 (AHC 2) [ot 4 false] [0,1] [7]∧SX 9 (AHC 5) [om 5 0,om 6 1,od 7 190 [tq 5,tq 6],oc 8 .geq 3 7 0,om 4 8] [0,1,2,3] [2,3]:=⟨rx,rx⟩
def AHD:=rg Tryz.f144
def APL:Code:=(.seq (AHD 2) (.seq (AHD 5) .ret))
theorem b144:Tryz.f144.body=some APL:=by kernel_rfl
@[simp] theorem BLW:SX 9 (AHD 2) [oq 3 (.box (tq 1)),ot 4 false] [0,1,2] [3]∧SX 9 (AHD 5) [om 5 0,oq 6 (.oth (.makeFunc (.func 176) #[] #[tq 3])),od 7 175 [tq 5,tq 6],ou 8 7,om 4 8] [0,1,2,3] [2,3]:=⟨rx,rx⟩
def AHE:=rg Tryz.f176
def APM:Code:=(.seq (AHE 2) (.seq (AHE 5) .ret))
theorem b176:Tryz.f176.body=some APM:=by kernel_rfl
@[simp] theorem BLX:SX 8 (AHE 2) [ot 3 false] [0,1] []∧SX 8 (AHE 5) [ol 4 177 1,om 5 0,oq 6 (.call false none (tq 4) [tq 5]),ou 7 6,om 3 7] [0,1,2] [2]:=⟨rx,rx⟩
def P6:=rg Tryz.f191
@[simp] def AA1:Code:=(.seq (P6 69) (.seq (.cond (.tmp 9) .skip (.exit 0)) (.seq (.block 1 (.seq (P6 1125) (.seq (P6 2661) (.cond (.tmp 16) (.seq (P6 9829) .ret) .skip)))) (P6 485))))
def R5:=AA1
def APN:Code:=(.seq (P6 2) (.seq (.seq (P6 9) (.block 0 (.loop R5))) (.seq (P6 11) .ret)))
theorem b191:Tryz.f191.body=some APN:=by kernel_rfl
@[simp] theorem BLY:UX 19 R5 AA1∧SX 19 (P6 2) [ok 4 0] [0,1] []∧SX 19 (P6 9) [om 6 0,oe 7 6 23,ok 8 0] [0,1] []∧SX 19 (P6 69) [ob 9 .lss 3 8 7] [0,1,7,8] []∧SX 19 (P6 1125) [om 10 8,om 5 10] [0,1,7,8] []∧SX 19 (P6 2661) [om 11 1,om 12 0,om 13 5,oi 14 23 12 13,ol 15 22 14,oq 16 (.call false none (tq 11) [tq 15])] [0,1,5,7,8] []∧SX 19 (P6 9829) [om 17 5,om 4 17] [5] []∧SX 19 (P6 485) [oc 18 .add 3 8 1,om 8 18] [0,1,3,7,8] []∧SX 19 (P6 11) [oq 4 (.mv (.const (.int .i64 (Int.negSucc 0))))] [] []∧LX 19 R5 [0,1,7,8] []:=⟨fun _ _=>rfl,rx,rx,rx,rx,rx,rx,rx,rx,lx⟩
def AHF:=rg Tryz.f177
def A07:Code:=(.seq (AHF 2) (.seq (AHF 5) .ret))
theorem b177:Tryz.f177.body=some A07:=by kernel_rfl
@[simp] theorem BLZ:SX 9 (AHF 2) [ot 4 false] [0,1] [7]∧SX 9 (AHF 5) [om 5 0,om 6 1,od 7 191 [tq 5,tq 6],oc 8 .geq 3 7 0,om 4 8] [0,1,2,3] [2,3]:=⟨rx,rx⟩
def AHG:=rg Tryz.f147
def APO:Code:=(.seq (AHG 2) (.seq (AHG 5) .ret))
theorem b147:Tryz.f147.body=some APO:=by kernel_rfl
@[simp] theorem BL0:SX 9 (AHG 2) [oq 3 (.box (tq 1)),ot 4 false] [0,1,2] [3]∧SX 9 (AHG 5) [om 5 0,oq 6 (.oth (.makeFunc (.func 178) #[] #[tq 3])),od 7 177 [tq 5,tq 6],ou 8 7,om 4 8] [0,1,2,3] [2,3]:=⟨rx,rx⟩
def AHH:=rg Tryz.f178
def APP:Code:=(.seq (AHH 2) (.seq (AHH 5) .ret))
theorem b178:Tryz.f178.body=some APP:=by kernel_rfl
@[simp] theorem BL1:SX 8 (AHH 2) [ot 3 false] [0,1] []∧SX 8 (AHH 5) [ol 4 193 1,om 5 0,oq 6 (.call false none (tq 4) [tq 5]),ou 7 6,om 3 7] [0,1,2] [2]:=⟨rx,rx⟩
def AHI:=rg Tryz.f143
def A08:Code:=(.seq (AHI 2) (.seq (AHI 5) .ret))
theorem BC2:Tryz.f143.body=some A08:=by kernel_rfl
@[simp] theorem BL2:SX 15 (AHI 2) [ot 6 false] [0,1,2] []∧SX 15 (AHI 5) [om 7 1,om 8 0,ob 9 .leq 3 7 8,om 10 9,gm 10 true 11 0,gm 10 true 12 2,gb 10 true 13 .leq 3 11 12,oq 14 (.pick (tq 10) (tq 13) (cb false)),om 6 14] [0,1,2] []:=⟨rx,rx⟩
def AHJ:=rg Tryz.f145
def A09:Code:=(.seq (AHJ 2) (.seq (AHJ 5) .ret))
theorem BC3:Tryz.f145.body=some A09:=by kernel_rfl
@[simp] theorem BL3:SX 5 (AHJ 2) [ot 2 false] [0] []∧SX 5 (AHJ 5) [om 3 0,od 4 143 [tq 3,ci 0,ci 3],om 2 4] [0,1,2] [1,2]:=⟨rx,rx⟩
def AHK:=rg Tryz.f146
def A1A:Code:=(.seq (AHK 2) (.seq (AHK 5) .ret))
theorem BC4:Tryz.f146.body=some A1A:=by kernel_rfl
@[simp] theorem BL4:SX 5 (AHK 2) [ot 2 false] [0] []∧SX 5 (AHK 5) [om 3 0,od 4 143 [tq 3,.const (.int .i64 (Int.negSucc 0)),ci 3],om 2 4] [0,1,2] [1,2]:=⟨rx,rx⟩
def wR:=rg Tryz.f148
def APQ:Code:=(.seq (wR 2) (.seq (wR 5) (.seq (wR 11) .ret)))
theorem BC5:Tryz.f148.body=some APQ:=by kernel_rfl
@[simp] theorem BL5:SX 12 (wR 2) [ot 2 false] [0] []∧SX 12 (wR 5) [oq 3 (.alloc 3),os (.sto 3 (tq 3) (.const (.int .i64 (Int.negSucc 0))))] [0] []∧SX 12 (wR 11) [om 4 0,oe 5 4 22,oc 6 .gtr 3 5 0,om 7 6,gm 7 true 8 0,og 7 true 9 (.oth (.makeFunc (.func 179) #[] #[tq 3])),gd 7 true 10 144 [tq 8,tq 9],oq 11 (.pick (tq 7) (tq 10) (cb false)),om 2 11] [0,3] [3]:=⟨rx,rx,rx⟩
def jB:=rg Tryz.f179
def A1B:Code:=(.seq (jB 2) (.seq (jB 5) (.seq (jB 11) (.seq (jB 23) .ret))))
theorem b179:Tryz.f179.body=some A1B:=by kernel_rfl
@[simp] theorem BL6:SX 11 (jB 2) [ot 3 false] [0,1] []∧SX 11 (jB 5) [om 5 0,ol 6 3 1,oc 7 .add 3 6 1,od 8 143 [tq 5,tq 7,ci 3],om 4 8] [0,1] []∧SX 11 (jB 11) [om 9 0,os (.sto 3 (tq 1) (tq 9))] [0,1,4] []∧SX 11 (jB 23) [om 10 4,om 3 10] [4] []:=⟨rx,rx,rx,rx⟩
def AHL:=rg Tryz.f174
def A1C:Code:=(.seq (AHL 2) (.seq (AHL 5) .ret))
theorem BC6:Tryz.f174.body=some A1C:=by kernel_rfl
@[simp] theorem BL7:SX 9 (AHL 2) [oq 2 (.box (tq 0)),ot 4 false] [0,1] [2]∧SX 9 (AHL 5) [om 5 1,oz 6 40 2 0,ol 7 3 6,od 8 143 [tq 5,ci 0,tq 7],om 4 8] [0,1,2,3] [2,3]:=⟨rx,rx⟩
def AHM:=rg Tryz.f141
def A1D:Code:=(.seq (AHM 2) (.seq (AHM 5) .ret))
theorem BC7:Tryz.f141.body=some A1D:=by kernel_rfl
@[simp] theorem BL8:SX 19 (AHM 2) [oq 2 (.box (tq 0)),oq 3 (.box (tq 1)),ot 4 false] [0,1] [2]∧SX 19 (AHM 5) [oz 5 86 3 0,ol 6 3 5,oz 7 40 2 1,ol 8 3 7,oc 9 .sub 3 8 1,od 10 143 [tq 6,ci 0,tq 9],om 11 10,gz 11 true 12 86 3 1,gl 11 true 13 3 12,gz 11 true 14 40 2 2,gl 11 true 15 3 14,gc 11 true 16 .sub 3 15 1,gd 11 true 17 143 [tq 13,ci 0,tq 16],oq 18 (.pick (tq 11) (tq 17) (cb false)),om 4 18] [2,3] [2,3]:=⟨rx,rx⟩
def AHN:=rg Tryz.f142
def A1E:Code:=(.seq (AHN 2) (.seq (AHN 5) .ret))
theorem BC8:Tryz.f142.body=some A1E:=by kernel_rfl
@[simp] theorem BL9:SX 14 (AHN 2) [oq 2 (.box (tq 0)),oq 3 (.box (tq 1)),ot 4 false] [0,1] [2]∧SX 14 (AHN 5) [ol 5 40 2,oz 6 99 3 0,ol 7 3 6,od 8 174 [tq 5,tq 7],om 9 8,gz 9 true 10 99 3 1,gl 9 true 11 3 10,gd 9 true 12 145 [tq 11],oq 13 (.pick (tq 9) (tq 12) (cb false)),om 4 13] [1,2,3,4] [2,3,4]:=⟨rx,rx⟩
def P7:=rg Tryz.f192
@[simp] def AA2:Code:=(.seq (P7 69) (.seq (.cond (.tmp 9) .skip (.exit 0)) (.seq (.block 1 (.seq (P7 1125) (.seq (P7 2661) (.cond (.tmp 16) (.seq (P7 9829) .ret) .skip)))) (P7 485))))
def R6:=AA2
def APR:Code:=(.seq (P7 2) (.seq (.seq (P7 9) (.block 0 (.loop R6))) (.seq (P7 11) .ret)))
theorem b192:Tryz.f192.body=some APR:=by kernel_rfl
@[simp] theorem BMA:UX 19 R6 AA2∧SX 19 (P7 2) [ok 4 0] [0,1] []∧SX 19 (P7 9) [om 6 0,oe 7 6 37,ok 8 0] [0,1] []∧SX 19 (P7 69) [ob 9 .lss 3 8 7] [0,1,7,8] []∧SX 19 (P7 1125) [om 10 8,om 5 10] [0,1,7,8] []∧SX 19 (P7 2661) [om 11 1,om 12 0,om 13 5,oi 14 37 12 13,ol 15 86 14,oq 16 (.call false none (tq 11) [tq 15])] [0,1,5,7,8] []∧SX 19 (P7 9829) [om 17 5,om 4 17] [5] []∧SX 19 (P7 485) [oc 18 .add 3 8 1,om 8 18] [0,1,3,7,8] []∧SX 19 (P7 11) [oq 4 (.mv (.const (.int .i64 (Int.negSucc 0))))] [] []∧LX 19 R6 [0,1,7,8] []:=⟨fun _ _=>rfl,rx,rx,rx,rx,rx,rx,rx,rx,lx⟩
def AHO:=rg Tryz.f180
def A1F:Code:=(.seq (AHO 2) (.seq (AHO 5) .ret))
theorem b180:Tryz.f180.body=some A1F:=by kernel_rfl
@[simp] theorem BMB:SX 9 (AHO 2) [ot 4 false] [0,1] [7]∧SX 9 (AHO 5) [om 5 0,om 6 1,od 7 192 [tq 5,tq 6],oc 8 .geq 3 7 0,om 4 8] [0,1,2,3] [2,3]:=⟨rx,rx⟩
def AHP:=rg Tryz.f149
def A1G:Code:=(.seq (AHP 2) (.seq (AHP 5) .ret))
theorem BC9:Tryz.f149.body=some A1G:=by kernel_rfl
@[simp] theorem BMC:SX 9 (AHP 2) [oq 3 (.box (tq 1)),ot 4 false] [0,1,2] [3]∧SX 9 (AHP 5) [om 5 0,oq 6 (.oth (.makeFunc (.func 181) #[] #[tq 3])),od 7 180 [tq 5,tq 6],ou 8 7,om 4 8] [0,1,2,3] [2,3]:=⟨rx,rx⟩
def AHQ:=rg Tryz.f181
def A1H:Code:=(.seq (AHQ 2) (.seq (AHQ 5) .ret))
theorem b181:Tryz.f181.body=some A1H:=by kernel_rfl
@[simp] theorem BMD:SX 8 (AHQ 2) [oq 2 (.box (tq 0)),ot 3 false] [0,1] []∧SX 8 (AHQ 5) [ol 4 225 1,ol 5 86 2,oq 6 (.call false none (tq 4) [tq 5]),ou 7 6,om 3 7] [0,1,2] [2]:=⟨rx,rx⟩
def P8:=rg Tryz.f193
@[simp] def AA3:Code:=(.seq (P8 69) (.seq (.cond (.tmp 9) .skip (.exit 0)) (.seq (.block 1 (.seq (P8 1125) (.seq (P8 2661) (.cond (.tmp 16) (.seq (P8 9829) .ret) .skip)))) (P8 485))))
def R7:=AA3
def APS:Code:=(.seq (P8 2) (.seq (.seq (P8 9) (.block 0 (.loop R7))) (.seq (P8 11) .ret)))
theorem b193:Tryz.f193.body=some APS:=by kernel_rfl
@[simp] theorem BME:UX 19 R7 AA3∧SX 19 (P8 2) [ok 4 0] [0,1] []∧SX 19 (P8 9) [om 6 0,oe 7 6 38,ok 8 0] [0,1] []∧SX 19 (P8 69) [ob 9 .lss 3 8 7] [0,1,7,8] []∧SX 19 (P8 1125) [om 10 8,om 5 10] [0,1,7,8] []∧SX 19 (P8 2661) [om 11 1,om 12 0,om 13 5,oi 14 38 12 13,ol 15 99 14,oq 16 (.call false none (tq 11) [tq 15])] [0,1,5,7,8] []∧SX 19 (P8 9829) [om 17 5,om 4 17] [5] []∧SX 19 (P8 485) [oc 18 .add 3 8 1,om 8 18] [0,1,3,7,8] []∧SX 19 (P8 11) [oq 4 (.mv (.const (.int .i64 (Int.negSucc 0))))] [] []∧LX 19 R7 [0,1,7,8] []:=⟨fun _ _=>rfl,rx,rx,rx,rx,rx,rx,rx,rx,lx⟩
def AHR:=rg Tryz.f182
def A1I:Code:=(.seq (AHR 2) (.seq (AHR 5) .ret))
theorem b182:Tryz.f182.body=some A1I:=by kernel_rfl
@[simp] theorem BMF:SX 9 (AHR 2) [ot 4 false] [0,1] [7]∧SX 9 (AHR 5) [om 5 0,om 6 1,od 7 193 [tq 5,tq 6],oc 8 .geq 3 7 0,om 4 8] [0,1,2,3] [2,3]:=⟨rx,rx⟩
def AHS:=rg Tryz.f150
def A1J:Code:=(.seq (AHS 2) (.seq (AHS 5) .ret))
theorem BDA:Tryz.f150.body=some A1J:=by kernel_rfl
@[simp] theorem BMG:SX 9 (AHS 2) [oq 3 (.box (tq 1)),ot 4 false] [0,1,2] [3]∧SX 9 (AHS 5) [om 5 0,oq 6 (.oth (.makeFunc (.func 183) #[] #[tq 3])),od 7 182 [tq 5,tq 6],ou 8 7,om 4 8] [0,1,2,3] [2,3]:=⟨rx,rx⟩
def AHT:=rg Tryz.f183
def A1K:Code:=(.seq (AHT 2) (.seq (AHT 5) .ret))
theorem b183:Tryz.f183.body=some A1K:=by kernel_rfl
@[simp] theorem BMH:SX 8 (AHT 2) [oq 2 (.box (tq 0)),ot 3 false] [0,1] []∧SX 8 (AHT 5) [ol 4 226 1,ol 5 99 2,oq 6 (.call false none (tq 4) [tq 5]),ou 7 6,om 3 7] [0,1,2] [2]:=⟨rx,rx⟩
def NI:=rg Tryz.f110
def NJ:Code:=(.seq (NI 2) (.seq (NI 5) (.seq (.block 0 (.seq (NI 35) (.cond (.tmp 9) (.seq (NI 147) .ret) (.seq (NI 179) (.cond (.tmp 35) (.seq (NI 627) .ret) (.seq (NI 755) (.cond (.tmp 81) (.seq (NI 2547) .ret) .skip))))))) (.seq (NI 23) .ret))))
theorem BDB:Tryz.f110.body=some NJ:=by kernel_rfl
@[simp] theorem BMI:SX 112 (NI 2) [oq 1 (.box (tq 0)),ok 2 0] [0] [1,20,21,26,27,102,103,104]∧RX 112 (NI 5) (.drw [⟨[],[ol 5 40 1,oq 6 (.oth (.makeFunc (.func 141) #[tq 5] #[])),ol 7 40 1,oq 8 (.oth (.makeFunc (.func 142) #[tq 7] #[])),om 3 6,om 4 8],[]⟩]) (some ([1],[1]))∧SX 112 (NI 35) [oz 10 40 1 0,ol 11 3 10,oc 12 .gtr 3 11 4,om 13 12,gz 13 false 14 40 1 1,gl 13 false 15 3 14,gc 13 false 16 .gtr 3 15 3,oq 17 (.pick (tq 13) (cb true) (tq 16)),om 18 17,gz 18 false 19 40 1 2,gl 18 false 20 3 19,gc 18 false 21 .gtr 3 20 5,oq 22 (.pick (tq 18) (cb true) (tq 21)),om 23 22,gz 23 false 24 40 1 7,gl 23 false 25 37 24,ge 23 false 26 25 37,gc 23 false 27 .gtr 3 26 4,oq 28 (.pick (tq 23) (cb true) (tq 27)),om 29 28,gz 29 false 30 40 1 8,gl 29 false 31 38 30,ge 29 false 32 31 38,gc 29 false 33 .gtr 3 32 5,oq 34 (.pick (tq 29) (cb true) (tq 33)),om 9 34] [1,3,4] [1]∧SX 112 (NI 147) [ok 2 3] [] []∧SX 112 (NI 179) [oz 36 40 1 0,ol 37 3 36,oc 38 .lss 3 37 0,om 39 38,gz 39 false 40 40 1 1,gl 39 false 41 3 40,gc 39 false 42 .lss 3 41 1,oq 43 (.pick (tq 39) (cb true) (tq 42)),om 44 43,gz 44 false 45 40 1 2,gl 44 false 46 3 45,gc 44 false 47 .lss 3 46 1,oq 48 (.pick (tq 44) (cb true) (tq 47)),om 49 48,gz 49 false 50 40 1 3,gl 49 false 51 3 50,gd 49 false 52 143 [tq 51,ci 0,ci 4],og 49 false 53 (.oth (.unOp .not 4 (tq 52))),oq 54 (.pick (tq 49) (cb true) (tq 53)),om 55 54,gz 55 false 56 40 1 4,gl 55 false 57 22 56,ge 55 false 58 57 22,gz 55 false 59 40 1 1,gl 55 false 60 3 59,gb 55 false 61 .neq 3 58 60,oq 62 (.pick (tq 55) (cb true) (tq 61)),om 63 62,gz 63 false 64 40 1 5,gl 63 false 65 22 64,ge 63 false 66 65 22,gz 63 false 67 40 1 0,gl 63 false 68 3 67,gc 63 false 69 .add 3 68 1,gb 63 false 70 .neq 3 66 69,oq 71 (.pick (tq 63) (cb true) (tq 70)),om 72 71,gz 72 false 73 40 1 6,gl 72 false 74 23 73,ge 72 false 75 74 23,gz 72 false 76 40 1 0,gl 72 false 77 3 76,gc 72 false 78 .add 3 77 1,gb 72 false 79 .neq 3 75 78,oq 80 (.pick (tq 72) (cb true) (tq 79)),om 35 80] [1,3,4] [1]∧SX 112 (NI 627) [ok 2 1] [] []∧SX 112 (NI 755) [oz 82 40 1 4,ol 83 22 82,od 84 144 [tq 83,.func 145],ou 85 84,om 86 85,gz 86 false 87 40 1 5,gl 86 false 88 22 87,gd 86 false 89 144 [tq 88,.func 146],og 86 false 90 (.oth (.unOp .not 4 (tq 89))),oq 91 (.pick (tq 86) (cb true) (tq 90)),om 92 91,gz 92 false 93 40 1 6,gl 92 false 94 23 93,gd 92 false 95 147 [tq 94,.func 148],og 92 false 96 (.oth (.unOp .not 4 (tq 95))),oq 97 (.pick (tq 92) (cb true) (tq 96)),om 98 97,gz 98 false 99 40 1 7,gl 98 false 100 37 99,gm 98 false 101 3,gd 98 false 102 149 [tq 100,tq 101],og 98 false 103 (.oth (.unOp .not 4 (tq 102))),oq 104 (.pick (tq 98) (cb true) (tq 103)),om 105 104,gz 105 false 106 40 1 8,gl 105 false 107 38 106,gm 105 false 108 4,gd 105 false 109 150 [tq 107,tq 108],og 105 false 110 (.oth (.unOp .not 4 (tq 109))),oq 111 (.pick (tq 105) (cb true) (tq 110)),om 81 111] [1,3,4] [1]∧SX 112 (NI 2547) [ok 2 1] [] []∧SX 112 (NI 23) [ok 2 0] [] []:=⟨rx,rx,rx,rx,rx,rx,rx,rx,rx⟩
def AHU:=rg Tryz.f111
def APT:Code:=(.seq (AHU 2) (.seq (AHU 5) .ret))
theorem BDC:Tryz.f111.body=some APT:=by kernel_rfl
@[simp] theorem BMJ:SX 16 (AHU 2) [oq 2 (.box (tq 0)),ot 4 false] [0,1] [2]∧SX 16 (AHU 5) [om 5 1,oe 6 5 23,oz 7 40 2 0,ol 8 3 7,oc 9 .add 3 8 1,ob 10 .eql 3 6 9,om 11 10,gm 11 true 12 1,og 11 true 13 (.oth (.makeFunc (.func 151) #[] #[tq 2])),gd 11 true 14 147 [tq 12,tq 13],oq 15 (.pick (tq 11) (tq 14) (cb false)),om 4 15] [1,2] [2]:=⟨rx,rx⟩
def AHV:=rg Tryz.f151
def APU:Code:=(.seq (AHV 2) (.seq (AHV 5) .ret))
theorem b151:Tryz.f151.body=some APU:=by kernel_rfl
@[simp] theorem BMK:SX 13 (AHV 2) [ot 3 false] [0,1,2] [3,4,5,9]∧SX 13 (AHV 5) [om 4 0,oe 5 4 22,oz 6 40 1 1,ol 7 3 6,ob 8 .eql 3 5 7,om 9 8,gm 9 true 10 0,gd 9 true 11 144 [tq 10,.func 145],oq 12 (.pick (tq 9) (tq 11) (cb false)),om 3 12] [0,1] []:=⟨rx,rx⟩
def AHW:=rg Tryz.f194
def A1L:Code:=(.seq (AHW 2) (.seq (AHW 5) .ret))
theorem BDD:Tryz.f194.body=some A1L:=by kernel_rfl
@[simp] theorem BML:SX 6 (AHW 2) [ok 2 0] [0,1] []∧SX 6 (AHW 5) [om 3 0,oc 4 .add 3 3 2,oc 5 .rem 3 4 4,om 2 5] [0,1] []:=⟨rx,rx⟩
def AHX:=rg Tryz.f195
def A1M:Code:=(.seq (AHX 2) (.seq (AHX 5) .ret))
theorem BDE:Tryz.f195.body=some A1M:=by kernel_rfl
@[simp] theorem BMM:SX 11 (AHX 2) [oq 3 (.box (tq 0)),oq 4 (.box (tq 1)),oq 5 (.box (tq 2)),ot 6 false] [0,1,2] [3,4,5]∧SX 11 (AHX 5) [oz 7 40 3 7,ol 8 37 7,oq 9 (.oth (.makeFunc (.func 199) #[] #[tq 5,tq 4,tq 3])),od 10 180 [tq 8,tq 9],om 6 10] [3,4,5] [3,4,5]:=⟨rx,rx⟩
def KE:=rg Tryz.f199
def AA4:Code:=(.seq (KE 2) (.seq (KE 5) (.seq (.block 0 (.seq (KE 35) (.cond (.tmp 7) (KE 83) (.seq (KE 179) (.cond (.tmp 22) (KE 371) (.seq (KE 755) (.cond (.tmp 37) (KE 1523) (.seq (KE 3059) (.cond (.tmp 52) (KE 6131) .skip))))))))) (.seq (KE 23) .ret))))
theorem b199:Tryz.f199.body=some AA4:=by kernel_rfl
@[simp] theorem BMN:SX 71 (KE 2) [oq 4 (.box (tq 0)),ot 5 false] [0,1,2,3] []∧SX 71 (KE 5) [ok 6 0] [1,2,3,4] [4]∧SX 71 (KE 35) [ol 8 3 1,oc 9 .eql 3 8 0,om 10 9,gz 10 true 11 86 4 1,gl 10 true 12 3 11,gz 10 true 13 86 2 1,gl 10 true 14 3 13,gb 10 true 15 .eql 3 12 14,oq 16 (.pick (tq 10) (tq 15) (cb false)),om 7 16] [1,2,3,4,6] [4]∧SX 71 (KE 83) [oz 17 86 2 0,ol 18 3 17,oz 19 86 4 0,ol 20 3 19,ob 21 .sub 3 18 20,om 6 21] [2,3,4] [4]∧SX 71 (KE 179) [ol 23 3 1,oc 24 .eql 3 23 2,om 25 24,gz 25 true 26 86 4 1,gl 25 true 27 3 26,gz 25 true 28 86 2 1,gl 25 true 29 3 28,gb 25 true 30 .eql 3 27 29,oq 31 (.pick (tq 25) (tq 30) (cb false)),om 22 31] [1,2,3,4,6] [4]∧SX 71 (KE 371) [oz 32 86 4 0,ol 33 3 32,oz 34 86 2 0,ol 35 3 34,ob 36 .sub 3 33 35,om 6 36] [2,3,4] [4]∧SX 71 (KE 755) [ol 38 3 1,oc 39 .eql 3 38 3,om 40 39,gz 40 true 41 86 4 0,gl 40 true 42 3 41,gz 40 true 43 86 2 0,gl 40 true 44 3 43,gb 40 true 45 .eql 3 42 44,oq 46 (.pick (tq 40) (tq 45) (cb false)),om 37 46] [1,2,3,4,6] [4]∧SX 71 (KE 1523) [oz 47 86 2 1,ol 48 3 47,oz 49 86 4 1,ol 50 3 49,ob 51 .sub 3 48 50,om 6 51] [2,3,4] [4]∧SX 71 (KE 3059) [ol 53 3 1,oc 54 .eql 3 53 1,om 55 54,gz 55 true 56 86 4 0,gl 55 true 57 3 56,gz 55 true 58 86 2 0,gl 55 true 59 3 58,gb 55 true 60 .eql 3 57 59,oq 61 (.pick (tq 55) (tq 60) (cb false)),om 52 61] [1,2,3,4,6] [4]∧SX 71 (KE 6131) [oz 62 86 4 1,ol 63 3 62,oz 64 86 2 1,ol 65 3 64,ob 66 .sub 3 63 65,om 6 66] [2,3,4] [4]∧SX 71 (KE 23) [om 67 6,oz 68 40 3 3,ol 69 3 68,od 70 143 [tq 67,ci 1,tq 69],om 5 70] [3,6] []:=⟨rx,rx,rx,rx,rx,rx,rx,rx,rx,rx,rx⟩
def AHY:=rg Tryz.f184
def A1N:Code:=(.seq (AHY 2) (.seq (AHY 5) .ret))
theorem BDF:Tryz.f184.body=some A1N:=by kernel_rfl
@[simp] theorem BMO:SX 19 (AHY 2) [oq 4 (.box (tq 0)),oq 5 (.box (tq 1)),ot 8 false] [0,1,2,3] [4]∧SX 19 (AHY 5) [om 9 2,om 10 3,od 11 194 [tq 10],ob 12 .eql 3 9 11,om 13 12,gl 13 false 14 40 4,gl 13 false 15 86 5,gm 13 false 16 3,gd 13 false 17 195 [tq 14,tq 15,tq 16],oq 18 (.pick (tq 13) (cb true) (tq 17)),om 8 18] [2,3,4,5] [4,5]:=⟨rx,rx⟩
def P9:=rg Tryz.f153
def A1O:Code:=(.seq (P9 2) (.seq (P9 5) (.seq (.seq (P9 19) (.cond (.tmp 25) (P9 43) .skip)) (.seq (.seq (P9 39) (.cond (.tmp 27) (P9 87) .skip)) (.seq (P9 47) (.seq (P9 95) .ret))))))
theorem BDG:Tryz.f153.body=some A1O:=by kernel_rfl
@[simp] theorem BMP:SX 36 (P9 2) [oq 5 (.box (tq 0)),oq 6 (.box (tq 1)),oq 10 (.alloc 155)] [0,1,2,3,4] [5]∧RX 36 (P9 5) (.drw [⟨[],[oz 13 40 5 5,ol 14 22 13,om 15 2,oi 16 22 14 15,ol 17 3 16,om 18 3,ob 19 .eql 3 17 18,ol 20 40 5,ol 21 86 6,om 22 3,om 23 4,od 24 184 [tq 20,tq 21,tq 22,tq 23],om 11 19,om 12 24],[]⟩]) (some ([2,3,4,5,6,10],[5,6,10]))∧SX 36 (P9 19) [om 25 11] [10,11,12] [10]∧SX 36 (P9 43) [oz 26 155 10 0,os (.sto 3 (tq 26) (ci 1))] [10,12] [10]∧SX 36 (P9 39) [om 27 12] [10,12] [10]∧SX 36 (P9 87) [oz 28 155 10 1,os (.sto 3 (tq 28) (ci 1))] [10] [10]∧SX 36 (P9 47) [oz 29 155 10 0,ol 30 3 29,oz 31 155 10 1,ol 32 3 31,ob 33 .mul 3 30 32,oz 34 155 10 2,os (.sto 3 (tq 34) (tq 33))] [10] [10]∧SX 36 (P9 95) [ol 35 155 10,os (.sto 155 (tq 10) (tq 35))] [10] [10]:=⟨rx,rx,rx,rx,rx,rx,rx,rx⟩
def QA:=rg Tryz.f101
@[simp] def AA5:Code:=(lp (QA 267) 12 0 1 (.seq (QA 1099) (QA 1611)) (QA 459))
def R8:=AA5
def A1P:Code:=(.seq (QA 2) (.seq (QA 5) (.seq (.seq (QA 19) (.block 0 (.loop R8))) (.seq (QA 23) .ret))))
theorem BDH:Tryz.f101.body=some A1P:=by kernel_rfl
@[simp] theorem BMQ:UX 35 R8 AA5∧SX 35 (QA 2) [oq 2 (.box (tq 0)),oq 4 (.mv (.const (.slice none 0 0)))] [0,1] [2]∧SX 35 (QA 5) [oq 5 (.mv (.const (.slice none 0 0)))] [1,2] [2]∧SX 35 (QA 19) [ok 6 0] [1,2,5] [2,29]∧SX 35 (QA 267) [om 8 6,oz 9 27 2 6,ol 10 23 9,oe 11 10 23,ob 12 .lss 3 8 11] [1,2,5,6] [2,29]∧SX 35 (QA 1099) [oz 15 27 2 6,ol 16 23 15,om 17 6,oi 18 23 16 17,ol 19 22 18,om 7 19] [1,2,5,6] [2,29]∧RX 35 (QA 1611) (.drw [⟨[],[om 20 5,om 21 7,om 22 1,om 23 7,oe 24 23 22,ob 25 .rem 3 22 24,oi 26 22 21 25,ol 27 3 26,oq 28 (.buildS 22 1 [(0,tq 27)]),om 30 1,om 31 7,oe 32 31 22,ob 33 .quo 3 30 32,oq 29 (.app [tq 20,tq 28] [22,22]),om 5 29,om 1 33],[]⟩]) (some ([1,2,5,6,7],[2,29]))∧SX 35 (QA 459) [om 13 6,oc 14 .add 3 13 1,om 6 14] [1,2,5,6] [2,29]∧SX 35 (QA 23) [om 34 5,om 4 34] [5] [29]∧LX 35 R8 [1,2,5,6] [2,29]:=⟨fun _ _=>rfl,rx,rx,rx,rx,rx,rx,rx,rx,lx⟩
def QB:=rg Tryz.f170
@[simp] def AA6:Code:=(.seq (QB 69) (.seq (.cond (.tmp 9) .skip (.exit 0)) (.seq (.block 1 (.seq (QB 1125) (.seq (QB 2661) (.cond (.tmp 16) (.seq (QB 9829) .ret) .skip)))) (QB 485))))
def R9:=AA6
def APV:Code:=(.seq (QB 2) (.seq (.seq (QB 9) (.block 0 (.loop R9))) (.seq (QB 11) .ret)))
theorem A1Q:Tryz.f170.body=some APV:=by kernel_rfl
@[simp] theorem BMR:UX 19 R9 AA6∧SX 19 (QB 2) [ok 4 0] [0,1] []∧SX 19 (QB 9) [om 6 0,oe 7 6 22,ok 8 0] [0,1] []∧SX 19 (QB 69) [ob 9 .lss 3 8 7] [0,1,7,8] []∧SX 19 (QB 1125) [om 10 8,om 5 10] [0,1,7,8] []∧SX 19 (QB 2661) [om 11 1,om 12 0,om 13 5,oi 14 22 12 13,ol 15 3 14,ob 16 .eql 3 11 15] [0,1,5,7,8] []∧SX 19 (QB 9829) [om 17 5,om 4 17] [5] []∧SX 19 (QB 485) [oc 18 .add 3 8 1,om 8 18] [0,1,3,7,8] []∧SX 19 (QB 11) [oq 4 (.mv (.const (.int .i64 (Int.negSucc 0))))] [] []∧LX 19 R9 [0,1,7,8] []:=⟨fun _ _=>rfl,rx,rx,rx,rx,rx,rx,rx,rx,lx⟩
def AHZ:=rg Tryz.f132
def A1R:Code:=(.seq (AHZ 2) (.seq (AHZ 5) .ret))
theorem BDI:Tryz.f132.body=some A1R:=by kernel_rfl
@[simp] theorem BMS:SX 9 (AHZ 2) [ot 4 false] [0,1] [7]∧SX 9 (AHZ 5) [om 5 0,om 6 1,od 7 170 [tq 5,tq 6],oc 8 .geq 3 7 0,om 4 8] [0,1,2,3] [2,3]:=⟨rx,rx⟩
def LB:=rg Tryz.f112
@[simp] def AA7:Code:=(.seq (LB 139) (.seq (.cond (.tmp 16) .skip (.exit 0)) (.seq (.block 1 (.seq (LB 2251) (.seq (LB 5323) (.cond (.tmp 27) (.seq (LB 19659) .ret) .skip)))) (LB 971))))
def SA:=AA7
def APW:Code:=(.seq (LB 2) (.seq (.seq (LB 9) (.cond (.tmp 12) (.seq (LB 37) .ret) .skip)) (.seq (.seq (LB 19) (.block 0 (.loop SA))) (.seq (LB 23) .ret))))
theorem BDJ:Tryz.f112.body=some APW:=by kernel_rfl
@[simp] theorem BMT:UX 29 SA AA7∧SX 29 (LB 2) [oq 2 (.box (tq 0)),ot 4 false] [0,1] [2]∧SX 29 (LB 9) [om 7 1,oe 8 7 22,oz 9 40 2 0,ol 10 3 9,oc 11 .add 3 10 1,ob 12 .neq 3 8 11] [1,2] [2]∧SX 29 (LB 37) [ot 4 false] [] []∧SX 29 (LB 19) [om 13 1,oe 14 13 22,ok 15 0] [1,2] [2]∧SX 29 (LB 139) [ob 16 .lss 3 15 14] [2,13,14,15] [2]∧SX 29 (LB 2251) [om 17 15,oi 18 22 13 15,ol 19 3 18,om 5 17,om 6 19] [2,13,14,15] [2]∧SX 29 (LB 5323) [oz 20 40 2 6,ol 21 23 20,om 22 5,oi 23 23 21 22,ol 24 22 23,om 25 6,od 26 132 [tq 24,tq 25],ou 27 26] [2,5,6,13,14,15] [2]∧SX 29 (LB 19659) [ot 4 false] [] []∧SX 29 (LB 971) [oc 28 .add 3 15 1,om 15 28] [2,13,14,15] [2]∧SX 29 (LB 23) [ot 4 true] [] []∧LX 29 SA [2,13,14,15] [2]:=⟨fun _ _=>rfl,rx,rx,rx,rx,rx,rx,rx,rx,rx,rx,lx⟩
def QC:=rg Tryz.f164
@[simp] def AA8:Code:=(.seq (QC 69) (.seq (.cond (.tmp 13) .skip (.exit 0)) (.seq (.block 1 (.seq (QC 1125) (.seq (QC 2661) (.cond (.tmp 30) (.seq (QC 9829) .ret) .skip)))) (QC 485))))
def SB:=AA8
def A1S:Code:=(.seq (QC 2) (.seq (.seq (QC 9) (.block 0 (.loop SB))) (.seq (QC 11) .ret)))
theorem BDK:Tryz.f164.body=some A1S:=by kernel_rfl
@[simp] theorem BMU:UX 32 SB AA8∧SX 32 (QC 2) [oq 3 (.box (tq 0)),ot 6 false] [0,1,2] [3]∧SX 32 (QC 9) [oz 9 40 3 8,ol 10 38 9,oe 11 10 38,ok 12 0] [1,2,3] [3]∧SX 32 (QC 69) [ob 13 .lss 3 12 11] [1,2,10,11,12] [3]∧SX 32 (QC 1125) [om 14 12,oi 15 38 10 12,ol 16 99 15,oq 8 (.alloc 99),om 7 14,os (.sto 99 (tq 8) (tq 16))] [1,2,10,11,12] [3]∧RX 32 (QC 2661) (.drw [⟨[],[om 17 2,om 18 7],[od 19 132 [tq 17,tq 18]]⟩,⟨[],[ou 20 19,om 21 20,gm 21 true 22 1,gz 21 true 23 99 8 0,gl 21 true 24 3 23,gi 21 true 25 22 22 24,gl 21 true 26 3 25,gz 21 true 27 99 8 1,gl 21 true 28 3 27,gb 21 true 29 .neq 3 26 28,oq 30 (.pick (tq 21) (tq 29) (cb false))],[]⟩]) (some ([1,2,7,8,10,11,12],[3,8]))∧SX 32 (QC 9829) [ot 6 false] [] []∧SX 32 (QC 485) [oc 31 .add 3 12 1,om 12 31] [1,2,10,11,12] [3]∧SX 32 (QC 11) [ot 6 true] [] []∧LX 32 SB [1,2,10,11,12] [3]:=⟨fun _ _=>rfl,rx,rx,rx,rx,rx,rx,rx,rx,lx⟩
def AH0:=rg Tryz.f124
def AH1:Code:=(.seq (AH0 2) (.seq (AH0 5) .ret))
theorem BDL:Tryz.f124.body=some AH1:=by kernel_rfl
@[simp] theorem BMV:SX 18 (AH0 2) [oq 2 (.box (tq 0)),ot 4 false] [0,1] [2]∧SX 18 (AH0 5) [ol 5 40 2,od 6 110 [tq 5],oc 7 .eql 34 6 0,om 8 7,gl 8 true 9 40 2,gm 8 true 10 1,gd 8 true 11 112 [tq 9,tq 10],oq 12 (.pick (tq 8) (tq 11) (cb false)),om 13 12,gl 13 true 14 40 2,gm 13 true 15 1,gd 13 true 16 164 [tq 14,tq 15,.const (.slice none 0 0)],oq 17 (.pick (tq 13) (tq 16) (cb false)),om 4 17] [1,2] [2]:=⟨rx,rx⟩
def N4:=rg Tryz.f165
@[simp] def AA9:Code:=(lp (N4 535) 15 0 1 (N4 1175) (N4 919))
def fF:=AA9
def A1T:Code:=(.seq (N4 2) (.seq (.seq (N4 9) (.cond (.tmp 7) (N4 21) .skip)) (.seq (N4 11) (.seq (.seq (N4 39) (.block 0 (.loop fF))) (.seq (N4 47) .ret)))))
theorem BDM:Tryz.f165.body=some A1T:=by kernel_rfl
@[simp] theorem BMW:UX 25 fF AA9∧SX 25 (N4 2) [ok 2 0] [0] []∧SX 25 (N4 9) [om 5 0,oe 6 5 22,oc 7 .lss 3 6 1] [0] []∧SX 25 (N4 11) [om 9 0,oq 10 (.oth (.indexAddr 22 (tq 9) (ci 0))),ol 11 3 10,om 3 11] [0] []∧SX 25 (N4 39) [ok 4 1] [0,3] []∧SX 25 (N4 535) [om 12 4,om 13 0,oe 14 13 22,ob 15 .lss 3 12 14] [0,3,4] []∧SX 25 (N4 1175) [om 18 3,om 19 0,om 20 4,oi 21 22 19 20,ol 22 3 21,oq 23 (.oth (.call ⟨.builtin .min,#[tq 18,tq 22],#[3,3]⟩)),om 3 23] [0,3,4] []∧SX 25 (N4 919) [om 16 4,oc 17 .add 3 16 1,om 4 17] [0,3,4] []∧SX 25 (N4 47) [om 24 3,om 2 24] [3] []∧LX 25 fF [0,3,4] []:=⟨fun _ _=>rfl,rx,rx,rx,rx,rx,rx,rx,rx,lx⟩
def AH2:=rg Tryz.f198
def A1U:Code:=(.seq (AH2 2) (.seq (AH2 5) .ret))
theorem BDN:Tryz.f198.body=some A1U:=by kernel_rfl
@[simp] theorem BMX:SX 5 (AH2 2) [ok 2 0] [0] []∧SX 5 (AH2 5) [om 3 0,od 4 165 [tq 3],om 2 4] [0,1,2] [1,2]:=⟨rx,rx⟩
def AH3:=rg Tryz.f186
def A1V:Code:=(.seq (AH3 2) (.seq (AH3 5) .ret))
theorem BDO:Tryz.f186.body=some A1V:=by kernel_rfl
@[simp] theorem BMY:SX 15 (AH3 2) [oq 2 (.box (tq 0)),oq 4 (.alloc 207)] [0,1] []∧RX 15 (AH3 5) (.drw [⟨[],[oz 5 207 2 0,oq 6 (.ldz 3 (tq 5)),om 7 1,oq 8 (.buildS 22 2 [(0,tq 6),(1,tq 7)]),od 9 198 [tq 8],oz 10 207 2 1,oq 11 (.ldz 3 (tq 10)),om 12 1,oq 13 (.oth (.call ⟨.builtin .max,#[tq 11,tq 12],#[3,3]⟩)),oq 14 (.build 207 [(0,tq 9),(1,tq 13)])],[os (.sto 207 (tq 4) (tq 14))]⟩]) (some ([1,2,4],[2,4])):=⟨rx,rx⟩
def bQ:=rg Tryz.f196
def A1W:Code:=(.seq (bQ 2) (.seq (bQ 5) (.seq (bQ 11) (.seq (bQ 23) (bQ 31)))))
theorem b196:Tryz.f196.body=some A1W:=by kernel_rfl
@[simp] theorem BMZ:SX 13 (bQ 2) [oq 3 (.box (tq 0))] [0,1,2] [3,4,5,9]∧SX 13 (bQ 5) [oz 6 40 1 0,ol 7 3 6,oc 8 .add 3 7 1,oq 9 (.mkS 22 (tq 8) (tq 8)),oq 4 (.alloc 22),os (.sto 22 (tq 4) (tq 9))] [1,2,3] [3,4,5,9]∧SX 13 (bQ 11) [oq 5 (.alloc 177)] [1,2,3,4] [3,4,5,9]∧SX 13 (bQ 23) [oq 10 (.oth (.makeFunc (.func 197) #[] #[tq 4,tq 1,tq 2,tq 3,tq 5])),os (.sto 177 (tq 5) (tq 10))] [1,2,3,4,5] [3,4,5,9]∧SX 13 (bQ 31) [ol 11 177 5,oq 12 (.call false none (tq 11) [ci 0])] [5] [3,4,5,9]:=⟨rx,rx,rx,rx,rx⟩
def KF:=rg Tryz.f197
@[simp] def ABA:Code:=(.seq (KF 139) (.seq (.cond (.tmp 31) .skip (.exit 0)) (.seq (.block 1 (.seq (KF 2251) (.seq (KF 5323) (.seq (KF 11467) (.cond (.tmp 42) (.seq (KF 40139) .ret) .skip))))) (KF 971))))
def SD:=ABA
def wS:Code:=(.seq (KF 2) (.seq (.seq (KF 9) (.cond (.tmp 13) (.seq (KF 37) .ret) .skip)) (.seq (.seq (KF 19) (.block 0 (.loop SD))) (.seq (KF 23) .ret))))
theorem b197:Tryz.f197.body=some wS:=by kernel_rfl
@[simp] theorem BDP(n:Nat)(st:XS):AE Tryz.prog ann kn (n+1) 44 (KF 37) st=OW (I7 Tryz.prog (cfU [20009,30009] (BN Tryz.prog ann kn n)) (.str [ol 14 40 2,ol 15 22 1,ol 16 22 3,od 17 164 [tq 14,tq 15,tq 16],ou 18 17,om 19 18,gl 19 false 20 193 4,gl 19 false 21 22 1,og 19 false 22 (.call false none (tq 20) [tq 21]),oq 23 (.pick (tq 19) (cb true) (tq 22)),om 7 23]) (CC (some ([1,2,3,4],[])) (L8 [] st))) :=
 L5 (by kernel_rfl) (by kernel_rfl) (by kernel_rfl) (by kernel_rfl) (by kernel_rfl) (by kernel_rfl)
@[simp] theorem BM0:UX 44 SD ABA∧SX 44 (KF 2) [ot 7 false] [0,1,2,3,4,5] []∧SX 44 (KF 9) [om 10 0,ol 11 22 1,oe 12 11 22,ob 13 .eql 3 10 12] [0,1,2,3,4,5] []∧SX 44 (KF 19) [oz 24 40 2 6,ol 25 23 24,om 26 0,oi 27 23 25 26,ol 28 22 27,oe 29 28 22,ok 30 0] [0,1,2,5] []∧SX 44 (KF 139) [ob 31 .lss 3 30 29] [0,1,5,28,29,30] []∧SX 44 (KF 2251) [oi 32 22 28 30,ol 33 3 32,om 9 33] [0,1,5,28,29,30] []∧SX 44 (KF 5323) [ol 34 22 1,om 35 0,om 36 9,oi 37 22 34 35,os (.sto 3 (tq 37) (tq 36))] [0,1,5,9,28,29,30] []∧SX 44 (KF 11467) [ol 38 177 5,om 39 0,oc 40 .add 3 39 1,oq 41 (.call false none (tq 38) [tq 40]),ou 42 41] [0,1,5,28,29,30] []∧SX 44 (KF 40139) [ot 7 false] [] []∧SX 44 (KF 971) [oc 43 .add 3 30 1,om 30 43] [0,1,5,28,29,30] []∧SX 44 (KF 23) [ot 7 true] [] []∧LX 44 SD [0,1,5,28,29,30] []:=⟨fun _ _=>rfl,rx,rx,rx,rx,rx,rx,rx,rx,rx,rx,lx⟩
def AH4:=rg Tryz.f185
def A1X:Code:=(.seq (AH4 2) (.seq (AH4 5) .ret))
theorem BDQ:Tryz.f185.body=some A1X:=by kernel_rfl
@[simp] theorem BM1:SX 6 (AH4 2) [oq 2 (.box (tq 0)),oq 3 (.box (tq 1)),oq 4 (.mv (.const .nilFunc))] [0,1] [2,3]∧SX 6 (AH4 5) [oq 5 (.oth (.makeFunc (.func 196) #[] #[tq 2,tq 3])),om 4 5] [2,3] [2,3]:=⟨rx,rx⟩
def D5:=rg Tryz.f154
@[simp] def sZ:Code:=(.seq (D5 36191) (.seq (.cond (.tmp 35) .skip (.exit 2)) (.seq (.block 3 (.seq (D5 576863) (.seq (D5 1363295) (.cond (.tmp 48) (D5 2936159) .skip)))) (D5 249183))))
def JO:=sZ
def ABB:Code:=(.seq (D5 2) (.seq (.seq (D5 9) (.seq (D5 21) (.cond (.tmp 15) (.seq (D5 77) .ret) .skip))) (.seq (.seq (D5 19) (.cond (.tmp 19) (.seq (D5 75) .ret) .skip)) (.seq (D5 23) (.seq (D5 47) (.seq (.seq (D5 159) (.block 0 (.rangeFunc (.tmp 30) #[31] (D5 607) (.block 1 (.seq (D5 2399) (.seq (D5 5471) (.block 2 (.loop JO)))))))) (.seq (.seq (D5 319) (.cond (.tmp 67) (.seq (D5 1215) .ret) .skip)) (.seq (D5 383) .ret))))))))
theorem b154:Tryz.f154.body=some ABB:=by kernel_rfl
@[simp] theorem A9K(n:Nat)(st:XS):AE Tryz.prog ann kn (n+1) 69 (D5 1363295) st=OW (I7 Tryz.prog (cfU [20800,20801,20802,20803,20804] (BN Tryz.prog ann kn n)) (.str [ol 39 233 7,oq 40 (.oth (.nilCheck (tq 39))),oz 41 250 40 1,ol 42 23 41,om 43 10,oi 44 23 42 43,ol 45 22 44,om 46 11,od 47 132 [tq 45,tq 46],ou 48 47]) (CC (some ([7,10,11,32,33,34],[2,7,24,25,26,28,30,63,800,801,802,803,804])) (L8 [] st))) :=
 L5 (by kernel_rfl) (by kernel_rfl) (by kernel_rfl) (by kernel_rfl) (by kernel_rfl) (by kernel_rfl)
@[simp] theorem A9L(n:Nat)(st:XS):AE Tryz.prog ann kn (n+1) 69 (D5 249183) st=OW (I7 Tryz.prog (BN Tryz.prog ann kn n) (.str [oc 65 .add 3 34 1,om 34 65]) (CC (some ([7,32,33,34],[2,7,24,25,26,28,30,63,800,801,802,803,804])) (L8 [25008011801063] st))) :=
 D6 (by kernel_rfl) (by kernel_rfl) (by kernel_rfl) (by kernel_rfl) (by kernel_rfl)
@[simp] theorem A9M(n:Nat)(st:XS):AE Tryz.prog ann kn (n+1) 69 (D5 383) st=OW (I7 Tryz.prog (BN Tryz.prog ann kn n) (.str [ol 68 233 7,om 4 68,ok 5 0]) (CC (some ([7],[2,7,24,25,26,28,30,63,800,801,802,803,804])) (L8 [1000000000000024,24,901025,902026,903028] st))) :=
 D6 (by kernel_rfl) (by kernel_rfl) (by kernel_rfl) (by kernel_rfl) (by kernel_rfl)
@[simp] theorem BM2:UX 69 JO sZ∧SX 69 (D5 2) [oq 2 (.box (tq 0)),oq 4 (.mv (.const (.pointer none))),ok 5 0] [0,1] [2,7,24,25,26,28,30,63,800,801,802,803,804]∧SX 69 (D5 9) [ol 12 40 2,od 13 110 [tq 12],om 6 13] [1,2] [2,7,24,25,26,28,30,63,800,801,802,803,804]∧SX 69 (D5 21) [om 14 6,oc 15 .neq 34 14 0] [1,2,6] [2,7,24,25,26,28,30,63,800,801,802,803,804]∧SX 69 (D5 77) [om 16 6,oq 4 (.mv (.const (.pointer none))),om 5 16] [6] []∧SX 69 (D5 19) [om 17 1,oq 18 (.call false none (tq 17) []),ou 19 18] [1,2] [2,7,24,25,26,28,30,63,800,801,802,803,804]∧SX 69 (D5 75) [oq 4 (.mv (.const (.pointer none))),ok 5 2] [] []∧RX 69 (D5 23) (.drw [⟨[24,25,26,28,7],[oq 20 (.ldz 40 (tq 2)),oz 21 40 2 0,oq 22 (.ldz 3 (tq 21)),oc 23 .add 3 22 1,oq 24 (.mkS 23 (tq 23) (tq 23)),oq 25 (.mkM none),oq 26 (.mkM none),oq 27 (.build 250 [(0,tq 20),(1,tq 24),(2,tq 25),(3,tq 26)]),oq 28 (.box (tq 27)),oq 7 (.alloc 233)],[os (.sto 233 (tq 7) (tq 28))]⟩]) (some ([2],[2,30,63]))∧SX 69 (D5 47) [oq 8 (.alloc 4),os (.sto 4 (tq 8) (cb false))] [2,7] [2,7,24,25,26,28,30,63,800,801,802,803,804]∧SX 69 (D5 159) [ol 29 40 2,od 30 185 [tq 29,.const (.slice none 0 0)]] [2,7,8] [2,7,8,24,25,26,28,30,63,800,801,802,803,804]∧SX 69 (D5 607) [om 9 31] [7,8,31] [2,7,8,24,25,26,28,30,63,800,801,802,803,804]∧SX 69 (D5 2399) [os (.sto 4 (tq 8) (cb true))] [7,8,9] [2,7,8,24,25,26,28,30,63,800,801,802,803,804]∧SX 69 (D5 5471) [om 32 9,oe 33 32 22,ok 34 0] [7,9] [2,7,24,25,26,28,30,63,800,801,802,803,804]∧SX 69 (D5 36191) [ob 35 .lss 3 34 33] [7,32,33,34] [2,7,24,25,26,28,30,63,800,801,802,803,804]∧SX 69 (D5 576863) [om 36 34,oi 37 22 32 34,ol 38 3 37,om 10 36,om 11 38] [7,32,33,34] [2,7,24,25,26,28,30,63,800,801,802,803,804]∧RX 69 (D5 2936159) (.drw [⟨[],[ol 49 233 7,oq 50 (.oth (.nilCheck (tq 49))),oz 51 250 50 1,ol 52 23 51,om 53 10,ol 54 233 7,oq 55 (.oth (.nilCheck (tq 54))),oz 56 250 55 1,ol 57 23 56,om 58 10,oi 59 23 57 58,oq 60 (.ldz 22 (tq 59)),om 61 11,oq 62 (.buildS 22 1 [(0,tq 61)]),oq 63 (.app [tq 60,tq 62] [22,22]),oi 64 23 52 53],[os (.sto 22 (tq 64) (tq 63))]⟩]) (some ([7,10,11,32,33,34],[2,7,24,25,26,28,30,63,800,801,802,803,804]))∧SX 69 (D5 319) [ol 66 4 8,ou 67 66] [7,8] [2,7,8,24,25,26,28,30,63,800,801,802,803,804]∧SX 69 (D5 1215) [oq 4 (.mv (.const (.pointer none))),ok 5 11] [] []∧LX 69 JO [7,32,33,34] [2,7,24,25,26,28,30,63,800,801,802,803,804]:=⟨fun _ _=>rfl,rx,rx,rx,rx,rx,rx,rx,rx,rx,rx,rx,rx,rx,rx,rx,rx,rx,lx⟩
def FI:=rg Tryz.f113
@[simp] def ABC:Code:=(.seq (FI 36279909) (.seq (.cond (.tmp 29) .skip (.exit 4)) (.seq (.block 5 (.seq (FI 589928037) (FI 858363493))) (FI 254383717))))
def SE:=ABC
@[simp] def ABD:Code:=(.seq (FI 71269) (.seq (.cond (.tmp 24) .skip (.exit 2)) (.seq (.block 3 (.seq (FI 1152613) (.seq (.seq (FI 4822629) (.block 4 (.loop SE))) (FI 3774053)))) (FI 497253))))
def SF:=ABD
@[simp] def ABE:Code:=(.seq (FI 69) (.seq (.cond (.tmp 16) .skip (.exit 0)) (.seq (.block 1 (.seq (FI 1125) (.seq (FI 2661) (.seq (.seq (FI 9829) (.block 2 (.loop SF))) (FI 7781))))) (FI 485))))
def SG:=ABE
def APX:Code:=(.seq (FI 2) (.seq (.seq (FI 9) (.block 0 (.loop SG))) (.seq (FI 11) .ret)))
theorem b113:Tryz.f113.body=some APX:=by kernel_rfl
@[simp] theorem A9N(n:Nat)(st:XS):AE Tryz.prog ann kn (n+1) 67 (FI 7781) st=OW (I7 Tryz.prog (BN Tryz.prog ann kn n) (.str [om 60 6,om 61 9,oq 62 (.buildS 123 1 [(0,tq 61)]),oq 63 (.app [tq 60,tq 62] [123,123]),om 6 63]) (CC (some ([1,2,3,6,7,9,14,15],[3,20,63])) (L8 [20] st))) :=
 D6 (by kernel_rfl) (by kernel_rfl) (by kernel_rfl) (by kernel_rfl) (by kernel_rfl)
@[simp] theorem BM3:UX 67 SE ABC∧UX 67 SF ABD∧UX 67 SG ABE∧SX 67 (FI 2) [oq 3 (.box (tq 0)),oq 6 (.mv (.const (.slice none 0 0))),ok 7 0] [0,1,2] [3]∧SX 67 (FI 9) [oz 13 40 3 1,ol 14 3 13,ok 15 0] [1,2,3,6,7] [3,63]∧SX 67 (FI 69) [ob 16 .lss 3 15 14] [1,2,3,6,7,14,15] [3,63]∧SX 67 (FI 1125) [om 17 15,om 8 17] [1,2,3,6,7,14,15] [3,63]∧SX 67 (FI 2661) [oz 18 40 3 2,ol 19 3 18,oq 20 (.mkS 156 (tq 19) (tq 19)),om 9 20] [1,2,3,6,7,8,14,15] [3,63]∧SX 67 (FI 9829) [om 21 9,oe 22 21 156,ok 23 0] [1,2,3,6,7,8,9,14,15] [3,20,63]∧SX 67 (FI 71269) [ob 24 .lss 3 23 22] [1,2,3,6,7,8,9,14,15,22,23] [3,20,63]∧SX 67 (FI 1152613) [om 25 23,om 10 25] [1,2,3,6,7,8,9,14,15,22,23] [3,20,63]∧SX 67 (FI 4822629) [om 26 2,oe 27 26 22,ok 28 0] [1,2,3,6,7,8,9,10,14,15,22,23] [3,20,63]∧SX 67 (FI 36279909) [ob 29 .lss 3 28 27] [1,2,3,6,7,8,9,10,14,15,22,23,26,27,28] [3,20,63]∧SX 67 (FI 589928037) [om 30 28,oi 31 22 26 28,ol 32 3 31,om 11 30,om 12 32] [1,2,3,6,7,8,9,10,14,15,22,23,26,27,28] [3,20,63]∧RX 67 (FI 858363493) (.drw [⟨[],[om 33 9,om 34 10,oi 35 156 33 34,ol 36 40 3,om 37 8,om 38 10,oq 39 (.build 86 [(0,tq 37),(1,tq 38)]),om 40 11,om 41 1,om 42 11,oi 43 23 41 42,ol 44 22 43,om 45 8,oi 46 22 44 45,ol 47 3 46,om 48 12,od 49 153 [tq 36,tq 39,tq 40,tq 47,tq 48]],[od 50 152 [tq 35,tq 49]]⟩,⟨[],[],[]⟩]) (some ([1,2,3,6,7,8,9,10,11,12,14,15,22,23,26,27,28],[3,20,63]))∧SX 67 (FI 254383717) [oc 51 .add 3 28 1,om 28 51] [1,2,3,6,7,8,9,10,14,15,22,23,26,27,28] [3,20,63]∧SX 67 (FI 3774053) [om 52 7,om 53 9,om 54 10,oi 55 156 53 54,oz 56 155 55 2,ol 57 3 56,ob 58 .add 3 52 57,om 7 58] [1,2,3,6,7,8,9,10,14,15,22,23] [3,20,63]∧SX 67 (FI 497253) [oc 59 .add 3 23 1,om 23 59] [1,2,3,6,7,8,9,14,15,22,23] [3,20,63]∧SX 67 (FI 485) [oc 64 .add 3 15 1,om 15 64] [1,2,3,6,7,14,15] [3,63]∧SX 67 (FI 11) [om 65 6,om 66 7,om 6 65,om 7 66] [6,7] [63]∧LX 67 SG [1,2,3,6,7,14,15] [3,63]∧LX 67 SF [1,2,3,6,7,8,9,14,15,22,23] [3,20,63]∧LX 67 SE [1,2,3,6,7,8,9,10,14,15,22,23,26,27,28] [3,20,63]:=⟨fun _ _=>rfl,fun _ _=>rfl,fun _ _=>rfl,rx,rx,rx,rx,rx,rx,rx,rx,rx,rx,rx,rx,rx,rx,rx,rx,rx,lx,lx,lx⟩
def AH5:=rg Tryz.f152
def A1Y:Code:=(.seq (AH5 2) (AH5 3))
theorem b152:Tryz.f152.body=some A1Y:=by kernel_rfl
@[simp] theorem BM4:SX 34 (AH5 2) [oq 3 (.box (tq 1))] [0,1] []∧RX 34 (AH5 3) (.drw [⟨[],[om 4 0,om 5 0,om 6 0,om 7 0,oq 8 (.oth (.nilCheck (tq 7))),oz 9 155 8 0,oq 10 (.ldz 3 (tq 9)),oz 11 155 3 0,oq 12 (.ldz 3 (tq 11)),ob 13 .add 3 10 12,om 14 0,oq 15 (.oth (.nilCheck (tq 14))),oz 16 155 15 1,oq 17 (.ldz 3 (tq 16)),oz 18 155 3 1,ol 19 3 18,ob 20 .add 3 17 19,om 21 0,oq 22 (.oth (.nilCheck (tq 21))),oz 23 155 22 2,oq 24 (.ldz 3 (tq 23)),oz 25 155 3 2,ol 26 3 25,ob 27 .add 3 24 26,oq 28 (.oth (.nilCheck (tq 4))),oz 29 155 28 0,os (.sto 3 (tq 29) (tq 13)),oq 30 (.oth (.nilCheck (tq 5))),oz 31 155 30 1,os (.sto 3 (tq 31) (tq 20)),oq 32 (.oth (.nilCheck (tq 6))),oz 33 155 32 2,os (.sto 3 (tq 33) (tq 27))],[]⟩]) (some ([0,3],[3])):=⟨rx,rx⟩
def tA:=rg Tryz.f66
def c66:Code:=(.seq (tA 2) (.seq (.seq (tA 9) (.seq (tA 21) (.cond (.tmp 14) (.seq (tA 77) .ret) .skip))) (.seq (.seq (tA 19) (.cond (.tmp 25) (.seq (tA 75) .ret) .skip)) (.seq (tA 23) (.seq (tA 47) .ret)))))
theorem b66:Tryz.f66.body=some c66:=by kernel_rfl
@[simp] theorem BIK(n:Nat)(st:XS):AE Tryz.prog ann kn (n+1) 34 (tA 19) st=OW (I7 Tryz.prog (cfU [20010] (BN Tryz.prog ann kn n)) (.str [ol 16 40 3,om 17 1,od 18 111 [tq 16,tq 17],ou 19 18,om 20 19,gl 20 false 21 40 3,gm 20 false 22 2,gd 20 false 23 112 [tq 21,tq 22],og 20 false 24 (.oth (.unOp .not 4 (tq 23))),oq 25 (.pick (tq 20) (cb true) (tq 24))]) (CC (some ([1,2,3],[3,30])) (L8 [] st))) :=
 L5 (by kernel_rfl) (by kernel_rfl) (by kernel_rfl) (by kernel_rfl) (by kernel_rfl) (by kernel_rfl)
@[simp] theorem x66:SX 34 (tA 2) [oq 3 (.box (tq 0)),oq 6 (.mv (.const (.slice none 0 0))),ok 7 0] [0,1,2] [3,30]∧SX 34 (tA 9) [ol 11 40 3,od 12 110 [tq 11],om 8 12] [1,2,3] [3,30]∧SX 34 (tA 21) [om 13 8,oc 14 .neq 34 13 0] [1,2,3,8] [3,30]∧SX 34 (tA 23) [ol 27 40 3,om 28 1,om 29 2,od 30 113 [tq 27,tq 28,tq 29],om 26 30,oq 31 (.oth (.extract (tq 26) 0)),oq 32 (.oth (.extract (tq 26) 1)),om 9 31,om 10 32] [1,2,3] [3,30]∧SX 34 (tA 47) [om 33 9,om 6 33,ok 7 0] [9] [3,30]:=⟨rx,rx,rx,rx,rx⟩
def bK:=rg Tryz.f68
@[simp] def AL6:Code:=(lp (bK 267) 28 0 1 (bK 587) (bK 459))
def XP:=AL6
@[simp] def AL7:Code:=(lp (bK 535) 46 2 3 (bK 1175) (bK 919))
def XQ:=AL7
def c68:Code:=(.seq (bK 2) (.seq (bK 5) (.seq (.seq (bK 19) (.block 0 (.loop XP))) (.seq (.seq (bK 39) (.block 2 (.loop XQ))) (.seq (bK 47) .ret)))))
theorem b68:Tryz.f68.body=some c68:=by kernel_rfl
@[simp] theorem x68:UX 68 XP AL6∧UX 68 XQ AL7∧SX 68 (bK 2) [oq 1 (.box (tq 0)),oq 2 (.alloc 40)] [0] [1,2,3,16,19,22,40,65]∧RX 68 (bK 5) (.drw [⟨[3],[oz 6 27 1 0,oq 7 (.ldz 3 (tq 6)),oz 8 27 1 1,oq 9 (.ldz 3 (tq 8)),oz 10 27 1 2,oq 11 (.ldz 3 (tq 10)),oz 12 27 1 3,oq 13 (.ldz 3 (tq 12)),oz 14 27 1 4,oq 15 (.ldz 22 (tq 14)),od 16 114 [tq 15],oz 17 27 1 5,oq 18 (.ldz 22 (tq 17)),od 19 114 [tq 18],oz 20 27 1 6,oq 21 (.ldz 23 (tq 20)),od 22 115 [tq 21],oq 23 (.build 40 [(0,tq 7),(1,tq 9),(2,tq 11),(3,tq 13),(4,tq 16),(5,tq 19),(6,tq 22)]),oq 3 (.alloc 40)],[os (.sto 40 (tq 3) (tq 23))]⟩]) (some ([1,2],[1,2,40,65]))∧SX 68 (bK 19) [ok 4 0] [1,2,3] [1,2,3,16,19,22,40,65]∧SX 68 (bK 267) [om 24 4,oz 25 27 1 7,ol 26 24 25,oe 27 26 24,ob 28 .lss 3 24 27] [1,2,3,4] [1,2,3,16,19,22,40,65]∧RX 68 (bK 587) (.drw [⟨[],[oz 31 40 3 7,oq 32 (.ldz 37 (tq 31)),oz 33 27 1 7,ol 34 24 33,om 35 4,oi 36 24 34 35,ol 37 59 36,od 38 48 [tq 37],oq 39 (.buildS 37 1 [(0,tq 38)]),oq 40 (.app [tq 32,tq 39] [37,37]),oz 41 40 3 7],[os (.sto 37 (tq 41) (tq 40))]⟩]) (some ([1,2,3,4],[1,2,3,16,19,22,40,65]))∧SX 68 (bK 459) [om 29 4,oc 30 .add 3 29 1,om 4 30] [1,2,3,4] [1,2,3,16,19,22,40,65]∧SX 68 (bK 39) [ok 5 0] [1,2,3] [1,2,3,16,19,22,40,65]∧SX 68 (bK 535) [om 42 5,oz 43 27 1 8,ol 44 25 43,oe 45 44 25,ob 46 .lss 3 42 45] [1,2,3,5] [1,2,3,16,19,22,40,65]∧RX 68 (bK 1175) (.drw [⟨[],[oz 49 40 3 8,oq 50 (.ldz 38 (tq 49)),oz 51 27 1 8,ol 52 25 51,om 53 5,oi 54 25 52 53,oz 55 188 54 0,ol 56 3 55,oz 57 27 1 8,ol 58 25 57,om 59 5,oi 60 25 58 59,oz 61 188 60 1,ol 62 3 61,oq 63 (.build 99 [(0,tq 56),(1,tq 62)]),oq 64 (.buildS 38 1 [(0,tq 63)]),oq 65 (.app [tq 50,tq 64] [38,38]),oz 66 40 3 8],[os (.sto 38 (tq 66) (tq 65))]⟩]) (some ([1,2,3,5],[1,2,3,16,19,22,40,65]))∧SX 68 (bK 919) [om 47 5,oc 48 .add 3 47 1,om 5 48] [1,2,3,5] [1,2,3,16,19,22,40,65]∧SX 68 (bK 47) [ol 67 40 3,os (.sto 40 (tq 2) (tq 67))] [2,3] [1,2,3,16,19,22,40,65]∧LX 68 XP [1,2,3,4] [1,2,3,16,19,22,40,65]∧LX 68 XQ [1,2,3,5] [1,2,3,16,19,22,40,65]:=⟨fun _ _=>rfl,fun _ _=>rfl,rx,rx,rx,rx,rx,rx,rx,rx,rx,rx,rx,lx,lx⟩
def II:=rg Tryz.f157
@[simp] def ABF:Code:=(.seq (II 71269) (.seq (.cond (.tmp 28) .skip (.exit 2)) (.seq (.block 3 (.seq (II 1152613) (II 1676901))) (II 497253))))
def SH:=ABF
@[simp] def ABG:Code:=(.seq (II 69) (.seq (.cond (.tmp 20) .skip (.exit 0)) (.seq (.block 1 (.seq (II 1125) (.seq (II 2661) (.seq (.seq (II 9829) (.block 2 (.loop SH))) (II 7781))))) (II 485))))
def SI:=ABG
def A1Z:Code:=(.seq (II 2) (.seq (.seq (II 9) (.block 0 (.loop SI))) (.seq (II 11) .ret)))
theorem BDR:Tryz.f157.body=some A1Z:=by kernel_rfl
@[simp] theorem BM6:UX 66 SH ABF∧UX 66 SI ABG∧SX 66 (II 2) [oq 4 (.box (tq 0)),oq 7 (.box (tq 3)),oq 8 (.alloc 207)] [0,1,2,3] [4]∧SX 66 (II 9) [om 14 1,oq 15 (.oth (.nilCheck (tq 14))),oz 16 250 15 1,ol 17 23 16,oe 18 17 23,ok 19 0] [1,2,4,7,8] [4,7,8]∧SX 66 (II 69) [ob 20 .lss 3 19 18] [1,2,4,7,8,17,18,19] [4,7,8]∧SX 66 (II 1125) [om 21 19,oi 22 23 17 19,ol 23 22 22,om 9 21,om 10 23] [1,2,4,7,8,17,18,19] [4,7,8]∧SX 66 (II 2661) [oq 24 (.build 207 [(0,ci 1),(1,ci 0)]),oq 11 (.alloc 207),os (.sto 207 (tq 11) (tq 24))] [1,2,4,7,8,9,10,17,18,19] [4,7,8]∧SX 66 (II 9829) [om 25 10,oe 26 25 22,ok 27 0] [1,2,4,7,8,9,10,11,17,18,19] [4,7,8,11]∧SX 66 (II 71269) [ob 28 .lss 3 27 26] [1,2,4,7,8,9,11,17,18,19,25,26,27] [4,7,8,11]∧SX 66 (II 1152613) [oi 29 22 25 27,ol 30 3 29,om 13 30] [1,2,4,7,8,9,11,17,18,19,25,26,27] [4,7,8,11]∧RX 66 (II 1676901) (.drw [⟨[],[oq 31 (.ldz 207 (tq 11)),oz 32 238 4 0,oq 33 (.ldz 236 (tq 32)),om 34 1,oq 35 (.oth (.nilCheck (tq 34))),oz 36 250 35 0,oq 37 (.ldz 40 (tq 36)),oq 38 (.ldz 86 (tq 7)),om 39 9,om 40 2,om 41 9,oi 42 23 40 41,oq 43 (.ldz 22 (tq 42)),oz 44 86 7 0,oq 45 (.ldz 3 (tq 44)),oi 46 22 43 45,oq 47 (.ldz 3 (tq 46)),om 48 13,od 49 153 [tq 37,tq 38,tq 39,tq 47,tq 48],oq 50 (.call false none (tq 33) [tq 49])],[oq 51 (.call true none (.func 186) [tq 31,tq 50])]⟩,⟨[],[],[os (.sto 207 (tq 11) (tq 51))]⟩]) (some ([1,2,4,7,8,9,11,13,17,18,19,25,26,27],[4,7,8,11]))∧SX 66 (II 497253) [oc 52 .add 3 27 1,om 27 52] [1,2,4,7,8,9,11,17,18,19,25,26,27] [4,7,8,11]∧SX 66 (II 7781) [oz 53 207 8 0,ol 54 3 53,oz 55 207 11 0,ol 56 3 55,ob 57 .add 3 54 56,oz 58 207 8 1,ol 59 3 58,oz 60 207 11 1,ol 61 3 60,ob 62 .add 3 59 61,oq 63 (.build 207 [(0,tq 57),(1,tq 62)]),os (.sto 207 (tq 8) (tq 63))] [1,2,4,7,8,11,17,18,19] [4,7,8,11]∧SX 66 (II 485) [oc 64 .add 3 19 1,om 19 64] [1,2,4,7,8,17,18,19] [4,7,8]∧SX 66 (II 11) [ol 65 207 8,os (.sto 207 (tq 8) (tq 65))] [8] [8]∧LX 66 SI [1,2,4,7,8,17,18,19] [4,7,8]∧LX 66 SH [1,2,4,7,8,9,11,17,18,19,25,26,27] [4,7,8,11]:=⟨fun _ _=>rfl,fun _ _=>rfl,rx,rx,rx,rx,rx,rx,rx,rx,rx,rx,rx,rx,rx,lx,lx⟩
def AH6:=rg Tryz.f156
def A10:Code:=(.seq (AH6 2) (.seq (AH6 5) .ret))
theorem BDS:Tryz.f156.body=some A10:=by kernel_rfl
@[simp] theorem BM7:SX 5 (AH6 2) [oq 1 (.box (tq 0)),ok 2 0] [0] [1]∧SX 5 (AH6 5) [oz 3 155 1 1,ol 4 3 3,om 2 4] [0,1,2] [1,2]:=⟨rx,rx⟩
def AH7:=rg Tryz.f158
def A11:Code:=(.seq (AH7 2) (.seq (AH7 5) .ret))
theorem BDT:Tryz.f158.body=some A11:=by kernel_rfl
@[simp] theorem BM8:SX 5 (AH7 2) [oq 1 (.box (tq 0)),ok 2 0] [0] [1]∧SX 5 (AH7 5) [oz 3 155 1 2,ol 4 3 3,om 2 4] [0,1,2] [1,2]:=⟨rx,rx⟩
def EB:=rg Tryz.f117
@[simp] def tB:Code:=(.seq (EB 583840559) (.seq (.cond (.tmp 42) .skip (.exit 4)) (.seq (.block 5 (.seq (EB 9442210607) (EB 13737177903))) (EB 4073501487))))
def N5:=tB
@[simp] def tC:Code:=(.seq (EB 570159) (.seq (.cond (.tmp 34) .skip (.exit 2)) (.seq (.block 3 (.seq (EB 9220911) (.seq (EB 21803823) (.seq (.seq (EB 80524079) (.block 4 (.loop N5))) (EB 63746863))))) (EB 3978031))))
def N6:=tC
@[simp] def ABH:Code:=(.seq (EB 559) (.seq (.cond (.tmp 26) .skip (.exit 0)) (.seq (.block 1 (.seq (EB 9007) (.seq (EB 21295) (.seq (.seq (EB 78639) (.block 2 (.loop N6))) (EB 62255))))) (EB 3887))))
def SJ:=ABH
def ABI:Code:=(.seq (EB 2) (.seq (EB 5) (.seq (.seq (EB 19) (.cond (.tmp 21) (.seq (EB 75) .ret) .skip)) (.seq (EB 23) (.seq (.seq (EB 79) (.block 0 (.loop SJ))) (.seq (EB 95) .ret))))))
theorem BDU:Tryz.f117.body=some ABI:=by kernel_rfl
@[simp] theorem BDV(n:Nat)(st:XS):AE Tryz.prog ann kn (n+1) 90 (EB 23) st=OW (I7 Tryz.prog (BN Tryz.prog ann kn n) (.str [oq 8 (.mv (.const (.slice none 0 0)))]) (CC (some ([2,3,6],[2,3,17,900,901,902])) (L8 [902] st))) :=
 D6 (by kernel_rfl) (by kernel_rfl) (by kernel_rfl) (by kernel_rfl) (by kernel_rfl)
@[simp] theorem A9O(n:Nat)(st:XS):AE Tryz.prog ann kn (n+1) 90 (EB 62255) st=OW (I7 Tryz.prog (BN Tryz.prog ann kn n) (.str [om 84 8,om 85 10,oq 86 (.buildS 197 1 [(0,tq 85)]),oq 87 (.app [tq 84,tq 86] [197,197]),om 8 87]) (CC (some ([2,3,6,8,10,24,25],[2,3,17,30,87])) (L8 [30] st))) :=
 D6 (by kernel_rfl) (by kernel_rfl) (by kernel_rfl) (by kernel_rfl) (by kernel_rfl)
@[simp] theorem BM9:UX 90 N5 tB∧UX 90 N6 tC∧UX 90 SJ ABH∧SX 90 (EB 2) [oq 2 (.box (tq 0)),oq 3 (.box (tq 1)),oq 4 (.mv (.const (.slice none 0 0))),ok 5 0] [0,1] [2,3,17,900,901,902]∧SX 90 (EB 5) [ol 15 40 2,oq 16 (.oth (.makeFunc (.func 155) #[] #[tq 2,tq 3])),od 17 154 [tq 15,tq 16],om 14 17,oq 18 (.oth (.extract (tq 14) 0)),oq 19 (.oth (.extract (tq 14) 1)),om 6 18,om 7 19] [2,3] [2,3,17,900,901,902]∧SX 90 (EB 19) [om 20 7,oc 21 .neq 34 20 0] [2,3,6,7] [2,3,17,900,901,902]∧SX 90 (EB 75) [om 22 7,oq 4 (.mv (.const (.slice none 0 0))),om 5 22] [7] []∧SX 90 (EB 79) [oz 23 40 2 1,ol 24 3 23,ok 25 0] [2,3,6,8] [2,3,17,87]∧SX 90 (EB 559) [ob 26 .lss 3 25 24] [2,3,6,8,24,25] [2,3,17,87]∧SX 90 (EB 9007) [om 27 25,om 9 27] [2,3,6,8,24,25] [2,3,17,87]∧SX 90 (EB 21295) [oz 28 40 2 2,ol 29 3 28,oq 30 (.mkS 204 (tq 29) (tq 29)),om 10 30] [2,3,6,8,9,24,25] [2,3,17,87]∧SX 90 (EB 78639) [om 31 10,oe 32 31 204,ok 33 0] [2,3,6,8,9,10,24,25] [2,3,17,30,87]∧SX 90 (EB 570159) [ob 34 .lss 3 33 32] [2,3,6,8,9,10,24,25,32,33] [2,3,17,30,87]∧SX 90 (EB 9220911) [om 35 33,om 11 35] [2,3,6,8,9,10,24,25,32,33] [2,3,17,30,87]∧SX 90 (EB 21803823) [om 36 9,om 37 11,oq 38 (.build 86 [(0,tq 36),(1,tq 37)]),oq 12 (.alloc 86),os (.sto 86 (tq 12) (tq 38))] [2,3,6,8,9,10,11,24,25,32,33] [2,3,17,30,87]∧SX 90 (EB 80524079) [ol 39 23 3,oe 40 39 23,ok 41 0] [2,3,6,8,9,10,11,12,24,25,32,33] [2,3,12,17,30,87]∧SX 90 (EB 583840559) [ob 42 .lss 3 41 40] [2,3,6,8,9,10,11,12,24,25,32,33,40,41] [2,3,12,17,30,87]∧SX 90 (EB 9442210607) [om 43 41,om 13 43] [2,3,6,8,9,10,11,12,24,25,32,33,40,41] [2,3,12,17,30,87]∧RX 90 (EB 13737177903) (.drw [⟨[],[om 44 10,om 45 11,oi 46 204 44 45,oz 47 209 46 0,oq 48 (.ldz 3 (tq 47)),oq 49 (.ldz 40 (tq 2)),oq 50 (.ldz 86 (tq 12)),om 51 13,oq 52 (.ldz 23 (tq 3)),om 53 13,oi 54 23 52 53,oq 55 (.ldz 22 (tq 54)),om 56 9,oi 57 22 55 56,oq 58 (.ldz 3 (tq 57)),od 59 153 [tq 49,tq 50,tq 51,tq 58,ci 0],oq 60 (.oth (.field 155 (tq 59) 0)),ob 61 .add 3 48 60,oi 62 204 44 45,oz 63 209 62 0,os (.sto 3 (tq 63) (tq 61))],[]⟩]) (some ([2,3,6,8,9,10,11,12,13,24,25,32,33,40,41],[2,3,12,17,30,87]))∧SX 90 (EB 4073501487) [oc 64 .add 3 41 1,om 41 64] [2,3,6,8,9,10,11,12,24,25,32,33,40,41] [2,3,12,17,30,87]∧RX 90 (EB 63746863) (.drw [⟨[73,78],[om 65 10,om 66 11,om 67 10,om 68 11,oq 69 (.build 238 [(0,.func 156)]),om 70 6,oq 71 (.ldz 23 (tq 3)),oq 72 (.ldz 86 (tq 12)),oq 74 (.build 238 [(0,.func 158)]),om 75 6,ol 76 23 3,ol 77 86 12,oq 73 (.call true none (.func 157) [tq 69,tq 70,tq 71,tq 72]),oq 78 (.call true none (.func 157) [tq 74,tq 75,tq 76,tq 77]),oi 79 204 65 66,oz 80 209 79 1,os (.sto 207 (tq 80) (tq 73)),oi 81 204 67 68,oz 82 209 81 2,os (.sto 207 (tq 82) (tq 78))],[]⟩]) (some ([2,3,6,8,9,10,11,12,24,25,32,33],[2,3,12,17,30,87]))∧SX 90 (EB 3978031) [oc 83 .add 3 33 1,om 33 83] [2,3,6,8,9,10,24,25,32,33] [2,3,17,30,87]∧SX 90 (EB 3887) [oc 88 .add 3 25 1,om 25 88] [2,3,6,8,24,25] [2,3,17,87]∧SX 90 (EB 95) [om 89 8,om 4 89,ok 5 0] [8] [87]∧LX 90 SJ [2,3,6,8,24,25] [2,3,17,87]∧LX 90 N6 [2,3,6,8,9,10,24,25,32,33] [2,3,17,30,87]∧LX 90 N5 [2,3,6,8,9,10,11,12,24,25,32,33,40,41] [2,3,12,17,30,87]:=⟨fun _ _=>rfl,fun _ _=>rfl,fun _ _=>rfl,rx,rx,rx,rx,rx,rx,rx,rx,rx,rx,rx,rx,rx,rx,rx,rx,rx,rx,rx,rx,rx,lx,lx,lx⟩
def AH8:=rg Tryz.f155
def A12:Code:=(.seq (AH8 2) (.seq (AH8 5) .ret))
theorem b155:Tryz.f155.body=some A12:=by kernel_rfl
@[simp] theorem BNA:SX 6 (AH8 2) [ot 2 false] [0,1] []∧SX 6 (AH8 5) [ol 3 40 0,ol 4 23 1,od 5 111 [tq 3,tq 4],om 2 5] [0,1] []:=⟨rx,rx⟩
def QD:=rg Tryz.f187
@[simp] def ABJ:Code:=(.seq (QD 69) (.seq (.cond (.tmp 9) .skip (.exit 0)) (.seq (.block 1 (.seq (QD 1125) (.seq (QD 2661) (.cond (.tmp 16) (.seq (QD 9829) .ret) .skip)))) (QD 485))))
def SK:=ABJ
def APY:Code:=(.seq (QD 2) (.seq (.seq (QD 9) (.block 0 (.loop SK))) (.seq (QD 11) .ret)))
theorem b187:Tryz.f187.body=some APY:=by kernel_rfl
@[simp] theorem BNB:UX 19 SK ABJ∧SX 19 (QD 2) [ok 4 0] [0,1] []∧SX 19 (QD 9) [om 6 0,oe 7 6 28,ok 8 0] [0,1] []∧SX 19 (QD 69) [ob 9 .lss 3 8 7] [0,1,7,8] []∧SX 19 (QD 1125) [om 10 8,om 5 10] [0,1,7,8] []∧SX 19 (QD 2661) [om 11 1,om 12 0,om 13 5,oi 14 28 12 13,ol 15 97 14,oq 16 (.call false none (tq 11) [tq 15])] [0,1,5,7,8] []∧SX 19 (QD 9829) [om 17 5,om 4 17] [5] []∧SX 19 (QD 485) [oc 18 .add 3 8 1,om 8 18] [0,1,3,7,8] []∧SX 19 (QD 11) [oq 4 (.mv (.const (.int .i64 (Int.negSucc 0))))] [] []∧LX 19 SK [0,1,7,8] []:=⟨fun _ _=>rfl,rx,rx,rx,rx,rx,rx,rx,rx,lx⟩
def AH9:=rg Tryz.f159
def A13:Code:=(.seq (AH9 2) (.seq (AH9 5) .ret))
theorem b159:Tryz.f159.body=some A13:=by kernel_rfl
@[simp] theorem BNC:SX 9 (AH9 2) [ot 4 false] [0,1] [7]∧SX 9 (AH9 5) [om 5 0,om 6 1,od 7 187 [tq 5,tq 6],oc 8 .geq 3 7 0,om 4 8] [0,1,2,3] [2,3]:=⟨rx,rx⟩
def AIA:=rg Tryz.f119
def A14:Code:=(.seq (AIA 2) (.seq (AIA 5) .ret))
theorem BDW:Tryz.f119.body=some A14:=by kernel_rfl
@[simp] theorem BND:SX 9 (AIA 2) [oq 3 (.box (tq 1)),ot 4 false] [0,1,2] [3]∧SX 9 (AIA 5) [om 5 0,oq 6 (.oth (.makeFunc (.func 160) #[] #[tq 3])),od 7 159 [tq 5,tq 6],ou 8 7,om 4 8] [0,1,2,3] [2,3]:=⟨rx,rx⟩
def AIB:=rg Tryz.f160
def A15:Code:=(.seq (AIB 2) (.seq (AIB 5) .ret))
theorem b160:Tryz.f160.body=some A15:=by kernel_rfl
@[simp] theorem BNE:SX 8 (AIB 2) [ot 3 false] [0,1] []∧SX 8 (AIB 5) [ol 4 200 1,om 5 0,oq 6 (.call false none (tq 4) [tq 5]),ou 7 6,om 3 7] [0,1,2] [2]:=⟨rx,rx⟩
def QE:=rg Tryz.f188
@[simp] def ABK:Code:=(.seq (QE 69) (.seq (.cond (.tmp 9) .skip (.exit 0)) (.seq (.block 1 (.seq (QE 1125) (.seq (QE 2661) (.cond (.tmp 16) (.seq (QE 9829) .ret) .skip)))) (QE 485))))
def SL:=ABK
def APZ:Code:=(.seq (QE 2) (.seq (.seq (QE 9) (.block 0 (.loop SL))) (.seq (QE 11) .ret)))
theorem b188:Tryz.f188.body=some APZ:=by kernel_rfl
@[simp] theorem BNF:UX 19 SL ABK∧SX 19 (QE 2) [ok 4 0] [0,1] []∧SX 19 (QE 9) [om 6 0,oe 7 6 41,ok 8 0] [0,1] []∧SX 19 (QE 69) [ob 9 .lss 3 8 7] [0,1,7,8] []∧SX 19 (QE 1125) [om 10 8,om 5 10] [0,1,7,8] []∧SX 19 (QE 2661) [om 11 1,om 12 0,om 13 5,oi 14 41 12 13,ol 15 94 14,oq 16 (.call false none (tq 11) [tq 15])] [0,1,5,7,8] []∧SX 19 (QE 9829) [om 17 5,om 4 17] [5] []∧SX 19 (QE 485) [oc 18 .add 3 8 1,om 8 18] [0,1,3,7,8] []∧SX 19 (QE 11) [oq 4 (.mv (.const (.int .i64 (Int.negSucc 0))))] [] []∧LX 19 SL [0,1,7,8] []:=⟨fun _ _=>rfl,rx,rx,rx,rx,rx,rx,rx,rx,lx⟩
def AIC:=rg Tryz.f161
def A16:Code:=(.seq (AIC 2) (.seq (AIC 5) .ret))
theorem b161:Tryz.f161.body=some A16:=by kernel_rfl
@[simp] theorem BNG:SX 9 (AIC 2) [ot 4 false] [0,1] [7]∧SX 9 (AIC 5) [om 5 0,om 6 1,od 7 188 [tq 5,tq 6],oc 8 .geq 3 7 0,om 4 8] [0,1,2,3] [2,3]:=⟨rx,rx⟩
def AID:=rg Tryz.f120
def A17:Code:=(.seq (AID 2) (.seq (AID 5) .ret))
theorem BDX:Tryz.f120.body=some A17:=by kernel_rfl
@[simp] theorem BNH:SX 9 (AID 2) [oq 3 (.box (tq 1)),ot 4 false] [0,1,2] [3]∧SX 9 (AID 5) [om 5 0,oq 6 (.oth (.makeFunc (.func 162) #[] #[tq 3])),od 7 161 [tq 5,tq 6],ou 8 7,om 4 8] [0,1,2,3] [2,3]:=⟨rx,rx⟩
def AIE:=rg Tryz.f162
def A18:Code:=(.seq (AIE 2) (.seq (AIE 5) .ret))
theorem b162:Tryz.f162.body=some A18:=by kernel_rfl
@[simp] theorem BNI:SX 8 (AIE 2) [oq 2 (.box (tq 0)),ot 3 false] [0,1] []∧SX 8 (AIE 5) [ol 4 203 1,ol 5 94 2,oq 6 (.call false none (tq 4) [tq 5]),ou 7 6,om 3 7] [0,1,2] [2]:=⟨rx,rx⟩
def AIF:=rg Tryz.f163
def A19:Code:=(.seq (AIF 2) (.seq (AIF 5) .ret))
theorem BDY:Tryz.f163.body=some A19:=by kernel_rfl
@[simp] theorem BNJ:SX 15 (AIF 2) [ot 6 false] [0,1,2] []∧SX 15 (AIF 5) [om 7 1,om 8 0,ob 9 .leq 3 7 8,om 10 9,gm 10 true 11 0,gm 10 true 12 2,gb 10 true 13 .leq 3 11 12,oq 14 (.pick (tq 10) (tq 13) (cb false)),om 6 14] [0,1,2] []:=⟨rx,rx⟩
def AIG:=rg Tryz.f121
def A2A:Code:=(.seq (AIG 2) (.seq (AIG 5) .ret))
theorem BDZ:Tryz.f121.body=some A2A:=by kernel_rfl
@[simp] theorem BNK:SX 11 (AIG 2) [oq 1 (.box (tq 0)),ot 2 false] [0] [1,7,910,911]∧SX 11 (AIG 5) [oz 3 94 1 0,ol 4 3 3,od 5 163 [tq 4,ci 1,ci 4],om 6 5,gz 6 true 7 94 1 1,gl 6 true 8 3 7,gd 6 true 9 163 [tq 8,ci 0,ci 5],oq 10 (.pick (tq 6) (tq 9) (cb false)),om 2 10] [1] [1]:=⟨rx,rx⟩
def AIH:=rg Tryz.f118
def A2B:Code:=(.seq (AIH 2) (.seq (AIH 5) .ret))
theorem BD0:Tryz.f118.body=some A2B:=by kernel_rfl
@[simp] theorem BNL:SX 11 (AIH 2) [oq 2 (.box (tq 0)),ot 4 false] [0,1] [2]∧SX 11 (AIH 5) [om 5 1,oe 6 5 97,oz 7 43 2 0,oz 8 40 7 2,ol 9 3 8,ob 10 .eql 3 6 9,om 4 10] [1,2] [2]:=⟨rx,rx⟩
def KN:=rg Tryz.f71
@[simp] def ABL:Code:=(.seq (KN 4561279) (.seq (.cond (.tmp 63) .skip (.exit 2)) (.seq (.block 3 (.seq (KN 73767295) (KN 107321727))) (KN 31824255))))
def SN:=ABL
@[simp] def ABM:Code:=(.seq (KN 4479) (.seq (.cond (.tmp 57) .skip (.exit 0)) (.seq (.block 1 (.seq (KN 72063) (.seq (KN 170367) (.seq (.seq (KN 629119) (.block 2 (.loop SN))) (KN 498047))))) (KN 31103))))
def SO:=ABM
def c71:Code:=(.seq (KN 2) (.seq (.seq (KN 9) (.cond (.tmp 16) (.seq (KN 37) .ret) .skip)) (.seq (KN 11) (.seq (.seq (KN 39) (.cond (.tmp 26) (.seq (KN 151) .ret) .skip)) (.seq (KN 47) (.seq (.seq (KN 159) (.cond (.tmp 49) (.seq (KN 607) .ret) .skip)) (.seq (KN 191) (.seq (.seq (KN 639) (.block 0 (.loop SO))) (.seq (KN 767) .ret)))))))))
theorem b71:Tryz.f71.body=some c71:=by kernel_rfl
@[simp] theorem BD1(n:Nat)(st:XS):AE Tryz.prog ann kn (n+1) 85 (KN 767) st=OW (I7 Tryz.prog (BN Tryz.prog ann kn n) (.str [om 84 7,om 2 84,ok 3 0]) (CC (some ([7],[1,22,51,53,80])) (L8 [80,911051,912053] st))) :=
 D6 (by kernel_rfl) (by kernel_rfl) (by kernel_rfl) (by kernel_rfl) (by kernel_rfl)
@[simp] theorem x71:UX 85 SN ABL∧UX 85 SO ABM∧SX 85 (KN 2) [oq 1 (.box (tq 0)),oq 2 (.mv (.const (.pointer none))),ok 3 0] [0] [1,22,51,53,80]∧SX 85 (KN 9) [oz 13 43 1 3,ol 14 41 13,oe 15 14 41,oc 16 .gtr 3 15 3] [1] [1,22,51,53,80]∧SX 85 (KN 37) [oq 2 (.mv (.const (.pointer none))),ok 3 3] [] []∧SX 85 (KN 11) [oz 18 43 1 0,ol 19 40 18,oz 20 43 1 1,ol 21 23 20,od 22 117 [tq 19,tq 21],om 17 22,oq 23 (.oth (.extract (tq 17) 0)),oq 24 (.oth (.extract (tq 17) 1)),om 4 23,om 5 24] [1] [1,22,51,53,80]∧SX 85 (KN 39) [om 25 5,oc 26 .neq 34 25 0] [1,4,5] [1,22,51,53,80]∧SX 85 (KN 151) [om 27 5,oq 2 (.mv (.const (.pointer none))),om 3 27] [5] []∧SX 85 (KN 47) [ol 28 43 1,oq 29 (.oth (.makeFunc (.func 118) #[tq 28] #[])),om 6 29] [1,4] [1,22,51,53,80]∧SX 85 (KN 159) [oz 30 43 1 2,ol 31 28 30,oe 32 31 28,oz 33 43 1 0,oz 34 40 33 1,ol 35 3 34,ob 36 .neq 3 32 35,om 37 36,gz 37 false 38 43 1 2,gl 37 false 39 28 38,gm 37 false 40 6,gd 37 false 41 119 [tq 39,tq 40],og 37 false 42 (.oth (.unOp .not 4 (tq 41))),oq 43 (.pick (tq 37) (cb true) (tq 42)),om 44 43,gz 44 false 45 43 1 3,gl 44 false 46 41 45,gd 44 false 47 120 [tq 46,.func 121],og 44 false 48 (.oth (.unOp .not 4 (tq 47))),oq 49 (.pick (tq 44) (cb true) (tq 48))] [1,4,6] [1,22,51,53,80]∧SX 85 (KN 607) [oq 2 (.mv (.const (.pointer none))),ok 3 1] [] []∧SX 85 (KN 191) [ol 50 43 1,oq 51 (.mkM none),oq 52 (.build 175 [(0,tq 50),(1,.const (.slice none 0 0)),(2,tq 51)]),oq 53 (.box (tq 52)),om 7 53] [1,4] [1,22,51,53,80]∧SX 85 (KN 639) [om 54 4,oe 55 54 197,ok 56 0] [4,7] [1,22,51,53,80]∧SX 85 (KN 4479) [ob 57 .lss 3 56 55] [7,54,55,56] [1,22,51,53,80]∧SX 85 (KN 72063) [oi 58 197 54 56,ol 59 204 58,om 9 59] [7,54,55,56] [1,22,51,53,80]∧SX 85 (KN 170367) [oq 10 (.alloc 206)] [7,9,54,55,56] [1,22,51,53,80]∧SX 85 (KN 629119) [om 60 9,oe 61 60 204,ok 62 0] [7,9,10,54,55,56] [1,10,22,51,53,80]∧SX 85 (KN 4561279) [ob 63 .lss 3 62 61] [7,10,54,55,56,60,61,62] [1,10,22,51,53,80]∧SX 85 (KN 73767295) [om 64 62,oi 65 204 60 62,ol 66 209 65,oq 12 (.alloc 209),om 11 64,os (.sto 209 (tq 12) (tq 66))] [7,10,54,55,56,60,61,62] [1,10,22,51,53,80]∧SX 85 (KN 107321727) [om 67 11,oz 68 209 12 2,oz 69 207 68 0,ol 70 3 69,oi 71 206 10 67,os (.sto 3 (tq 71) (tq 70))] [7,10,11,12,54,55,56,60,61,62] [1,10,12,22,51,53,80]∧SX 85 (KN 31824255) [oc 72 .add 3 62 1,om 62 72] [7,10,54,55,56,60,61,62] [1,10,22,51,53,80]∧RX 85 (KN 498047) (.drw [⟨[],[om 73 7,om 74 7,oq 75 (.oth (.nilCheck (tq 74))),oz 76 175 75 1,oq 77 (.ldz 172 (tq 76)),ol 78 206 10,oq 79 (.buildS 172 1 [(0,tq 78)]),oq 80 (.app [tq 77,tq 79] [172,172]),oq 81 (.oth (.nilCheck (tq 73))),oz 82 175 81 1,os (.sto 172 (tq 82) (tq 80))],[]⟩]) (some ([7,10,54,55,56],[1,10,22,51,53,80]))∧SX 85 (KN 31103) [oc 83 .add 3 56 1,om 56 83] [7,54,55,56] [1,22,51,53,80]∧LX 85 SO [7,54,55,56] [1,22,51,53,80]∧LX 85 SN [7,10,54,55,56,60,61,62] [1,10,22,51,53,80]:=⟨fun _ _=>rfl,fun _ _=>rfl,rx,rx,rx,rx,rx,rx,rx,rx,rx,rx,rx,rx,rx,rx,rx,rx,rx,rx,rx,rx,rx,lx,lx⟩
def g24:=rg Tryz.f24
def c24:Code:=(.seq (g24 2) (.seq (g24 5) (.seq (g24 11) .ret)))
theorem b24:Tryz.f24.body=some c24:=by kernel_rfl
@[simp] theorem x24:SX 11 (g24 2) [oq 1 (.box (tq 0)),ok 2 0] [0] [1,7,910,911]∧SX 11 (g24 5) [ol 6 43 1,od 7 71 [tq 6],om 5 7,oq 8 (.oth (.extract (tq 5) 0)),oq 9 (.oth (.extract (tq 5) 1)),om 3 8,om 4 9] [1] [1,7,910,911]∧SX 11 (g24 11) [om 10 4,om 2 10] [4] []:=⟨rx,rx,rx⟩
def QF:=rg Tryz.f189
@[simp] def ABN:Code:=(.seq (QF 69) (.seq (.cond (.tmp 9) .skip (.exit 0)) (.seq (.block 1 (.seq (QF 1125) (.seq (QF 2661) (.cond (.tmp 16) (.seq (QF 9829) .ret) .skip)))) (QF 485))))
def SP:=ABN
def AP0:Code:=(.seq (QF 2) (.seq (.seq (QF 9) (.block 0 (.loop SP))) (.seq (QF 11) .ret)))
theorem b189:Tryz.f189.body=some AP0:=by kernel_rfl
@[simp] theorem BNN:UX 19 SP ABN∧SX 19 (QF 2) [ok 4 0] [0,1] []∧SX 19 (QF 9) [om 6 0,oe 7 6 120,ok 8 0] [0,1] []∧SX 19 (QF 69) [ob 9 .lss 3 8 7] [0,1,7,8] []∧SX 19 (QF 1125) [om 10 8,om 5 10] [0,1,7,8] []∧SX 19 (QF 2661) [om 11 1,om 12 0,om 13 5,oi 14 120 12 13,ol 15 153 14,oq 16 (.call false none (tq 11) [tq 15])] [0,1,5,7,8] []∧SX 19 (QF 9829) [om 17 5,om 4 17] [5] []∧SX 19 (QF 485) [oc 18 .add 3 8 1,om 8 18] [0,1,3,7,8] []∧SX 19 (QF 11) [oq 4 (.mv (.const (.int .i64 (Int.negSucc 0))))] [] []∧LX 19 SP [0,1,7,8] []:=⟨fun _ _=>rfl,rx,rx,rx,rx,rx,rx,rx,rx,lx⟩
def AIK:=rg Tryz.f171
def A2C:Code:=(.seq (AIK 2) (.seq (AIK 5) .ret))
theorem b171:Tryz.f171.body=some A2C:=by kernel_rfl
@[simp] theorem BNO:SX 9 (AIK 2) [ot 4 false] [0,1] [7]∧SX 9 (AIK 5) [om 5 0,om 6 1,od 7 189 [tq 5,tq 6],oc 8 .geq 3 7 0,om 4 8] [0,1,2,3] [2,3]:=⟨rx,rx⟩
def AIL:=rg Tryz.f137
def A2D:Code:=(.seq (AIL 2) (.seq (AIL 5) .ret))
theorem b137:Tryz.f137.body=some A2D:=by kernel_rfl
@[simp] theorem BNP:SX 9 (AIL 2) [oq 3 (.box (tq 1)),ot 4 false] [0,1,2] [3]∧SX 9 (AIL 5) [om 5 0,oq 6 (.oth (.makeFunc (.func 172) #[] #[tq 3])),od 7 171 [tq 5,tq 6],ou 8 7,om 4 8] [0,1,2,3] [2,3]:=⟨rx,rx⟩
def AIM:=rg Tryz.f172
def A2E:Code:=(.seq (AIM 2) (.seq (AIM 5) .ret))
theorem b172:Tryz.f172.body=some A2E:=by kernel_rfl
@[simp] theorem BNQ:SX 8 (AIM 2) [oq 2 (.box (tq 0)),ot 3 false] [0,1] []∧SX 8 (AIM 5) [ol 4 221 1,ol 5 153 2,oq 6 (.call false none (tq 4) [tq 5]),ou 7 6,om 3 7] [0,1,2] [2]:=⟨rx,rx⟩
def wT:=rg Tryz.f173
def A2F:Code:=(.seq (wT 2) (.seq (wT 5) (.seq (wT 11) .ret)))
theorem BD3:Tryz.f173.body=some A2F:=by kernel_rfl
@[simp] theorem BNR:SX 38 (wT 2) [oq 3 (.box (tq 0)),ot 6 false] [0,1,2] [3]∧RX 38 (wT 5) (.drw [⟨[7,8],[oz 9 43 3 3,oq 10 (.ldz 41 (tq 9)),om 11 1,oi 12 41 10 11,oq 13 (.ldz 94 (tq 12)),oz 14 43 3 3,ol 15 41 14,om 16 2,oi 17 41 15 16,ol 18 94 17,oq 7 (.alloc 94),oq 8 (.alloc 94),os (.sto 94 (tq 7) (tq 13))],[os (.sto 94 (tq 8) (tq 18))]⟩]) (some ([1,2,3],[3]))∧SX 38 (wT 11) [om 19 1,om 20 2,ob 21 .neq 3 19 20,om 22 21,gz 22 true 23 94 7 3,gl 22 true 24 4 23,gm 22 true 25 24,gz 25 true 26 94 8 2,gl 25 true 27 4 26,og 22 true 28 (.pick (tq 25) (tq 27) (cb false)),gm 22 true 29 28,gz 29 false 30 94 7 2,gl 29 false 31 4 30,gm 29 false 32 31,gz 32 true 33 94 8 3,gl 32 true 34 4 33,og 29 false 35 (.pick (tq 32) (tq 34) (cb false)),og 22 true 36 (.pick (tq 29) (cb true) (tq 35)),oq 37 (.pick (tq 22) (tq 36) (cb false)),om 6 37] [1,2,7,8] [7,8]:=⟨rx,rx,rx⟩
def AIN:=rg Tryz.f136
def A2G:Code:=(.seq (AIN 2) (.seq (AIN 5) .ret))
theorem BD4:Tryz.f136.body=some A2G:=by kernel_rfl
@[simp] theorem BNS:SX 26 (AIN 2) [oq 2 (.box (tq 0)),oq 3 (.box (tq 1)),ot 4 false] [0,1] [2]∧SX 26 (AIN 5) [oz 5 153 3 1,oz 6 86 5 0,ol 7 3 6,oz 8 43 2 0,oz 9 40 8 1,ol 10 3 9,oc 11 .sub 3 10 1,od 12 163 [tq 7,ci 0,tq 11],om 13 12,gz 13 true 14 153 3 1,gz 13 true 15 86 14 1,gl 13 true 16 3 15,gz 13 true 17 43 2 0,gz 13 true 18 40 17 2,gl 13 true 19 3 18,gz 13 true 20 153 3 0,gz 13 true 21 151 20 1,gl 13 true 22 3 21,gb 13 true 23 .sub 3 19 22,gd 13 true 24 163 [tq 16,ci 0,tq 23],oq 25 (.pick (tq 13) (tq 24) (cb false)),om 4 25] [2,3] [2,3]:=⟨rx,rx⟩
def bR:=rg Tryz.f139
def ABO:Code:=(.seq (bR 2) (.seq (.seq (bR 9) (.cond (.tmp 14) (.seq (bR 37) .ret) .skip)) (.seq (bR 11) (.seq (bR 23) .ret))))
theorem BD5:Tryz.f139.body=some ABO:=by kernel_rfl
@[simp] theorem BNT:SX 55 (bR 2) [oq 3 (.box (tq 0)),oq 4 (.box (tq 1)),oq 5 (.box (tq 2)),ot 6 false] [0,1,2] [3]∧SX 55 (bR 9) [oz 8 153 4 1,oz 9 86 8 0,ol 10 3 9,oz 11 153 5 1,oz 12 86 11 0,ol 13 3 12,ob 14 .neq 3 10 13] [3,4,5] [3,4,5]∧SX 55 (bR 37) [ot 6 true] [] []∧SX 55 (bR 11) [oz 15 153 4 1,oz 16 86 15 1,ol 17 3 16,oz 18 153 5 1,oz 19 86 18 1,ol 20 3 19,ob 21 .sub 3 17 20,oz 22 153 5 0,oz 23 151 22 1,ol 24 3 23,ob 25 .sub 3 21 24,oz 26 153 5 1,oz 27 86 26 1,ol 28 3 27,oz 29 153 4 1,oz 30 86 29 1,ol 31 3 30,ob 32 .sub 3 28 31,oz 33 153 4 0,oz 34 151 33 1,ol 35 3 34,ob 36 .sub 3 32 35,oq 37 (.oth (.call ⟨.builtin .max,#[tq 25,tq 36],#[3,3]⟩)),om 7 37] [3,4,5] [3,4,5]∧SX 55 (bR 23) [om 38 7,oc 39 .gtr 3 38 0,om 40 39,gm 40 false 41 7,gc 40 false 42 .eql 3 41 0,gm 40 false 43 42,gl 43 true 44 43 3,gz 43 true 45 153 4 0,gz 43 true 46 151 45 0,gl 43 true 47 3 46,gz 43 true 48 153 5 0,gz 43 true 49 151 48 0,gl 43 true 50 3 49,gd 43 true 51 173 [tq 44,tq 47,tq 50],og 43 true 52 (.oth (.unOp .not 4 (tq 51))),og 40 false 53 (.pick (tq 43) (tq 52) (cb false)),oq 54 (.pick (tq 40) (cb true) (tq 53)),om 6 54] [3,4,5,7] [3,4,5]:=⟨rx,rx,rx,rx,rx⟩
def JB:=rg Tryz.f140
@[simp] def ABP:Code:=(.seq (JB 18021) (.seq (.cond (.tmp 17) .skip (.exit 2)) (.seq (.block 3 (.seq (JB 288357) (.seq (JB 681573) (.cond (.tmp 20) (JB 1468005) .skip)))) (JB 124517))))
def SQ:=ABP
@[simp] def ABQ:Code:=(.seq (JB 69) (.seq (.cond (.tmp 11) .skip (.exit 0)) (.seq (.block 1 (.seq (JB 1125) (.seq (JB 2661) (.block 2 (.loop SQ))))) (JB 485))))
def SR:=ABQ
def A2H:Code:=(.seq (JB 2) (.seq (.seq (JB 9) (.block 0 (.loop SR))) (.seq (JB 11) .ret)))
theorem BD6:Tryz.f140.body=some A2H:=by kernel_rfl
@[simp] theorem BNU:UX 26 SQ ABP∧UX 26 SR ABQ∧SX 26 (JB 2) [oq 1 (.box (tq 0)),ok 2 0] [0] [1]∧SX 26 (JB 9) [oz 7 43 1 2,ol 8 28 7,oe 9 8 28,ok 10 0] [1,2] [1]∧SX 26 (JB 69) [ob 11 .lss 3 10 9] [2,8,9,10] [1]∧SX 26 (JB 1125) [oi 12 28 8 10,ol 13 97 12,om 4 13] [2,8,9,10] [1]∧SX 26 (JB 2661) [om 14 4,oe 15 14 97,ok 16 0] [2,4,8,9,10] [1]∧SX 26 (JB 18021) [ob 17 .lss 3 16 15] [2,8,9,10,14,15,16] [1]∧SX 26 (JB 288357) [oi 18 97 14 16,ol 19 4 18,om 6 19] [2,8,9,10,14,15,16] [1]∧SX 26 (JB 681573) [om 20 6] [2,6,8,9,10,14,15,16] [1]∧SX 26 (JB 1468005) [om 21 2,oc 22 .add 3 21 1,om 2 22] [2,8,9,10,14,15,16] [1]∧SX 26 (JB 124517) [oc 23 .add 3 16 1,om 16 23] [2,8,9,10,14,15,16] [1]∧SX 26 (JB 485) [oc 24 .add 3 10 1,om 10 24] [2,8,9,10] [1]∧SX 26 (JB 11) [om 25 2,om 2 25] [2] []∧LX 26 SR [2,8,9,10] [1]∧LX 26 SQ [2,8,9,10,14,15,16] [1]:=⟨fun _ _=>rfl,fun _ _=>rfl,rx,rx,rx,rx,rx,rx,rx,rx,rx,rx,rx,rx,lx,lx⟩
def oF:=rg Tryz.f92
@[simp] def AL8:Code:=(.seq (oF 69) (.seq (.cond (.tmp 11) .skip (.exit 0)) (.seq (.block 1 (.seq (oF 1125) (.seq (oF 2661) (.cond (.tmp 18) (oF 5733) .skip)))) (oF 485))))
def XR:=AL8
def c92:Code:=(.seq (oF 2) (.seq (.seq (oF 9) (.block 0 (.loop XR))) (.seq (oF 11) .ret)))
theorem b92:Tryz.f92.body=some c92:=by kernel_rfl
@[simp] theorem x92:UX 28 XR AL8∧SX 28 (oF 2) [oq 2 (.box (tq 0)),oq 4 (.mv (.const (.slice none 0 0)))] [0,1] [2]∧SX 28 (oF 9) [oz 7 43 2 3,ol 8 41 7,oe 9 8 41,ok 10 0] [1,2,4] [2,25]∧SX 28 (oF 69) [ob 11 .lss 3 10 9] [1,4,8,9,10] [2,25]∧SX 28 (oF 1125) [om 12 10,oi 13 41 8 10,ol 14 94 13,oq 6 (.alloc 94),om 5 12,os (.sto 94 (tq 6) (tq 14))] [1,4,8,9,10] [2,25]∧SX 28 (oF 2661) [om 15 1,om 16 5,od 17 132 [tq 15,tq 16],ou 18 17] [1,4,5,6,8,9,10] [2,6,25]∧SX 28 (oF 5733) [om 19 4,om 20 5,oz 21 94 6 0,ol 22 3 21,oq 23 (.build 151 [(0,tq 20),(1,tq 22)]),oq 24 (.buildS 170 1 [(0,tq 23)]),oq 25 (.app [tq 19,tq 24] [170,170]),om 4 25] [1,4,5,6,8,9,10] [2,6,25]∧SX 28 (oF 485) [oc 26 .add 3 10 1,om 10 26] [1,4,8,9,10] [2,25]∧SX 28 (oF 11) [om 27 4,om 4 27] [4] [25]∧LX 28 XR [1,4,8,9,10] [2,25]:=⟨fun _ _=>rfl,rx,rx,rx,rx,rx,rx,rx,rx,lx⟩
def tD:=rg Tryz.f72
@[simp] def AL9:Code:=(lp (tD 267) 8 0 1 (tD 587) (tD 459))
def XU:=AL9
def c72:Code:=(.seq (tD 2) (.seq (tD 5) (.seq (.seq (tD 19) (.block 0 (.loop XU))) (.seq (tD 23) .ret))))
theorem b72:Tryz.f72.body=some c72:=by kernel_rfl
@[simp] theorem x72:UX 19 XU AL9∧SX 19 (tD 2) [ok 2 0] [0] []∧SX 19 (tD 5) [ok 3 0] [0] []∧SX 19 (tD 19) [ok 4 0] [0,3] []∧SX 19 (tD 267) [om 5 4,om 6 0,oe 7 6 49,ob 8 .lss 3 5 7] [0,3,4] []∧SX 19 (tD 587) [om 11 3,om 12 0,om 13 4,oi 14 49 12 13,oz 15 135 14 1,ol 16 3 15,ob 17 .add 3 11 16,om 3 17] [0,3,4] []∧SX 19 (tD 459) [om 9 4,oc 10 .add 3 9 1,om 4 10] [0,3,4] []∧SX 19 (tD 23) [om 18 3,om 2 18] [0,1,3,7,8] []∧LX 19 XU [0,3,4] []:=⟨fun _ _=>rfl,rx,rx,rx,rx,rx,rx,rx,lx⟩
def bL:=rg Tryz.f73
@[simp] def AMA:Code:=(lp (bL 16971) 20 2 3 (.seq (bL 70219) (.cond (.tmp 30) (bL 168523) .skip)) (bL 29259))
def XV:=AMA
@[simp] def AMB:Code:=(lp (bL 267) 10 0 1 (.seq (bL 1099) (.block 2 (.loop XV))) (bL 459))
def XW:=AMB
def c73:Code:=(.seq (bL 2) (.seq (bL 5) (.seq (.seq (bL 19) (.block 0 (.loop XW))) (.seq (bL 23) .ret))))
theorem b73:Tryz.f73.body=some c73:=by kernel_rfl
@[simp] theorem x73:UX 34 XV AMA∧UX 34 XW AMB∧SX 34 (bL 2) [oq 1 (.box (tq 0)),ok 2 0] [0] [1]∧SX 34 (bL 5) [ok 3 0] [1] [1]∧SX 34 (bL 19) [ok 4 0] [1,3] [1]∧SX 34 (bL 267) [om 6 4,oz 7 31 1 2,ol 8 28 7,oe 9 8 28,ob 10 .lss 3 6 9] [1,3,4] [1]∧SX 34 (bL 1099) [ok 5 0] [1,3,4] [1]∧SX 34 (bL 16971) [om 13 5,oz 14 31 1 2,ol 15 28 14,om 16 4,oi 17 28 15 16,ol 18 97 17,oe 19 18 97,ob 20 .lss 3 13 19] [1,3,4,5] [1]∧SX 34 (bL 70219) [oz 23 31 1 2,ol 24 28 23,om 25 4,oi 26 28 24 25,ol 27 97 26,om 28 5,oi 29 97 27 28,ol 30 4 29] [1,3,4,5] [1]∧SX 34 (bL 168523) [om 31 3,oc 32 .add 3 31 1,om 3 32] [1,3,4,5] [1]∧SX 34 (bL 29259) [om 21 5,oc 22 .add 3 21 1,om 5 22] [1,3,4,5] [1]∧SX 34 (bL 459) [om 11 4,oc 12 .add 3 11 1,om 4 12] [1,3,4] [1]∧SX 34 (bL 23) [om 33 3,om 2 33] [3] []∧LX 34 XW [1,3,4] [1]∧LX 34 XV [1,3,4,5] [1]:=⟨fun _ _=>rfl,fun _ _=>rfl,rx,rx,rx,rx,rx,rx,rx,rx,rx,rx,rx,lx,lx⟩
def wU:=rg Tryz.f122
def A2I:Code:=(.seq (wU 2) (.seq (wU 5) (.seq (wU 11) .ret)))
theorem BD7:Tryz.f122.body=some A2I:=by kernel_rfl
@[simp] theorem BNY:SX 38 (wU 2) [oq 3 (.box (tq 0)),ot 6 false] [0,1,2] [3]∧RX 38 (wU 5) (.drw [⟨[7,8],[oz 9 31 3 3,oq 10 (.ldz 29 (tq 9)),om 11 1,oi 12 29 10 11,oq 13 (.ldz 57 (tq 12)),oz 14 31 3 3,ol 15 29 14,om 16 2,oi 17 29 15 16,ol 18 57 17,oq 7 (.alloc 57),oq 8 (.alloc 57),os (.sto 57 (tq 7) (tq 13))],[os (.sto 57 (tq 8) (tq 18))]⟩]) (some ([1,2,3],[3]))∧SX 38 (wU 11) [om 19 1,om 20 2,ob 21 .neq 3 19 20,om 22 21,gz 22 true 23 57 7 3,gl 22 true 24 4 23,gm 22 true 25 24,gz 25 true 26 57 8 2,gl 25 true 27 4 26,og 22 true 28 (.pick (tq 25) (tq 27) (cb false)),gm 22 true 29 28,gz 29 false 30 57 8 3,gl 29 false 31 4 30,gm 29 false 32 31,gz 32 true 33 57 7 2,gl 32 true 34 4 33,og 29 false 35 (.pick (tq 32) (tq 34) (cb false)),og 22 true 36 (.pick (tq 29) (cb true) (tq 35)),oq 37 (.pick (tq 22) (tq 36) (cb false)),om 6 37] [1,2,7,8] [7,8]:=⟨rx,rx,rx⟩
def M7:=rg Tryz.f74
@[simp] def ABR:Code:=(lp (M7 8689967) 73 4 5 (.seq (M7 35952943) (.seq (M7 86284591) (.cond (.tmp 111) (.seq (M7 321165615) .ret) .skip))) (M7 14981423))
def SU:=ABR
@[simp] def ABS:Code:=(lp (M7 137519) 68 2 3 (.seq (M7 563503) (.block 4 (.loop SU))) (M7 235823))
def SV:=ABS
@[simp] def AMC:Code:=(lp (M7 1071) 51 0 1 (.seq (.seq (M7 8495) (.cond (.tmp 61) (.exit 1) .skip)) (.seq (M7 10543) (.block 2 (.loop SV)))) (M7 1839))
def XX:=AMC
def c74:Code:=(.seq (M7 2) (.seq (M7 5) (.seq (M7 11) (.seq (.seq (M7 39) (.cond (.tmp 48) (.seq (M7 151) .ret) .skip)) (.seq (.seq (M7 79) (.block 0 (.loop XX))) (.seq (M7 95) .ret))))))
theorem b74:Tryz.f74.body=some c74:=by kernel_rfl
@[simp] theorem x74:UX 112 SU ABR∧UX 112 SV ABS∧UX 112 XX AMC∧SX 112 (M7 2) [oq 3 (.box (tq 0)),ot 6 false] [0,1,2] [3]∧SX 112 (M7 5) [om 14 2,oe 15 14 24,oc 16 .sub 3 15 1,om 7 16] [1,2,3] [3]∧RX 112 (M7 11) (.drw [⟨[8],[om 17 2,om 18 7,oi 19 24 17 18,oq 20 (.ldz 59 (tq 19)),om 21 1,om 22 7,oi 23 49 21 22,oz 24 135 23 1,ol 25 3 24,oq 8 (.alloc 59),os (.sto 59 (tq 8) (tq 20)),om 9 25],[]⟩]) (some ([1,2,3,7],[3]))∧SX 112 (M7 39) [oz 26 59 8 0,ol 27 3 26,oz 28 31 3 0,oz 29 27 28 1,ol 30 3 29,oc 31 .sub 3 30 1,od 32 57 [tq 27,ci 0,tq 31],ou 33 32,om 34 33,gz 34 false 35 59 8 1,gl 34 false 36 3 35,gc 34 false 37 .lss 3 36 0,oq 38 (.pick (tq 34) (cb true) (tq 37)),om 39 38,gz 39 false 40 59 8 1,gl 39 false 41 3 40,gz 39 false 42 31 3 0,gz 39 false 43 27 42 2,gl 39 false 44 3 43,gm 39 false 45 9,gb 39 false 46 .sub 3 44 45,gb 39 false 47 .gtr 3 41 46,oq 48 (.pick (tq 39) (cb true) (tq 47))] [1,2,3,7,8,9] [3,8]∧SX 112 (M7 151) [ot 6 false] [] []∧SX 112 (M7 79) [ok 10 0] [1,2,3,7,8,9] [3,8]∧SX 112 (M7 1071) [om 49 10,om 50 7,ob 51 .lss 3 49 50] [1,2,3,7,8,9,10] [3,8]∧RX 112 (M7 8495) (.drw [⟨[],[om 54 2,om 55 10,oi 56 24 54 55,oz 57 59 56 0,ol 58 3 57,oz 59 59 8 0,ol 60 3 59,ob 61 .neq 3 58 60],[]⟩]) (some ([1,2,3,7,8,9,10],[3,8]))∧SX 112 (M7 10543) [ok 11 0] [1,2,3,7,8,9,10] [3,8]∧SX 112 (M7 137519) [om 62 11,om 63 1,om 64 10,oi 65 49 63 64,oz 66 135 65 1,ol 67 3 66,ob 68 .lss 3 62 67] [1,2,3,7,8,9,10,11] [3,8]∧SX 112 (M7 563503) [ok 12 0] [1,2,3,7,8,9,10,11] [3,8]∧SX 112 (M7 8689967) [om 71 12,om 72 9,ob 73 .lss 3 71 72] [1,2,3,7,8,9,10,11,12] [3,8]∧RX 112 (M7 35952943) (.drw [⟨[],[om 76 2,om 77 10,oi 78 24 76 77,oz 79 59 78 1,ol 80 3 79,om 81 11,ob 82 .add 3 80 81,oz 83 59 8 1,ol 84 3 83,ob 85 .sub 3 82 84,om 86 12,ob 87 .sub 3 85 86,om 13 87],[]⟩]) (some ([1,2,3,7,8,9,10,11,12],[3,8]))∧RX 112 (M7 86284591) (.drw [⟨[],[om 88 13,oc 89 .eql 3 88 0,om 90 89,gm 90 false 91 13,gc 90 false 92 .eql 3 91 1,gm 90 false 93 92,gm 93 false 94 13,og 93 false 95 (.bin .eql 3 (tq 94) (.const (.int .i64 (Int.negSucc 0)))),og 90 false 96 (.pick (tq 93) (cb true) (tq 95)),gm 90 false 97 96,gl 97 true 98 31 3,gm 97 true 99 1,gm 97 true 100 10,gi 97 true 101 49 99 100,gz 97 true 102 135 101 0,gl 97 true 103 3 102,gm 97 true 104 1,gm 97 true 105 7,gi 97 true 106 49 104 105,gz 97 true 107 135 106 0,gl 97 true 108 3 107],[gd 97 true 109 122 [tq 98,tq 103,tq 108]]⟩,⟨[],[og 90 false 110 (.pick (tq 97) (tq 109) (cb false)),oq 111 (.pick (tq 90) (cb true) (tq 110))],[]⟩]) (some ([1,2,3,7,8,9,10,11,12,13],[3,8]))∧SX 112 (M7 321165615) [ot 6 false] [] []∧SX 112 (M7 14981423) [om 74 12,oc 75 .add 3 74 1,om 12 75] [1,2,3,7,8,9,10,11,12] [3,8]∧SX 112 (M7 235823) [om 69 11,oc 70 .add 3 69 1,om 11 70] [1,2,3,7,8,9,10,11] [3,8]∧SX 112 (M7 1839) [om 52 10,oc 53 .add 3 52 1,om 10 53] [1,2,3,7,8,9,10] [3,8]∧SX 112 (M7 95) [ot 6 true] [] []∧LX 112 XX [1,2,3,7,8,9,10] [3,8]∧LX 112 SV [1,2,3,7,8,9,10,11] [3,8]∧LX 112 SU [1,2,3,7,8,9,10,11,12] [3,8]:=⟨fun _ _=>rfl,fun _ _=>rfl,fun _ _=>rfl,rx,rx,rx,rx,rx,rx,rx,rx,rx,rx,rx,rx,rx,rx,rx,rx,rx,rx,rx,lx,lx,lx⟩
def LC:=rg Tryz.f109
@[simp] def ABT:Code:=(.seq (LC 139) (.seq (.cond (.tmp 11) .skip (.exit 0)) (.seq (.block 1 (.seq (LC 2251) (.seq (LC 5323) (.seq (LC 11467) (.cond (.tmp 31) (.seq (LC 40139) .ret) .skip))))) (LC 971))))
def SW:=ABT
def AP1:Code:=(.seq (LC 2) (.seq (LC 5) (.seq (.seq (LC 19) (.block 0 (.loop SW))) (.seq (LC 23) .ret))))
theorem BD9:Tryz.f109.body=some AP1:=by kernel_rfl
@[simp] theorem BN0:UX 37 SW ABT∧SX 37 (LC 2) [oq 2 (.box (tq 0)),ot 4 false] [0,1] [2,7,32]∧SX 37 (LC 5) [ok 5 0] [1,2] [2,7]∧SX 37 (LC 19) [om 8 1,oe 9 8 120,ok 10 0] [1,2,5] [2,7]∧SX 37 (LC 139) [ob 11 .lss 3 10 9] [1,2,5,8,9,10] [2,7]∧SX 37 (LC 2251) [om 12 10,oi 13 120 8 10,ol 14 153 13,oq 7 (.alloc 153),om 6 12,os (.sto 153 (tq 7) (tq 14))] [1,2,5,8,9,10] [2,7]∧SX 37 (LC 5323) [om 15 5,oz 16 153 7 0,oz 17 151 16 1,ol 18 3 17,ob 19 .add 3 15 18,om 5 19] [1,2,5,6,7,8,9,10] [2,7]∧SX 37 (LC 11467) [ol 20 43 2,ol 21 153 7,od 22 136 [tq 20,tq 21],ou 23 22,om 24 23,gm 24 false 25 1,gm 24 false 26 6,og 24 false 27 (.oth (.slice 120 (tq 25) none (some (tq 26)) none)),og 24 false 28 (.oth (.makeFunc (.func 138) #[] #[tq 2,tq 7])),gd 24 false 29 137 [tq 27,tq 28],og 24 false 30 (.oth (.unOp .not 4 (tq 29))),oq 31 (.pick (tq 24) (cb true) (tq 30))] [1,2,5,6,7,8,9,10] [2,7]∧SX 37 (LC 40139) [ot 4 false] [] []∧SX 37 (LC 971) [oc 32 .add 3 10 1,om 10 32] [1,2,5,6,8,9,10,16,17,18] [2,7,16,31]∧SX 37 (LC 23) [om 33 5,ol 34 43 2,od 35 140 [tq 34],ob 36 .leq 3 33 35,om 4 36] [2,5] [2,7]∧LX 37 SW [1,2,5,8,9,10] [2,7]:=⟨fun _ _=>rfl,rx,rx,rx,rx,rx,rx,rx,rx,rx,rx,lx⟩
def AIO:=rg Tryz.f138
def A2J:Code:=(.seq (AIO 2) (.seq (AIO 5) .ret))
theorem b138:Tryz.f138.body=some A2J:=by kernel_rfl
@[simp] theorem BN1:SX 9 (AIO 2) [oq 3 (.box (tq 0)),ot 4 false] [0,1,2] [3]∧SX 9 (AIO 5) [ol 5 43 1,ol 6 153 2,ol 7 153 3,od 8 139 [tq 5,tq 6,tq 7],om 4 8] [0,1,2,3] [2,3]:=⟨rx,rx⟩
def cU:=rg Tryz.f65
@[simp] def AMD:Code:=(.seq (cU 279) (.seq (.cond (.tmp 19) .skip (.exit 0)) (.seq (.block 1 (.seq (cU 4503) (cU 6551))) (cU 1943))))
def XY:=AMD
def c65:Code:=(.seq (cU 2) (.seq (.seq (cU 9) (.cond (.tmp 14) (.seq (cU 37) .ret) .skip)) (.seq (cU 11) (.seq (.seq (cU 39) (.block 0 (.loop XY))) (.seq (cU 47) .ret)))))
theorem b65:Tryz.f65.body=some c65:=by kernel_rfl
@[simp] theorem BIQ(n:Nat)(st:XS):AE Tryz.prog ann kn (n+1) 37 (cU 47) st=OW (I7 Tryz.prog (BN Tryz.prog ann kn n) (.str [om 33 6,ol 34 43 2,om 35 6,od 36 109 [tq 34,tq 35],om 4 33,om 5 36]) (CC (some ([2,6],[2,16,31])) (L8 [31] st))) :=
 D6 (by kernel_rfl) (by kernel_rfl) (by kernel_rfl) (by kernel_rfl) (by kernel_rfl)
@[simp] theorem x65:UX 37 XY AMD∧SX 37 (cU 2) [oq 2 (.box (tq 0)),oq 4 (.mv (.const (.slice none 0 0))),ot 5 false] [0,1] [2,16]∧SX 37 (cU 9) [om 9 1,oe 10 9 37,oz 11 43 2 3,ol 12 41 11,oe 13 12 41,ob 14 .neq 3 10 13] [1,2] [2,16]∧SX 37 (cU 37) [oq 4 (.mv (.const (.slice none 0 0))),ot 5 false] [] []∧SX 37 (cU 11) [oq 6 (.mv (.const (.slice none 0 0)))] [1,2] [2,16]∧SX 37 (cU 39) [ol 15 43 2,od 16 92 [tq 15,.const (.slice none 0 0)],oe 17 16 170,ok 18 0] [1,2,6] [2,16,31]∧SX 37 (cU 279) [ob 19 .lss 3 18 17] [1,2,6,16,17,18] [2,16,31]∧SX 37 (cU 4503) [om 20 18,oi 21 170 16 18,ol 22 151 21,oq 8 (.alloc 151),om 7 20,os (.sto 151 (tq 8) (tq 22))] [1,2,6,16,17,18] [2,16,31]∧RX 37 (cU 6551) (.drw [⟨[],[om 23 6,ol 24 151 8,om 25 1,om 26 7,oi 27 37 25 26,ol 28 86 27,oq 29 (.build 153 [(0,tq 24),(1,tq 28)]),oq 30 (.buildS 120 1 [(0,tq 29)]),oq 31 (.app [tq 23,tq 30] [120,120]),om 6 31],[]⟩]) (some ([1,2,6,7,8,16,17,18],[2,8,16,31]))∧SX 37 (cU 1943) [oc 32 .add 3 18 1,om 18 32] [1,2,5,6,8,9,10,16,17,18] [2,7,16,31]∧LX 37 XY [1,2,6,16,17,18] [2,16,31]:=⟨fun _ _=>rfl,rx,rx,rx,rx,rx,rx,rx,rx,rx,lx⟩
def UL:=rg Tryz.f18
@[simp] def AME:Code:=(lp (UL 267) 31 0 1 (.seq (UL 1099) (.cond (.tmp 40) (.seq (UL 4683) .ret) .skip)) (UL 459))
def XZ:=AME
@[simp] def AMF:Code:=(lp (UL 535) 45 2 3 (.seq (UL 2199) (.cond (.tmp 54) (.seq (UL 9367) .ret) .skip)) (UL 919))
def X0:=AMF
def c18:Code:=(.seq (UL 2) (.seq (.seq (UL 9) (.cond (.tmp 26) (.seq (UL 37) .ret) .skip)) (.seq (.seq (UL 19) (.block 0 (.loop XZ))) (.seq (.seq (UL 39) (.block 2 (.loop X0))) (.seq (UL 47) .ret)))))
theorem b18:Tryz.f18.body=some c18:=by kernel_rfl
@[simp] theorem x18:UX 55 XZ AME∧UX 55 X0 AMF∧SX 55 (UL 2) [oq 1 (.box (tq 0)),ot 2 false] [0] [1]∧SX 55 (UL 9) [oz 5 31 1 0,ol 6 27 5,od 7 64 [tq 6],ou 8 7,om 9 8,gz 9 false 10 31 1 1,gl 9 false 11 23 10,ge 9 false 12 11 23,gc 9 false 13 .gtr 3 12 7,oq 14 (.pick (tq 9) (cb true) (tq 13)),om 15 14,gz 15 false 16 31 1 2,gl 15 false 17 28 16,ge 15 false 18 17 28,gc 15 false 19 .gtr 3 18 7,oq 20 (.pick (tq 15) (cb true) (tq 19)),om 21 20,gz 21 false 22 31 1 3,gl 21 false 23 29 22,ge 21 false 24 23 29,gc 21 false 25 .gtr 3 24 5,oq 26 (.pick (tq 21) (cb true) (tq 25))] [1] [1]∧SX 55 (UL 37) [ot 2 false] [] []∧SX 55 (UL 19) [ok 3 0] [1] [1]∧SX 55 (UL 267) [om 27 3,oz 28 31 1 1,ol 29 23 28,oe 30 29 23,ob 31 .lss 3 27 30] [1,3] [1]∧SX 55 (UL 1099) [oz 34 31 1 1,ol 35 23 34,om 36 3,oi 37 23 35 36,ol 38 22 37,oe 39 38 22,oc 40 .gtr 3 39 7] [1,3] [1]∧SX 55 (UL 4683) [ot 2 false] [] []∧SX 55 (UL 459) [om 32 3,oc 33 .add 3 32 1,om 3 33] [1,3] [1]∧SX 55 (UL 39) [ok 4 0] [1] [1]∧SX 55 (UL 535) [om 41 4,oz 42 31 1 2,ol 43 28 42,oe 44 43 28,ob 45 .lss 3 41 44] [1,4] [1]∧SX 55 (UL 2199) [oz 48 31 1 2,ol 49 28 48,om 50 4,oi 51 28 49 50,ol 52 97 51,oe 53 52 97,oc 54 .gtr 3 53 7] [1,4] [1]∧SX 55 (UL 9367) [ot 2 false] [] []∧SX 55 (UL 919) [om 46 4,oc 47 .add 3 46 1,om 4 47] [1,4] [1]∧SX 55 (UL 47) [ot 2 true] [] []∧LX 55 XZ [1,3] [1]∧LX 55 X0 [1,4] [1]:=⟨fun _ _=>rfl,fun _ _=>rfl,rx,rx,rx,rx,rx,rx,rx,rx,rx,rx,rx,rx,rx,rx,lx,lx⟩
def tE:=rg Tryz.f69
@[simp] def AMG:Code:=(lp (tE 267) 8 0 1 (tE 587) (tE 459))
def X3:=AMG
def c69:Code:=(.seq (tE 2) (.seq (tE 5) (.seq (.seq (tE 19) (.block 0 (.loop X3))) (.seq (tE 23) .ret))))
theorem b69:Tryz.f69.body=some c69:=by kernel_rfl
@[simp] theorem BIS(n:Nat)(st:XS):AE Tryz.prog ann kn (n+1) 20 (tE 459) st=OW (I7 Tryz.prog (BN Tryz.prog ann kn n) (.str [om 9 4,oc 10 .add 3 9 1,om 4 10]) (CC (some ([0,3,4],[18])) (L8 [16,2000000000000018] st))) :=
 D6 (by kernel_rfl) (by kernel_rfl) (by kernel_rfl) (by kernel_rfl) (by kernel_rfl)
@[simp] theorem x69:UX 20 X3 AMG∧SX 20 (tE 2) [oq 2 (.mv (.const (.slice none 0 0)))] [0] []∧SX 20 (tE 5) [oq 3 (.mv (.const (.slice none 0 0)))] [0] []∧SX 20 (tE 19) [ok 4 0] [0,3] [18]∧SX 20 (tE 267) [om 5 4,om 6 0,oe 7 6 23,ob 8 .lss 3 5 7] [0,3,4] [18]∧SX 20 (tE 587) [om 11 3,om 12 0,om 13 4,oi 14 23 12 13,ol 15 22 14,oq 16 (.app [.const (.slice none 0 0),tq 15] [22,22]),oq 17 (.buildS 23 1 [(0,tq 16)]),oq 18 (.app [tq 11,tq 17] [23,23]),om 3 18] [0,3,4] [18]∧SX 20 (tE 23) [om 19 3,om 2 19] [3] [18]∧LX 20 X3 [0,3,4] [18]:=⟨fun _ _=>rfl,rx,rx,rx,rx,rx,rx,lx⟩
def tF:=rg Tryz.f22
@[simp] def AMH:Code:=(lp (tF 267) 8 0 1 (tF 587) (tF 459))
def X4:=AMH
def c22:Code:=(.seq (tF 2) (.seq (tF 5) (.seq (.seq (tF 19) (.block 0 (.loop X4))) (.seq (tF 23) .ret))))
theorem b22:Tryz.f22.body=some c22:=by kernel_rfl
@[simp] theorem BIU(n:Nat)(st:XS):AE Tryz.prog ann kn (n+1) 20 (tF 459) st=OW (I7 Tryz.prog (BN Tryz.prog ann kn n) (.str [om 9 4,oc 10 .add 3 9 1,om 4 10]) (CC (some ([0,3,4],[18])) (L8 [16,2000000000000018] st))) :=
 D6 (by kernel_rfl) (by kernel_rfl) (by kernel_rfl) (by kernel_rfl) (by kernel_rfl)
@[simp] theorem x22:UX 20 X4 AMH∧SX 20 (tF 2) [oq 2 (.mv (.const (.slice none 0 0)))] [0] []∧SX 20 (tF 5) [oq 3 (.mv (.const (.slice none 0 0)))] [0] []∧SX 20 (tF 19) [ok 4 0] [0,3] [18]∧SX 20 (tF 267) [om 5 4,om 6 0,oe 7 6 24,ob 8 .lss 3 5 7] [0,3,4] [18]∧SX 20 (tF 587) [om 11 3,om 12 0,om 13 4,oi 14 24 12 13,ol 15 59 14,od 16 48 [tq 15],oq 17 (.buildS 37 1 [(0,tq 16)]),oq 18 (.app [tq 11,tq 17] [37,37]),om 3 18] [0,3,4] [18]∧SX 20 (tF 23) [om 19 3,om 2 19] [3] [18]∧LX 20 X4 [0,3,4] [18]:=⟨fun _ _=>rfl,rx,rx,rx,rx,rx,rx,lx⟩
def oG:=rg Tryz.f26
@[simp] def AMI:Code:=(lp (oG 267) 11 0 1 (.seq (oG 1099) (.cond (.tmp 19) (oG 2635) .skip)) (oG 459))
def X5:=AMI
def c26:Code:=(.seq (oG 2) (.seq (oG 5) (.seq (.seq (oG 19) (.block 0 (.loop X5))) (.seq (oG 23) .ret))))
theorem b26:Tryz.f26.body=some c26:=by kernel_rfl
@[simp] theorem x26:UX 32 X5 AMI∧SX 32 (oG 2) [oq 2 (.box (tq 0)),oq 4 (.mv (.const (.slice none 0 0)))] [0,1] [2]∧SX 32 (oG 5) [oq 5 (.mv (.const (.slice none 0 0)))] [1,2] [2]∧SX 32 (oG 19) [ok 6 0] [1,2,5] [2,30]∧SX 32 (oG 267) [om 7 6,oz 8 31 2 3,ol 9 29 8,oe 10 9 29,ob 11 .lss 3 7 10] [1,2,5,6] [2,30]∧SX 32 (oG 1099) [om 14 1,om 15 6,oq 16 (.oth (.convert 3 115 (tq 15))),ob 17 .shr 3 14 16,oc 18 .rem 3 17 2,oc 19 .eql 3 18 0] [1,2,5,6] [2,30]∧SX 32 (oG 2635) [om 20 5,om 21 6,oz 22 31 2 3,ol 23 29 22,om 24 6,oi 25 29 23 24,oz 26 57 25 0,ol 27 3 26,oq 28 (.build 135 [(0,tq 21),(1,tq 27)]),oq 29 (.buildS 49 1 [(0,tq 28)]),oq 30 (.app [tq 20,tq 29] [49,49]),om 5 30] [1,2,5,6] [2,30]∧SX 32 (oG 459) [om 12 6,oc 13 .add 3 12 1,om 6 13] [1,2,5,6] [2,30]∧SX 32 (oG 23) [om 31 5,om 4 31] [5] [30]∧LX 32 X5 [1,2,5,6] [2,30]:=⟨fun _ _=>rfl,rx,rx,rx,rx,rx,rx,rx,rx,lx⟩
def VZ:=rg Tryz.f67
@[simp] def AMJ:Code:=(.seq (VZ 71269) (.seq (.cond (.tmp 37) .skip (.exit 2)) (.seq (.block 3 (.seq (VZ 1152613) (VZ 1676901))) (VZ 497253))))
def X7:=AMJ
@[simp] def AMK:Code:=(.seq (VZ 69) (.seq (.cond (.tmp 15) .skip (.exit 0)) (.seq (.block 1 (.seq (VZ 1125) (.seq (VZ 2661) (.seq (.seq (VZ 9829) (.block 2 (.loop X7))) (VZ 7781))))) (VZ 485))))
def X9:=AMK
def c67:Code:=(.seq (VZ 2) (.seq (.seq (VZ 9) (.block 0 (.loop X9))) (.seq (VZ 11) .ret)))
theorem b67:Tryz.f67.body=some c67:=by kernel_rfl
@[simp] theorem x67:UX 51 X7 AMJ∧UX 51 X9 AMK∧SX 51 (VZ 2) [oq 3 (.box (tq 0)),oq 6 (.mv (.const (.slice none 0 0)))] [0,1,2] [3]∧SX 51 (VZ 9) [om 12 1,oe 13 12 120,ok 14 0] [1,2,6] [48]∧SX 51 (VZ 69) [ob 15 .lss 3 14 13] [2,6,12,13,14] [48]∧SX 51 (VZ 1125) [oi 16 120 12 14,ol 17 153 16,oq 8 (.alloc 153),os (.sto 153 (tq 8) (tq 17))] [2,6,12,13,14] [48]∧SX 51 (VZ 2661) [ok 9 0] [2,6,8,12,13,14] [8,48]∧RX 51 (VZ 9829) (.drw [⟨[],[om 18 2,oz 19 153 8 1,oz 20 86 19 0,ol 21 3 20,oi 22 123 18 21,ol 23 156 22,oz 24 153 8 1,oz 25 86 24 1,ol 26 3 25,oz 27 153 8 1,oz 28 86 27 1,ol 29 3 28,oz 30 153 8 0,oz 31 151 30 1,ol 32 3 31,ob 33 .add 3 29 32,oq 34 (.oth (.slice 156 (tq 23) (some (tq 26)) (some (tq 33)) none)),oe 35 34 156,ok 36 0],[]⟩]) (some ([2,6,8,9,12,13,14],[8,48]))∧SX 51 (VZ 71269) [ob 37 .lss 3 36 35] [2,6,9,12,13,14,34,35,36] [48]∧SX 51 (VZ 1152613) [oi 38 156 34 36,ol 39 155 38,oq 11 (.alloc 155),os (.sto 155 (tq 11) (tq 39))] [2,6,9,12,13,14,34,35,36] [48]∧SX 51 (VZ 1676901) [om 40 9,oz 41 155 11 2,ol 42 3 41,ob 43 .add 3 40 42,om 9 43] [2,6,9,11,12,13,14,34,35,36] [11,48]∧SX 51 (VZ 497253) [oc 44 .add 3 36 1,om 36 44] [2,6,9,12,13,14,34,35,36] [48]∧SX 51 (VZ 7781) [om 45 6,om 46 9,oq 47 (.buildS 22 1 [(0,tq 46)]),oq 48 (.app [tq 45,tq 47] [22,22]),om 6 48] [2,6,9,12,13,14] [48]∧SX 51 (VZ 485) [oc 49 .add 3 14 1,om 14 49] [2,6,12,13,14] [48]∧SX 51 (VZ 11) [om 50 6,om 6 50] [6] [48]∧LX 51 X9 [2,6,12,13,14] [48]∧LX 51 X7 [2,6,9,12,13,14,34,35,36] [48]:=⟨fun _ _=>rfl,fun _ _=>rfl,rx,rx,rx,rx,rx,rx,rx,rx,rx,rx,rx,rx,rx,lx,lx⟩
def iP:=rg Tryz.f25
@[simp] def AML:Code:=(lp (iP 267) 23 0 1 (.seq (iP 1099) (.cond (.tmp 33) (.seq (iP 4683) .ret) .skip)) (iP 459))
def YA:=AML
def c25:Code:=(.seq (iP 2) (.seq (.seq (iP 9) (.cond (.tmp 19) (.seq (iP 37) .ret) .skip)) (.seq (.seq (iP 19) (.block 0 (.loop YA))) (.seq (iP 23) .ret))))
theorem b25:Tryz.f25.body=some c25:=by kernel_rfl
@[simp] theorem x25:UX 34 YA AML∧SX 34 (iP 2) [oq 3 (.box (tq 0)),ot 6 false] [0,1,2] [3]∧RX 34 (iP 9) (.drw [⟨[],[om 8 2,oe 9 8 24,om 10 1,oe 11 10 49,ob 12 .neq 3 9 11,om 13 12,gm 13 false 14 1,gd 13 false 15 72 [tq 14],gl 13 false 16 31 3],[gd 13 false 17 73 [tq 16]]⟩,⟨[],[gb 13 false 18 .gtr 3 15 17,oq 19 (.pick (tq 13) (cb true) (tq 18))],[]⟩]) (some ([1,2,3],[3]))∧SX 34 (iP 37) [ot 6 false] [] []∧SX 34 (iP 19) [ok 7 0] [1,2,3] [3]∧SX 34 (iP 267) [om 20 7,om 21 2,oe 22 21 24,ob 23 .lss 3 20 22] [1,2,3,7] [3]∧RX 34 (iP 1099) (.drw [⟨[],[ol 26 31 3,om 27 1,om 28 2,om 29 7,oc 30 .add 3 29 1,oq 31 (.oth (.slice 24 (tq 28) none (some (tq 30)) none))],[od 32 74 [tq 26,tq 27,tq 31]]⟩,⟨[],[ou 33 32],[]⟩]) (some ([1,2,3,7],[3]))∧SX 34 (iP 4683) [ot 6 false] [] []∧SX 34 (iP 459) [om 24 7,oc 25 .add 3 24 1,om 7 25] [1,2,3,7] [3]∧SX 34 (iP 23) [ot 6 true] [] []∧LX 34 YA [1,2,3,7] [3]:=⟨fun _ _=>rfl,rx,rx,rx,rx,rx,rx,rx,rx,rx,lx⟩
def iQ:=rg Tryz.f29
@[simp] def AMM:Code:=(lp (iQ 267) 17 0 1 (.seq (iQ 1099) (.seq (iQ 2635) (iQ 3659))) (iQ 459))
def YB:=AMM
def c29:Code:=(.seq (iQ 2) (.seq (iQ 5) (.seq (.seq (iQ 19) (.block 0 (.loop YB))) (.seq (iQ 23) .ret))))
theorem b29:Tryz.f29.body=some c29:=by kernel_rfl
@[simp] theorem x29:UX 44 YB AMM∧SX 44 (iQ 2) [oq 4 (.box (tq 0)),oq 5 (.box (tq 1)),oq 6 (.box (tq 2)),ok 8 0,ot 9 false] [0,1,2,3] [4]∧SX 44 (iQ 5) [ok 10 0,ot 11 true] [3,5,6] [5,6]∧SX 44 (iQ 19) [ok 12 0] [3,5,6,10,11] [5,6]∧SX 44 (iQ 267) [om 14 12,oz 15 57 5 0,ol 16 3 15,ob 17 .lss 3 14 16] [3,5,6,10,11,12] [5,6]∧RX 44 (iQ 1099) (.drw [⟨[],[om 20 3,oz 21 59 6 0,ol 22 3 21,oi 23 52 20 22,ol 24 137 23,oz 25 59 6 1,ol 26 3 25,om 27 12,ob 28 .add 3 26 27,oi 29 137 24 28,oz 30 139 29 2,ol 31 3 30,om 13 31],[]⟩]) (some ([3,5,6,10,11,12],[5,6]))∧SX 44 (iQ 2635) [om 32 10,om 33 13,ob 34 .add 3 32 33,om 10 34] [3,5,6,10,11,12,13] [5,6]∧SX 44 (iQ 3659) [om 35 11,om 36 35,gm 36 true 37 13,gz 36 true 38 57 5 1,gl 36 true 39 3 38,gb 36 true 40 .geq 3 37 39,oq 41 (.pick (tq 36) (tq 40) (cb false)),om 11 41] [3,5,6,10,11,12,13] [5,6]∧SX 44 (iQ 459) [om 18 12,oc 19 .add 3 18 1,om 12 19] [3,5,6,10,11,12] [5,6]∧SX 44 (iQ 23) [om 42 10,om 43 11,om 8 42,om 9 43] [10,11] []∧LX 44 YB [3,5,6,10,11,12] [5,6]:=⟨fun _ _=>rfl,rx,rx,rx,rx,rx,rx,rx,rx,rx,lx⟩
def W2:=rg Tryz.f21
@[simp] def AMN:Code:=(lp (W2 267) 18 0 1 (W2 587) (W2 459))
def YC:=AMN
@[simp] def AMO:Code:=(lp (W2 535) 36 2 3 (.seq (W2 2199) (W2 3223)) (W2 919))
def YD:=AMO
def c21:Code:=(.seq (W2 2) (.seq (W2 5) (.seq (.seq (W2 19) (.block 0 (.loop YC))) (.seq (.seq (W2 39) (.block 2 (.loop YD))) (.seq (W2 47) .ret)))))
theorem b21:Tryz.f21.body=some c21:=by kernel_rfl
@[simp] theorem BIY(n:Nat)(st:XS):AE Tryz.prog ann kn (n+1) 59 (W2 459) st=OW (I7 Tryz.prog (BN Tryz.prog ann kn n) (.str [om 19 4,oc 20 .add 3 19 1,om 4 20]) (CC (some ([1,2,3,4],[1,2,3,9,12,30,56])) (L8 [28,2000000000000030] st))) :=
 D6 (by kernel_rfl) (by kernel_rfl) (by kernel_rfl) (by kernel_rfl) (by kernel_rfl)
@[simp] theorem x21:UX 59 YC AMN∧UX 59 YD AMO∧SX 59 (W2 2) [oq 1 (.box (tq 0)),oq 2 (.alloc 43)] [0] [1,2,3,9,12,30,56]∧RX 59 (W2 5) (.drw [⟨[3],[oz 7 31 1 0,oq 8 (.ldz 27 (tq 7)),od 9 68 [tq 8],oz 10 31 1 1,oq 11 (.ldz 23 (tq 10)),od 12 69 [tq 11],oq 13 (.build 43 [(0,tq 9),(1,tq 12)]),oq 3 (.alloc 43)],[os (.sto 43 (tq 3) (tq 13))]⟩]) (some ([1,2],[1,2,30,56]))∧SX 59 (W2 19) [ok 4 0] [1,2,3] [1,2,3,9,12,30,56]∧SX 59 (W2 267) [om 14 4,oz 15 31 1 2,ol 16 28 15,oe 17 16 28,ob 18 .lss 3 14 17] [1,2,3,4] [1,2,3,9,12,30,56]∧RX 59 (W2 587) (.drw [⟨[],[oz 21 43 3 2,ol 22 28 21,oz 23 31 1 2,ol 24 28 23,om 25 4,oi 26 28 24 25,ol 27 97 26,oq 28 (.app [.const (.slice none 0 0),tq 27] [97,97]),oq 29 (.buildS 28 1 [(0,tq 28)]),oq 30 (.app [tq 22,tq 29] [28,28]),oz 31 43 3 2],[os (.sto 28 (tq 31) (tq 30))]⟩]) (some ([1,2,3,4],[1,2,3,9,12,30,56]))∧SX 59 (W2 39) [ok 5 0] [1,2,3] [1,2,3,9,12,30,56]∧SX 59 (W2 535) [om 32 5,oz 33 31 1 3,ol 34 29 33,oe 35 34 29,ob 36 .lss 3 32 35] [1,2,3,5] [1,2,3,9,12,30,56]∧SX 59 (W2 2199) [oz 39 31 1 3,ol 40 29 39,om 41 5,oi 42 29 40 41,ol 43 57 42,oq 6 (.alloc 57),os (.sto 57 (tq 6) (tq 43))] [1,2,3,5] [1,2,3,9,12,30,56]∧SX 59 (W2 3223) [oz 44 43 3 3,ol 45 41 44,oz 46 57 6 0,ol 47 3 46,oz 48 57 6 1,ol 49 3 48,oz 50 57 6 2,ol 51 4 50,oz 52 57 6 3,ol 53 4 52,oq 54 (.build 94 [(0,tq 47),(1,tq 49),(2,tq 51),(3,tq 53)]),oq 55 (.buildS 41 1 [(0,tq 54)]),oq 56 (.app [tq 45,tq 55] [41,41]),oz 57 43 3 3,os (.sto 41 (tq 57) (tq 56))] [1,2,3,5,6] [1,2,3,6,9,12,30,56]∧SX 59 (W2 919) [om 37 5,oc 38 .add 3 37 1,om 5 38] [1,2,3,5] [1,2,3,9,12,30,56]∧SX 59 (W2 47) [ol 58 43 3,os (.sto 43 (tq 2) (tq 58))] [2,3] [1,2,3,9,12,30,56]∧LX 59 YC [1,2,3,4] [1,2,3,9,12,30,56]∧LX 59 YD [1,2,3,5] [1,2,3,9,12,30,56]:=⟨fun _ _=>rfl,fun _ _=>rfl,rx,rx,rx,rx,rx,rx,rx,rx,rx,rx,rx,lx,lx⟩
def SY:=rg Tryz.f116
@[simp] def ABU:Code:=(lp (SY 133) 9 0 1 (.seq (SY 549) (.cond (.tmp 27) (.seq (SY 2341) .ret) .skip)) (SY 229))
def SZ:=ABU
def A2L:Code:=(.seq (SY 2) (.seq (.seq (SY 9) (.block 0 (.loop SZ))) (.seq (SY 11) .ret)))
theorem BEB:Tryz.f116.body=some A2L:=by kernel_rfl
@[simp] theorem BOB:UX 34 SZ ABU∧SX 34 (SY 2) [oq 2 (.box (tq 0)),ot 4 false] [0,1] [2]∧SX 34 (SY 9) [ok 5 0] [1,2] [2]∧SX 34 (SY 133) [om 6 5,om 7 1,oe 8 7 23,ob 9 .lss 3 6 8] [1,2,5] [2]∧RX 34 (SY 549) (.drw [⟨[],[om 12 1,om 13 5,oi 14 23 12 13,ol 15 22 14,oe 16 15 22,oz 17 27 2 1,ol 18 3 17,ob 19 .neq 3 16 18,om 20 19,gm 20 false 21 1,gm 20 false 22 5,gi 20 false 23 23 21 22,gl 20 false 24 22 23],[gd 20 false 25 134 [tq 24,ci 0]]⟩,⟨[],[og 20 false 26 (.oth (.unOp .not 4 (tq 25))),oq 27 (.pick (tq 20) (cb true) (tq 26))],[]⟩]) (some ([1,2,5],[2]))∧SX 34 (SY 2341) [ot 4 false] [] []∧SX 34 (SY 229) [om 10 5,oc 11 .add 3 10 1,om 5 11] [1,2,5] [2]∧SX 34 (SY 11) [om 28 1,oe 29 28 23,oz 30 27 2 0,ol 31 3 30,oc 32 .add 3 31 1,ob 33 .eql 3 29 32,om 4 33] [1,2] [2]∧LX 34 SZ [1,2,5] [2]:=⟨fun _ _=>rfl,rx,rx,rx,rx,rx,rx,rx,lx⟩
def iR:=rg Tryz.f27
@[simp] def AMP:Code:=(lp (iR 267) 15 0 1 (.seq (iR 1099) (.cond (.tmp 28) (.seq (iR 4683) .ret) .skip)) (iR 459))
def YE:=AMP
def c27:Code:=(.seq (iR 2) (.seq (.seq (iR 9) (.cond (.tmp 11) (.seq (iR 37) .ret) .skip)) (.seq (.seq (iR 19) (.block 0 (.loop YE))) (.seq (iR 23) .ret))))
theorem b27:Tryz.f27.body=some c27:=by kernel_rfl
@[simp] theorem x27:UX 29 YE AMP∧SX 29 (iR 2) [oq 2 (.box (tq 0)),ot 4 false] [0,1] [2]∧SX 29 (iR 9) [om 6 1,oe 7 6 22,oz 8 27 2 6,ol 9 23 8,oe 10 9 23,ob 11 .neq 3 7 10] [1,2] [2]∧SX 29 (iR 37) [ot 4 false] [] []∧SX 29 (iR 19) [ok 5 0] [1,2] [2]∧SX 29 (iR 267) [om 12 5,om 13 1,oe 14 13 22,ob 15 .lss 3 12 14] [1,2,5] [2]∧RX 29 (iR 1099) (.drw [⟨[],[oz 18 27 2 6,ol 19 23 18,om 20 5,oi 21 23 19 20,ol 22 22 21,om 23 1,om 24 5,oi 25 22 23 24,ol 26 3 25],[od 27 75 [tq 22,tq 26]]⟩,⟨[],[ou 28 27],[]⟩]) (some ([1,2,5],[2]))∧SX 29 (iR 4683) [ot 4 false] [] []∧SX 29 (iR 459) [om 16 5,oc 17 .add 3 16 1,om 5 17] [1,2,5] [2]∧SX 29 (iR 23) [ot 4 true] [] []∧LX 29 YE [1,2,5] [2]:=⟨fun _ _=>rfl,rx,rx,rx,rx,rx,rx,rx,rx,rx,lx⟩
def NK:=rg Tryz.f102
@[simp] def ABV:Code:=(lp (NK 267) 14 0 1 (.seq (NK 1099) (.cond (.tmp 32) (.seq (NK 4683) .ret) .skip)) (NK 459))
def S0:=ABV
def AP2:Code:=(.seq (NK 2) (.seq (.seq (NK 9) (.cond (.tmp 9) (.seq (NK 37) .ret) .skip)) (.seq (.seq (NK 19) (.block 0 (.loop S0))) (.seq (NK 23) .ret))))
theorem BED:Tryz.f102.body=some AP2:=by kernel_rfl
@[simp] theorem BOD:UX 33 S0 ABV∧SX 33 (NK 2) [oq 2 (.box (tq 0)),ot 4 false] [0,1] [2,4,5,30]∧SX 33 (NK 9) [ol 6 27 2,om 7 1,od 8 27 [tq 6,tq 7],ou 9 8] [1,2] [2]∧SX 33 (NK 37) [ot 4 false] [] []∧SX 33 (NK 19) [ok 5 0] [1,2] [2]∧SX 33 (NK 267) [om 10 5,oz 11 27 2 8,ol 12 25 11,oe 13 12 25,ob 14 .lss 3 10 13] [1,2,5] [2]∧RX 33 (NK 1099) (.drw [⟨[],[om 17 1,oz 18 27 2 8,ol 19 25 18,om 20 5,oi 21 25 19 20,oz 22 188 21 0,ol 23 3 22,oi 24 22 17 23,ol 25 3 24,oz 26 27 2 8,ol 27 25 26,om 28 5,oi 29 25 27 28,oz 30 188 29 1,ol 31 3 30,ob 32 .neq 3 25 31],[]⟩]) (some ([1,2,5],[2]))∧SX 33 (NK 4683) [ot 4 false] [] []∧SX 33 (NK 459) [om 15 5,oc 16 .add 3 15 1,om 5 16] [1,2,5] [2]∧SX 33 (NK 23) [ot 4 true] [] []∧LX 33 S0 [1,2,5] [2]:=⟨fun _ _=>rfl,rx,rx,rx,rx,rx,rx,rx,rx,rx,lx⟩
def KO:=rg Tryz.f76
@[simp] def ABW:Code:=(lp (KO 68759) 53 3 4 (.seq (KO 281751) (.cond (.tmp 62) (.seq (KO 1199255) .ret) .skip)) (KO 117911))
def S1:=ABW
@[simp] def AMQ:Code:=(lp (KO 535) 21 0 1 (.seq (.seq (KO 4247) (.block 2 (.seq (KO 18583) (.cond (.tmp 25) (KO 43159) (.seq (KO 92311) (.cond (.tmp 31) (KO 190615) (.seq (KO 387223) (.cond (.tmp 37) (KO 780439) (.seq (KO 1566871) (.cond (.tmp 43) (KO 3139735) .skip)))))))))) (.seq (KO 5271) (.block 3 (.loop S1)))) (KO 919))
def YF:=AMQ
def c76:Code:=(.seq (KO 2) (.seq (.seq (KO 9) (.cond (.tmp 16) (.seq (KO 37) .ret) .skip)) (.seq (KO 11) (.seq (.seq (KO 39) (.block 0 (.loop YF))) (.seq (KO 47) .ret)))))
theorem b76:Tryz.f76.body=some c76:=by kernel_rfl
@[simp] theorem x76:UX 63 S1 ABW∧UX 63 YF AMQ∧SX 63 (KO 2) [oq 4 (.box (tq 0)),oq 5 (.box (tq 1)),ot 8 false] [0,1,2,3] [4]∧SX 63 (KO 9) [om 12 2,oc 13 .add 3 12 2,oc 14 .rem 3 13 4,om 15 3,ob 16 .eql 3 14 15] [2,3,4,5] [4,5]∧SX 63 (KO 37) [ot 8 true] [] []∧SX 63 (KO 11) [ol 17 59 5,oq 9 (.alloc 59),os (.sto 59 (tq 9) (tq 17))] [3,4,5] [4,5]∧SX 63 (KO 39) [ok 10 0] [3,4,9] [4,9]∧SX 63 (KO 535) [om 18 10,oz 19 27 4 3,ol 20 3 19,ob 21 .lss 3 18 20] [3,4,9,10] [4,9]∧SX 63 (KO 4247) [om 24 3] [3,4,9,10] [4,9]∧SX 63 (KO 18583) [oc 26 .eql 3 24 0,om 25 26] [3,4,9,10,24] [4,9]∧SX 63 (KO 43159) [oz 27 59 9 0,ol 28 3 27,oc 29 .sub 3 28 1,oz 30 59 9 0,os (.sto 3 (tq 30) (tq 29))] [3,4,9,10] [4,9]∧SX 63 (KO 92311) [oc 32 .eql 3 24 1,om 31 32] [3,4,9,10,24] [4,9]∧SX 63 (KO 190615) [oz 33 59 9 1,ol 34 3 33,oc 35 .add 3 34 1,oz 36 59 9 1,os (.sto 3 (tq 36) (tq 35))] [3,4,9,10] [4,9]∧SX 63 (KO 387223) [oc 38 .eql 3 24 2,om 37 38] [3,4,9,10,24] [4,9]∧SX 63 (KO 780439) [oz 39 59 9 0,ol 40 3 39,oc 41 .add 3 40 1,oz 42 59 9 0,os (.sto 3 (tq 42) (tq 41))] [3,4,9,10] [4,9]∧SX 63 (KO 1566871) [oc 44 .eql 3 24 3,om 43 44] [3,4,9,10,24] [4,9]∧SX 63 (KO 3139735) [oz 45 59 9 1,ol 46 3 45,oc 47 .sub 3 46 1,oz 48 59 9 1,os (.sto 3 (tq 48) (tq 47))] [3,4,9,10] [4,9]∧SX 63 (KO 5271) [ok 11 0] [3,4,9,10] [4,9]∧SX 63 (KO 68759) [om 49 11,oz 50 27 4 7,ol 51 24 50,oe 52 51 24,ob 53 .lss 3 49 52] [3,4,9,10,11] [4,9]∧RX 63 (KO 281751) (.drw [⟨[],[oz 56 27 4 7,ol 57 24 56,om 58 11,oi 59 24 57 58,ol 60 59 59,ol 61 59 9,ob 62 .eql 59 60 61],[]⟩]) (some ([3,4,9,10,11],[4,9]))∧SX 63 (KO 1199255) [ot 8 true] [] []∧SX 63 (KO 117911) [om 54 11,oc 55 .add 3 54 1,om 11 55] [3,4,9,10,11] [4,9]∧SX 63 (KO 919) [om 22 10,oc 23 .add 3 22 1,om 10 23] [3,4,9,10] [4,9]∧SX 63 (KO 47) [ot 8 false] [] []∧LX 63 YF [3,4,9,10] [4,9]∧LX 63 S1 [3,4,9,10,11] [4,9]:=⟨fun _ _=>rfl,fun _ _=>rfl,rx,rx,rx,rx,rx,rx,rx,rx,rx,rx,rx,rx,rx,rx,rx,rx,rx,rx,rx,rx,rx,rx,lx,lx⟩
def KC:=rg Tryz.f28
@[simp] def ABX:Code:=(lp (KC 17451595) 30 4 5 (.seq (KC 71977547) (.seq (.seq (KC 306858571) (.cond (.tmp 62) (KC 709511755) .skip)) (.seq (.seq (KC 642402891) (.cond (.tmp 67) (KC 1447709259) .skip)) (.seq (KC 776620619) (.cond (.tmp 75) (KC 1581926987) .skip))))) (KC 30034507))
def S2:=ABX
@[simp] def AMR:Code:=(lp (KC 68171) 24 2 3 (.seq (KC 281163) (.seq (.seq (KC 1198667) (.block 4 (.loop S2))) (KC 936523))) (KC 117323))
def YG:=AMR
@[simp] def AMS:Code:=(lp (KC 267) 18 0 1 (.seq (KC 1099) (.seq (.seq (KC 4683) (.block 2 (.loop YG))) (KC 3659))) (KC 459))
def YH:=AMS
def c28:Code:=(.seq (KC 2) (.seq (KC 5) (.seq (.seq (KC 19) (.block 0 (.loop YH))) (.seq (KC 23) .ret))))
theorem b28:Tryz.f28.body=some c28:=by kernel_rfl
@[simp] theorem BEF(n:Nat)(st:XS):AE Tryz.prog ann kn (n+1) 89 (KC 3659) st=OW (I7 Tryz.prog (BN Tryz.prog ann kn n) (.str [om 84 7,om 85 9,oq 86 (.buildS 52 1 [(0,tq 85)]),oq 87 (.app [tq 84,tq 86] [52,52]),om 7 87]) (CC (some ([1,2,3,7,8,9],[3,83,87])) (L8 [83] st))) :=
 D6 (by kernel_rfl) (by kernel_rfl) (by kernel_rfl) (by kernel_rfl) (by kernel_rfl)
@[simp] theorem x28:UX 89 S2 ABX∧UX 89 YG AMR∧UX 89 YH AMS∧SX 89 (KC 2) [oq 3 (.box (tq 0)),oq 6 (.mv (.const (.slice none 0 0)))] [0,1,2] [3]∧SX 89 (KC 5) [oq 7 (.mv (.const (.slice none 0 0)))] [1,2,3] [3]∧SX 89 (KC 19) [ok 8 0] [1,2,3,7] [3,87]∧SX 89 (KC 267) [om 15 8,oz 16 27 3 1,ol 17 3 16,ob 18 .lss 3 15 17] [1,2,3,7,8] [3,87]∧SX 89 (KC 1099) [oq 9 (.mv (.const (.slice none 0 0)))] [1,2,3,7,8] [3,87]∧SX 89 (KC 4683) [ok 10 0] [1,2,3,7,8,9] [3,83,87]∧SX 89 (KC 68171) [om 21 10,oz 22 27 3 2,ol 23 3 22,ob 24 .lss 3 21 23] [1,2,3,7,8,9,10] [3,83,87]∧SX 89 (KC 281163) [oq 11 (.alloc 139)] [1,2,3,7,8,9,10] [3,83,87]∧SX 89 (KC 1198667) [ok 12 0] [1,2,3,7,8,9,10,11] [3,11,83,87]∧SX 89 (KC 17451595) [om 27 12,om 28 2,oe 29 28 22,ob 30 .lss 3 27 29] [1,2,3,7,8,9,10,11,12] [3,11,83,87]∧RX 89 (KC 71977547) (.drw [⟨[],[om 33 1,om 34 12,oi 35 23 33 34,ol 36 22 35,om 37 8,oi 38 22 36 37,ol 39 3 38,oz 40 27 3 5,ol 41 22 40,om 42 12,oi 43 22 41 42,ol 44 3 43,ob 45 .eql 3 39 44,ol 46 27 3,om 47 8,om 48 10,oq 49 (.build 59 [(0,tq 47),(1,tq 48)]),om 50 1,om 51 12,oi 52 23 50 51,ol 53 22 52,om 54 8,oi 55 22 53 54,ol 56 3 55,om 57 2,om 58 12,oi 59 22 57 58,ol 60 3 59,od 61 76 [tq 46,tq 49,tq 56,tq 60],om 13 45,om 14 61],[]⟩]) (some ([1,2,3,7,8,9,10,11,12],[3,11,83,87]))∧SX 89 (KC 306858571) [om 62 13] [1,2,3,7,8,9,10,11,12,13,14] [3,11,83,87]∧SX 89 (KC 709511755) [oz 63 139 11 0,ol 64 3 63,oc 65 .add 3 64 1,oz 66 139 11 0,os (.sto 3 (tq 66) (tq 65))] [1,2,3,7,8,9,10,11,12,13,14] [3,11,83,87]∧SX 89 (KC 642402891) [om 67 14] [1,2,3,7,8,9,10,11,12,13,14] [3,11,83,87]∧SX 89 (KC 1447709259) [oz 68 139 11 1,ol 69 3 68,oc 70 .add 3 69 1,oz 71 139 11 1,os (.sto 3 (tq 71) (tq 70))] [1,2,3,7,8,9,10,11,12,13,14] [3,11,83,87]∧SX 89 (KC 776620619) [om 72 13,om 73 72,gm 73 true 74 14,oq 75 (.pick (tq 73) (tq 74) (cb false))] [1,2,3,7,8,9,10,11,12,13,14] [3,11,83,87]∧SX 89 (KC 1581926987) [oz 76 139 11 2,ol 77 3 76,oc 78 .add 3 77 1,oz 79 139 11 2,os (.sto 3 (tq 79) (tq 78))] [1,2,3,7,8,9,10,11,12] [3,11,83,87]∧SX 89 (KC 30034507) [om 31 12,oc 32 .add 3 31 1,om 12 32] [1,2,3,7,8,9,10,11,12] [3,11,83,87]∧SX 89 (KC 936523) [om 80 9,ol 81 139 11,oq 82 (.buildS 137 1 [(0,tq 81)]),oq 83 (.app [tq 80,tq 82] [137,137]),om 9 83] [1,2,3,7,8,9,10,11] [3,11,83,87]∧SX 89 (KC 117323) [om 25 10,oc 26 .add 3 25 1,om 10 26] [1,2,3,7,8,9,10] [3,83,87]∧SX 89 (KC 459) [om 19 8,oc 20 .add 3 19 1,om 8 20] [1,2,3,7,8] [3,87]∧SX 89 (KC 23) [om 88 7,om 6 88] [7] [87]∧LX 89 YH [1,2,3,7,8] [3,87]∧LX 89 YG [1,2,3,7,8,9,10] [3,83,87]∧LX 89 S2 [1,2,3,7,8,9,10,11,12] [3,11,83,87]:=⟨fun _ _=>rfl,fun _ _=>rfl,fun _ _=>rfl,rx,rx,rx,rx,rx,rx,rx,rx,rx,rx,rx,rx,rx,rx,rx,rx,rx,rx,rx,rx,rx,rx,lx,lx,lx⟩
def iS:=rg Tryz.f55
@[simp] def AMT:Code:=(lp (iS 267) 9 0 1 (.seq (iS 1099) (.seq (iS 2635) (.cond (.tmp 17) (iS 5707) .skip))) (iS 459))
def YI:=AMT
def c55:Code:=(.seq (iS 2) (.seq (iS 5) (.seq (.seq (iS 19) (.block 0 (.loop YI))) (.seq (iS 23) .ret))))
theorem b55:Tryz.f55.body=some c55:=by kernel_rfl
@[simp] theorem x55:UX 23 YI AMT∧SX 23 (iS 2) [oq 1 (.box (tq 0)),oq 2 (.mv (.const (.slice none 0 0)))] [0] [1,14]∧SX 23 (iS 5) [oq 3 (.mv (.const (.slice none 0 0)))] [0,1] [1,14]∧SX 23 (iS 19) [ok 4 0] [0,1,3] [1,14,21]∧SX 23 (iS 267) [om 6 4,ol 7 27 1,od 8 100 [tq 7],ob 9 .lss 3 6 8] [1,3,4] [1,14,21]∧SX 23 (iS 1099) [ol 12 27 1,om 13 4,od 14 101 [tq 12,tq 13],om 5 14] [1,3,4] [1,14,21]∧SX 23 (iS 2635) [ol 15 27 1,om 16 5,od 17 102 [tq 15,tq 16]] [1,3,4,5] [1,14,21]∧SX 23 (iS 5707) [om 18 3,om 19 5,oq 20 (.buildS 23 1 [(0,tq 19)]),oq 21 (.app [tq 18,tq 20] [23,23]),om 3 21] [1,3,4,5] [1,14,21]∧SX 23 (iS 459) [om 10 4,oc 11 .add 3 10 1,om 4 11] [0,1,3,4] [1,14,21]∧SX 23 (iS 23) [om 22 3,om 2 22] [3] [21]∧LX 23 YI [1,3,4] [1,14,21]:=⟨fun _ _=>rfl,rx,rx,rx,rx,rx,rx,rx,rx,rx,lx⟩
def KD:=rg Tryz.f70
@[simp] def ABY:Code:=(lp (KD 4287) 38 0 1 (.seq (KD 17599) (.cond (.tmp 50) (.seq (KD 74943) .ret) .skip)) (KD 7359))
def S3:=ABY
@[simp] def ABZ:Code:=(lp (KD 8575) 55 2 3 (.seq (KD 35199) (.cond (.tmp 75) (.seq (KD 149887) .ret) .skip)) (KD 14719))
def S4:=ABZ
def c70:Code:=(.seq (KD 2) (.seq (.seq (KD 9) (.cond (.tmp 9) (.seq (KD 37) .ret) .skip)) (.seq (.seq (KD 19) (.seq (KD 43) (.cond (.tmp 14) (.seq (KD 155) .ret) .skip))) (.seq (.seq (KD 39) (.cond (.tmp 21) (.seq (KD 151) .ret) .skip)) (.seq (.seq (KD 79) (.cond (.tmp 26) (.seq (KD 303) .ret) .skip)) (.seq (.seq (KD 159) (.cond (.tmp 33) (.seq (KD 607) .ret) .skip)) (.seq (.seq (KD 319) (.block 0 (.loop S3))) (.seq (.seq (KD 639) (.block 2 (.loop S4))) (.seq (KD 767) .ret)))))))))
theorem b70:Tryz.f70.body=some c70:=by kernel_rfl
@[simp] theorem x70:UX 76 S3 ABY∧UX 76 S4 ABZ∧SX 76 (KD 2) [oq 1 (.box (tq 0)),ok 2 0] [0] [1,24]∧SX 76 (KD 9) [oz 6 31 1 3,ol 7 29 6,oe 8 7 29,oc 9 .gtr 3 8 3] [1] [1,24]∧SX 76 (KD 37) [ok 2 3] [] []∧SX 76 (KD 19) [oz 10 31 1 0,ol 11 27 10,od 12 108 [tq 11],om 3 12] [1] [1,24]∧SX 76 (KD 43) [om 13 3,oc 14 .neq 3 13 0] [1,3] [1,24]∧SX 76 (KD 155) [om 15 3,om 2 15] [3] []∧SX 76 (KD 39) [oz 16 31 1 0,ol 17 27 16,oz 18 31 1 1,ol 19 23 18,od 20 116 [tq 17,tq 19],ou 21 20] [1] [1,24]∧SX 76 (KD 151) [ok 2 2] [] []∧SX 76 (KD 79) [oz 22 31 1 0,ol 23 27 22,od 24 55 [tq 23],oe 25 24 23,oc 26 .eql 3 25 0] [1] [1,24]∧SX 76 (KD 303) [ok 2 11] [] []∧SX 76 (KD 159) [oz 27 31 1 2,ol 28 28 27,oe 29 28 28,oz 30 31 1 0,oz 31 27 30 1,ol 32 3 31,ob 33 .neq 3 29 32] [1] [1,24]∧SX 76 (KD 607) [ok 2 1] [] []∧SX 76 (KD 319) [ok 4 0] [1] [1,24]∧SX 76 (KD 4287) [om 34 4,oz 35 31 1 2,ol 36 28 35,oe 37 36 28,ob 38 .lss 3 34 37] [1,4] [1,24]∧RX 76 (KD 17599) (.drw [⟨[],[oz 41 31 1 2,ol 42 28 41,om 43 4,oi 44 28 42 43,ol 45 97 44,oe 46 45 97,oz 47 31 1 0,oz 48 27 47 2,ol 49 3 48,ob 50 .neq 3 46 49],[]⟩]) (some ([1,4],[1,24]))∧SX 76 (KD 74943) [ok 2 1] [] []∧SX 76 (KD 7359) [om 39 4,oc 40 .add 3 39 1,om 4 40] [1,4] [1,24]∧SX 76 (KD 639) [ok 5 0] [1] [1,24]∧SX 76 (KD 8575) [om 51 5,oz 52 31 1 3,ol 53 29 52,oe 54 53 29,ob 55 .lss 3 51 54] [1,5] [1,24]∧SX 76 (KD 35199) [oz 58 31 1 3,ol 59 29 58,om 60 5,oi 61 29 59 60,oz 62 57 61 0,ol 63 3 62,od 64 57 [tq 63,ci 1,ci 4],ou 65 64,om 66 65,gz 66 false 67 31 1 3,gl 66 false 68 29 67,gm 66 false 69 5,gi 66 false 70 29 68 69,gz 66 false 71 57 70 1,gl 66 false 72 3 71,gd 66 false 73 57 [tq 72,ci 0,ci 5],og 66 false 74 (.oth (.unOp .not 4 (tq 73))),oq 75 (.pick (tq 66) (cb true) (tq 74))] [1,5] [1,24]∧SX 76 (KD 149887) [ok 2 1] [] []∧SX 76 (KD 14719) [om 56 5,oc 57 .add 3 56 1,om 5 57] [1,5] [1,24]∧SX 76 (KD 767) [ok 2 0] [] []∧LX 76 S3 [1,4] [1,24]∧LX 76 S4 [1,5] [1,24]:=⟨fun _ _=>rfl,fun _ _=>rfl,rx,rx,rx,rx,rx,rx,rx,rx,rx,rx,rx,rx,rx,rx,rx,rx,rx,rx,rx,rx,rx,rx,rx,lx,lx⟩
def g23:=rg Tryz.f23
def c23:Code:=(.seq (g23 2) (.seq (g23 5) .ret))
theorem b23:Tryz.f23.body=some c23:=by kernel_rfl
@[simp] theorem x23:SX 5 (g23 2) [oq 1 (.box (tq 0)),ok 2 0] [0] [1]∧SX 5 (g23 5) [ol 3 31 1,od 4 70 [tq 3],om 2 4] [0,1,2] [1,2]:=⟨rx,rx⟩
def g3:=rg Tryz.f3
@[simp] def AMU:Code:=(lp (g3 34303) 93 0 1 (.seq (g3 140799) (.seq (g3 337407) (.cond (.tmp 116) (.seq (g3 1254911) .ret) .skip))) (g3 58879))
def oT:=AMU
def c3:Code:=(.seq (g3 2) (.seq (.seq (g3 9) (.cond (.tmp 26) (.seq (g3 37) .ret) .skip)) (.seq (g3 11) (.seq (g3 23) (.seq (.seq (g3 79) (.cond (.tmp 44) (.seq (g3 303) .ret) .skip)) (.seq (.seq (g3 159) (.cond (.tmp 61) (g3 351) .skip)) (.seq (.seq (g3 319) (.cond (.tmp 63) (.seq (g3 1215) .ret) .skip)) (.seq (g3 383) (.seq (.seq (g3 1279) (.cond (.tmp 89) (.seq (g3 4863) .ret) .skip)) (.seq (.seq (g3 2559) (.block 0 (.loop oT))) (.seq (g3 3071) .ret)))))))))))
theorem b3:Tryz.f3.body=some c3:=by kernel_rfl
@[simp] theorem x3:UX 118 oT AMU∧SX 118 (g3 2) [oq 3 (.box (tq 0)),ot 6 false] [0,1,2] [3,30,32,34,35,41,50,80]∧SX 118 (g3 9) [ol 14 31 3,od 15 18 [tq 14],ou 16 15,om 17 16,gm 17 false 18 1,ge 17 false 19 18 24,gc 17 false 20 .gtr 3 19 6,oq 21 (.pick (tq 17) (cb true) (tq 20)),om 22 21,gm 22 false 23 2,ge 22 false 24 23 22,gc 22 false 25 .gtr 3 24 7,oq 26 (.pick (tq 22) (cb true) (tq 25))] [1,2,3] [3,30,32,34,35,41,50,80]∧SX 118 (g3 37) [od 27 19 [],om 6 27] [] []∧SX 118 (g3 11) [ol 29 31 3,od 30 21 [tq 29],om 31 1,od 32 22 [tq 31],om 33 2,oq 34 (.app [.const (.slice none 0 0),tq 33] [22,22]),oq 35 (.call false (some 34) (.func 20) [tq 30,tq 32,tq 34]),om 28 35,oq 36 (.oth (.extract (tq 28) 0)),oq 37 (.oth (.extract (tq 28) 1)),om 7 36,om 8 37] [1,2,3] [3,30,32,34,35,41,50,80]∧SX 118 (g3 23) [ol 38 31 3,od 39 23 [tq 38],om 9 39] [1,2,3,7,8] [3,30,32,34,35,41,50,80]∧SX 118 (g3 79) [ol 40 31 3,od 41 21 [tq 40],od 42 24 [tq 41],om 43 9,ob 44 .neq 34 42 43] [1,2,3,7,8,9] [3,30,32,34,35,41,50,80]∧SX 118 (g3 303) [ot 6 false] [] []∧RX 118 (g3 159) (.drw [⟨[],[om 45 9,oc 46 .eql 34 45 0,om 47 46,gl 47 true 48 31 3,gl 47 true 49 31 3,gd 47 true 50 26 [tq 49,ci 0],gm 47 true 51 1],[gd 47 true 52 25 [tq 48,tq 50,tq 51]]⟩,⟨[],[og 47 true 53 (.oth (.unOp .not 4 (tq 52))),gm 47 true 54 53,gz 54 false 55 31 3 0,gl 54 false 56 27 55,gm 54 false 57 2],[gd 54 false 58 27 [tq 56,tq 57]]⟩,⟨[],[og 54 false 59 (.oth (.unOp .not 4 (tq 58))),og 47 true 60 (.pick (tq 54) (cb true) (tq 59)),oq 61 (.pick (tq 47) (tq 60) (cb false))],[]⟩]) (some ([1,2,3,7,8,9],[3,30,32,34,35,41,80]))∧SX 118 (g3 351) [ok 9 2] [1,2,3,7,8] [3,30,32,34,35,41,50,80]∧SX 118 (g3 319) [om 62 9,oc 63 .neq 34 62 0] [1,2,3,7,8,9] [3,30,32,34,35,41,50,80]∧SX 118 (g3 1215) [om 64 8,om 65 9,ob 66 .eql 34 64 65,om 67 66,gm 67 true 68 7,ge 67 true 69 68 22,gc 67 true 70 .eql 3 69 0,oq 71 (.pick (tq 67) (tq 70) (cb false)),om 72 71,gd 72 true 73 19 [],oq 74 (.pick (tq 72) (tq 73) (cb false)),om 6 74] [7,8,9] [3,30,32,34,35,41,50,80]∧SX 118 (g3 383) [oz 75 31 3 0,ol 76 27 75,oz 77 31 3 1,ol 78 23 77,om 79 2,od 80 28 [tq 76,tq 78,tq 79],om 10 80] [1,2,3,7,8] [3,30,32,34,35,41,50,80]∧SX 118 (g3 1279) [om 81 8,oc 82 .neq 34 81 0,om 83 82,gm 83 false 84 7,ge 83 false 85 84 22,gm 83 false 86 1,ge 83 false 87 86 24,gb 83 false 88 .neq 3 85 87,oq 89 (.pick (tq 83) (cb true) (tq 88))] [1,3,7,8,10] [3,30,32,34,35,41,50,80]∧SX 118 (g3 4863) [ot 6 false] [] []∧SX 118 (g3 2559) [ok 11 0] [1,3,7,10] [3,30,32,34,35,41,50,80]∧SX 118 (g3 34303) [om 90 11,om 91 7,oe 92 91 22,ob 93 .lss 3 90 92] [1,3,7,10,11] [3,30,32,34,35,41,50,80]∧RX 118 (g3 140799) (.drw [⟨[],[ol 97 31 3,oz 98 31 3 3,ol 99 29 98,om 100 11,oi 101 29 99 100,ol 102 57 101,om 103 1,om 104 11,oi 105 24 103 104,ol 106 59 105,om 107 10],[od 108 29 [tq 97,tq 102,tq 106,tq 107]]⟩,⟨[],[om 96 108,oq 109 (.oth (.extract (tq 96) 0)),oq 110 (.oth (.extract (tq 96) 1)),om 12 109,om 13 110],[]⟩]) (some ([1,3,7,10,11],[3,30,32,34,35,41,50,80]))∧SX 118 (g3 337407) [om 111 7,om 112 11,oi 113 22 111 112,ol 114 3 113,om 115 12,ob 116 .neq 3 114 115] [1,3,7,10,11,12] [3,30,32,34,35,41,50,80]∧SX 118 (g3 1254911) [ot 6 false] [] []∧SX 118 (g3 58879) [om 94 11,oc 95 .add 3 94 1,om 11 95] [1,3,7,10,11] [3,30,32,34,35,41,50,80]∧SX 118 (g3 3071) [od 117 19 [],om 6 117] [] []∧LX 118 oT [1,3,7,10,11] [3,30,32,34,35,41,50,80]:=⟨fun _ _=>rfl,rx,rx,rx,rx,rx,rx,rx,rx,rx,rx,rx,rx,rx,rx,rx,rx,rx,rx,rx,rx,rx,lx⟩
def oH:=rg Tryz.f77
def c77:Code:=(.seq (oH 2) (.seq (.seq (oH 9) (.seq (oH 21) (.cond (.tmp 12) (.seq (oH 77) .ret) .skip))) (.seq (oH 11) (.seq (.seq (oH 39) (.cond (.tmp 21) (.seq (oH 151) .ret) .skip)) (.seq (oH 47) .ret)))))
theorem b77:Tryz.f77.body=some c77:=by kernel_rfl
@[simp] theorem x77:SX 23 (oH 2) [oq 2 (.box (tq 0)),oq 4 (.mv (.const (.slice none 0 0))),ok 5 0] [0,1] [2,17]∧SX 23 (oH 9) [ol 9 43 2,od 10 24 [tq 9],om 6 10] [1,2] [2,17]∧SX 23 (oH 21) [om 11 6,oc 12 .neq 34 11 0] [1,2,6] [2,17]∧SX 23 (oH 77) [om 13 6,oq 4 (.mv (.const (.slice none 0 0))),om 5 13] [6] []∧SX 23 (oH 11) [ol 15 43 2,om 16 1,od 17 65 [tq 15,tq 16],om 14 17,oq 18 (.oth (.extract (tq 14) 0)),oq 19 (.oth (.extract (tq 14) 1)),om 7 18,om 8 19] [1,2] [2,17]∧SX 23 (oH 39) [om 20 8,ou 21 20] [7,8] [2,17]∧SX 23 (oH 151) [oq 4 (.mv (.const (.slice none 0 0))),ok 5 2] [] []∧SX 23 (oH 47) [om 22 7,om 4 22,ok 5 0] [7] [2,17]:=⟨rx,rx,rx,rx,rx,rx,rx,rx⟩
def g78:=rg Tryz.f78
def c78:Code:=(.seq (g78 2) (.seq (g78 5) (.seq (g78 11) (.seq (g78 23) (g78 31)))))
theorem b78:Tryz.f78.body=some c78:=by kernel_rfl
@[simp] theorem x78:SX 14 (g78 2) [oq 2 (.box (tq 0)),oq 3 (.box (tq 1))] [0,1] [2,3,4,5,10]∧SX 14 (g78 5) [oz 6 43 2 0,oz 7 40 6 6,ol 8 23 7,oe 9 8 23,oq 10 (.mkS 22 (tq 9) (tq 9)),oq 4 (.alloc 22),os (.sto 22 (tq 4) (tq 10))] [2,3] [2,3,4,5,10]∧SX 14 (g78 11) [oq 5 (.alloc 211)] [2,3,4] [2,3,4,5,10]∧SX 14 (g78 23) [oq 11 (.oth (.makeFunc (.func 123) #[] #[tq 4,tq 2,tq 5,tq 3])),os (.sto 211 (tq 5) (tq 11))] [2,3,4,5] [2,3,4,5,10]∧SX 14 (g78 31) [ol 12 211 5,oq 13 (.call false none (tq 12) [ci 0])] [5] [2,3,4,5,10]:=⟨rx,rx,rx,rx,rx⟩
def LD:=rg Tryz.f123
@[simp] def AB0:Code:=(.seq (LD 274) (.seq (.cond (.tmp 22) .skip (.exit 0)) (.seq (.block 1 (.seq (LD 4498) (.seq (LD 10642) (LD 14738)))) (LD 1938))))
def S5:=AB0
def AB1:Code:=(.seq (.seq (LD 4) (.cond (.tmp 13) (.seq (.seq (LD 34) (.block 0 (.loop S5))) .ret) .skip)) (.seq (LD 5) (.cond (.tmp 37) (.seq (LD 19) (LD 27)) .skip)))
theorem b123:Tryz.f123.body=some AB1:=by kernel_rfl
@[simp] theorem BEG(n:Nat)(st:XS):AE Tryz.prog ann kn (n+1) 50 (LD 5) st=OW (I7 Tryz.prog (cfU [20010] (BN Tryz.prog ann kn n)) (.str [oz 34 43 2 0,ol 35 40 34,ol 36 22 1,od 37 124 [tq 35,tq 36]]) (CC (some ([1,2,4],[44])) (L8 [] st))) :=
 L5 (by kernel_rfl) (by kernel_rfl) (by kernel_rfl) (by kernel_rfl) (by kernel_rfl) (by kernel_rfl)
@[simp] theorem BOK:UX 50 S5 AB0∧SX 50 (LD 4) [om 10 0,ol 11 22 1,oe 12 11 22,ob 13 .lss 3 10 12] [0,1,2,3,4] [44]∧SX 50 (LD 34) [oz 14 43 2 0,oz 15 40 14 6,ol 16 23 15,om 17 0,oi 18 23 16 17,ol 19 22 18,oe 20 19 22,ok 21 0] [0,1,2,3] [44]∧SX 50 (LD 274) [ob 22 .lss 3 21 20] [0,1,3,19,20,21] [44]∧SX 50 (LD 4498) [oi 23 22 19 21,ol 24 3 23,om 7 24] [0,1,3,19,20,21] [44]∧SX 50 (LD 10642) [ol 25 22 1,om 26 0,om 27 7,oi 28 22 25 26,os (.sto 3 (tq 28) (tq 27))] [0,1,3,7,19,20,21] [44]∧SX 50 (LD 14738) [ol 29 211 3,om 30 0,oc 31 .add 3 30 1,oq 32 (.call false none (tq 29) [tq 31])] [0,1,3,19,20,21] [44]∧SX 50 (LD 1938) [oc 33 .add 3 21 1,om 21 33] [0,1,3,19,20,21] [44]∧SX 50 (LD 19) [oz 39 43 2 0,ol 40 40 39,oz 41 43 2 1,ol 42 23 41,ol 43 22 1,od 44 66 [tq 40,tq 42,tq 43],om 38 44,oq 45 (.oth (.extract (tq 38) 0)),oq 46 (.oth (.extract (tq 38) 1)),om 8 45,om 9 46] [1,2,4] [44]∧SX 50 (LD 27) [ol 47 145 4,om 48 8,oq 49 (.call false none (tq 47) [tq 48])] [4,8] [44]∧LX 50 S5 [0,1,3,19,20,21] [44]:=⟨fun _ _=>rfl,rx,rx,rx,rx,rx,rx,rx,rx,rx,lx⟩
def tG:=rg Tryz.f30
def c30:Code:=(.seq (tG 2) (.seq (tG 5) (.seq (.seq (tG 19) (.cond (.tmp 16) (.seq (tG 75) .ret) .skip)) (.seq (tG 23) (.seq (tG 47) (.seq (tG 95) .ret))))))
theorem b30:Tryz.f30.body=some c30:=by kernel_rfl
@[simp] theorem x30:SX 22 (tG 2) [oq 2 (.box (tq 0)),oq 4 (.mv (.const (.slice none 0 0))),ok 5 0] [0,1] [2,6,8,12,920]∧SX 22 (tG 5) [ol 10 43 2,om 11 1,od 12 77 [tq 10,tq 11],om 9 12,oq 13 (.oth (.extract (tq 9) 0)),oq 14 (.oth (.extract (tq 9) 1)),oq 6 (.alloc 120),os (.sto 120 (tq 6) (tq 13)),om 7 14] [1,2] [2,6,8,12,920]∧SX 22 (tG 19) [om 15 7,oc 16 .neq 34 15 0] [2,6,7] [2,6,8,12,920]∧SX 22 (tG 75) [om 17 7,oq 4 (.mv (.const (.slice none 0 0))),om 5 17] [7] []∧SX 22 (tG 23) [oq 8 (.alloc 61)] [2,6] [2,6,8,12,920]∧SX 22 (tG 47) [ol 18 43 2,oq 19 (.oth (.makeFunc (.func 79) #[] #[tq 2,tq 6,tq 8])),od 20 78 [tq 18,tq 19]] [2,6,8] [2,6,8,12,920]∧SX 22 (tG 95) [ol 21 61 8,om 4 21,ok 5 0] [8] [2,6,8,12,920]:=⟨rx,rx,rx,rx,rx,rx,rx⟩
def AIP:=rg Tryz.f125
def A2M:Code:=(.seq (AIP 2) (.seq (AIP 5) .ret))
theorem BEI:Tryz.f125.body=some A2M:=by kernel_rfl
@[simp] theorem BOM:SX 5 (AIP 2) [ok 2 0] [0] []∧SX 5 (AIP 5) [om 3 0,od 4 165 [tq 3],om 2 4] [0,1,2] [1,2]:=⟨rx,rx⟩
def g80:=rg Tryz.f80
def c80:Code:=(.seq (g80 2) (.seq (g80 5) .ret))
theorem b80:Tryz.f80.body=some c80:=by kernel_rfl
@[simp] theorem x80:SX 15 (g80 2) [oq 2 (.box (tq 0)),oq 4 (.alloc 69)] [0,1] []∧RX 15 (g80 5) (.drw [⟨[],[oz 5 69 2 0,oq 6 (.ldz 3 (tq 5)),om 7 1,oq 8 (.buildS 22 2 [(0,tq 6),(1,tq 7)]),od 9 125 [tq 8],oz 10 69 2 1,oq 11 (.ldz 3 (tq 10)),om 12 1,oq 13 (.oth (.call ⟨.builtin .max,#[tq 11,tq 12],#[3,3]⟩)),oq 14 (.build 69 [(0,tq 9),(1,tq 13)])],[os (.sto 69 (tq 4) (tq 14))]⟩]) (some ([1,2,4],[2,4])):=⟨rx,rx⟩
def tH:=rg Tryz.f79
@[simp] def AMV:Code:=(.seq (tH 17) (.seq (.cond (.tmp 13) .skip (.exit 0)) (.seq (.block 1 (.seq (tH 281) (.seq (.seq (tH 1177) (.cond (.tmp 20) (tH 2713) .skip)) (tH 921)))) (tH 121))))
def YJ:=AMV
def c79:Code:=(.seq (tH 2) (.block 0 (.loop YJ)))
theorem b79:Tryz.f79.body=some c79:=by kernel_rfl
@[simp] theorem BI4(n:Nat)(st:XS):AE Tryz.prog ann kn (n+1) 37 (tH 921) st=OW (I7 Tryz.prog (BN Tryz.prog ann kn n) (.drw [⟨[34],[oq 27 (.ldz 61 (tq 3)),om 28 5,oq 29 (.ldz 61 (tq 3)),om 30 5,oi 31 61 29 30,oq 32 (.ldz 69 (tq 31)),om 33 6,oq 34 (.call true none (.func 80) [tq 32,tq 33]),oi 35 61 27 28],[os (.sto 69 (tq 35) (tq 34))]⟩]) (CC (some ([3,5,6,10,11,12],[10,26])) (L8 [9004000921026] st))) :=
 D6 (by kernel_rfl) (by kernel_rfl) (by kernel_rfl) (by kernel_rfl) (by kernel_rfl)
@[simp] theorem x79:UX 37 YJ AMV∧SX 37 (tH 2) [ol 7 43 1,ol 8 120 2,om 9 0,od 10 67 [tq 7,tq 8,tq 9],oe 11 10 22,ok 12 0] [0,1,2,3] [10,26]∧SX 37 (tH 17) [ob 13 .lss 3 12 11] [3,10,11,12] [10,26]∧SX 37 (tH 281) [om 14 12,oi 15 22 10 12,ol 16 3 15,om 5 14,om 6 16] [3,10,11,12] [10,26]∧SX 37 (tH 1177) [ol 17 61 3,oe 18 17 61,om 19 5,ob 20 .eql 3 18 19] [3,5,6,10,11,12] [10,26]∧SX 37 (tH 2713) [ol 21 61 3,om 22 6,om 23 6,oq 24 (.build 69 [(0,tq 22),(1,tq 23)]),oq 25 (.buildS 61 1 [(0,tq 24)]),oq 26 (.app [tq 21,tq 25] [61,61]),os (.sto 61 (tq 3) (tq 26))] [3,5,6,10,11,12] [10,26]∧SX 37 (tH 121) [oc 36 .add 3 12 1,om 12 36] [3,10,11,12] [10,26]∧LX 37 YJ [3,10,11,12] [10,26]:=⟨fun _ _=>rfl,rx,rx,rx,rx,rx,rx,lx⟩
def QG:=rg Tryz.f166
@[simp] def AB2:Code:=(.seq (QG 69) (.seq (.cond (.tmp 9) .skip (.exit 0)) (.seq (.block 1 (.seq (QG 1125) (.seq (QG 2661) (.cond (.tmp 16) (.seq (QG 9829) .ret) .skip)))) (QG 485))))
def S6:=AB2
def AP4:Code:=(.seq (QG 2) (.seq (.seq (QG 9) (.block 0 (.loop S6))) (.seq (QG 11) .ret)))
theorem b166:Tryz.f166.body=some AP4:=by kernel_rfl
@[simp] theorem BOO:UX 19 S6 AB2∧SX 19 (QG 2) [ok 4 0] [0,1] []∧SX 19 (QG 9) [om 6 0,oe 7 6 156,ok 8 0] [0,1] []∧SX 19 (QG 69) [ob 9 .lss 3 8 7] [0,1,7,8] []∧SX 19 (QG 1125) [om 10 8,om 5 10] [0,1,7,8] []∧SX 19 (QG 2661) [om 11 1,om 12 0,om 13 5,oi 14 156 12 13,ol 15 155 14,oq 16 (.call false none (tq 11) [tq 15])] [0,1,5,7,8] []∧SX 19 (QG 9829) [om 17 5,om 4 17] [5] []∧SX 19 (QG 485) [oc 18 .add 3 8 1,om 8 18] [0,1,3,7,8] []∧SX 19 (QG 11) [oq 4 (.mv (.const (.int .i64 (Int.negSucc 0))))] [] []∧LX 19 S6 [0,1,7,8] []:=⟨fun _ _=>rfl,rx,rx,rx,rx,rx,rx,rx,rx,lx⟩
def AIQ:=rg Tryz.f126
def A2N:Code:=(.seq (AIQ 2) (.seq (AIQ 5) .ret))
theorem b126:Tryz.f126.body=some A2N:=by kernel_rfl
@[simp] theorem BOP:SX 9 (AIQ 2) [ot 4 false] [0,1] [7]∧SX 9 (AIQ 5) [om 5 0,om 6 1,od 7 166 [tq 5,tq 6],oc 8 .geq 3 7 0,om 4 8] [0,1,2,3] [2,3]:=⟨rx,rx⟩
def g83:=rg Tryz.f83
def c83:Code:=(.seq (g83 2) (.seq (g83 5) .ret))
theorem b83:Tryz.f83.body=some c83:=by kernel_rfl
@[simp] theorem x83:SX 9 (g83 2) [oq 3 (.box (tq 1)),ot 4 false] [0,1,2] [3]∧SX 9 (g83 5) [om 5 0,oq 6 (.oth (.makeFunc (.func 127) #[] #[tq 3])),od 7 126 [tq 5,tq 6],ou 8 7,om 4 8] [0,1,2,3] [2,3]:=⟨rx,rx⟩
def AIR:=rg Tryz.f127
def A2O:Code:=(.seq (AIR 2) (.seq (AIR 5) .ret))
theorem b127:Tryz.f127.body=some A2O:=by kernel_rfl
@[simp] theorem BOQ:SX 8 (AIR 2) [oq 2 (.box (tq 0)),ot 3 false] [0,1] []∧SX 8 (AIR 5) [ol 4 147 1,ol 5 155 2,oq 6 (.call false none (tq 4) [tq 5]),ou 7 6,om 3 7] [0,1,2] [2]:=⟨rx,rx⟩
def g81:=rg Tryz.f81
def c81:Code:=(.seq (g81 2) (.seq (g81 5) .ret))
theorem b81:Tryz.f81.body=some c81:=by kernel_rfl
@[simp] theorem x81:SX 10 (g81 2) [oq 2 (.box (tq 0)),oq 3 (.box (tq 1)),ot 4 false] [0,1] []∧SX 10 (g81 5) [oz 5 155 3 2,ol 6 3 5,oz 7 94 2 1,ol 8 3 7,ob 9 .geq 3 6 8,om 4 9] [2,3] [2,3]:=⟨rx,rx⟩
def g84:=rg Tryz.f84
def c84:Code:=(.seq (g84 2) (.seq (g84 5) .ret))
theorem b84:Tryz.f84.body=some c84:=by kernel_rfl
@[simp] theorem x84:SX 15 (g84 2) [oq 4 (.box (tq 0)),ot 5 false] [0,1,2,3] []∧RX 15 (g84 5) (.drw [⟨[],[oz 6 149 1 0,ol 7 146 6,oz 8 43 2 3,ol 9 41 8,ol 10 3 3,oi 11 41 9 10,ol 12 94 11,ol 13 155 4],[oq 14 (.call false none (tq 7) [tq 12,tq 13])]⟩,⟨[],[om 5 14],[]⟩]) (some ([1,2,3,4],[4])):=⟨rx,rx⟩
def tI:=rg Tryz.f82
@[simp] def AMW:Code:=(.seq (tI 35) (.seq (.cond (.tmp 14) .skip (.exit 0)) (.seq (.block 1 (.seq (tI 563) (.seq (tI 1331) (.cond (.tmp 36) (tI 2867) .skip)))) (tI 243))))
def YK:=AMW
def c82:Code:=(.seq (tI 2) (.seq (tI 5) (.block 0 (.loop YK))))
theorem b82:Tryz.f82.body=some c82:=by kernel_rfl
@[simp] theorem x82:UX 44 YK AMW∧SX 44 (tI 2) [ol 9 3 1,oc 10 .add 3 9 1,os (.sto 3 (tq 1) (tq 10))] [0,1,2,3,4,5] [7]∧SX 44 (tI 5) [ol 11 120 2,oe 12 11 120,ok 13 0] [0,2,3,4,5] [7]∧SX 44 (tI 35) [ob 14 .lss 3 13 12] [0,3,4,5,11,12,13] [7]∧SX 44 (tI 563) [om 15 13,oi 16 120 11 13,ol 17 153 16,oq 7 (.alloc 3),oq 8 (.alloc 153),os (.sto 3 (tq 7) (tq 15)),os (.sto 153 (tq 8) (tq 17))] [0,3,4,5,11,12,13] [7]∧RX 44 (tI 1331) (.drw [⟨[],[om 18 0,oz 19 153 8 1,oz 20 86 19 0,ol 21 3 20,oi 22 123 18 21,ol 23 156 22,oz 24 153 8 1,oz 25 86 24 1,ol 26 3 25,oz 27 153 8 1,oz 28 86 27 1,ol 29 3 28,oz 30 153 8 0,oz 31 151 30 1,ol 32 3 31,ob 33 .add 3 29 32,oq 34 (.oth (.slice 156 (tq 23) (some (tq 26)) (some (tq 33)) none)),oq 35 (.oth (.makeFunc (.func 84) #[] #[tq 3,tq 4,tq 7]))],[od 36 83 [tq 34,tq 35]]⟩,⟨[],[],[]⟩]) (some ([0,3,4,5,7,8,11,12,13],[7,8]))∧SX 44 (tI 2867) [ol 37 22 5,ol 38 3 7,oi 39 22 37 38,ol 40 3 39,oc 41 .add 3 40 1,oi 42 22 37 38,os (.sto 3 (tq 42) (tq 41))] [0,3,4,5,7,11,12,13] [7]∧SX 44 (tI 243) [oc 43 .add 3 13 1,om 13 43] [0,3,4,5,11,12,13] [7]∧LX 44 YK [0,3,4,5,11,12,13] [7]:=⟨fun _ _=>rfl,rx,rx,rx,rx,rx,rx,rx,lx⟩
def NN:=rg Tryz.f31
@[simp] def AMX:Code:=(.seq (NN 2239) (.seq (.cond (.tmp 32) .skip (.exit 0)) (.seq (.block 1 (.seq (NN 36031) (.seq (NN 85183) (.block 2 (.seq (NN 314559) (.cond (.tmp 40) (NN 707775) (.seq (NN 1494207) (.cond (.tmp 46) (NN 3067071) (NN 4115647))))))))) (NN 15551))))
def YL:=AMX
def c31:Code:=(.seq (NN 2) (.seq (NN 5) (.seq (.seq (NN 19) (.cond (.tmp 20) (.seq (NN 75) .ret) .skip)) (.seq (NN 23) (.seq (NN 47) (.seq (NN 95) (.seq (.seq (NN 319) (.block 0 (.loop YL))) (.seq (NN 383) .ret))))))))
theorem b31:Tryz.f31.body=some c31:=by kernel_rfl
@[simp] theorem x31:UX 53 YL AMX∧SX 53 (NN 2) [oq 2 (.box (tq 0)),oq 4 (.mv (.const (.slice none 0 0))),ok 5 0] [0,1] [2,6,8,9,10,16,25]∧SX 53 (NN 5) [ol 14 43 2,om 15 1,od 16 77 [tq 14,tq 15],om 13 16,oq 17 (.oth (.extract (tq 13) 0)),oq 18 (.oth (.extract (tq 13) 1)),oq 6 (.alloc 120),os (.sto 120 (tq 6) (tq 17)),om 7 18] [1,2] [2,6,8,9,10,16,25]∧SX 53 (NN 19) [om 19 7,oc 20 .neq 34 19 0] [2,6,7] [2,6,8,9,10,16,25]∧SX 53 (NN 75) [om 21 7,oq 4 (.mv (.const (.slice none 0 0))),om 5 21] [7] []∧SX 53 (NN 23) [oq 22 (.build 149 [(0,.func 81)]),oq 8 (.alloc 149),os (.sto 149 (tq 8) (tq 22))] [2,6] [2,6,8,9,10,16,25]∧SX 53 (NN 47) [ol 23 120 6,oe 24 23 120,oq 25 (.mkS 22 (tq 24) (tq 24)),oq 9 (.alloc 22),oq 10 (.alloc 3),os (.sto 22 (tq 9) (tq 25)),os (.sto 3 (tq 10) (ci 0))] [2,6,8] [2,6,8,9,10,16,25]∧SX 53 (NN 95) [ol 26 43 2,oq 27 (.oth (.makeFunc (.func 82) #[] #[tq 10,tq 6,tq 8,tq 2,tq 9])),od 28 78 [tq 26,tq 27]] [2,6,8,9,10] [2,6,8,9,10,16,25]∧SX 53 (NN 319) [ol 29 22 9,oe 30 29 22,ok 31 0] [9,10] [2,6,8,9,10,16,25]∧SX 53 (NN 2239) [ob 32 .lss 3 31 30] [9,10,29,30,31] [2,6,8,9,10,16,25]∧SX 53 (NN 36031) [om 33 31,oi 34 22 29 31,ol 35 3 34,om 11 33,om 12 35] [9,10,29,30,31] [2,6,8,9,10,16,25]∧SX 53 (NN 85183) [om 36 12] [9,10,11,12,29,30,31] [2,6,8,9,10,16,25]∧SX 53 (NN 314559) [ol 41 3 10,ob 42 .eql 3 36 41,om 40 42] [9,10,11,29,30,31,36] [2,6,8,9,10,16,25]∧SX 53 (NN 707775) [ol 43 22 9,om 44 11,oi 45 22 43 44,os (.sto 3 (tq 45) (ci 1))] [9,10,11,29,30,31] [2,6,8,9,10,16,25]∧SX 53 (NN 1494207) [oc 47 .eql 3 36 0,om 46 47] [9,10,11,29,30,31,36] [2,6,8,9,10,16,25]∧SX 53 (NN 3067071) [ol 48 22 9,om 49 11,oi 50 22 48 49,os (.sto 3 (tq 50) (ci 2))] [9,10,11,29,30,31] [2,6,8,9,10,16,25]∧SX 53 (NN 4115647) [ol 37 22 9,om 38 11,oi 39 22 37 38,os (.sto 3 (tq 39) (ci 3))] [9,10,11,29,30,31] [2,6,8,9,10,16,25]∧SX 53 (NN 15551) [oc 51 .add 3 31 1,om 31 51] [9,10,29,30,31] [2,6,8,9,10,16,25]∧SX 53 (NN 383) [ol 52 22 9,om 4 52,ok 5 0] [9] [2,6,8,9,10,16,25]∧LX 53 YL [9,10,29,30,31] [2,6,8,9,10,16,25]:=⟨fun _ _=>rfl,rx,rx,rx,rx,rx,rx,rx,rx,rx,rx,rx,rx,rx,rx,rx,rx,rx,rx,lx⟩
def QK:=rg Tryz.f32
@[simp] def AMY:Code:=(lp (QK 1071) 21 0 1 (.seq (QK 4399) (.seq (QK 10543) (.seq (QK 22831) (.cond (.tmp 49) (QK 47407) .skip)))) (QK 1839))
def YM:=AMY
def c32:Code:=(.seq (QK 2) (.seq (QK 5) (.seq (QK 11) (.seq (QK 23) (.seq (.seq (QK 79) (.block 0 (.loop YM))) (.seq (.seq (QK 159) (.cond (.tmp 55) (.seq (QK 607) .ret) .skip)) (.seq (.seq (QK 319) (.cond (.tmp 58) (.seq (QK 1215) .ret) .skip)) (.seq (QK 383) .ret))))))))
theorem b32:Tryz.f32.body=some c32:=by kernel_rfl
@[simp] theorem x32:UX 61 YM AMY∧SX 61 (QK 2) [oq 3 (.box (tq 0)),oq 4 (.box (tq 1)),oq 5 (.box (tq 2)),oq 6 (.alloc 66),ok 7 0] [0,1,2] [3,16,36]∧SX 61 (QK 5) [oz 14 31 3 0,ol 15 27 14,od 16 55 [tq 15],om 8 16] [3,4,5,6] [3,4,5,6,16,36]∧SX 61 (QK 11) [oq 17 (.build 66 [(0,ci 1099511627776),(1,.const (.int .i64 (Int.negSucc 0)))]),oq 9 (.alloc 66),os (.sto 66 (tq 9) (tq 17))] [3,4,5,6,8] [3,4,5,6,16,36]∧SX 61 (QK 23) [ok 10 0] [3,4,5,6,8,9] [3,4,5,6,9,16,36]∧SX 61 (QK 79) [ok 11 0] [3,4,5,6,8,9,10] [3,4,5,6,9,16,36]∧SX 61 (QK 1071) [om 18 11,om 19 8,oe 20 19 23,ob 21 .lss 3 18 20] [3,4,5,6,8,9,10,11] [3,4,5,6,9,16,36]∧RX 61 (QK 4399) (.drw [⟨[],[ol 25 31 3,ol 26 57 4,ol 27 59 5,oz 28 31 3 0,ol 29 27 28,oz 30 31 3 1,ol 31 23 30,om 32 8,om 33 11,oi 34 23 32 33,ol 35 22 34,od 36 28 [tq 29,tq 31,tq 35]],[od 37 29 [tq 25,tq 26,tq 27,tq 36]]⟩,⟨[],[om 24 37,oq 38 (.oth (.extract (tq 24) 0)),oq 39 (.oth (.extract (tq 24) 1)),om 12 38,om 13 39],[]⟩]) (some ([3,4,5,6,8,9,10,11],[3,4,5,6,9,16]))∧SX 61 (QK 10543) [oz 40 66 9 0,ol 41 3 40,om 42 12,oq 43 (.oth (.call ⟨.builtin .min,#[tq 41,tq 42],#[3,3]⟩)),oz 44 66 9 1,ol 45 3 44,om 46 12,oq 47 (.oth (.call ⟨.builtin .max,#[tq 45,tq 46],#[3,3]⟩)),oq 48 (.build 66 [(0,tq 43),(1,tq 47)]),os (.sto 66 (tq 9) (tq 48))] [3,4,5,6,8,9,10,11,12,13] [3,4,5,6,9,16,36]∧SX 61 (QK 22831) [om 49 13] [3,4,5,6,8,9,10,11,13] [3,4,5,6,9,16,36]∧SX 61 (QK 47407) [om 50 10,oc 51 .add 3 50 1,om 10 51] [3,4,5,6,8,9,10,11] [3,4,5,6,9,16,36]∧SX 61 (QK 1839) [om 22 11,oc 23 .add 3 22 1,om 11 23] [3,4,5,6,8,9,10,11] [3,4,5,6,9,16,36]∧SX 61 (QK 159) [om 52 10,om 53 8,oe 54 53 23,ob 55 .eql 3 52 54] [6,8,9,10] [3,6,9,16,36]∧SX 61 (QK 607) [ol 56 66 9,os (.sto 66 (tq 6) (tq 56)),ok 7 1] [6,9] [6,9]∧SX 61 (QK 319) [om 57 10,oc 58 .eql 3 57 0] [6,9,10] [6,9]∧SX 61 (QK 1215) [ol 59 66 9,os (.sto 66 (tq 6) (tq 59)),ok 7 2] [6,9] [6,9]∧SX 61 (QK 383) [ol 60 66 9,os (.sto 66 (tq 6) (tq 60)),ok 7 3] [6,9] [6,9]∧LX 61 YM [3,4,5,6,8,9,10,11] [3,4,5,6,9,16,36]:=⟨fun _ _=>rfl,rx,rx,rx,rx,rx,rx,rx,rx,rx,rx,rx,rx,rx,rx,rx,rx,lx⟩
def g4:=rg Tryz.f4
@[simp] def AMZ:Code:=(lp (g4 17151) 94 0 1 (.seq (g4 70399) (.seq (g4 168703) (.cond (.tmp 128) (.seq (g4 627455) .ret) .skip))) (g4 29439))
def YN:=AMZ
def c4:Code:=(.seq (g4 2) (.seq (.seq (g4 9) (.cond (.tmp 20) (.seq (g4 37) .ret) .skip)) (.seq (g4 11) (.seq (g4 23) (.seq (g4 47) (.seq (.seq (g4 159) (.cond (.tmp 49) (g4 351) .skip)) (.seq (.seq (g4 319) (.cond (.tmp 51) (.seq (g4 1215) .ret) .skip)) (.seq (.seq (g4 639) (.cond (.tmp 90) (.seq (g4 2431) .ret) .skip)) (.seq (.seq (g4 1279) (.block 0 (.loop YN))) (.seq (g4 1535) .ret))))))))))
theorem b4:Tryz.f4.body=some c4:=by kernel_rfl
@[simp] theorem x4:UX 130 YN AMZ∧SX 130 (g4 2) [oq 2 (.box (tq 0)),ot 4 false] [0,1] [2,24,26,27,32,34,35,45]∧SX 130 (g4 9) [ol 13 31 2,od 14 18 [tq 13],ou 15 14,om 16 15,gm 16 false 17 1,ge 16 false 18 17 24,gc 16 false 19 .gtr 3 18 6,oq 20 (.pick (tq 16) (cb true) (tq 19))] [1,2] [2,24,26,27,32,34,35,45]∧SX 130 (g4 37) [od 21 19 [],om 4 21] [] []∧SX 130 (g4 11) [ol 23 31 2,od 24 21 [tq 23],om 25 1,od 26 22 [tq 25],od 27 30 [tq 24,tq 26],om 22 27,oq 28 (.oth (.extract (tq 22) 0)),oq 29 (.oth (.extract (tq 22) 1)),om 5 28,om 6 29] [1,2] [2,24,26,27,32,34,35,45]∧SX 130 (g4 23) [ol 31 31 2,od 32 21 [tq 31],om 33 1,od 34 22 [tq 33],od 35 31 [tq 32,tq 34],om 30 35,oq 36 (.oth (.extract (tq 30) 0)),oq 37 (.oth (.extract (tq 30) 1)),om 7 36,om 8 37] [1,2,5,6] [2,24,26,27,32,34,35,45]∧SX 130 (g4 47) [ol 38 31 2,od 39 23 [tq 38],om 9 39] [1,2,5,6,7,8] [2,24,26,27,32,34,35,45]∧RX 130 (g4 159) (.drw [⟨[],[om 40 9,oc 41 .eql 34 40 0,om 42 41,gl 42 true 43 31 2,gl 42 true 44 31 2,gd 42 true 45 26 [tq 44,ci 0],gm 42 true 46 1],[gd 42 true 47 25 [tq 43,tq 45,tq 46]]⟩,⟨[],[og 42 true 48 (.oth (.unOp .not 4 (tq 47))),oq 49 (.pick (tq 42) (tq 48) (cb false))],[]⟩]) (some ([1,2,5,6,7,8,9],[2,24,26,27,32,34,35]))∧SX 130 (g4 351) [ok 9 2] [1,2,5,6,7,8] [2,24,26,27,32,34,35,45]∧SX 130 (g4 319) [om 50 9,oc 51 .neq 34 50 0] [1,2,5,6,7,8,9] [2,24,26,27,32,34,35,45]∧SX 130 (g4 1215) [om 52 6,om 53 9,ob 54 .eql 34 52 53,om 55 54,gm 55 true 56 8,gm 55 true 57 9,gb 55 true 58 .eql 34 56 57,oq 59 (.pick (tq 55) (tq 58) (cb false)),om 60 59,gm 60 true 61 5,ge 60 true 62 61 61,gm 60 true 63 7,ge 60 true 64 63 22,gb 60 true 65 .add 3 62 64,gc 60 true 66 .eql 3 65 0,oq 67 (.pick (tq 60) (tq 66) (cb false)),om 68 67,gd 68 true 69 19 [],oq 70 (.pick (tq 68) (tq 69) (cb false)),om 4 70] [5,6,7,8,9] [2,24,26,27,32,34,35,45]∧SX 130 (g4 639) [om 71 6,oc 72 .neq 34 71 0,om 73 72,gm 73 false 74 8,gc 73 false 75 .neq 34 74 0,oq 76 (.pick (tq 73) (cb true) (tq 75)),om 77 76,gm 77 false 78 5,ge 77 false 79 78 61,gm 77 false 80 1,ge 77 false 81 80 24,gb 77 false 82 .neq 3 79 81,oq 83 (.pick (tq 77) (cb true) (tq 82)),om 84 83,gm 84 false 85 7,ge 84 false 86 85 22,gm 84 false 87 1,ge 84 false 88 87 24,gb 84 false 89 .neq 3 86 88,oq 90 (.pick (tq 84) (cb true) (tq 89))] [1,2,5,6,7,8] [2,24,26,27,32,34,35,45]∧SX 130 (g4 1279) [ok 10 0] [1,2,5,7] [2,24,26,27,32,34,35,45]∧SX 130 (g4 17151) [om 91 10,om 92 5,oe 93 92 61,ob 94 .lss 3 91 93] [1,2,5,7,10] [2,24,26,27,32,34,35,45]∧RX 130 (g4 70399) (.drw [⟨[11],[oq 98 (.ldz 31 (tq 2)),oz 99 31 2 3,oq 100 (.ldz 29 (tq 99)),om 101 10,oi 102 29 100 101,oq 103 (.ldz 57 (tq 102)),om 104 1,om 105 10,oi 106 24 104 105,oq 107 (.ldz 59 (tq 106)),od 108 32 [tq 98,tq 103,tq 107],om 97 108,oq 109 (.oth (.extract (tq 97) 0)),oq 110 (.oth (.extract (tq 97) 1)),oq 11 (.alloc 66),os (.sto 66 (tq 11) (tq 109)),om 12 110],[]⟩]) (some ([1,2,5,7,10],[2,24,26,27,32,34,35,45]))∧RX 130 (g4 168703) (.drw [⟨[],[om 111 5,om 112 10,oi 113 61 111 112,ol 114 69 113,oz 115 66 11 0,ol 116 3 115,oz 117 66 11 1,ol 118 3 117,oq 119 (.build 69 [(0,tq 116),(1,tq 118)]),ob 120 .neq 69 114 119,om 121 120,gm 121 false 122 7,gm 121 false 123 10,gi 121 false 124 22 122 123,gl 121 false 125 3 124,gm 121 false 126 12,gb 121 false 127 .neq 3 125 126,oq 128 (.pick (tq 121) (cb true) (tq 127))],[]⟩]) (some ([1,2,5,7,10,11,12],[2,11,24,26,27,32,34,35,45]))∧SX 130 (g4 29439) [om 95 10,oc 96 .add 3 95 1,om 10 96] [1,2,5,7,10] [2,24,26,27,32,34,35,45]∧SX 130 (g4 1535) [od 129 19 [],om 4 129] [] []∧LX 130 YN [1,2,5,7,10] [2,24,26,27,32,34,35,45]:=⟨fun _ _=>rfl,rx,rx,rx,rx,rx,rx,rx,rx,rx,rx,rx,rx,rx,rx,rx,rx,rx,lx⟩
end
end Go.Proofs.Tryz.Op
