/- The walk's ground of function 57: its regions worked out. No condition. -/
import Derived.Test.YthhdhbalenanjaaGreatGa
open Go renaming Code->bq
open Go.Proofs.Tryz renaming prog->bk
open Int renaming negSucc->bj
set_option maxRecDepth 100000
namespace Go.Proofs.Tryz.Op
open Go Go.Pg
noncomputable section
def g57:=rg Tryz.f57
def c57:bq:=(.seq (g57 2) (.seq (g57 5) .ret))
theorem b57:Tryz.f57.body=some c57:=by kernel_rfl
@[simp] theorem x57:SX 15 (g57 2) [ot 6 false] [0,1,2] []/\SX 15 (g57 5) [om 7 0,om 8 1,ob 9 .geq 3 7 8,om 10 9,gm 10 true 11 0,gm 10 true 12 2,gb 10 true 13 .leq 3 11 12,oq 14 (.pick (tq 10) (tq 13) (cb false)),om 6 14] [0,1,2] []:=⟨rx,rx⟩
def RZ:=rg Tryz.f134
@[simp] def ABW:bq:=(lp (RZ 133) 9 0 1 (.seq (RZ 549) (.cond (.tmp 18) (.seq (RZ 2341) .ret) .skip)) (RZ 229))
def R3:=ABW
def A0P:bq:=(.seq (RZ 2) (.seq (.seq (RZ 9) (.block 0 (.loop R3))) (.seq (RZ 11) .ret)))
theorem BBP:Tryz.f134.body=some A0P:=by kernel_rfl
@[simp] theorem BIS:UX 19 R3 ABW/\SX 19 (RZ 2) [ot 4 false] [0,1] []/\SX 19 (RZ 9) [ok 5 0] [0,1] []/\SX 19 (RZ 133) [om 6 5,om 7 0,oe 8 7 22,ob 9 .lss 3 6 8] [0,1,5] []/\SX 19 (RZ 549) [om 12 0,om 13 5,oi 14 22 12 13,ol 15 3 14,om 16 1,od 17 57 [tq 15,tq 16,ci 3],ou 18 17] [0,1,5] []/\SX 19 (RZ 2341) [ot 4 false] [] []/\SX 19 (RZ 229) [om 10 5,oc 11 .add 3 10 1,om 5 11] [0,1,5] []/\SX 19 (RZ 11) [ot 4 true] [] []/\LX 19 R3 [0,1,5] []:=⟨fun _ _=>rfl,rx,rx,rx,rx,rx,rx,rx,lx⟩
def AHU:=rg Tryz.f135
def A0Q:bq:=(.seq (AHU 2) (.seq (AHU 5) .ret))
theorem BBQ:Tryz.f135.body=some A0Q:=by kernel_rfl
@[simp] theorem BIT:SX 19 (AHU 2) [oq 2 (.box (tq 0)),oq 3 (.box (tq 1)),ot 4 false] [0,1] [2]/\SX 19 (AHU 5) [oz 5 59 3 0,ol 6 3 5,oz 7 27 2 1,ol 8 3 7,oc 9 .sub 3 8 1,od 10 57 [tq 6,ci 0,tq 9],om 11 10,gz 11 true 12 59 3 1,gl 11 true 13 3 12,gz 11 true 14 27 2 2,gl 11 true 15 3 14,gc 11 true 16 .sub 3 15 1,gd 11 true 17 57 [tq 13,ci 0,tq 16],oq 18 (.pick (tq 11) (tq 17) (cb false)),om 4 18] [2,3] [2,3]:=⟨rx,rx⟩
def tR:=rg Tryz.f75
@[simp] def AMG:bq:=(lp (tR 133) 9 0 1 (.seq (tR 549) (.cond (.tmp 17) (.seq (tR 2341) .ret) .skip)) (tR 229))
def YG:=AMG
def c75:bq:=(.seq (tR 2) (.seq (.seq (tR 9) (.block 0 (.loop YG))) (.seq (tR 11) .ret)))
theorem b75:Tryz.f75.body=some c75:=by kernel_rfl
@[simp] theorem x75:UX 18 YG AMG/\SX 18 (tR 2) [ot 4 false] [0,1] []/\SX 18 (tR 9) [ok 5 0] [0,1] []/\SX 18 (tR 133) [om 6 5,om 7 0,oe 8 7 22,ob 9 .lss 3 6 8] [0,1,5] []/\SX 18 (tR 549) [om 12 0,om 13 5,oi 14 22 12 13,ol 15 3 14,om 16 1,ob 17 .eql 3 15 16] [0,1,5] []/\SX 18 (tR 2341) [ot 4 true] [] []/\SX 18 (tR 229) [om 10 5,oc 11 .add 3 10 1,om 5 11] [0,1,5] []/\SX 18 (tR 11) [ot 4 false] [] []/\LX 18 YG [0,1,5] []:=⟨fun _ _=>rfl,rx,rx,rx,rx,rx,rx,rx,lx⟩
def AHV:=rg Tryz.f114
def A0R:bq:=(.seq (AHV 2) (.seq (AHV 5) .ret))
theorem BBS:Tryz.f114.body=some A0R:=by kernel_rfl
@[simp] theorem BIV:SX 6 (AHV 2) [oq 2 (.mv (.const (.slice none 0 0)))] [0,1] []/\SX 6 (AHV 5) [oq 3 (.buildS 22 0 []),om 4 0,oq 5 (.app [tq 3,tq 4] [22,22]),om 2 5] [0,1] []:=⟨rx,rx⟩
def R4:=rg Tryz.f115
@[simp] def ABX:bq:=(lp (R4 267) 9 0 1 (R4 587) (R4 459))
def R5:=ABX
def A0S:bq:=(.seq (R4 2) (.seq (R4 5) (.seq (.seq (R4 19) (.block 0 (.loop R5))) (.seq (R4 23) .ret))))
theorem BBT:Tryz.f115.body=some A0S:=by kernel_rfl
@[simp] theorem BIW:UX 21 R5 ABX/\SX 21 (R4 2) [oq 2 (.mv (.const (.slice none 0 0)))] [0] [17]/\SX 21 (R4 5) [oq 5 (.buildS 23 0 []),om 3 5] [0] [17]/\SX 21 (R4 19) [ok 4 0] [0,1,3] [1,17,19]/\SX 21 (R4 267) [om 6 4,om 7 0,oe 8 7 23,ob 9 .lss 3 6 8] [0,3,4] [17,19]/\SX 21 (R4 587) [om 12 3,om 13 0,om 14 4,oi 15 23 13 14,ol 16 22 15,od 17 114 [tq 16],oq 18 (.buildS 23 1 [(0,tq 17)]),oq 19 (.app [tq 12,tq 18] [23,23]),om 3 19] [0,1,3,4] [1,17,19]/\SX 21 (R4 459) [om 10 4,oc 11 .add 3 10 1,om 4 11] [0,1,3,4] [1,17,19]/\SX 21 (R4 23) [om 20 3,om 2 20] [0,1,3,7,8] [19]/\LX 21 R5 [0,3,4] [17,19]:=⟨fun _ _=>rfl,rx,rx,rx,rx,rx,rx,rx,lx⟩
def g48:=rg Tryz.f48
def c48:bq:=(.seq (g48 2) (.seq (g48 5) .ret))
theorem b48:Tryz.f48.body=some c48:=by kernel_rfl
@[simp] theorem x48:SX 8 (g48 2) [oq 1 (.box (tq 0)),oq 2 (.alloc 86)] [0] []/\SX 8 (g48 5) [oz 3 59 1 0,ol 4 3 3,oz 5 59 1 1,ol 6 3 5,oq 7 (.build 86 [(0,tq 4),(1,tq 6)]),os (.sto 86 (tq 2) (tq 7))] [1,2] [1,2]:=⟨rx,rx⟩
def R6:=rg Tryz.f107
@[simp] def ABY:bq:=(lp (R6 133) 11 0 1 (.seq (R6 549) (.cond (.tmp 19) (.seq (R6 2341) .ret) .skip)) (R6 229))
def R7:=ABY
def A0T:bq:=(.seq (R6 2) (.seq (.seq (R6 9) (.block 0 (.loop R7))) (.seq (R6 11) .ret)))
theorem BBU:Tryz.f107.body=some A0T:=by kernel_rfl
@[simp] theorem BIY:UX 23 R7 ABY/\SX 23 (R6 2) [ot 2 false] [0] []/\SX 23 (R6 9) [ok 3 0] [0,1] [1,14]/\SX 23 (R6 133) [om 4 3,om 5 0,oe 6 5 23,ob 7 .lss 3 4 6,om 8 7,gm 8 true 9 3,gc 8 true 10 .lss 3 9 8,oq 11 (.pick (tq 8) (tq 10) (cb false))] [0,3] []/\SX 23 (R6 549) [om 14 0,om 15 3,oi 16 23 14 15,ol 17 22 16,oe 18 17 22,oc 19 .gtr 3 18 5] [0,3] []/\SX 23 (R6 2341) [ot 2 false] [] []/\SX 23 (R6 229) [om 12 3,oc 13 .add 3 12 1,om 3 13] [0,3] []/\SX 23 (R6 11) [om 20 0,oe 21 20 23,oc 22 .leq 3 21 7,om 2 22] [0] []/\LX 23 R7 [0,3] []:=⟨fun _ _=>rfl,rx,rx,rx,rx,rx,rx,rx,lx⟩
def R8:=rg Tryz.f100
@[simp] def ABZ:bq:=(lp (R8 267) 9 0 1 (R8 587) (R8 459))
def R9:=ABZ
def A0U:bq:=(.seq (R8 2) (.seq (R8 5) (.seq (.seq (R8 19) (.block 0 (.loop R9))) (.seq (R8 23) .ret))))
theorem BBV:Tryz.f100.body=some A0U:=by kernel_rfl
@[simp] theorem BIZ:UX 21 R9 ABZ/\SX 21 (R8 2) [oq 1 (.box (tq 0)),ok 2 0] [0] [1]/\SX 21 (R8 5) [ok 3 1] [1] [1]/\SX 21 (R8 19) [ok 4 0] [0,1,3] [1,17,19]/\SX 21 (R8 267) [om 5 4,oz 6 27 1 6,ol 7 23 6,oe 8 7 23,ob 9 .lss 3 5 8] [1,3,4] [1]/\SX 21 (R8 587) [om 12 3,oz 13 27 1 6,ol 14 23 13,om 15 4,oi 16 23 14 15,ol 17 22 16,oe 18 17 22,ob 19 .mul 3 12 18,om 3 19] [0,1,3,4] [1,17,19]/\SX 21 (R8 459) [om 10 4,oc 11 .add 3 10 1,om 4 11] [0,1,3,4] [1,17,19]/\SX 21 (R8 23) [om 20 3,om 2 20] [0,1,3,7,8] [19]/\LX 21 R9 [1,3,4] [1]:=⟨fun _ _=>rfl,rx,rx,rx,rx,rx,rx,rx,lx⟩
def DW:=rg Tryz.f108
@[simp] def tS:bq:=(lp (DW 68759) 118 2 3 (.seq (DW 281751) (.cond (.tmp 138) (.seq (DW 1199255) .ret) .skip)) (DW 117911))
def OB:=tS
@[simp] def AB0:bq:=(lp (DW 535) 92 0 1 (.seq (.seq (DW 4247) (.cond (.tmp 110) (.seq (DW 18583) .ret) .skip)) (.seq (DW 5271) (.block 2 (.loop OB)))) (DW 919))
def SA:=AB0
@[simp] def tT:bq:=(lp (DW 1071) 143 4 5 (.seq (DW 4399) (.cond (.tmp 153) (.seq (DW 18735) .ret) .skip)) (DW 1839))
def OC:=tT
@[simp] def tU:bq:=(lp (DW 2143) 158 6 7 (.seq (DW 8799) (.cond (.tmp 180) (.seq (DW 37471) .ret) .skip)) (DW 3679))
def OD:=tU
def N3:bq:=(.seq (DW 2) (.seq (.seq (DW 9) (.cond (.tmp 31) (.seq (DW 37) .ret) .skip)) (.seq (.seq (DW 19) (.cond (.tmp 88) (.seq (DW 75) .ret) .skip)) (.seq (.seq (DW 39) (.block 0 (.loop SA))) (.seq (.seq (DW 79) (.block 4 (.loop OC))) (.seq (.seq (DW 159) (.block 6 (.loop OD))) (.seq (DW 191) .ret)))))))
theorem BBW:Tryz.f108.body=some N3:=by kernel_rfl
@[simp] theorem BI0:UX 181 OB tS/\UX 181 SA AB0/\UX 181 OC tT/\UX 181 OD tU/\SX 181 (DW 2) [oq 1 (.box (tq 0)),ok 2 0] [0] [1]/\SX 181 (DW 9) [oz 7 27 1 0,ol 8 3 7,oc 9 .gtr 3 8 4,om 10 9,gz 10 false 11 27 1 1,gl 10 false 12 3 11,gc 10 false 13 .gtr 3 12 3,oq 14 (.pick (tq 10) (cb true) (tq 13)),om 15 14,gz 15 false 16 27 1 2,gl 15 false 17 3 16,gc 15 false 18 .gtr 3 17 5,oq 19 (.pick (tq 15) (cb true) (tq 18)),om 20 19,gz 20 false 21 27 1 7,gl 20 false 22 24 21,ge 20 false 23 22 24,gc 20 false 24 .gtr 3 23 4,oq 25 (.pick (tq 20) (cb true) (tq 24)),om 26 25,gz 26 false 27 27 1 8,gl 26 false 28 25 27,ge 26 false 29 28 25,gc 26 false 30 .gtr 3 29 5,oq 31 (.pick (tq 26) (cb true) (tq 30))] [1] [1]/\SX 181 (DW 37) [ok 2 3] [] []/\SX 181 (DW 19) [oz 32 27 1 0,ol 33 3 32,oc 34 .lss 3 33 0,om 35 34,gz 35 false 36 27 1 1,gl 35 false 37 3 36,gc 35 false 38 .lss 3 37 1,oq 39 (.pick (tq 35) (cb true) (tq 38)),om 40 39,gz 40 false 41 27 1 2,gl 40 false 42 3 41,gc 40 false 43 .lss 3 42 1,oq 44 (.pick (tq 40) (cb true) (tq 43)),om 45 44,gz 45 false 46 27 1 3,gl 45 false 47 3 46,gd 45 false 48 57 [tq 47,ci 0,ci 4],og 45 false 49 (.oth (.unOp .not 4 (tq 48))),oq 50 (.pick (tq 45) (cb true) (tq 49)),om 51 50,gz 51 false 52 27 1 4,gl 51 false 53 22 52,ge 51 false 54 53 22,gz 51 false 55 27 1 1,gl 51 false 56 3 55,gb 51 false 57 .neq 3 54 56,oq 58 (.pick (tq 51) (cb true) (tq 57)),om 59 58,gz 59 false 60 27 1 5,gl 59 false 61 22 60,ge 59 false 62 61 22,gz 59 false 63 27 1 0,gl 59 false 64 3 63,gc 59 false 65 .add 3 64 1,gb 59 false 66 .neq 3 62 65,oq 67 (.pick (tq 59) (cb true) (tq 66)),om 68 67,gz 68 false 69 27 1 6,gl 68 false 70 23 69,ge 68 false 71 70 23,gz 68 false 72 27 1 0,gl 68 false 73 3 72,gc 68 false 74 .add 3 73 1,gb 68 false 75 .neq 3 71 74,oq 76 (.pick (tq 68) (cb true) (tq 75)),om 77 76,gz 77 false 78 27 1 4,gl 77 false 79 22 78,gd 77 false 80 134 [tq 79,ci 0],og 77 false 81 (.oth (.unOp .not 4 (tq 80))),oq 82 (.pick (tq 77) (cb true) (tq 81)),om 83 82,gz 83 false 84 27 1 5,gl 83 false 85 22 84,gd 83 false 86 134 [tq 85,.const (.int .i64 (bj 0))],og 83 false 87 (.oth (.unOp .not 4 (tq 86))),oq 88 (.pick (tq 83) (cb true) (tq 87))] [1] [1]/\SX 181 (DW 75) [ok 2 1] [] []/\SX 181 (DW 39) [ok 3 0] [1] [1]/\SX 181 (DW 535) [om 89 3,oz 90 27 1 0,ol 91 3 90,ob 92 .leq 3 89 91] [1,3] [1]/\SX 181 (DW 4247) [oz 95 27 1 6,ol 96 23 95,om 97 3,oi 98 23 96 97,ol 99 22 98,oe 100 99 22,oc 101 .eql 3 100 0,om 102 101,gz 102 false 103 27 1 6,gl 102 false 104 23 103,gm 102 false 105 3,gi 102 false 106 23 104 105,gl 102 false 107 22 106,gd 102 false 108 134 [tq 107,ci 0],og 102 false 109 (.oth (.unOp .not 4 (tq 108))),oq 110 (.pick (tq 102) (cb true) (tq 109))] [1,3] [1]/\SX 181 (DW 18583) [ok 2 1] [] []/\SX 181 (DW 5271) [ok 4 1] [1,3] [1]/\SX 181 (DW 68759) [om 111 4,oz 112 27 1 6,ol 113 23 112,om 114 3,oi 115 23 113 114,ol 116 22 115,oe 117 116 22,ob 118 .lss 3 111 117] [1,3,4] [1]/\RX 181 (DW 281751) (.drw [⟨[],[oz 121 27 1 6,ol 122 23 121,om 123 3,oi 124 23 122 123,ol 125 22 124,om 126 4,oi 127 22 125 126,ol 128 3 127,oz 129 27 1 6,ol 130 23 129,om 131 3,oi 132 23 130 131,ol 133 22 132,om 134 4,oc 135 .sub 3 134 1,oi 136 22 133 135,ol 137 3 136,ob 138 .leq 3 128 137],[]⟩]) (some ([1,3,4],[1]))/\SX 181 (DW 1199255) [ok 2 1] [] []/\SX 181 (DW 117911) [om 119 4,oc 120 .add 3 119 1,om 4 120] [1,3,4] [1]/\SX 181 (DW 919) [om 93 3,oc 94 .add 3 93 1,om 3 94] [1,3] [1]/\SX 181 (DW 79) [ok 5 0] [1] [1]/\SX 181 (DW 1071) [om 139 5,oz 140 27 1 7,ol 141 24 140,oe 142 141 24,ob 143 .lss 3 139 142] [1,5] [1]/\RX 181 (DW 4399) (.drw [⟨[],[ol 146 27 1,oz 147 27 1 7,ol 148 24 147,om 149 5,oi 150 24 148 149,ol 151 59 150],[od 152 135 [tq 146,tq 151]]⟩,⟨[],[ou 153 152],[]⟩]) (some ([1,5],[1]))/\SX 181 (DW 18735) [ok 2 1] [] []/\SX 181 (DW 1839) [om 144 5,oc 145 .add 3 144 1,om 5 145] [1,5] [1]/\SX 181 (DW 159) [ok 6 0] [1] [1]/\SX 181 (DW 2143) [om 154 6,oz 155 27 1 8,ol 156 25 155,oe 157 156 25,ob 158 .lss 3 154 157] [1,6] [1]/\RX 181 (DW 8799) (.drw [⟨[],[oz 161 27 1 8,ol 162 25 161,om 163 6,oi 164 25 162 163,oz 165 188 164 0,ol 166 3 165,oz 167 27 1 0,ol 168 3 167],[od 169 57 [tq 166,ci 0,tq 168]]⟩,⟨[],[ou 170 169,om 171 170,gz 171 false 172 27 1 8,gl 171 false 173 25 172,gm 171 false 174 6,gi 171 false 175 25 173 174,gz 171 false 176 188 175 1,gl 171 false 177 3 176],[gd 171 false 178 57 [tq 177,ci 0,ci 3]]⟩,⟨[],[og 171 false 179 (.oth (.unOp .not 4 (tq 178))),oq 180 (.pick (tq 171) (cb true) (tq 179))],[]⟩]) (some ([1,6],[1]))/\SX 181 (DW 37471) [ok 2 1] [] []/\SX 181 (DW 3679) [om 159 6,oc 160 .add 3 159 1,om 6 160] [1,6] [1]/\SX 181 (DW 191) [ok 2 0] [] []/\LX 181 SA [1,3] [1]/\LX 181 OB [1,3,4] [1]/\LX 181 OC [1,5] [1]/\LX 181 OD [1,6] [1]:=by and_intros<;>first|exact rx|exact lx|exact fun _ _=>rfl
def g64:=rg Tryz.f64
def c64:bq:=(.seq (g64 2) (.seq (.seq (g64 9) (.cond (.tmp 30) (.seq (g64 37) .ret) .skip)) (.seq (g64 11) .ret)))
theorem b64:Tryz.f64.body=some c64:=by kernel_rfl
@[simp] theorem x64:SX 39 (g64 2) [oq 1 (.box (tq 0)),ot 2 false] [0] [1]/\SX 39 (g64 9) [oz 3 27 1 4,ol 4 22 3,oe 5 4 22,oc 6 .gtr 3 5 5,om 7 6,gz 7 false 8 27 1 5,gl 7 false 9 22 8,ge 7 false 10 9 22,gc 7 false 11 .gtr 3 10 7,oq 12 (.pick (tq 7) (cb true) (tq 11)),om 13 12,gz 13 false 14 27 1 6,gl 13 false 15 23 14,gd 13 false 16 107 [tq 15],og 13 false 17 (.oth (.unOp .not 4 (tq 16))),oq 18 (.pick (tq 13) (cb true) (tq 17)),om 19 18,gz 19 false 20 27 1 7,gl 19 false 21 24 20,ge 19 false 22 21 24,gc 19 false 23 .gtr 3 22 6,oq 24 (.pick (tq 19) (cb true) (tq 23)),om 25 24,gz 25 false 26 27 1 8,gl 25 false 27 25 26,ge 25 false 28 27 25,gc 25 false 29 .gtr 3 28 7,oq 30 (.pick (tq 25) (cb true) (tq 29))] [1] [1]/\SX 39 (g64 37) [ot 2 false] [] []/\SX 39 (g64 11) [ol 31 27 1,od 32 108 [tq 31],oc 33 .neq 3 32 0,om 34 33,gl 34 false 35 27 1,gd 34 false 36 100 [tq 35],gc 34 false 37 .leq 3 36 80,oq 38 (.pick (tq 34) (cb true) (tq 37)),om 2 38] [1] [1]:=⟨rx,rx,rx,rx⟩
def P6:=rg Tryz.f190
@[simp] def AB1:bq:=(.seq (P6 69) (.seq (.cond (.tmp 9) .skip (.exit 0)) (.seq (.block 1 (.seq (P6 1125) (.seq (P6 2661) (.cond (.tmp 16) (.seq (P6 9829) .ret) .skip)))) (P6 485))))
def SB:=AB1
def APG:bq:=(.seq (P6 2) (.seq (.seq (P6 9) (.block 0 (.loop SB))) (.seq (P6 11) .ret)))
theorem b190:Tryz.f190.body=some APG:=by kernel_rfl
@[simp] theorem BI2:UX 19 SB AB1/\SX 19 (P6 2) [ok 4 0] [0,1] []/\SX 19 (P6 9) [om 6 0,oe 7 6 22,ok 8 0] [0,1] []/\SX 19 (P6 69) [ob 9 .lss 3 8 7] [0,1,7,8] []/\SX 19 (P6 1125) [om 10 8,om 5 10] [0,1,7,8] []/\SX 19 (P6 2661) [om 11 1,om 12 0,om 13 5,oi 14 22 12 13,ol 15 3 14,oq 16 (.call false none (tq 11) [tq 15])] [0,1,5,7,8] []/\SX 19 (P6 9829) [om 17 5,om 4 17] [5] []/\SX 19 (P6 485) [oc 18 .add 3 8 1,om 8 18] [0,1,3,7,8] []/\SX 19 (P6 11) [oq 4 (.mv (.const (.int .i64 (bj 0))))] [] []/\LX 19 SB [0,1,7,8] []:=⟨fun _ _=>rfl,rx,rx,rx,rx,rx,rx,rx,rx,lx⟩
def AHW:=rg Tryz.f175
def A0V:bq:=(.seq (AHW 2) (.seq (AHW 5) .ret))
theorem b175:Tryz.f175.body=some A0V:=by kernel_rfl
@[simp] theorem BI3:SX 9 (AHW 2) [ot 4 false] [0,1] [7]/\SX 9 (AHW 5) [om 5 0,om 6 1,od 7 190 [tq 5,tq 6],oc 8 .geq 3 7 0,om 4 8] [0,1,2,3] [2,3]:=⟨rx,rx⟩
def AHX:=rg Tryz.f144
def APH:bq:=(.seq (AHX 2) (.seq (AHX 5) .ret))
theorem b144:Tryz.f144.body=some APH:=by kernel_rfl
@[simp] theorem BI4:SX 9 (AHX 2) [oq 3 (.box (tq 1)),ot 4 false] [0,1,2] [3]/\SX 9 (AHX 5) [om 5 0,oq 6 (.oth (.makeFunc (.func 176) #[] #[tq 3])),od 7 175 [tq 5,tq 6],ou 8 7,om 4 8] [0,1,2,3] [2,3]:=⟨rx,rx⟩
def AHY:=rg Tryz.f176
def API:bq:=(.seq (AHY 2) (.seq (AHY 5) .ret))
theorem b176:Tryz.f176.body=some API:=by kernel_rfl
@[simp] theorem BI5:SX 8 (AHY 2) [ot 3 false] [0,1] []/\SX 8 (AHY 5) [ol 4 177 1,om 5 0,oq 6 (.call false none (tq 4) [tq 5]),ou 7 6,om 3 7] [0,1,2] [2]:=⟨rx,rx⟩
def P7:=rg Tryz.f191
@[simp] def AB2:bq:=(.seq (P7 69) (.seq (.cond (.tmp 9) .skip (.exit 0)) (.seq (.block 1 (.seq (P7 1125) (.seq (P7 2661) (.cond (.tmp 16) (.seq (P7 9829) .ret) .skip)))) (P7 485))))
def SD:=AB2
def APJ:bq:=(.seq (P7 2) (.seq (.seq (P7 9) (.block 0 (.loop SD))) (.seq (P7 11) .ret)))
theorem b191:Tryz.f191.body=some APJ:=by kernel_rfl
@[simp] theorem BI6:UX 19 SD AB2/\SX 19 (P7 2) [ok 4 0] [0,1] []/\SX 19 (P7 9) [om 6 0,oe 7 6 23,ok 8 0] [0,1] []/\SX 19 (P7 69) [ob 9 .lss 3 8 7] [0,1,7,8] []/\SX 19 (P7 1125) [om 10 8,om 5 10] [0,1,7,8] []/\SX 19 (P7 2661) [om 11 1,om 12 0,om 13 5,oi 14 23 12 13,ol 15 22 14,oq 16 (.call false none (tq 11) [tq 15])] [0,1,5,7,8] []/\SX 19 (P7 9829) [om 17 5,om 4 17] [5] []/\SX 19 (P7 485) [oc 18 .add 3 8 1,om 8 18] [0,1,3,7,8] []/\SX 19 (P7 11) [oq 4 (.mv (.const (.int .i64 (bj 0))))] [] []/\LX 19 SD [0,1,7,8] []:=⟨fun _ _=>rfl,rx,rx,rx,rx,rx,rx,rx,rx,lx⟩
def AHZ:=rg Tryz.f177
def A0W:bq:=(.seq (AHZ 2) (.seq (AHZ 5) .ret))
theorem b177:Tryz.f177.body=some A0W:=by kernel_rfl
@[simp] theorem BI7:SX 9 (AHZ 2) [ot 4 false] [0,1] [7]/\SX 9 (AHZ 5) [om 5 0,om 6 1,od 7 191 [tq 5,tq 6],oc 8 .geq 3 7 0,om 4 8] [0,1,2,3] [2,3]:=⟨rx,rx⟩
def AH0:=rg Tryz.f147
def APK:bq:=(.seq (AH0 2) (.seq (AH0 5) .ret))
theorem b147:Tryz.f147.body=some APK:=by kernel_rfl
@[simp] theorem BI8:SX 9 (AH0 2) [oq 3 (.box (tq 1)),ot 4 false] [0,1,2] [3]/\SX 9 (AH0 5) [om 5 0,oq 6 (.oth (.makeFunc (.func 178) #[] #[tq 3])),od 7 177 [tq 5,tq 6],ou 8 7,om 4 8] [0,1,2,3] [2,3]:=⟨rx,rx⟩
def AH1:=rg Tryz.f178
def APL:bq:=(.seq (AH1 2) (.seq (AH1 5) .ret))
theorem b178:Tryz.f178.body=some APL:=by kernel_rfl
@[simp] theorem BI9:SX 8 (AH1 2) [ot 3 false] [0,1] []/\SX 8 (AH1 5) [ol 4 193 1,om 5 0,oq 6 (.call false none (tq 4) [tq 5]),ou 7 6,om 3 7] [0,1,2] [2]:=⟨rx,rx⟩
def AH2:=rg Tryz.f143
def A0X:bq:=(.seq (AH2 2) (.seq (AH2 5) .ret))
theorem BBX:Tryz.f143.body=some A0X:=by kernel_rfl
@[simp] theorem BJA:SX 15 (AH2 2) [ot 6 false] [0,1,2] []/\SX 15 (AH2 5) [om 7 1,om 8 0,ob 9 .leq 3 7 8,om 10 9,gm 10 true 11 0,gm 10 true 12 2,gb 10 true 13 .leq 3 11 12,oq 14 (.pick (tq 10) (tq 13) (cb false)),om 6 14] [0,1,2] []:=⟨rx,rx⟩
def AH3:=rg Tryz.f145
def A0Y:bq:=(.seq (AH3 2) (.seq (AH3 5) .ret))
theorem BBY:Tryz.f145.body=some A0Y:=by kernel_rfl
@[simp] theorem BJB:SX 5 (AH3 2) [ot 2 false] [0] []/\SX 5 (AH3 5) [om 3 0,od 4 143 [tq 3,ci 0,ci 3],om 2 4] [0,1,2] [1,2]:=⟨rx,rx⟩
def AH4:=rg Tryz.f146
def A0Z:bq:=(.seq (AH4 2) (.seq (AH4 5) .ret))
theorem BBZ:Tryz.f146.body=some A0Z:=by kernel_rfl
@[simp] theorem BJC:SX 5 (AH4 2) [ot 2 false] [0] []/\SX 5 (AH4 5) [om 3 0,od 4 143 [tq 3,.const (.int .i64 (bj 0)),ci 3],om 2 4] [0,1,2] [1,2]:=⟨rx,rx⟩
def xI:=rg Tryz.f148
def APM:bq:=(.seq (xI 2) (.seq (xI 5) (.seq (xI 11) .ret)))
theorem BB0:Tryz.f148.body=some APM:=by kernel_rfl
@[simp] theorem BJD:SX 12 (xI 2) [ot 2 false] [0] []/\SX 12 (xI 5) [oq 3 (.alloc 3),os (.sto 3 (tq 3) (.const (.int .i64 (bj 0))))] [0] []/\SX 12 (xI 11) [om 4 0,oe 5 4 22,oc 6 .gtr 3 5 0,om 7 6,gm 7 true 8 0,og 7 true 9 (.oth (.makeFunc (.func 179) #[] #[tq 3])),gd 7 true 10 144 [tq 8,tq 9],oq 11 (.pick (tq 7) (tq 10) (cb false)),om 2 11] [0,3] [3]:=⟨rx,rx,rx⟩
def jT:=rg Tryz.f179
def A00:bq:=(.seq (jT 2) (.seq (jT 5) (.seq (jT 11) (.seq (jT 23) .ret))))
theorem b179:Tryz.f179.body=some A00:=by kernel_rfl
@[simp] theorem BJE:SX 11 (jT 2) [ot 3 false] [0,1] []/\SX 11 (jT 5) [om 5 0,ol 6 3 1,oc 7 .add 3 6 1,od 8 143 [tq 5,tq 7,ci 3],om 4 8] [0,1] []/\SX 11 (jT 11) [om 9 0,os (.sto 3 (tq 1) (tq 9))] [0,1,4] []/\SX 11 (jT 23) [om 10 4,om 3 10] [4] []:=⟨rx,rx,rx,rx⟩
def AH5:=rg Tryz.f174
def A01:bq:=(.seq (AH5 2) (.seq (AH5 5) .ret))
theorem BB1:Tryz.f174.body=some A01:=by kernel_rfl
@[simp] theorem BJF:SX 9 (AH5 2) [oq 2 (.box (tq 0)),ot 4 false] [0,1] [2]/\SX 9 (AH5 5) [om 5 1,oz 6 40 2 0,ol 7 3 6,od 8 143 [tq 5,ci 0,tq 7],om 4 8] [0,1,2,3] [2,3]:=⟨rx,rx⟩
def AH6:=rg Tryz.f141
def A02:bq:=(.seq (AH6 2) (.seq (AH6 5) .ret))
theorem BB2:Tryz.f141.body=some A02:=by kernel_rfl
@[simp] theorem BJG:SX 19 (AH6 2) [oq 2 (.box (tq 0)),oq 3 (.box (tq 1)),ot 4 false] [0,1] [2]/\SX 19 (AH6 5) [oz 5 86 3 0,ol 6 3 5,oz 7 40 2 1,ol 8 3 7,oc 9 .sub 3 8 1,od 10 143 [tq 6,ci 0,tq 9],om 11 10,gz 11 true 12 86 3 1,gl 11 true 13 3 12,gz 11 true 14 40 2 2,gl 11 true 15 3 14,gc 11 true 16 .sub 3 15 1,gd 11 true 17 143 [tq 13,ci 0,tq 16],oq 18 (.pick (tq 11) (tq 17) (cb false)),om 4 18] [2,3] [2,3]:=⟨rx,rx⟩
def AH7:=rg Tryz.f142
def A03:bq:=(.seq (AH7 2) (.seq (AH7 5) .ret))
theorem BB3:Tryz.f142.body=some A03:=by kernel_rfl
@[simp] theorem BJH:SX 14 (AH7 2) [oq 2 (.box (tq 0)),oq 3 (.box (tq 1)),ot 4 false] [0,1] [2]/\SX 14 (AH7 5) [ol 5 40 2,oz 6 99 3 0,ol 7 3 6,od 8 174 [tq 5,tq 7],om 9 8,gz 9 true 10 99 3 1,gl 9 true 11 3 10,gd 9 true 12 145 [tq 11],oq 13 (.pick (tq 9) (tq 12) (cb false)),om 4 13] [1,2,3,4] [2,3,4]:=⟨rx,rx⟩
def P8:=rg Tryz.f192
@[simp] def AB3:bq:=(.seq (P8 69) (.seq (.cond (.tmp 9) .skip (.exit 0)) (.seq (.block 1 (.seq (P8 1125) (.seq (P8 2661) (.cond (.tmp 16) (.seq (P8 9829) .ret) .skip)))) (P8 485))))
def SE:=AB3
def APN:bq:=(.seq (P8 2) (.seq (.seq (P8 9) (.block 0 (.loop SE))) (.seq (P8 11) .ret)))
theorem b192:Tryz.f192.body=some APN:=by kernel_rfl
@[simp] theorem BJI:UX 19 SE AB3/\SX 19 (P8 2) [ok 4 0] [0,1] []/\SX 19 (P8 9) [om 6 0,oe 7 6 37,ok 8 0] [0,1] []/\SX 19 (P8 69) [ob 9 .lss 3 8 7] [0,1,7,8] []/\SX 19 (P8 1125) [om 10 8,om 5 10] [0,1,7,8] []/\SX 19 (P8 2661) [om 11 1,om 12 0,om 13 5,oi 14 37 12 13,ol 15 86 14,oq 16 (.call false none (tq 11) [tq 15])] [0,1,5,7,8] []/\SX 19 (P8 9829) [om 17 5,om 4 17] [5] []/\SX 19 (P8 485) [oc 18 .add 3 8 1,om 8 18] [0,1,3,7,8] []/\SX 19 (P8 11) [oq 4 (.mv (.const (.int .i64 (bj 0))))] [] []/\LX 19 SE [0,1,7,8] []:=⟨fun _ _=>rfl,rx,rx,rx,rx,rx,rx,rx,rx,lx⟩
def AH8:=rg Tryz.f180
def A04:bq:=(.seq (AH8 2) (.seq (AH8 5) .ret))
theorem b180:Tryz.f180.body=some A04:=by kernel_rfl
@[simp] theorem BJJ:SX 9 (AH8 2) [ot 4 false] [0,1] [7]/\SX 9 (AH8 5) [om 5 0,om 6 1,od 7 192 [tq 5,tq 6],oc 8 .geq 3 7 0,om 4 8] [0,1,2,3] [2,3]:=⟨rx,rx⟩
def AH9:=rg Tryz.f149
def A05:bq:=(.seq (AH9 2) (.seq (AH9 5) .ret))
theorem BB4:Tryz.f149.body=some A05:=by kernel_rfl
@[simp] theorem BJK:SX 9 (AH9 2) [oq 3 (.box (tq 1)),ot 4 false] [0,1,2] [3]/\SX 9 (AH9 5) [om 5 0,oq 6 (.oth (.makeFunc (.func 181) #[] #[tq 3])),od 7 180 [tq 5,tq 6],ou 8 7,om 4 8] [0,1,2,3] [2,3]:=⟨rx,rx⟩
def AIA:=rg Tryz.f181
def A06:bq:=(.seq (AIA 2) (.seq (AIA 5) .ret))
theorem b181:Tryz.f181.body=some A06:=by kernel_rfl
@[simp] theorem BJL:SX 8 (AIA 2) [oq 2 (.box (tq 0)),ot 3 false] [0,1] []/\SX 8 (AIA 5) [ol 4 225 1,ol 5 86 2,oq 6 (.call false none (tq 4) [tq 5]),ou 7 6,om 3 7] [0,1,2] [2]:=⟨rx,rx⟩
def P9:=rg Tryz.f193
@[simp] def AB4:bq:=(.seq (P9 69) (.seq (.cond (.tmp 9) .skip (.exit 0)) (.seq (.block 1 (.seq (P9 1125) (.seq (P9 2661) (.cond (.tmp 16) (.seq (P9 9829) .ret) .skip)))) (P9 485))))
def SF:=AB4
def APO:bq:=(.seq (P9 2) (.seq (.seq (P9 9) (.block 0 (.loop SF))) (.seq (P9 11) .ret)))
theorem b193:Tryz.f193.body=some APO:=by kernel_rfl
@[simp] theorem BJM:UX 19 SF AB4/\SX 19 (P9 2) [ok 4 0] [0,1] []/\SX 19 (P9 9) [om 6 0,oe 7 6 38,ok 8 0] [0,1] []/\SX 19 (P9 69) [ob 9 .lss 3 8 7] [0,1,7,8] []/\SX 19 (P9 1125) [om 10 8,om 5 10] [0,1,7,8] []/\SX 19 (P9 2661) [om 11 1,om 12 0,om 13 5,oi 14 38 12 13,ol 15 99 14,oq 16 (.call false none (tq 11) [tq 15])] [0,1,5,7,8] []/\SX 19 (P9 9829) [om 17 5,om 4 17] [5] []/\SX 19 (P9 485) [oc 18 .add 3 8 1,om 8 18] [0,1,3,7,8] []/\SX 19 (P9 11) [oq 4 (.mv (.const (.int .i64 (bj 0))))] [] []/\LX 19 SF [0,1,7,8] []:=⟨fun _ _=>rfl,rx,rx,rx,rx,rx,rx,rx,rx,lx⟩
def AIB:=rg Tryz.f182
def A07:bq:=(.seq (AIB 2) (.seq (AIB 5) .ret))
theorem b182:Tryz.f182.body=some A07:=by kernel_rfl
@[simp] theorem BJN:SX 9 (AIB 2) [ot 4 false] [0,1] [7]/\SX 9 (AIB 5) [om 5 0,om 6 1,od 7 193 [tq 5,tq 6],oc 8 .geq 3 7 0,om 4 8] [0,1,2,3] [2,3]:=⟨rx,rx⟩
def AIC:=rg Tryz.f150
def A08:bq:=(.seq (AIC 2) (.seq (AIC 5) .ret))
theorem BB5:Tryz.f150.body=some A08:=by kernel_rfl
@[simp] theorem BJO:SX 9 (AIC 2) [oq 3 (.box (tq 1)),ot 4 false] [0,1,2] [3]/\SX 9 (AIC 5) [om 5 0,oq 6 (.oth (.makeFunc (.func 183) #[] #[tq 3])),od 7 182 [tq 5,tq 6],ou 8 7,om 4 8] [0,1,2,3] [2,3]:=⟨rx,rx⟩
def AID:=rg Tryz.f183
def A09:bq:=(.seq (AID 2) (.seq (AID 5) .ret))
theorem b183:Tryz.f183.body=some A09:=by kernel_rfl
@[simp] theorem BJP:SX 8 (AID 2) [oq 2 (.box (tq 0)),ot 3 false] [0,1] []/\SX 8 (AID 5) [ol 4 226 1,ol 5 99 2,oq 6 (.call false none (tq 4) [tq 5]),ou 7 6,om 3 7] [0,1,2] [2]:=⟨rx,rx⟩
def N4:=rg Tryz.f110
def N5:bq:=(.seq (N4 2) (.seq (N4 5) (.seq (.block 0 (.seq (N4 35) (.cond (.tmp 9) (.seq (N4 147) .ret) (.seq (N4 179) (.cond (.tmp 35) (.seq (N4 627) .ret) (.seq (N4 755) (.cond (.tmp 81) (.seq (N4 2547) .ret) .skip))))))) (.seq (N4 23) .ret))))
theorem BB6:Tryz.f110.body=some N5:=by kernel_rfl
@[simp] theorem BJQ:SX 112 (N4 2) [oq 1 (.box (tq 0)),ok 2 0] [0] [1,20,21,26,27,102,103,104]/\RX 112 (N4 5) (.drw [⟨[],[ol 5 40 1,oq 6 (.oth (.makeFunc (.func 141) #[tq 5] #[])),ol 7 40 1,oq 8 (.oth (.makeFunc (.func 142) #[tq 7] #[])),om 3 6,om 4 8],[]⟩]) (some ([1],[1]))/\SX 112 (N4 35) [oz 10 40 1 0,ol 11 3 10,oc 12 .gtr 3 11 4,om 13 12,gz 13 false 14 40 1 1,gl 13 false 15 3 14,gc 13 false 16 .gtr 3 15 3,oq 17 (.pick (tq 13) (cb true) (tq 16)),om 18 17,gz 18 false 19 40 1 2,gl 18 false 20 3 19,gc 18 false 21 .gtr 3 20 5,oq 22 (.pick (tq 18) (cb true) (tq 21)),om 23 22,gz 23 false 24 40 1 7,gl 23 false 25 37 24,ge 23 false 26 25 37,gc 23 false 27 .gtr 3 26 4,oq 28 (.pick (tq 23) (cb true) (tq 27)),om 29 28,gz 29 false 30 40 1 8,gl 29 false 31 38 30,ge 29 false 32 31 38,gc 29 false 33 .gtr 3 32 5,oq 34 (.pick (tq 29) (cb true) (tq 33)),om 9 34] [1,3,4] [1]/\SX 112 (N4 147) [ok 2 3] [] []/\SX 112 (N4 179) [oz 36 40 1 0,ol 37 3 36,oc 38 .lss 3 37 0,om 39 38,gz 39 false 40 40 1 1,gl 39 false 41 3 40,gc 39 false 42 .lss 3 41 1,oq 43 (.pick (tq 39) (cb true) (tq 42)),om 44 43,gz 44 false 45 40 1 2,gl 44 false 46 3 45,gc 44 false 47 .lss 3 46 1,oq 48 (.pick (tq 44) (cb true) (tq 47)),om 49 48,gz 49 false 50 40 1 3,gl 49 false 51 3 50,gd 49 false 52 143 [tq 51,ci 0,ci 4],og 49 false 53 (.oth (.unOp .not 4 (tq 52))),oq 54 (.pick (tq 49) (cb true) (tq 53)),om 55 54,gz 55 false 56 40 1 4,gl 55 false 57 22 56,ge 55 false 58 57 22,gz 55 false 59 40 1 1,gl 55 false 60 3 59,gb 55 false 61 .neq 3 58 60,oq 62 (.pick (tq 55) (cb true) (tq 61)),om 63 62,gz 63 false 64 40 1 5,gl 63 false 65 22 64,ge 63 false 66 65 22,gz 63 false 67 40 1 0,gl 63 false 68 3 67,gc 63 false 69 .add 3 68 1,gb 63 false 70 .neq 3 66 69,oq 71 (.pick (tq 63) (cb true) (tq 70)),om 72 71,gz 72 false 73 40 1 6,gl 72 false 74 23 73,ge 72 false 75 74 23,gz 72 false 76 40 1 0,gl 72 false 77 3 76,gc 72 false 78 .add 3 77 1,gb 72 false 79 .neq 3 75 78,oq 80 (.pick (tq 72) (cb true) (tq 79)),om 35 80] [1,3,4] [1]/\SX 112 (N4 627) [ok 2 1] [] []/\SX 112 (N4 755) [oz 82 40 1 4,ol 83 22 82,od 84 144 [tq 83,.func 145],ou 85 84,om 86 85,gz 86 false 87 40 1 5,gl 86 false 88 22 87,gd 86 false 89 144 [tq 88,.func 146],og 86 false 90 (.oth (.unOp .not 4 (tq 89))),oq 91 (.pick (tq 86) (cb true) (tq 90)),om 92 91,gz 92 false 93 40 1 6,gl 92 false 94 23 93,gd 92 false 95 147 [tq 94,.func 148],og 92 false 96 (.oth (.unOp .not 4 (tq 95))),oq 97 (.pick (tq 92) (cb true) (tq 96)),om 98 97,gz 98 false 99 40 1 7,gl 98 false 100 37 99,gm 98 false 101 3,gd 98 false 102 149 [tq 100,tq 101],og 98 false 103 (.oth (.unOp .not 4 (tq 102))),oq 104 (.pick (tq 98) (cb true) (tq 103)),om 105 104,gz 105 false 106 40 1 8,gl 105 false 107 38 106,gm 105 false 108 4,gd 105 false 109 150 [tq 107,tq 108],og 105 false 110 (.oth (.unOp .not 4 (tq 109))),oq 111 (.pick (tq 105) (cb true) (tq 110)),om 81 111] [1,3,4] [1]/\SX 112 (N4 2547) [ok 2 1] [] []/\SX 112 (N4 23) [ok 2 0] [] []:=by and_intros<;>exact rx
def AIE:=rg Tryz.f111
def APP:bq:=(.seq (AIE 2) (.seq (AIE 5) .ret))
theorem BB7:Tryz.f111.body=some APP:=by kernel_rfl
@[simp] theorem BJR:SX 16 (AIE 2) [oq 2 (.box (tq 0)),ot 4 false] [0,1] [2]/\SX 16 (AIE 5) [om 5 1,oe 6 5 23,oz 7 40 2 0,ol 8 3 7,oc 9 .add 3 8 1,ob 10 .eql 3 6 9,om 11 10,gm 11 true 12 1,og 11 true 13 (.oth (.makeFunc (.func 151) #[] #[tq 2])),gd 11 true 14 147 [tq 12,tq 13],oq 15 (.pick (tq 11) (tq 14) (cb false)),om 4 15] [1,2] [2]:=⟨rx,rx⟩
def AIF:=rg Tryz.f151
def APQ:bq:=(.seq (AIF 2) (.seq (AIF 5) .ret))
theorem b151:Tryz.f151.body=some APQ:=by kernel_rfl
@[simp] theorem BJS:SX 13 (AIF 2) [ot 3 false] [0,1,2] [3,4,5,9]/\SX 13 (AIF 5) [om 4 0,oe 5 4 22,oz 6 40 1 1,ol 7 3 6,ob 8 .eql 3 5 7,om 9 8,gm 9 true 10 0,gd 9 true 11 144 [tq 10,.func 145],oq 12 (.pick (tq 9) (tq 11) (cb false)),om 3 12] [0,1] []:=⟨rx,rx⟩
def AIG:=rg Tryz.f194
def A1A:bq:=(.seq (AIG 2) (.seq (AIG 5) .ret))
theorem BB8:Tryz.f194.body=some A1A:=by kernel_rfl
@[simp] theorem BJT:SX 6 (AIG 2) [ok 2 0] [0,1] []/\SX 6 (AIG 5) [om 3 0,oc 4 .add 3 3 2,oc 5 .rem 3 4 4,om 2 5] [0,1] []:=⟨rx,rx⟩
def AIH:=rg Tryz.f195
def A1B:bq:=(.seq (AIH 2) (.seq (AIH 5) .ret))
theorem BB9:Tryz.f195.body=some A1B:=by kernel_rfl
@[simp] theorem BJU:SX 11 (AIH 2) [oq 3 (.box (tq 0)),oq 4 (.box (tq 1)),oq 5 (.box (tq 2)),ot 6 false] [0,1,2] [3,4,5]/\SX 11 (AIH 5) [oz 7 40 3 7,ol 8 37 7,oq 9 (.oth (.makeFunc (.func 199) #[] #[tq 5,tq 4,tq 3])),od 10 180 [tq 8,tq 9],om 6 10] [3,4,5] [3,4,5]:=⟨rx,rx⟩
def K3:=rg Tryz.f199
def AB5:bq:=(.seq (K3 2) (.seq (K3 5) (.seq (.block 0 (.seq (K3 35) (.cond (.tmp 7) (K3 83) (.seq (K3 179) (.cond (.tmp 22) (K3 371) (.seq (K3 755) (.cond (.tmp 37) (K3 1523) (.seq (K3 3059) (.cond (.tmp 52) (K3 6131) .skip))))))))) (.seq (K3 23) .ret))))
theorem b199:Tryz.f199.body=some AB5:=by kernel_rfl
@[simp] theorem BJV:SX 71 (K3 2) [oq 4 (.box (tq 0)),ot 5 false] [0,1,2,3] []/\SX 71 (K3 5) [ok 6 0] [1,2,3,4] [4]/\SX 71 (K3 35) [ol 8 3 1,oc 9 .eql 3 8 0,om 10 9,gz 10 true 11 86 4 1,gl 10 true 12 3 11,gz 10 true 13 86 2 1,gl 10 true 14 3 13,gb 10 true 15 .eql 3 12 14,oq 16 (.pick (tq 10) (tq 15) (cb false)),om 7 16] [1,2,3,4,6] [4]/\SX 71 (K3 83) [oz 17 86 2 0,ol 18 3 17,oz 19 86 4 0,ol 20 3 19,ob 21 .sub 3 18 20,om 6 21] [2,3,4] [4]/\SX 71 (K3 179) [ol 23 3 1,oc 24 .eql 3 23 2,om 25 24,gz 25 true 26 86 4 1,gl 25 true 27 3 26,gz 25 true 28 86 2 1,gl 25 true 29 3 28,gb 25 true 30 .eql 3 27 29,oq 31 (.pick (tq 25) (tq 30) (cb false)),om 22 31] [1,2,3,4,6] [4]/\SX 71 (K3 371) [oz 32 86 4 0,ol 33 3 32,oz 34 86 2 0,ol 35 3 34,ob 36 .sub 3 33 35,om 6 36] [2,3,4] [4]/\SX 71 (K3 755) [ol 38 3 1,oc 39 .eql 3 38 3,om 40 39,gz 40 true 41 86 4 0,gl 40 true 42 3 41,gz 40 true 43 86 2 0,gl 40 true 44 3 43,gb 40 true 45 .eql 3 42 44,oq 46 (.pick (tq 40) (tq 45) (cb false)),om 37 46] [1,2,3,4,6] [4]/\SX 71 (K3 1523) [oz 47 86 2 1,ol 48 3 47,oz 49 86 4 1,ol 50 3 49,ob 51 .sub 3 48 50,om 6 51] [2,3,4] [4]/\SX 71 (K3 3059) [ol 53 3 1,oc 54 .eql 3 53 1,om 55 54,gz 55 true 56 86 4 0,gl 55 true 57 3 56,gz 55 true 58 86 2 0,gl 55 true 59 3 58,gb 55 true 60 .eql 3 57 59,oq 61 (.pick (tq 55) (tq 60) (cb false)),om 52 61] [1,2,3,4,6] [4]/\SX 71 (K3 6131) [oz 62 86 4 1,ol 63 3 62,oz 64 86 2 1,ol 65 3 64,ob 66 .sub 3 63 65,om 6 66] [2,3,4] [4]/\SX 71 (K3 23) [om 67 6,oz 68 40 3 3,ol 69 3 68,od 70 143 [tq 67,ci 1,tq 69],om 5 70] [3,6] []:=by and_intros<;>exact rx
def AII:=rg Tryz.f184
def A1C:bq:=(.seq (AII 2) (.seq (AII 5) .ret))
theorem BCA:Tryz.f184.body=some A1C:=by kernel_rfl
@[simp] theorem BJW:SX 19 (AII 2) [oq 4 (.box (tq 0)),oq 5 (.box (tq 1)),ot 8 false] [0,1,2,3] [4]/\SX 19 (AII 5) [om 9 2,om 10 3,od 11 194 [tq 10],ob 12 .eql 3 9 11,om 13 12,gl 13 false 14 40 4,gl 13 false 15 86 5,gm 13 false 16 3,gd 13 false 17 195 [tq 14,tq 15,tq 16],oq 18 (.pick (tq 13) (cb true) (tq 17)),om 8 18] [2,3,4,5] [4,5]:=⟨rx,rx⟩
def QA:=rg Tryz.f153
def A1D:bq:=(.seq (QA 2) (.seq (QA 5) (.seq (.seq (QA 19) (.cond (.tmp 25) (QA 43) .skip)) (.seq (.seq (QA 39) (.cond (.tmp 27) (QA 87) .skip)) (.seq (QA 47) (.seq (QA 95) .ret))))))
theorem BCB:Tryz.f153.body=some A1D:=by kernel_rfl
@[simp] theorem BJX:SX 36 (QA 2) [oq 5 (.box (tq 0)),oq 6 (.box (tq 1)),oq 10 (.alloc 155)] [0,1,2,3,4] [5]/\RX 36 (QA 5) (.drw [⟨[],[oz 13 40 5 5,ol 14 22 13,om 15 2,oi 16 22 14 15,ol 17 3 16,om 18 3,ob 19 .eql 3 17 18,ol 20 40 5,ol 21 86 6,om 22 3,om 23 4,od 24 184 [tq 20,tq 21,tq 22,tq 23],om 11 19,om 12 24],[]⟩]) (some ([2,3,4,5,6,10],[5,6,10]))/\SX 36 (QA 19) [om 25 11] [10,11,12] [10]/\SX 36 (QA 43) [oz 26 155 10 0,os (.sto 3 (tq 26) (ci 1))] [10,12] [10]/\SX 36 (QA 39) [om 27 12] [10,12] [10]/\SX 36 (QA 87) [oz 28 155 10 1,os (.sto 3 (tq 28) (ci 1))] [10] [10]/\SX 36 (QA 47) [oz 29 155 10 0,ol 30 3 29,oz 31 155 10 1,ol 32 3 31,ob 33 .mul 3 30 32,oz 34 155 10 2,os (.sto 3 (tq 34) (tq 33))] [10] [10]/\SX 36 (QA 95) [ol 35 155 10,os (.sto 155 (tq 10) (tq 35))] [10] [10]:=by and_intros<;>exact rx
def QB:=rg Tryz.f101
@[simp] def AB6:bq:=(lp (QB 267) 12 0 1 (.seq (QB 1099) (QB 1611)) (QB 459))
def SG:=AB6
def A1E:bq:=(.seq (QB 2) (.seq (QB 5) (.seq (.seq (QB 19) (.block 0 (.loop SG))) (.seq (QB 23) .ret))))
theorem BCC:Tryz.f101.body=some A1E:=by kernel_rfl
@[simp] theorem BJY:UX 35 SG AB6/\SX 35 (QB 2) [oq 2 (.box (tq 0)),oq 4 (.mv (.const (.slice none 0 0)))] [0,1] [2]/\SX 35 (QB 5) [oq 5 (.mv (.const (.slice none 0 0)))] [1,2] [2]/\SX 35 (QB 19) [ok 6 0] [1,2,5] [2,29]/\SX 35 (QB 267) [om 8 6,oz 9 27 2 6,ol 10 23 9,oe 11 10 23,ob 12 .lss 3 8 11] [1,2,5,6] [2,29]/\SX 35 (QB 1099) [oz 15 27 2 6,ol 16 23 15,om 17 6,oi 18 23 16 17,ol 19 22 18,om 7 19] [1,2,5,6] [2,29]/\RX 35 (QB 1611) (.drw [⟨[],[om 20 5,om 21 7,om 22 1,om 23 7,oe 24 23 22,ob 25 .rem 3 22 24,oi 26 22 21 25,ol 27 3 26,oq 28 (.buildS 22 1 [(0,tq 27)]),om 30 1,om 31 7,oe 32 31 22,ob 33 .quo 3 30 32,oq 29 (.app [tq 20,tq 28] [22,22]),om 5 29,om 1 33],[]⟩]) (some ([1,2,5,6,7],[2,29]))/\SX 35 (QB 459) [om 13 6,oc 14 .add 3 13 1,om 6 14] [1,2,5,6] [2,29]/\SX 35 (QB 23) [om 34 5,om 4 34] [5] [29]/\LX 35 SG [1,2,5,6] [2,29]:=⟨fun _ _=>rfl,rx,rx,rx,rx,rx,rx,rx,rx,lx⟩
def QC:=rg Tryz.f170
@[simp] def AB7:bq:=(.seq (QC 69) (.seq (.cond (.tmp 9) .skip (.exit 0)) (.seq (.block 1 (.seq (QC 1125) (.seq (QC 2661) (.cond (.tmp 16) (.seq (QC 9829) .ret) .skip)))) (QC 485))))
def SH:=AB7
def APR:bq:=(.seq (QC 2) (.seq (.seq (QC 9) (.block 0 (.loop SH))) (.seq (QC 11) .ret)))
theorem A1F:Tryz.f170.body=some APR:=by kernel_rfl
@[simp] theorem BJZ:UX 19 SH AB7/\SX 19 (QC 2) [ok 4 0] [0,1] []/\SX 19 (QC 9) [om 6 0,oe 7 6 22,ok 8 0] [0,1] []/\SX 19 (QC 69) [ob 9 .lss 3 8 7] [0,1,7,8] []/\SX 19 (QC 1125) [om 10 8,om 5 10] [0,1,7,8] []/\SX 19 (QC 2661) [om 11 1,om 12 0,om 13 5,oi 14 22 12 13,ol 15 3 14,ob 16 .eql 3 11 15] [0,1,5,7,8] []/\SX 19 (QC 9829) [om 17 5,om 4 17] [5] []/\SX 19 (QC 485) [oc 18 .add 3 8 1,om 8 18] [0,1,3,7,8] []/\SX 19 (QC 11) [oq 4 (.mv (.const (.int .i64 (bj 0))))] [] []/\LX 19 SH [0,1,7,8] []:=⟨fun _ _=>rfl,rx,rx,rx,rx,rx,rx,rx,rx,lx⟩
def AIJ:=rg Tryz.f132
def A1G:bq:=(.seq (AIJ 2) (.seq (AIJ 5) .ret))
theorem BCD:Tryz.f132.body=some A1G:=by kernel_rfl
@[simp] theorem BJ0:SX 9 (AIJ 2) [ot 4 false] [0,1] [7]/\SX 9 (AIJ 5) [om 5 0,om 6 1,od 7 170 [tq 5,tq 6],oc 8 .geq 3 7 0,om 4 8] [0,1,2,3] [2,3]:=⟨rx,rx⟩
def QD:=rg Tryz.f164
@[simp] def AB8:bq:=(.seq (QD 69) (.seq (.cond (.tmp 13) .skip (.exit 0)) (.seq (.block 1 (.seq (QD 1125) (.seq (QD 2661) (.cond (.tmp 30) (.seq (QD 9829) .ret) .skip)))) (QD 485))))
def SI:=AB8
def A1H:bq:=(.seq (QD 2) (.seq (.seq (QD 9) (.block 0 (.loop SI))) (.seq (QD 11) .ret)))
theorem BCE:Tryz.f164.body=some A1H:=by kernel_rfl
@[simp] theorem BJ1:UX 32 SI AB8/\SX 32 (QD 2) [oq 3 (.box (tq 0)),ot 6 false] [0,1,2] [3]/\SX 32 (QD 9) [oz 9 40 3 8,ol 10 38 9,oe 11 10 38,ok 12 0] [1,2,3] [3]/\SX 32 (QD 69) [ob 13 .lss 3 12 11] [1,2,10,11,12] [3]/\SX 32 (QD 1125) [om 14 12,oi 15 38 10 12,ol 16 99 15,oq 8 (.alloc 99),om 7 14,os (.sto 99 (tq 8) (tq 16))] [1,2,10,11,12] [3]/\RX 32 (QD 2661) (.drw [⟨[],[om 17 2,om 18 7],[od 19 132 [tq 17,tq 18]]⟩,⟨[],[ou 20 19,om 21 20,gm 21 true 22 1,gz 21 true 23 99 8 0,gl 21 true 24 3 23,gi 21 true 25 22 22 24,gl 21 true 26 3 25,gz 21 true 27 99 8 1,gl 21 true 28 3 27,gb 21 true 29 .neq 3 26 28,oq 30 (.pick (tq 21) (tq 29) (cb false))],[]⟩]) (some ([1,2,7,8,10,11,12],[3,8]))/\SX 32 (QD 9829) [ot 6 false] [] []/\SX 32 (QD 485) [oc 31 .add 3 12 1,om 12 31] [1,2,10,11,12] [3]/\SX 32 (QD 11) [ot 6 true] [] []/\LX 32 SI [1,2,10,11,12] [3]:=⟨fun _ _=>rfl,rx,rx,rx,rx,rx,rx,rx,rx,lx⟩
def OE:=rg Tryz.f165
@[simp] def AB9:bq:=(lp (OE 535) 15 0 1 (OE 1175) (OE 919))
def fY:=AB9
def A1I:bq:=(.seq (OE 2) (.seq (.seq (OE 9) (.cond (.tmp 7) (OE 21) .skip)) (.seq (OE 11) (.seq (.seq (OE 39) (.block 0 (.loop fY))) (.seq (OE 47) .ret)))))
theorem BCF:Tryz.f165.body=some A1I:=by kernel_rfl
@[simp] theorem BJ2:UX 25 fY AB9/\SX 25 (OE 2) [ok 2 0] [0] []/\SX 25 (OE 9) [om 5 0,oe 6 5 22,oc 7 .lss 3 6 1] [0] []/\SX 25 (OE 11) [om 9 0,oq 10 (.oth (.indexAddr 22 (tq 9) (ci 0))),ol 11 3 10,om 3 11] [0] []/\SX 25 (OE 39) [ok 4 1] [0,3] []/\SX 25 (OE 535) [om 12 4,om 13 0,oe 14 13 22,ob 15 .lss 3 12 14] [0,3,4] []/\SX 25 (OE 1175) [om 18 3,om 19 0,om 20 4,oi 21 22 19 20,ol 22 3 21,oq 23 (.oth (.call ⟨.builtin .min,#[tq 18,tq 22],#[3,3]⟩)),om 3 23] [0,3,4] []/\SX 25 (OE 919) [om 16 4,oc 17 .add 3 16 1,om 4 17] [0,3,4] []/\SX 25 (OE 47) [om 24 3,om 2 24] [3] []/\LX 25 fY [0,3,4] []:=⟨fun _ _=>rfl,rx,rx,rx,rx,rx,rx,rx,rx,lx⟩
def AIK:=rg Tryz.f198
def A1J:bq:=(.seq (AIK 2) (.seq (AIK 5) .ret))
theorem BCG:Tryz.f198.body=some A1J:=by kernel_rfl
@[simp] theorem BJ3:SX 5 (AIK 2) [ok 2 0] [0] []/\SX 5 (AIK 5) [om 3 0,od 4 165 [tq 3],om 2 4] [0,1,2] [1,2]:=⟨rx,rx⟩
def AIL:=rg Tryz.f186
def A1K:bq:=(.seq (AIL 2) (.seq (AIL 5) .ret))
theorem BCH:Tryz.f186.body=some A1K:=by kernel_rfl
@[simp] theorem BJ4:SX 15 (AIL 2) [oq 2 (.box (tq 0)),oq 4 (.alloc 207)] [0,1] []/\RX 15 (AIL 5) (.drw [⟨[],[oz 5 207 2 0,oq 6 (.ldz 3 (tq 5)),om 7 1,oq 8 (.buildS 22 2 [(0,tq 6),(1,tq 7)]),od 9 198 [tq 8],oz 10 207 2 1,oq 11 (.ldz 3 (tq 10)),om 12 1,oq 13 (.oth (.call ⟨.builtin .max,#[tq 11,tq 12],#[3,3]⟩)),oq 14 (.build 207 [(0,tq 9),(1,tq 13)])],[os (.sto 207 (tq 4) (tq 14))]⟩]) (some ([1,2,4],[2,4])):=⟨rx,rx⟩
def cG:=rg Tryz.f196
def A1L:bq:=(.seq (cG 2) (.seq (cG 5) (.seq (cG 11) (.seq (cG 23) (cG 31)))))
theorem b196:Tryz.f196.body=some A1L:=by kernel_rfl
@[simp] theorem BJ5:SX 13 (cG 2) [oq 3 (.box (tq 0))] [0,1,2] [3,4,5,9]/\SX 13 (cG 5) [oz 6 40 1 0,ol 7 3 6,oc 8 .add 3 7 1,oq 9 (.mkS 22 (tq 8) (tq 8)),oq 4 (.alloc 22),os (.sto 22 (tq 4) (tq 9))] [1,2,3] [3,4,5,9]/\SX 13 (cG 11) [oq 5 (.alloc 177)] [1,2,3,4] [3,4,5,9]/\SX 13 (cG 23) [oq 10 (.oth (.makeFunc (.func 197) #[] #[tq 4,tq 1,tq 2,tq 3,tq 5])),os (.sto 177 (tq 5) (tq 10))] [1,2,3,4,5] [3,4,5,9]/\SX 13 (cG 31) [ol 11 177 5,oq 12 (.call false none (tq 11) [ci 0])] [5] [3,4,5,9]:=⟨rx,rx,rx,rx,rx⟩
def K4:=rg Tryz.f197
@[simp] def ACA:bq:=(.seq (K4 139) (.seq (.cond (.tmp 31) .skip (.exit 0)) (.seq (.block 1 (.seq (K4 2251) (.seq (K4 5323) (.seq (K4 11467) (.cond (.tmp 42) (.seq (K4 40139) .ret) .skip))))) (K4 971))))
def SJ:=ACA
def ACB:bq:=(.seq (K4 2) (.seq (.seq (K4 9) (.cond (.tmp 13) (.seq (K4 37) .ret) .skip)) (.seq (.seq (K4 19) (.block 0 (.loop SJ))) (.seq (K4 23) .ret))))
theorem b197:Tryz.f197.body=some ACB:=by kernel_rfl
@[simp] theorem BCI(n:Nat)(st:XS):AF bk ann kn (n+1) 44 (K4 37) st=QJ (K0 bk (cfU [20009,30009] (BL bk ann kn n)) (.str [ol 14 40 2,ol 15 22 1,ol 16 22 3,od 17 164 [tq 14,tq 15,tq 16],ou 18 17,om 19 18,gl 19 false 20 193 4,gl 19 false 21 22 1,og 19 false 22 (.call false none (tq 20) [tq 21]),oq 23 (.pick (tq 19) (cb true) (tq 22)),om 7 23]) (CJ (some ([1,2,3,4],[])) (LR [] st))) :=
 VZ (by kernel_rfl) (by kernel_rfl) (by kernel_rfl) (by kernel_rfl) (by kernel_rfl) (by kernel_rfl)
@[simp] theorem BJ6:UX 44 SJ ACA/\SX 44 (K4 2) [ot 7 false] [0,1,2,3,4,5] []/\SX 44 (K4 9) [om 10 0,ol 11 22 1,oe 12 11 22,ob 13 .eql 3 10 12] [0,1,2,3,4,5] []/\SX 44 (K4 19) [oz 24 40 2 6,ol 25 23 24,om 26 0,oi 27 23 25 26,ol 28 22 27,oe 29 28 22,ok 30 0] [0,1,2,5] []/\SX 44 (K4 139) [ob 31 .lss 3 30 29] [0,1,5,28,29,30] []/\SX 44 (K4 2251) [oi 32 22 28 30,ol 33 3 32,om 9 33] [0,1,5,28,29,30] []/\SX 44 (K4 5323) [ol 34 22 1,om 35 0,om 36 9,oi 37 22 34 35,os (.sto 3 (tq 37) (tq 36))] [0,1,5,9,28,29,30] []/\SX 44 (K4 11467) [ol 38 177 5,om 39 0,oc 40 .add 3 39 1,oq 41 (.call false none (tq 38) [tq 40]),ou 42 41] [0,1,5,28,29,30] []/\SX 44 (K4 40139) [ot 7 false] [] []/\SX 44 (K4 971) [oc 43 .add 3 30 1,om 30 43] [0,1,5,28,29,30] []/\SX 44 (K4 23) [ot 7 true] [] []/\LX 44 SJ [0,1,5,28,29,30] []:=⟨fun _ _=>rfl,rx,rx,rx,rx,rx,rx,rx,rx,rx,rx,lx⟩
def AIM:=rg Tryz.f185
def A1M:bq:=(.seq (AIM 2) (.seq (AIM 5) .ret))
theorem BCJ:Tryz.f185.body=some A1M:=by kernel_rfl
@[simp] theorem BJ7:SX 6 (AIM 2) [oq 2 (.box (tq 0)),oq 3 (.box (tq 1)),oq 4 (.mv (.const .nilFunc))] [0,1] [2,3]/\SX 6 (AIM 5) [oq 5 (.oth (.makeFunc (.func 196) #[] #[tq 2,tq 3])),om 4 5] [2,3] [2,3]:=⟨rx,rx⟩
def EB:=rg Tryz.f154
@[simp] def tV:bq:=(.seq (EB 36191) (.seq (.cond (.tmp 35) .skip (.exit 2)) (.seq (.block 3 (.seq (EB 576863) (.seq (EB 1363295) (.cond (.tmp 48) (EB 2936159) .skip)))) (EB 249183))))
def KH:=tV
def ACC:bq:=(.seq (EB 2) (.seq (.seq (EB 9) (.seq (EB 21) (.cond (.tmp 15) (.seq (EB 77) .ret) .skip))) (.seq (.seq (EB 19) (.cond (.tmp 19) (.seq (EB 75) .ret) .skip)) (.seq (EB 23) (.seq (EB 47) (.seq (.seq (EB 159) (.block 0 (.rangeFunc (.tmp 30) #[31] (EB 607) (.block 1 (.seq (EB 2399) (.seq (EB 5471) (.block 2 (.loop KH)))))))) (.seq (.seq (EB 319) (.cond (.tmp 67) (.seq (EB 1215) .ret) .skip)) (.seq (EB 383) .ret))))))))
theorem b154:Tryz.f154.body=some ACC:=by kernel_rfl
@[simp] theorem A8Q(n:Nat)(st:XS):AF bk ann kn (n+1) 69 (EB 1363295) st=QJ (K0 bk (cfU [20800,20801,20802,20803,20804] (BL bk ann kn n)) (.str [ol 39 233 7,oq 40 (.oth (.nilCheck (tq 39))),oz 41 250 40 1,ol 42 23 41,om 43 10,oi 44 23 42 43,ol 45 22 44,om 46 11,od 47 132 [tq 45,tq 46],ou 48 47]) (CJ (some ([7,10,11,32,33,34],[2,7,24,25,26,28,30,63,800,801,802,803,804])) (LR [] st))) :=
 VZ (by kernel_rfl) (by kernel_rfl) (by kernel_rfl) (by kernel_rfl) (by kernel_rfl) (by kernel_rfl)
@[simp] theorem A8R(n:Nat)(st:XS):AF bk ann kn (n+1) 69 (EB 249183) st=QJ (K0 bk (BL bk ann kn n) (.str [oc 65 .add 3 34 1,om 34 65]) (CJ (some ([7,32,33,34],[2,7,24,25,26,28,30,63,800,801,802,803,804])) (LR [25008011801063] st))) :=
 EC (by kernel_rfl) (by kernel_rfl) (by kernel_rfl) (by kernel_rfl) (by kernel_rfl)
@[simp] theorem A8S(n:Nat)(st:XS):AF bk ann kn (n+1) 69 (EB 383) st=QJ (K0 bk (BL bk ann kn n) (.str [ol 68 233 7,om 4 68,ok 5 0]) (CJ (some ([7],[2,7,24,25,26,28,30,63,800,801,802,803,804])) (LR [1000000000000024,24,901025,902026,903028] st))) :=
 EC (by kernel_rfl) (by kernel_rfl) (by kernel_rfl) (by kernel_rfl) (by kernel_rfl)
@[simp] theorem BJ8:UX 69 KH tV/\SX 69 (EB 2) [oq 2 (.box (tq 0)),oq 4 (.mv (.const (.pointer none))),ok 5 0] [0,1] [2,7,24,25,26,28,30,63,800,801,802,803,804]/\SX 69 (EB 9) [ol 12 40 2,od 13 110 [tq 12],om 6 13] [1,2] [2,7,24,25,26,28,30,63,800,801,802,803,804]/\SX 69 (EB 21) [om 14 6,oc 15 .neq 34 14 0] [1,2,6] [2,7,24,25,26,28,30,63,800,801,802,803,804]/\SX 69 (EB 77) [om 16 6,oq 4 (.mv (.const (.pointer none))),om 5 16] [6] []/\SX 69 (EB 19) [om 17 1,oq 18 (.call false none (tq 17) []),ou 19 18] [1,2] [2,7,24,25,26,28,30,63,800,801,802,803,804]/\SX 69 (EB 75) [oq 4 (.mv (.const (.pointer none))),ok 5 2] [] []/\RX 69 (EB 23) (.drw [⟨[24,25,26,28,7],[oq 20 (.ldz 40 (tq 2)),oz 21 40 2 0,oq 22 (.ldz 3 (tq 21)),oc 23 .add 3 22 1,oq 24 (.mkS 23 (tq 23) (tq 23)),oq 25 (.mkM none),oq 26 (.mkM none),oq 27 (.build 250 [(0,tq 20),(1,tq 24),(2,tq 25),(3,tq 26)]),oq 28 (.box (tq 27)),oq 7 (.alloc 233)],[os (.sto 233 (tq 7) (tq 28))]⟩]) (some ([2],[2,30,63]))/\SX 69 (EB 47) [oq 8 (.alloc 4),os (.sto 4 (tq 8) (cb false))] [2,7] [2,7,24,25,26,28,30,63,800,801,802,803,804]/\SX 69 (EB 159) [ol 29 40 2,od 30 185 [tq 29,.const (.slice none 0 0)]] [2,7,8] [2,7,8,24,25,26,28,30,63,800,801,802,803,804]/\SX 69 (EB 607) [om 9 31] [7,8,31] [2,7,8,24,25,26,28,30,63,800,801,802,803,804]/\SX 69 (EB 2399) [os (.sto 4 (tq 8) (cb true))] [7,8,9] [2,7,8,24,25,26,28,30,63,800,801,802,803,804]/\SX 69 (EB 5471) [om 32 9,oe 33 32 22,ok 34 0] [7,9] [2,7,24,25,26,28,30,63,800,801,802,803,804]/\SX 69 (EB 36191) [ob 35 .lss 3 34 33] [7,32,33,34] [2,7,24,25,26,28,30,63,800,801,802,803,804]/\SX 69 (EB 576863) [om 36 34,oi 37 22 32 34,ol 38 3 37,om 10 36,om 11 38] [7,32,33,34] [2,7,24,25,26,28,30,63,800,801,802,803,804]/\RX 69 (EB 2936159) (.drw [⟨[],[ol 49 233 7,oq 50 (.oth (.nilCheck (tq 49))),oz 51 250 50 1,ol 52 23 51,om 53 10,ol 54 233 7,oq 55 (.oth (.nilCheck (tq 54))),oz 56 250 55 1,ol 57 23 56,om 58 10,oi 59 23 57 58,oq 60 (.ldz 22 (tq 59)),om 61 11,oq 62 (.buildS 22 1 [(0,tq 61)]),oq 63 (.app [tq 60,tq 62] [22,22]),oi 64 23 52 53],[os (.sto 22 (tq 64) (tq 63))]⟩]) (some ([7,10,11,32,33,34],[2,7,24,25,26,28,30,63,800,801,802,803,804]))/\SX 69 (EB 319) [ol 66 4 8,ou 67 66] [7,8] [2,7,8,24,25,26,28,30,63,800,801,802,803,804]/\SX 69 (EB 1215) [oq 4 (.mv (.const (.pointer none))),ok 5 11] [] []/\LX 69 KH [7,32,33,34] [2,7,24,25,26,28,30,63,800,801,802,803,804]:=by and_intros<;>first|exact rx|exact lx|exact fun _ _=>rfl
def bY:=rg Tryz.f68
@[simp] def AMJ:bq:=(lp (bY 267) 28 0 1 (bY 587) (bY 459))
def YH:=AMJ
@[simp] def AMK:bq:=(lp (bY 535) 46 2 3 (bY 1175) (bY 919))
def YI:=AMK
def c68:bq:=(.seq (bY 2) (.seq (bY 5) (.seq (.seq (bY 19) (.block 0 (.loop YH))) (.seq (.seq (bY 39) (.block 2 (.loop YI))) (.seq (bY 47) .ret)))))
theorem b68:Tryz.f68.body=some c68:=by kernel_rfl
@[simp] theorem x68:UX 68 YH AMJ/\UX 68 YI AMK/\SX 68 (bY 2) [oq 1 (.box (tq 0)),oq 2 (.alloc 40)] [0] [1,2,3,16,19,22,40,65]/\RX 68 (bY 5) (.drw [⟨[3],[oz 6 27 1 0,oq 7 (.ldz 3 (tq 6)),oz 8 27 1 1,oq 9 (.ldz 3 (tq 8)),oz 10 27 1 2,oq 11 (.ldz 3 (tq 10)),oz 12 27 1 3,oq 13 (.ldz 3 (tq 12)),oz 14 27 1 4,oq 15 (.ldz 22 (tq 14)),od 16 114 [tq 15],oz 17 27 1 5,oq 18 (.ldz 22 (tq 17)),od 19 114 [tq 18],oz 20 27 1 6,oq 21 (.ldz 23 (tq 20)),od 22 115 [tq 21],oq 23 (.build 40 [(0,tq 7),(1,tq 9),(2,tq 11),(3,tq 13),(4,tq 16),(5,tq 19),(6,tq 22)]),oq 3 (.alloc 40)],[os (.sto 40 (tq 3) (tq 23))]⟩]) (some ([1,2],[1,2,40,65]))/\SX 68 (bY 19) [ok 4 0] [1,2,3] [1,2,3,16,19,22,40,65]/\SX 68 (bY 267) [om 24 4,oz 25 27 1 7,ol 26 24 25,oe 27 26 24,ob 28 .lss 3 24 27] [1,2,3,4] [1,2,3,16,19,22,40,65]/\RX 68 (bY 587) (.drw [⟨[],[oz 31 40 3 7,oq 32 (.ldz 37 (tq 31)),oz 33 27 1 7,ol 34 24 33,om 35 4,oi 36 24 34 35,ol 37 59 36,od 38 48 [tq 37],oq 39 (.buildS 37 1 [(0,tq 38)]),oq 40 (.app [tq 32,tq 39] [37,37]),oz 41 40 3 7],[os (.sto 37 (tq 41) (tq 40))]⟩]) (some ([1,2,3,4],[1,2,3,16,19,22,40,65]))/\SX 68 (bY 459) [om 29 4,oc 30 .add 3 29 1,om 4 30] [1,2,3,4] [1,2,3,16,19,22,40,65]/\SX 68 (bY 39) [ok 5 0] [1,2,3] [1,2,3,16,19,22,40,65]/\SX 68 (bY 535) [om 42 5,oz 43 27 1 8,ol 44 25 43,oe 45 44 25,ob 46 .lss 3 42 45] [1,2,3,5] [1,2,3,16,19,22,40,65]/\RX 68 (bY 1175) (.drw [⟨[],[oz 49 40 3 8,oq 50 (.ldz 38 (tq 49)),oz 51 27 1 8,ol 52 25 51,om 53 5,oi 54 25 52 53,oz 55 188 54 0,ol 56 3 55,oz 57 27 1 8,ol 58 25 57,om 59 5,oi 60 25 58 59,oz 61 188 60 1,ol 62 3 61,oq 63 (.build 99 [(0,tq 56),(1,tq 62)]),oq 64 (.buildS 38 1 [(0,tq 63)]),oq 65 (.app [tq 50,tq 64] [38,38]),oz 66 40 3 8],[os (.sto 38 (tq 66) (tq 65))]⟩]) (some ([1,2,3,5],[1,2,3,16,19,22,40,65]))/\SX 68 (bY 919) [om 47 5,oc 48 .add 3 47 1,om 5 48] [1,2,3,5] [1,2,3,16,19,22,40,65]/\SX 68 (bY 47) [ol 67 40 3,os (.sto 40 (tq 2) (tq 67))] [2,3] [1,2,3,16,19,22,40,65]/\LX 68 YH [1,2,3,4] [1,2,3,16,19,22,40,65]/\LX 68 YI [1,2,3,5] [1,2,3,16,19,22,40,65]:=by and_intros<;>first|exact rx|exact lx|exact fun _ _=>rfl
def JE:=rg Tryz.f157
@[simp] def ACD:bq:=(.seq (JE 71269) (.seq (.cond (.tmp 28) .skip (.exit 2)) (.seq (.block 3 (.seq (JE 1152613) (JE 1676901))) (JE 497253))))
def SK:=ACD
@[simp] def ACE:bq:=(.seq (JE 69) (.seq (.cond (.tmp 20) .skip (.exit 0)) (.seq (.block 1 (.seq (JE 1125) (.seq (JE 2661) (.seq (.seq (JE 9829) (.block 2 (.loop SK))) (JE 7781))))) (JE 485))))
def SL:=ACE
def A1N:bq:=(.seq (JE 2) (.seq (.seq (JE 9) (.block 0 (.loop SL))) (.seq (JE 11) .ret)))
theorem BCK:Tryz.f157.body=some A1N:=by kernel_rfl
@[simp] theorem BKA:UX 66 SK ACD/\UX 66 SL ACE/\SX 66 (JE 2) [oq 4 (.box (tq 0)),oq 7 (.box (tq 3)),oq 8 (.alloc 207)] [0,1,2,3] [4]/\SX 66 (JE 9) [om 14 1,oq 15 (.oth (.nilCheck (tq 14))),oz 16 250 15 1,ol 17 23 16,oe 18 17 23,ok 19 0] [1,2,4,7,8] [4,7,8]/\SX 66 (JE 69) [ob 20 .lss 3 19 18] [1,2,4,7,8,17,18,19] [4,7,8]/\SX 66 (JE 1125) [om 21 19,oi 22 23 17 19,ol 23 22 22,om 9 21,om 10 23] [1,2,4,7,8,17,18,19] [4,7,8]/\SX 66 (JE 2661) [oq 24 (.build 207 [(0,ci 1),(1,ci 0)]),oq 11 (.alloc 207),os (.sto 207 (tq 11) (tq 24))] [1,2,4,7,8,9,10,17,18,19] [4,7,8]/\SX 66 (JE 9829) [om 25 10,oe 26 25 22,ok 27 0] [1,2,4,7,8,9,10,11,17,18,19] [4,7,8,11]/\SX 66 (JE 71269) [ob 28 .lss 3 27 26] [1,2,4,7,8,9,11,17,18,19,25,26,27] [4,7,8,11]/\SX 66 (JE 1152613) [oi 29 22 25 27,ol 30 3 29,om 13 30] [1,2,4,7,8,9,11,17,18,19,25,26,27] [4,7,8,11]/\RX 66 (JE 1676901) (.drw [⟨[],[oq 31 (.ldz 207 (tq 11)),oz 32 238 4 0,oq 33 (.ldz 236 (tq 32)),om 34 1,oq 35 (.oth (.nilCheck (tq 34))),oz 36 250 35 0,oq 37 (.ldz 40 (tq 36)),oq 38 (.ldz 86 (tq 7)),om 39 9,om 40 2,om 41 9,oi 42 23 40 41,oq 43 (.ldz 22 (tq 42)),oz 44 86 7 0,oq 45 (.ldz 3 (tq 44)),oi 46 22 43 45,oq 47 (.ldz 3 (tq 46)),om 48 13,od 49 153 [tq 37,tq 38,tq 39,tq 47,tq 48],oq 50 (.call false none (tq 33) [tq 49])],[oq 51 (.call true none (.func 186) [tq 31,tq 50])]⟩,⟨[],[],[os (.sto 207 (tq 11) (tq 51))]⟩]) (some ([1,2,4,7,8,9,11,13,17,18,19,25,26,27],[4,7,8,11]))/\SX 66 (JE 497253) [oc 52 .add 3 27 1,om 27 52] [1,2,4,7,8,9,11,17,18,19,25,26,27] [4,7,8,11]/\SX 66 (JE 7781) [oz 53 207 8 0,ol 54 3 53,oz 55 207 11 0,ol 56 3 55,ob 57 .add 3 54 56,oz 58 207 8 1,ol 59 3 58,oz 60 207 11 1,ol 61 3 60,ob 62 .add 3 59 61,oq 63 (.build 207 [(0,tq 57),(1,tq 62)]),os (.sto 207 (tq 8) (tq 63))] [1,2,4,7,8,11,17,18,19] [4,7,8,11]/\SX 66 (JE 485) [oc 64 .add 3 19 1,om 19 64] [1,2,4,7,8,17,18,19] [4,7,8]/\SX 66 (JE 11) [ol 65 207 8,os (.sto 207 (tq 8) (tq 65))] [8] [8]/\LX 66 SL [1,2,4,7,8,17,18,19] [4,7,8]/\LX 66 SK [1,2,4,7,8,9,11,17,18,19,25,26,27] [4,7,8,11]:=by and_intros<;>first|exact rx|exact lx|exact fun _ _=>rfl
def AIN:=rg Tryz.f156
def A1O:bq:=(.seq (AIN 2) (.seq (AIN 5) .ret))
theorem BCL:Tryz.f156.body=some A1O:=by kernel_rfl
@[simp] theorem BKB:SX 5 (AIN 2) [oq 1 (.box (tq 0)),ok 2 0] [0] [1]/\SX 5 (AIN 5) [oz 3 155 1 1,ol 4 3 3,om 2 4] [0,1,2] [1,2]:=⟨rx,rx⟩
def AIO:=rg Tryz.f158
def A1P:bq:=(.seq (AIO 2) (.seq (AIO 5) .ret))
theorem BCM:Tryz.f158.body=some A1P:=by kernel_rfl
@[simp] theorem BKC:SX 5 (AIO 2) [oq 1 (.box (tq 0)),ok 2 0] [0] [1]/\SX 5 (AIO 5) [oz 3 155 1 2,ol 4 3 3,om 2 4] [0,1,2] [1,2]:=⟨rx,rx⟩
def EK:=rg Tryz.f117
@[simp] def tW:bq:=(.seq (EK 583840559) (.seq (.cond (.tmp 42) .skip (.exit 4)) (.seq (.block 5 (.seq (EK 9442210607) (EK 13737177903))) (EK 4073501487))))
def OG:=tW
@[simp] def tX:bq:=(.seq (EK 570159) (.seq (.cond (.tmp 34) .skip (.exit 2)) (.seq (.block 3 (.seq (EK 9220911) (.seq (EK 21803823) (.seq (.seq (EK 80524079) (.block 4 (.loop OG))) (EK 63746863))))) (EK 3978031))))
def OH:=tX
@[simp] def ACF:bq:=(.seq (EK 559) (.seq (.cond (.tmp 26) .skip (.exit 0)) (.seq (.block 1 (.seq (EK 9007) (.seq (EK 21295) (.seq (.seq (EK 78639) (.block 2 (.loop OH))) (EK 62255))))) (EK 3887))))
def SM:=ACF
def ACG:bq:=(.seq (EK 2) (.seq (EK 5) (.seq (.seq (EK 19) (.cond (.tmp 21) (.seq (EK 75) .ret) .skip)) (.seq (EK 23) (.seq (.seq (EK 79) (.block 0 (.loop SM))) (.seq (EK 95) .ret))))))
theorem BCN:Tryz.f117.body=some ACG:=by kernel_rfl
@[simp] theorem BCO(n:Nat)(st:XS):AF bk ann kn (n+1) 90 (EK 23) st=QJ (K0 bk (BL bk ann kn n) (.str [oq 8 (.mv (.const (.slice none 0 0)))]) (CJ (some ([2,3,6],[2,3,17,900,901,902])) (LR [902] st))) :=
 EC (by kernel_rfl) (by kernel_rfl) (by kernel_rfl) (by kernel_rfl) (by kernel_rfl)
@[simp] theorem A8T(n:Nat)(st:XS):AF bk ann kn (n+1) 90 (EK 62255) st=QJ (K0 bk (BL bk ann kn n) (.str [om 84 8,om 85 10,oq 86 (.buildS 197 1 [(0,tq 85)]),oq 87 (.app [tq 84,tq 86] [197,197]),om 8 87]) (CJ (some ([2,3,6,8,10,24,25],[2,3,17,30,87])) (LR [30] st))) :=
 EC (by kernel_rfl) (by kernel_rfl) (by kernel_rfl) (by kernel_rfl) (by kernel_rfl)
@[simp] theorem BKD:UX 90 OG tW/\UX 90 OH tX/\UX 90 SM ACF/\SX 90 (EK 2) [oq 2 (.box (tq 0)),oq 3 (.box (tq 1)),oq 4 (.mv (.const (.slice none 0 0))),ok 5 0] [0,1] [2,3,17,900,901,902]/\SX 90 (EK 5) [ol 15 40 2,oq 16 (.oth (.makeFunc (.func 155) #[] #[tq 2,tq 3])),od 17 154 [tq 15,tq 16],om 14 17,oq 18 (.oth (.extract (tq 14) 0)),oq 19 (.oth (.extract (tq 14) 1)),om 6 18,om 7 19] [2,3] [2,3,17,900,901,902]/\SX 90 (EK 19) [om 20 7,oc 21 .neq 34 20 0] [2,3,6,7] [2,3,17,900,901,902]/\SX 90 (EK 75) [om 22 7,oq 4 (.mv (.const (.slice none 0 0))),om 5 22] [7] []/\SX 90 (EK 79) [oz 23 40 2 1,ol 24 3 23,ok 25 0] [2,3,6,8] [2,3,17,87]/\SX 90 (EK 559) [ob 26 .lss 3 25 24] [2,3,6,8,24,25] [2,3,17,87]/\SX 90 (EK 9007) [om 27 25,om 9 27] [2,3,6,8,24,25] [2,3,17,87]/\SX 90 (EK 21295) [oz 28 40 2 2,ol 29 3 28,oq 30 (.mkS 204 (tq 29) (tq 29)),om 10 30] [2,3,6,8,9,24,25] [2,3,17,87]/\SX 90 (EK 78639) [om 31 10,oe 32 31 204,ok 33 0] [2,3,6,8,9,10,24,25] [2,3,17,30,87]/\SX 90 (EK 570159) [ob 34 .lss 3 33 32] [2,3,6,8,9,10,24,25,32,33] [2,3,17,30,87]/\SX 90 (EK 9220911) [om 35 33,om 11 35] [2,3,6,8,9,10,24,25,32,33] [2,3,17,30,87]/\SX 90 (EK 21803823) [om 36 9,om 37 11,oq 38 (.build 86 [(0,tq 36),(1,tq 37)]),oq 12 (.alloc 86),os (.sto 86 (tq 12) (tq 38))] [2,3,6,8,9,10,11,24,25,32,33] [2,3,17,30,87]/\SX 90 (EK 80524079) [ol 39 23 3,oe 40 39 23,ok 41 0] [2,3,6,8,9,10,11,12,24,25,32,33] [2,3,12,17,30,87]/\SX 90 (EK 583840559) [ob 42 .lss 3 41 40] [2,3,6,8,9,10,11,12,24,25,32,33,40,41] [2,3,12,17,30,87]/\SX 90 (EK 9442210607) [om 43 41,om 13 43] [2,3,6,8,9,10,11,12,24,25,32,33,40,41] [2,3,12,17,30,87]/\RX 90 (EK 13737177903) (.drw [⟨[],[om 44 10,om 45 11,oi 46 204 44 45,oz 47 209 46 0,oq 48 (.ldz 3 (tq 47)),oq 49 (.ldz 40 (tq 2)),oq 50 (.ldz 86 (tq 12)),om 51 13,oq 52 (.ldz 23 (tq 3)),om 53 13,oi 54 23 52 53,oq 55 (.ldz 22 (tq 54)),om 56 9,oi 57 22 55 56,oq 58 (.ldz 3 (tq 57)),od 59 153 [tq 49,tq 50,tq 51,tq 58,ci 0],oq 60 (.oth (.field 155 (tq 59) 0)),ob 61 .add 3 48 60,oi 62 204 44 45,oz 63 209 62 0,os (.sto 3 (tq 63) (tq 61))],[]⟩]) (some ([2,3,6,8,9,10,11,12,13,24,25,32,33,40,41],[2,3,12,17,30,87]))/\SX 90 (EK 4073501487) [oc 64 .add 3 41 1,om 41 64] [2,3,6,8,9,10,11,12,24,25,32,33,40,41] [2,3,12,17,30,87]/\RX 90 (EK 63746863) (.drw [⟨[73,78],[om 65 10,om 66 11,om 67 10,om 68 11,oq 69 (.build 238 [(0,.func 156)]),om 70 6,oq 71 (.ldz 23 (tq 3)),oq 72 (.ldz 86 (tq 12)),oq 74 (.build 238 [(0,.func 158)]),om 75 6,ol 76 23 3,ol 77 86 12,oq 73 (.call true none (.func 157) [tq 69,tq 70,tq 71,tq 72]),oq 78 (.call true none (.func 157) [tq 74,tq 75,tq 76,tq 77]),oi 79 204 65 66,oz 80 209 79 1,os (.sto 207 (tq 80) (tq 73)),oi 81 204 67 68,oz 82 209 81 2,os (.sto 207 (tq 82) (tq 78))],[]⟩]) (some ([2,3,6,8,9,10,11,12,24,25,32,33],[2,3,12,17,30,87]))/\SX 90 (EK 3978031) [oc 83 .add 3 33 1,om 33 83] [2,3,6,8,9,10,24,25,32,33] [2,3,17,30,87]/\SX 90 (EK 3887) [oc 88 .add 3 25 1,om 25 88] [2,3,6,8,24,25] [2,3,17,87]/\SX 90 (EK 95) [om 89 8,om 4 89,ok 5 0] [8] [87]/\LX 90 SM [2,3,6,8,24,25] [2,3,17,87]/\LX 90 OH [2,3,6,8,9,10,24,25,32,33] [2,3,17,30,87]/\LX 90 OG [2,3,6,8,9,10,11,12,24,25,32,33,40,41] [2,3,12,17,30,87]:=by and_intros<;>first|exact rx|exact lx|exact fun _ _=>rfl
def AIP:=rg Tryz.f155
def A1Q:bq:=(.seq (AIP 2) (.seq (AIP 5) .ret))
theorem b155:Tryz.f155.body=some A1Q:=by kernel_rfl
@[simp] theorem BKE:SX 6 (AIP 2) [ot 2 false] [0,1] []/\SX 6 (AIP 5) [ol 3 40 0,ol 4 23 1,od 5 111 [tq 3,tq 4],om 2 5] [0,1] []:=⟨rx,rx⟩
def QE:=rg Tryz.f187
@[simp] def ACH:bq:=(.seq (QE 69) (.seq (.cond (.tmp 9) .skip (.exit 0)) (.seq (.block 1 (.seq (QE 1125) (.seq (QE 2661) (.cond (.tmp 16) (.seq (QE 9829) .ret) .skip)))) (QE 485))))
def SN:=ACH
def APS:bq:=(.seq (QE 2) (.seq (.seq (QE 9) (.block 0 (.loop SN))) (.seq (QE 11) .ret)))
theorem b187:Tryz.f187.body=some APS:=by kernel_rfl
@[simp] theorem BKF:UX 19 SN ACH/\SX 19 (QE 2) [ok 4 0] [0,1] []/\SX 19 (QE 9) [om 6 0,oe 7 6 28,ok 8 0] [0,1] []/\SX 19 (QE 69) [ob 9 .lss 3 8 7] [0,1,7,8] []/\SX 19 (QE 1125) [om 10 8,om 5 10] [0,1,7,8] []/\SX 19 (QE 2661) [om 11 1,om 12 0,om 13 5,oi 14 28 12 13,ol 15 97 14,oq 16 (.call false none (tq 11) [tq 15])] [0,1,5,7,8] []/\SX 19 (QE 9829) [om 17 5,om 4 17] [5] []/\SX 19 (QE 485) [oc 18 .add 3 8 1,om 8 18] [0,1,3,7,8] []/\SX 19 (QE 11) [oq 4 (.mv (.const (.int .i64 (bj 0))))] [] []/\LX 19 SN [0,1,7,8] []:=⟨fun _ _=>rfl,rx,rx,rx,rx,rx,rx,rx,rx,lx⟩
def AIQ:=rg Tryz.f159
def A1R:bq:=(.seq (AIQ 2) (.seq (AIQ 5) .ret))
theorem b159:Tryz.f159.body=some A1R:=by kernel_rfl
@[simp] theorem BKG:SX 9 (AIQ 2) [ot 4 false] [0,1] [7]/\SX 9 (AIQ 5) [om 5 0,om 6 1,od 7 187 [tq 5,tq 6],oc 8 .geq 3 7 0,om 4 8] [0,1,2,3] [2,3]:=⟨rx,rx⟩
def AIR:=rg Tryz.f119
def A1S:bq:=(.seq (AIR 2) (.seq (AIR 5) .ret))
theorem BCP:Tryz.f119.body=some A1S:=by kernel_rfl
@[simp] theorem BKH:SX 9 (AIR 2) [oq 3 (.box (tq 1)),ot 4 false] [0,1,2] [3]/\SX 9 (AIR 5) [om 5 0,oq 6 (.oth (.makeFunc (.func 160) #[] #[tq 3])),od 7 159 [tq 5,tq 6],ou 8 7,om 4 8] [0,1,2,3] [2,3]:=⟨rx,rx⟩
def AIS:=rg Tryz.f160
def A1T:bq:=(.seq (AIS 2) (.seq (AIS 5) .ret))
theorem b160:Tryz.f160.body=some A1T:=by kernel_rfl
@[simp] theorem BKI:SX 8 (AIS 2) [ot 3 false] [0,1] []/\SX 8 (AIS 5) [ol 4 200 1,om 5 0,oq 6 (.call false none (tq 4) [tq 5]),ou 7 6,om 3 7] [0,1,2] [2]:=⟨rx,rx⟩
def QF:=rg Tryz.f188
@[simp] def ACI:bq:=(.seq (QF 69) (.seq (.cond (.tmp 9) .skip (.exit 0)) (.seq (.block 1 (.seq (QF 1125) (.seq (QF 2661) (.cond (.tmp 16) (.seq (QF 9829) .ret) .skip)))) (QF 485))))
def SO:=ACI
def APT:bq:=(.seq (QF 2) (.seq (.seq (QF 9) (.block 0 (.loop SO))) (.seq (QF 11) .ret)))
theorem b188:Tryz.f188.body=some APT:=by kernel_rfl
@[simp] theorem BKJ:UX 19 SO ACI/\SX 19 (QF 2) [ok 4 0] [0,1] []/\SX 19 (QF 9) [om 6 0,oe 7 6 41,ok 8 0] [0,1] []/\SX 19 (QF 69) [ob 9 .lss 3 8 7] [0,1,7,8] []/\SX 19 (QF 1125) [om 10 8,om 5 10] [0,1,7,8] []/\SX 19 (QF 2661) [om 11 1,om 12 0,om 13 5,oi 14 41 12 13,ol 15 94 14,oq 16 (.call false none (tq 11) [tq 15])] [0,1,5,7,8] []/\SX 19 (QF 9829) [om 17 5,om 4 17] [5] []/\SX 19 (QF 485) [oc 18 .add 3 8 1,om 8 18] [0,1,3,7,8] []/\SX 19 (QF 11) [oq 4 (.mv (.const (.int .i64 (bj 0))))] [] []/\LX 19 SO [0,1,7,8] []:=⟨fun _ _=>rfl,rx,rx,rx,rx,rx,rx,rx,rx,lx⟩
def AIT:=rg Tryz.f161
def A1U:bq:=(.seq (AIT 2) (.seq (AIT 5) .ret))
theorem b161:Tryz.f161.body=some A1U:=by kernel_rfl
@[simp] theorem BKK:SX 9 (AIT 2) [ot 4 false] [0,1] [7]/\SX 9 (AIT 5) [om 5 0,om 6 1,od 7 188 [tq 5,tq 6],oc 8 .geq 3 7 0,om 4 8] [0,1,2,3] [2,3]:=⟨rx,rx⟩
def AIU:=rg Tryz.f120
def A1V:bq:=(.seq (AIU 2) (.seq (AIU 5) .ret))
theorem BCQ:Tryz.f120.body=some A1V:=by kernel_rfl
@[simp] theorem BKL:SX 9 (AIU 2) [oq 3 (.box (tq 1)),ot 4 false] [0,1,2] [3]/\SX 9 (AIU 5) [om 5 0,oq 6 (.oth (.makeFunc (.func 162) #[] #[tq 3])),od 7 161 [tq 5,tq 6],ou 8 7,om 4 8] [0,1,2,3] [2,3]:=⟨rx,rx⟩
def AIV:=rg Tryz.f162
def A1W:bq:=(.seq (AIV 2) (.seq (AIV 5) .ret))
theorem b162:Tryz.f162.body=some A1W:=by kernel_rfl
@[simp] theorem BKM:SX 8 (AIV 2) [oq 2 (.box (tq 0)),ot 3 false] [0,1] []/\SX 8 (AIV 5) [ol 4 203 1,ol 5 94 2,oq 6 (.call false none (tq 4) [tq 5]),ou 7 6,om 3 7] [0,1,2] [2]:=⟨rx,rx⟩
def AIW:=rg Tryz.f163
def A1X:bq:=(.seq (AIW 2) (.seq (AIW 5) .ret))
theorem BCR:Tryz.f163.body=some A1X:=by kernel_rfl
@[simp] theorem BKN:SX 15 (AIW 2) [ot 6 false] [0,1,2] []/\SX 15 (AIW 5) [om 7 1,om 8 0,ob 9 .leq 3 7 8,om 10 9,gm 10 true 11 0,gm 10 true 12 2,gb 10 true 13 .leq 3 11 12,oq 14 (.pick (tq 10) (tq 13) (cb false)),om 6 14] [0,1,2] []:=⟨rx,rx⟩
def AIX:=rg Tryz.f121
def A1Y:bq:=(.seq (AIX 2) (.seq (AIX 5) .ret))
theorem BCS:Tryz.f121.body=some A1Y:=by kernel_rfl
@[simp] theorem BKO:SX 11 (AIX 2) [oq 1 (.box (tq 0)),ot 2 false] [0] [1,7,910,911]/\SX 11 (AIX 5) [oz 3 94 1 0,ol 4 3 3,od 5 163 [tq 4,ci 1,ci 4],om 6 5,gz 6 true 7 94 1 1,gl 6 true 8 3 7,gd 6 true 9 163 [tq 8,ci 0,ci 5],oq 10 (.pick (tq 6) (tq 9) (cb false)),om 2 10] [1] [1]:=⟨rx,rx⟩
def AIY:=rg Tryz.f118
def A1Z:bq:=(.seq (AIY 2) (.seq (AIY 5) .ret))
theorem BCT:Tryz.f118.body=some A1Z:=by kernel_rfl
@[simp] theorem BKP:SX 11 (AIY 2) [oq 2 (.box (tq 0)),ot 4 false] [0,1] [2]/\SX 11 (AIY 5) [om 5 1,oe 6 5 97,oz 7 43 2 0,oz 8 40 7 2,ol 9 3 8,ob 10 .eql 3 6 9,om 4 10] [1,2] [2]:=⟨rx,rx⟩
def K8:=rg Tryz.f71
@[simp] def ACJ:bq:=(.seq (K8 4561279) (.seq (.cond (.tmp 63) .skip (.exit 2)) (.seq (.block 3 (.seq (K8 73767295) (K8 107321727))) (K8 31824255))))
def SP:=ACJ
@[simp] def ACK:bq:=(.seq (K8 4479) (.seq (.cond (.tmp 57) .skip (.exit 0)) (.seq (.block 1 (.seq (K8 72063) (.seq (K8 170367) (.seq (.seq (K8 629119) (.block 2 (.loop SP))) (K8 498047))))) (K8 31103))))
def SQ:=ACK
def c71:bq:=(.seq (K8 2) (.seq (.seq (K8 9) (.cond (.tmp 16) (.seq (K8 37) .ret) .skip)) (.seq (K8 11) (.seq (.seq (K8 39) (.cond (.tmp 26) (.seq (K8 151) .ret) .skip)) (.seq (K8 47) (.seq (.seq (K8 159) (.cond (.tmp 49) (.seq (K8 607) .ret) .skip)) (.seq (K8 191) (.seq (.seq (K8 639) (.block 0 (.loop SQ))) (.seq (K8 767) .ret)))))))))
theorem b71:Tryz.f71.body=some c71:=by kernel_rfl
@[simp] theorem BCU(n:Nat)(st:XS):AF bk ann kn (n+1) 85 (K8 767) st=QJ (K0 bk (BL bk ann kn n) (.str [om 84 7,om 2 84,ok 3 0]) (CJ (some ([7],[1,22,51,53,80])) (LR [80,911051,912053] st))) :=
 EC (by kernel_rfl) (by kernel_rfl) (by kernel_rfl) (by kernel_rfl) (by kernel_rfl)
@[simp] theorem x71:UX 85 SP ACJ/\UX 85 SQ ACK/\SX 85 (K8 2) [oq 1 (.box (tq 0)),oq 2 (.mv (.const (.pointer none))),ok 3 0] [0] [1,22,51,53,80]/\SX 85 (K8 9) [oz 13 43 1 3,ol 14 41 13,oe 15 14 41,oc 16 .gtr 3 15 3] [1] [1,22,51,53,80]/\SX 85 (K8 37) [oq 2 (.mv (.const (.pointer none))),ok 3 3] [] []/\SX 85 (K8 11) [oz 18 43 1 0,ol 19 40 18,oz 20 43 1 1,ol 21 23 20,od 22 117 [tq 19,tq 21],om 17 22,oq 23 (.oth (.extract (tq 17) 0)),oq 24 (.oth (.extract (tq 17) 1)),om 4 23,om 5 24] [1] [1,22,51,53,80]/\SX 85 (K8 39) [om 25 5,oc 26 .neq 34 25 0] [1,4,5] [1,22,51,53,80]/\SX 85 (K8 151) [om 27 5,oq 2 (.mv (.const (.pointer none))),om 3 27] [5] []/\SX 85 (K8 47) [ol 28 43 1,oq 29 (.oth (.makeFunc (.func 118) #[tq 28] #[])),om 6 29] [1,4] [1,22,51,53,80]/\SX 85 (K8 159) [oz 30 43 1 2,ol 31 28 30,oe 32 31 28,oz 33 43 1 0,oz 34 40 33 1,ol 35 3 34,ob 36 .neq 3 32 35,om 37 36,gz 37 false 38 43 1 2,gl 37 false 39 28 38,gm 37 false 40 6,gd 37 false 41 119 [tq 39,tq 40],og 37 false 42 (.oth (.unOp .not 4 (tq 41))),oq 43 (.pick (tq 37) (cb true) (tq 42)),om 44 43,gz 44 false 45 43 1 3,gl 44 false 46 41 45,gd 44 false 47 120 [tq 46,.func 121],og 44 false 48 (.oth (.unOp .not 4 (tq 47))),oq 49 (.pick (tq 44) (cb true) (tq 48))] [1,4,6] [1,22,51,53,80]/\SX 85 (K8 607) [oq 2 (.mv (.const (.pointer none))),ok 3 1] [] []/\SX 85 (K8 191) [ol 50 43 1,oq 51 (.mkM none),oq 52 (.build 175 [(0,tq 50),(1,.const (.slice none 0 0)),(2,tq 51)]),oq 53 (.box (tq 52)),om 7 53] [1,4] [1,22,51,53,80]/\SX 85 (K8 639) [om 54 4,oe 55 54 197,ok 56 0] [4,7] [1,22,51,53,80]/\SX 85 (K8 4479) [ob 57 .lss 3 56 55] [7,54,55,56] [1,22,51,53,80]/\SX 85 (K8 72063) [oi 58 197 54 56,ol 59 204 58,om 9 59] [7,54,55,56] [1,22,51,53,80]/\SX 85 (K8 170367) [oq 10 (.alloc 206)] [7,9,54,55,56] [1,22,51,53,80]/\SX 85 (K8 629119) [om 60 9,oe 61 60 204,ok 62 0] [7,9,10,54,55,56] [1,10,22,51,53,80]/\SX 85 (K8 4561279) [ob 63 .lss 3 62 61] [7,10,54,55,56,60,61,62] [1,10,22,51,53,80]/\SX 85 (K8 73767295) [om 64 62,oi 65 204 60 62,ol 66 209 65,oq 12 (.alloc 209),om 11 64,os (.sto 209 (tq 12) (tq 66))] [7,10,54,55,56,60,61,62] [1,10,22,51,53,80]/\SX 85 (K8 107321727) [om 67 11,oz 68 209 12 2,oz 69 207 68 0,ol 70 3 69,oi 71 206 10 67,os (.sto 3 (tq 71) (tq 70))] [7,10,11,12,54,55,56,60,61,62] [1,10,12,22,51,53,80]/\SX 85 (K8 31824255) [oc 72 .add 3 62 1,om 62 72] [7,10,54,55,56,60,61,62] [1,10,22,51,53,80]/\RX 85 (K8 498047) (.drw [⟨[],[om 73 7,om 74 7,oq 75 (.oth (.nilCheck (tq 74))),oz 76 175 75 1,oq 77 (.ldz 172 (tq 76)),ol 78 206 10,oq 79 (.buildS 172 1 [(0,tq 78)]),oq 80 (.app [tq 77,tq 79] [172,172]),oq 81 (.oth (.nilCheck (tq 73))),oz 82 175 81 1,os (.sto 172 (tq 82) (tq 80))],[]⟩]) (some ([7,10,54,55,56],[1,10,22,51,53,80]))/\SX 85 (K8 31103) [oc 83 .add 3 56 1,om 56 83] [7,54,55,56] [1,22,51,53,80]/\LX 85 SQ [7,54,55,56] [1,22,51,53,80]/\LX 85 SP [7,10,54,55,56,60,61,62] [1,10,22,51,53,80]:=by and_intros<;>first|exact rx|exact lx|exact fun _ _=>rfl
def g24:=rg Tryz.f24
def c24:bq:=(.seq (g24 2) (.seq (g24 5) (.seq (g24 11) .ret)))
def QG:=rg Tryz.f189
@[simp] def ACL:bq:=(.seq (QG 69) (.seq (.cond (.tmp 9) .skip (.exit 0)) (.seq (.block 1 (.seq (QG 1125) (.seq (QG 2661) (.cond (.tmp 16) (.seq (QG 9829) .ret) .skip)))) (QG 485))))
def SR:=ACL
def AI0:bq:=(.seq (QG 2) (.seq (.seq (QG 9) (.block 0 (.loop SR))) (.seq (QG 11) .ret)))
theorem b189:Tryz.f189.body=some AI0:=by kernel_rfl
@[simp] theorem BKQ:UX 19 SR ACL/\SX 19 (QG 2) [ok 4 0] [0,1] []/\SX 19 (QG 9) [om 6 0,oe 7 6 120,ok 8 0] [0,1] []/\SX 19 (QG 69) [ob 9 .lss 3 8 7] [0,1,7,8] []/\SX 19 (QG 1125) [om 10 8,om 5 10] [0,1,7,8] []/\SX 19 (QG 2661) [om 11 1,om 12 0,om 13 5,oi 14 120 12 13,ol 15 153 14,oq 16 (.call false none (tq 11) [tq 15])] [0,1,5,7,8] []/\SX 19 (QG 9829) [om 17 5,om 4 17] [5] []/\SX 19 (QG 485) [oc 18 .add 3 8 1,om 8 18] [0,1,3,7,8] []/\SX 19 (QG 11) [oq 4 (.mv (.const (.int .i64 (bj 0))))] [] []/\LX 19 SR [0,1,7,8] []:=⟨fun _ _=>rfl,rx,rx,rx,rx,rx,rx,rx,rx,lx⟩
def AI1:=rg Tryz.f171
def APU:bq:=(.seq (AI1 2) (.seq (AI1 5) .ret))
theorem b171:Tryz.f171.body=some APU:=by kernel_rfl
@[simp] theorem BKR:SX 9 (AI1 2) [ot 4 false] [0,1] [7]/\SX 9 (AI1 5) [om 5 0,om 6 1,od 7 189 [tq 5,tq 6],oc 8 .geq 3 7 0,om 4 8] [0,1,2,3] [2,3]:=⟨rx,rx⟩
def AI2:=rg Tryz.f137
def APV:bq:=(.seq (AI2 2) (.seq (AI2 5) .ret))
theorem b137:Tryz.f137.body=some APV:=by kernel_rfl
@[simp] theorem BKS:SX 9 (AI2 2) [oq 3 (.box (tq 1)),ot 4 false] [0,1,2] [3]/\SX 9 (AI2 5) [om 5 0,oq 6 (.oth (.makeFunc (.func 172) #[] #[tq 3])),od 7 171 [tq 5,tq 6],ou 8 7,om 4 8] [0,1,2,3] [2,3]:=⟨rx,rx⟩
def AI3:=rg Tryz.f172
def A10:bq:=(.seq (AI3 2) (.seq (AI3 5) .ret))
theorem b172:Tryz.f172.body=some A10:=by kernel_rfl
@[simp] theorem BKT:SX 8 (AI3 2) [oq 2 (.box (tq 0)),ot 3 false] [0,1] []/\SX 8 (AI3 5) [ol 4 221 1,ol 5 153 2,oq 6 (.call false none (tq 4) [tq 5]),ou 7 6,om 3 7] [0,1,2] [2]:=⟨rx,rx⟩
def xJ:=rg Tryz.f173
def A11:bq:=(.seq (xJ 2) (.seq (xJ 5) (.seq (xJ 11) .ret)))
theorem BCV:Tryz.f173.body=some A11:=by kernel_rfl
@[simp] theorem BKU:SX 38 (xJ 2) [oq 3 (.box (tq 0)),ot 6 false] [0,1,2] [3]/\RX 38 (xJ 5) (.drw [⟨[7,8],[oz 9 43 3 3,oq 10 (.ldz 41 (tq 9)),om 11 1,oi 12 41 10 11,oq 13 (.ldz 94 (tq 12)),oz 14 43 3 3,ol 15 41 14,om 16 2,oi 17 41 15 16,ol 18 94 17,oq 7 (.alloc 94),oq 8 (.alloc 94),os (.sto 94 (tq 7) (tq 13))],[os (.sto 94 (tq 8) (tq 18))]⟩]) (some ([1,2,3],[3]))/\SX 38 (xJ 11) [om 19 1,om 20 2,ob 21 .neq 3 19 20,om 22 21,gz 22 true 23 94 7 3,gl 22 true 24 4 23,gm 22 true 25 24,gz 25 true 26 94 8 2,gl 25 true 27 4 26,og 22 true 28 (.pick (tq 25) (tq 27) (cb false)),gm 22 true 29 28,gz 29 false 30 94 7 2,gl 29 false 31 4 30,gm 29 false 32 31,gz 32 true 33 94 8 3,gl 32 true 34 4 33,og 29 false 35 (.pick (tq 32) (tq 34) (cb false)),og 22 true 36 (.pick (tq 29) (cb true) (tq 35)),oq 37 (.pick (tq 22) (tq 36) (cb false)),om 6 37] [1,2,7,8] [7,8]:=⟨rx,rx,rx⟩
def cH:=rg Tryz.f139
def ACM:bq:=(.seq (cH 2) (.seq (.seq (cH 9) (.cond (.tmp 14) (.seq (cH 37) .ret) .skip)) (.seq (cH 11) (.seq (cH 23) .ret))))
theorem BCW:Tryz.f139.body=some ACM:=by kernel_rfl
@[simp] theorem BKV:SX 55 (cH 2) [oq 3 (.box (tq 0)),oq 4 (.box (tq 1)),oq 5 (.box (tq 2)),ot 6 false] [0,1,2] [3]/\SX 55 (cH 9) [oz 8 153 4 1,oz 9 86 8 0,ol 10 3 9,oz 11 153 5 1,oz 12 86 11 0,ol 13 3 12,ob 14 .neq 3 10 13] [3,4,5] [3,4,5]/\SX 55 (cH 37) [ot 6 true] [] []/\SX 55 (cH 11) [oz 15 153 4 1,oz 16 86 15 1,ol 17 3 16,oz 18 153 5 1,oz 19 86 18 1,ol 20 3 19,ob 21 .sub 3 17 20,oz 22 153 5 0,oz 23 151 22 1,ol 24 3 23,ob 25 .sub 3 21 24,oz 26 153 5 1,oz 27 86 26 1,ol 28 3 27,oz 29 153 4 1,oz 30 86 29 1,ol 31 3 30,ob 32 .sub 3 28 31,oz 33 153 4 0,oz 34 151 33 1,ol 35 3 34,ob 36 .sub 3 32 35,oq 37 (.oth (.call ⟨.builtin .max,#[tq 25,tq 36],#[3,3]⟩)),om 7 37] [3,4,5] [3,4,5]/\SX 55 (cH 23) [om 38 7,oc 39 .gtr 3 38 0,om 40 39,gm 40 false 41 7,gc 40 false 42 .eql 3 41 0,gm 40 false 43 42,gl 43 true 44 43 3,gz 43 true 45 153 4 0,gz 43 true 46 151 45 0,gl 43 true 47 3 46,gz 43 true 48 153 5 0,gz 43 true 49 151 48 0,gl 43 true 50 3 49,gd 43 true 51 173 [tq 44,tq 47,tq 50],og 43 true 52 (.oth (.unOp .not 4 (tq 51))),og 40 false 53 (.pick (tq 43) (tq 52) (cb false)),oq 54 (.pick (tq 40) (cb true) (tq 53)),om 6 54] [3,4,5,7] [3,4,5]:=⟨rx,rx,rx,rx,rx⟩
def J2:=rg Tryz.f140
@[simp] def ACN:bq:=(.seq (J2 18021) (.seq (.cond (.tmp 17) .skip (.exit 2)) (.seq (.block 3 (.seq (J2 288357) (.seq (J2 681573) (.cond (.tmp 20) (J2 1468005) .skip)))) (J2 124517))))
def SS:=ACN
@[simp] def ACO:bq:=(.seq (J2 69) (.seq (.cond (.tmp 11) .skip (.exit 0)) (.seq (.block 1 (.seq (J2 1125) (.seq (J2 2661) (.block 2 (.loop SS))))) (J2 485))))
def SU:=ACO
def A12:bq:=(.seq (J2 2) (.seq (.seq (J2 9) (.block 0 (.loop SU))) (.seq (J2 11) .ret)))
theorem BCX:Tryz.f140.body=some A12:=by kernel_rfl
@[simp] theorem BKW:UX 26 SS ACN/\UX 26 SU ACO/\SX 26 (J2 2) [oq 1 (.box (tq 0)),ok 2 0] [0] [1]/\SX 26 (J2 9) [oz 7 43 1 2,ol 8 28 7,oe 9 8 28,ok 10 0] [1,2] [1]/\SX 26 (J2 69) [ob 11 .lss 3 10 9] [2,8,9,10] [1]/\SX 26 (J2 1125) [oi 12 28 8 10,ol 13 97 12,om 4 13] [2,8,9,10] [1]/\SX 26 (J2 2661) [om 14 4,oe 15 14 97,ok 16 0] [2,4,8,9,10] [1]/\SX 26 (J2 18021) [ob 17 .lss 3 16 15] [2,8,9,10,14,15,16] [1]/\SX 26 (J2 288357) [oi 18 97 14 16,ol 19 4 18,om 6 19] [2,8,9,10,14,15,16] [1]/\SX 26 (J2 681573) [om 20 6] [2,6,8,9,10,14,15,16] [1]/\SX 26 (J2 1468005) [om 21 2,oc 22 .add 3 21 1,om 2 22] [2,8,9,10,14,15,16] [1]/\SX 26 (J2 124517) [oc 23 .add 3 16 1,om 16 23] [2,8,9,10,14,15,16] [1]/\SX 26 (J2 485) [oc 24 .add 3 10 1,om 10 24] [2,8,9,10] [1]/\SX 26 (J2 11) [om 25 2,om 2 25] [2] []/\LX 26 SU [2,8,9,10] [1]/\LX 26 SS [2,8,9,10,14,15,16] [1]:=by and_intros<;>first|exact rx|exact lx|exact fun _ _=>rfl
def UK:=rg Tryz.f18
@[simp] def AML:bq:=(lp (UK 267) 31 0 1 (.seq (UK 1099) (.cond (.tmp 40) (.seq (UK 4683) .ret) .skip)) (UK 459))
def YJ:=AML
@[simp] def AMM:bq:=(lp (UK 535) 45 2 3 (.seq (UK 2199) (.cond (.tmp 54) (.seq (UK 9367) .ret) .skip)) (UK 919))
def YK:=AMM
def c18:bq:=(.seq (UK 2) (.seq (.seq (UK 9) (.cond (.tmp 26) (.seq (UK 37) .ret) .skip)) (.seq (.seq (UK 19) (.block 0 (.loop YJ))) (.seq (.seq (UK 39) (.block 2 (.loop YK))) (.seq (UK 47) .ret)))))
theorem b18:Tryz.f18.body=some c18:=by kernel_rfl
@[simp] theorem x18:UX 55 YJ AML/\UX 55 YK AMM/\SX 55 (UK 2) [oq 1 (.box (tq 0)),ot 2 false] [0] [1]/\SX 55 (UK 9) [oz 5 31 1 0,ol 6 27 5,od 7 64 [tq 6],ou 8 7,om 9 8,gz 9 false 10 31 1 1,gl 9 false 11 23 10,ge 9 false 12 11 23,gc 9 false 13 .gtr 3 12 7,oq 14 (.pick (tq 9) (cb true) (tq 13)),om 15 14,gz 15 false 16 31 1 2,gl 15 false 17 28 16,ge 15 false 18 17 28,gc 15 false 19 .gtr 3 18 7,oq 20 (.pick (tq 15) (cb true) (tq 19)),om 21 20,gz 21 false 22 31 1 3,gl 21 false 23 29 22,ge 21 false 24 23 29,gc 21 false 25 .gtr 3 24 5,oq 26 (.pick (tq 21) (cb true) (tq 25))] [1] [1]/\SX 55 (UK 37) [ot 2 false] [] []/\SX 55 (UK 19) [ok 3 0] [1] [1]/\SX 55 (UK 267) [om 27 3,oz 28 31 1 1,ol 29 23 28,oe 30 29 23,ob 31 .lss 3 27 30] [1,3] [1]/\SX 55 (UK 1099) [oz 34 31 1 1,ol 35 23 34,om 36 3,oi 37 23 35 36,ol 38 22 37,oe 39 38 22,oc 40 .gtr 3 39 7] [1,3] [1]/\SX 55 (UK 4683) [ot 2 false] [] []/\SX 55 (UK 459) [om 32 3,oc 33 .add 3 32 1,om 3 33] [1,3] [1]/\SX 55 (UK 39) [ok 4 0] [1] [1]/\SX 55 (UK 535) [om 41 4,oz 42 31 1 2,ol 43 28 42,oe 44 43 28,ob 45 .lss 3 41 44] [1,4] [1]/\SX 55 (UK 2199) [oz 48 31 1 2,ol 49 28 48,om 50 4,oi 51 28 49 50,ol 52 97 51,oe 53 52 97,oc 54 .gtr 3 53 7] [1,4] [1]/\SX 55 (UK 9367) [ot 2 false] [] []/\SX 55 (UK 919) [om 46 4,oc 47 .add 3 46 1,om 4 47] [1,4] [1]/\SX 55 (UK 47) [ot 2 true] [] []/\LX 55 YJ [1,3] [1]/\LX 55 YK [1,4] [1]:=by and_intros<;>first|exact rx|exact lx|exact fun _ _=>rfl
def tY:=rg Tryz.f69
@[simp] def AMN:bq:=(lp (tY 267) 8 0 1 (tY 587) (tY 459))
def YL:=AMN
def c69:bq:=(.seq (tY 2) (.seq (tY 5) (.seq (.seq (tY 19) (.block 0 (.loop YL))) (.seq (tY 23) .ret))))
theorem b69:Tryz.f69.body=some c69:=by kernel_rfl
@[simp] theorem BGQ(n:Nat)(st:XS):AF bk ann kn (n+1) 20 (tY 459) st=QJ (K0 bk (BL bk ann kn n) (.str [om 9 4,oc 10 .add 3 9 1,om 4 10]) (CJ (some ([0,3,4],[18])) (LR [16,2000000000000018] st))) :=
 EC (by kernel_rfl) (by kernel_rfl) (by kernel_rfl) (by kernel_rfl) (by kernel_rfl)
@[simp] theorem x69:UX 20 YL AMN/\SX 20 (tY 2) [oq 2 (.mv (.const (.slice none 0 0)))] [0] []/\SX 20 (tY 5) [oq 3 (.mv (.const (.slice none 0 0)))] [0] []/\SX 20 (tY 19) [ok 4 0] [0,3] [18]/\SX 20 (tY 267) [om 5 4,om 6 0,oe 7 6 23,ob 8 .lss 3 5 7] [0,3,4] [18]/\SX 20 (tY 587) [om 11 3,om 12 0,om 13 4,oi 14 23 12 13,ol 15 22 14,oq 16 (.app [.const (.slice none 0 0),tq 15] [22,22]),oq 17 (.buildS 23 1 [(0,tq 16)]),oq 18 (.app [tq 11,tq 17] [23,23]),om 3 18] [0,3,4] [18]/\SX 20 (tY 23) [om 19 3,om 2 19] [3] [18]/\LX 20 YL [0,3,4] [18]:=⟨fun _ _=>rfl,rx,rx,rx,rx,rx,rx,lx⟩
def XK:=rg Tryz.f21
@[simp] def AMO:bq:=(lp (XK 267) 18 0 1 (XK 587) (XK 459))
def YM:=AMO
@[simp] def AMP:bq:=(lp (XK 535) 36 2 3 (.seq (XK 2199) (XK 3223)) (XK 919))
def YN:=AMP
def c21:bq:=(.seq (XK 2) (.seq (XK 5) (.seq (.seq (XK 19) (.block 0 (.loop YM))) (.seq (.seq (XK 39) (.block 2 (.loop YN))) (.seq (XK 47) .ret)))))
theorem b21:Tryz.f21.body=some c21:=by kernel_rfl
@[simp] theorem BGR(n:Nat)(st:XS):AF bk ann kn (n+1) 59 (XK 459) st=QJ (K0 bk (BL bk ann kn n) (.str [om 19 4,oc 20 .add 3 19 1,om 4 20]) (CJ (some ([1,2,3,4],[1,2,3,9,12,30,56])) (LR [28,2000000000000030] st))) :=
 EC (by kernel_rfl) (by kernel_rfl) (by kernel_rfl) (by kernel_rfl) (by kernel_rfl)
@[simp] theorem x21:UX 59 YM AMO/\UX 59 YN AMP/\SX 59 (XK 2) [oq 1 (.box (tq 0)),oq 2 (.alloc 43)] [0] [1,2,3,9,12,30,56]/\RX 59 (XK 5) (.drw [⟨[3],[oz 7 31 1 0,oq 8 (.ldz 27 (tq 7)),od 9 68 [tq 8],oz 10 31 1 1,oq 11 (.ldz 23 (tq 10)),od 12 69 [tq 11],oq 13 (.build 43 [(0,tq 9),(1,tq 12)]),oq 3 (.alloc 43)],[os (.sto 43 (tq 3) (tq 13))]⟩]) (some ([1,2],[1,2,30,56]))/\SX 59 (XK 19) [ok 4 0] [1,2,3] [1,2,3,9,12,30,56]/\SX 59 (XK 267) [om 14 4,oz 15 31 1 2,ol 16 28 15,oe 17 16 28,ob 18 .lss 3 14 17] [1,2,3,4] [1,2,3,9,12,30,56]/\RX 59 (XK 587) (.drw [⟨[],[oz 21 43 3 2,ol 22 28 21,oz 23 31 1 2,ol 24 28 23,om 25 4,oi 26 28 24 25,ol 27 97 26,oq 28 (.app [.const (.slice none 0 0),tq 27] [97,97]),oq 29 (.buildS 28 1 [(0,tq 28)]),oq 30 (.app [tq 22,tq 29] [28,28]),oz 31 43 3 2],[os (.sto 28 (tq 31) (tq 30))]⟩]) (some ([1,2,3,4],[1,2,3,9,12,30,56]))/\SX 59 (XK 39) [ok 5 0] [1,2,3] [1,2,3,9,12,30,56]/\SX 59 (XK 535) [om 32 5,oz 33 31 1 3,ol 34 29 33,oe 35 34 29,ob 36 .lss 3 32 35] [1,2,3,5] [1,2,3,9,12,30,56]/\SX 59 (XK 2199) [oz 39 31 1 3,ol 40 29 39,om 41 5,oi 42 29 40 41,ol 43 57 42,oq 6 (.alloc 57),os (.sto 57 (tq 6) (tq 43))] [1,2,3,5] [1,2,3,9,12,30,56]/\SX 59 (XK 3223) [oz 44 43 3 3,ol 45 41 44,oz 46 57 6 0,ol 47 3 46,oz 48 57 6 1,ol 49 3 48,oz 50 57 6 2,ol 51 4 50,oz 52 57 6 3,ol 53 4 52,oq 54 (.build 94 [(0,tq 47),(1,tq 49),(2,tq 51),(3,tq 53)]),oq 55 (.buildS 41 1 [(0,tq 54)]),oq 56 (.app [tq 45,tq 55] [41,41]),oz 57 43 3 3,os (.sto 41 (tq 57) (tq 56))] [1,2,3,5,6] [1,2,3,6,9,12,30,56]/\SX 59 (XK 919) [om 37 5,oc 38 .add 3 37 1,om 5 38] [1,2,3,5] [1,2,3,9,12,30,56]/\SX 59 (XK 47) [ol 58 43 3,os (.sto 43 (tq 2) (tq 58))] [2,3] [1,2,3,9,12,30,56]/\LX 59 YM [1,2,3,4] [1,2,3,9,12,30,56]/\LX 59 YN [1,2,3,5] [1,2,3,9,12,30,56]:=by and_intros<;>first|exact rx|exact lx|exact fun _ _=>rfl
def oJ:=rg Tryz.f92
@[simp] def AMQ:bq:=(.seq (oJ 69) (.seq (.cond (.tmp 11) .skip (.exit 0)) (.seq (.block 1 (.seq (oJ 1125) (.seq (oJ 2661) (.cond (.tmp 18) (oJ 5733) .skip)))) (oJ 485))))
def YO:=AMQ
def c92:bq:=(.seq (oJ 2) (.seq (.seq (oJ 9) (.block 0 (.loop YO))) (.seq (oJ 11) .ret)))
theorem b92:Tryz.f92.body=some c92:=by kernel_rfl
@[simp] theorem x92:UX 28 YO AMQ/\SX 28 (oJ 2) [oq 2 (.box (tq 0)),oq 4 (.mv (.const (.slice none 0 0)))] [0,1] [2]/\SX 28 (oJ 9) [oz 7 43 2 3,ol 8 41 7,oe 9 8 41,ok 10 0] [1,2,4] [2,25]/\SX 28 (oJ 69) [ob 11 .lss 3 10 9] [1,4,8,9,10] [2,25]/\SX 28 (oJ 1125) [om 12 10,oi 13 41 8 10,ol 14 94 13,oq 6 (.alloc 94),om 5 12,os (.sto 94 (tq 6) (tq 14))] [1,4,8,9,10] [2,25]/\SX 28 (oJ 2661) [om 15 1,om 16 5,od 17 132 [tq 15,tq 16],ou 18 17] [1,4,5,6,8,9,10] [2,6,25]/\SX 28 (oJ 5733) [om 19 4,om 20 5,oz 21 94 6 0,ol 22 3 21,oq 23 (.build 151 [(0,tq 20),(1,tq 22)]),oq 24 (.buildS 170 1 [(0,tq 23)]),oq 25 (.app [tq 19,tq 24] [170,170]),om 4 25] [1,4,5,6,8,9,10] [2,6,25]/\SX 28 (oJ 485) [oc 26 .add 3 10 1,om 10 26] [1,4,8,9,10] [2,25]/\SX 28 (oJ 11) [om 27 4,om 4 27] [4] [25]/\LX 28 YO [1,4,8,9,10] [2,25]:=⟨fun _ _=>rfl,rx,rx,rx,rx,rx,rx,rx,rx,lx⟩
def SV:=rg Tryz.f116
@[simp] def ACP:bq:=(lp (SV 133) 9 0 1 (.seq (SV 549) (.cond (.tmp 27) (.seq (SV 2341) .ret) .skip)) (SV 229))
def SW:=ACP
def A14:bq:=(.seq (SV 2) (.seq (.seq (SV 9) (.block 0 (.loop SW))) (.seq (SV 11) .ret)))
theorem BCZ:Tryz.f116.body=some A14:=by kernel_rfl
@[simp] theorem BK1:UX 34 SW ACP/\SX 34 (SV 2) [oq 2 (.box (tq 0)),ot 4 false] [0,1] [2]/\SX 34 (SV 9) [ok 5 0] [1,2] [2]/\SX 34 (SV 133) [om 6 5,om 7 1,oe 8 7 23,ob 9 .lss 3 6 8] [1,2,5] [2]/\RX 34 (SV 549) (.drw [⟨[],[om 12 1,om 13 5,oi 14 23 12 13,ol 15 22 14,oe 16 15 22,oz 17 27 2 1,ol 18 3 17,ob 19 .neq 3 16 18,om 20 19,gm 20 false 21 1,gm 20 false 22 5,gi 20 false 23 23 21 22,gl 20 false 24 22 23],[gd 20 false 25 134 [tq 24,ci 0]]⟩,⟨[],[og 20 false 26 (.oth (.unOp .not 4 (tq 25))),oq 27 (.pick (tq 20) (cb true) (tq 26))],[]⟩]) (some ([1,2,5],[2]))/\SX 34 (SV 2341) [ot 4 false] [] []/\SX 34 (SV 229) [om 10 5,oc 11 .add 3 10 1,om 5 11] [1,2,5] [2]/\SX 34 (SV 11) [om 28 1,oe 29 28 23,oz 30 27 2 0,ol 31 3 30,oc 32 .add 3 31 1,ob 33 .eql 3 29 32,om 4 33] [1,2] [2]/\LX 34 SW [1,2,5] [2]:=⟨fun _ _=>rfl,rx,rx,rx,rx,rx,rx,rx,lx⟩
def jD:=rg Tryz.f27
@[simp] def AMR:bq:=(lp (jD 267) 15 0 1 (.seq (jD 1099) (.cond (.tmp 28) (.seq (jD 4683) .ret) .skip)) (jD 459))
def YP:=AMR
def c27:bq:=(.seq (jD 2) (.seq (.seq (jD 9) (.cond (.tmp 11) (.seq (jD 37) .ret) .skip)) (.seq (.seq (jD 19) (.block 0 (.loop YP))) (.seq (jD 23) .ret))))
theorem b27:Tryz.f27.body=some c27:=by kernel_rfl
@[simp] theorem x27:UX 29 YP AMR/\SX 29 (jD 2) [oq 2 (.box (tq 0)),ot 4 false] [0,1] [2]/\SX 29 (jD 9) [om 6 1,oe 7 6 22,oz 8 27 2 6,ol 9 23 8,oe 10 9 23,ob 11 .neq 3 7 10] [1,2] [2]/\SX 29 (jD 37) [ot 4 false] [] []/\SX 29 (jD 19) [ok 5 0] [1,2] [2]/\SX 29 (jD 267) [om 12 5,om 13 1,oe 14 13 22,ob 15 .lss 3 12 14] [1,2,5] [2]/\RX 29 (jD 1099) (.drw [⟨[],[oz 18 27 2 6,ol 19 23 18,om 20 5,oi 21 23 19 20,ol 22 22 21,om 23 1,om 24 5,oi 25 22 23 24,ol 26 3 25],[od 27 75 [tq 22,tq 26]]⟩,⟨[],[ou 28 27],[]⟩]) (some ([1,2,5],[2]))/\SX 29 (jD 4683) [ot 4 false] [] []/\SX 29 (jD 459) [om 16 5,oc 17 .add 3 16 1,om 5 17] [1,2,5] [2]/\SX 29 (jD 23) [ot 4 true] [] []/\LX 29 YP [1,2,5] [2]:=⟨fun _ _=>rfl,rx,rx,rx,rx,rx,rx,rx,rx,rx,lx⟩
def N6:=rg Tryz.f102
@[simp] def ACQ:bq:=(lp (N6 267) 14 0 1 (.seq (N6 1099) (.cond (.tmp 32) (.seq (N6 4683) .ret) .skip)) (N6 459))
def SY:=ACQ
def APW:bq:=(.seq (N6 2) (.seq (.seq (N6 9) (.cond (.tmp 9) (.seq (N6 37) .ret) .skip)) (.seq (.seq (N6 19) (.block 0 (.loop SY))) (.seq (N6 23) .ret))))
theorem BC1:Tryz.f102.body=some APW:=by kernel_rfl
@[simp] theorem BK3:UX 33 SY ACQ/\SX 33 (N6 2) [oq 2 (.box (tq 0)),ot 4 false] [0,1] [2,4,5,30]/\SX 33 (N6 9) [ol 6 27 2,om 7 1,od 8 27 [tq 6,tq 7],ou 9 8] [1,2] [2]/\SX 33 (N6 37) [ot 4 false] [] []/\SX 33 (N6 19) [ok 5 0] [1,2] [2]/\SX 33 (N6 267) [om 10 5,oz 11 27 2 8,ol 12 25 11,oe 13 12 25,ob 14 .lss 3 10 13] [1,2,5] [2]/\RX 33 (N6 1099) (.drw [⟨[],[om 17 1,oz 18 27 2 8,ol 19 25 18,om 20 5,oi 21 25 19 20,oz 22 188 21 0,ol 23 3 22,oi 24 22 17 23,ol 25 3 24,oz 26 27 2 8,ol 27 25 26,om 28 5,oi 29 25 27 28,oz 30 188 29 1,ol 31 3 30,ob 32 .neq 3 25 31],[]⟩]) (some ([1,2,5],[2]))/\SX 33 (N6 4683) [ot 4 false] [] []/\SX 33 (N6 459) [om 15 5,oc 16 .add 3 15 1,om 5 16] [1,2,5] [2]/\SX 33 (N6 23) [ot 4 true] [] []/\LX 33 SY [1,2,5] [2]:=⟨fun _ _=>rfl,rx,rx,rx,rx,rx,rx,rx,rx,rx,lx⟩
def jE:=rg Tryz.f55
@[simp] def AMS:bq:=(lp (jE 267) 9 0 1 (.seq (jE 1099) (.seq (jE 2635) (.cond (.tmp 17) (jE 5707) .skip))) (jE 459))
def YQ:=AMS
def c55:bq:=(.seq (jE 2) (.seq (jE 5) (.seq (.seq (jE 19) (.block 0 (.loop YQ))) (.seq (jE 23) .ret))))
theorem b55:Tryz.f55.body=some c55:=by kernel_rfl
@[simp] theorem x55:UX 23 YQ AMS/\SX 23 (jE 2) [oq 1 (.box (tq 0)),oq 2 (.mv (.const (.slice none 0 0)))] [0] [1,14]/\SX 23 (jE 5) [oq 3 (.mv (.const (.slice none 0 0)))] [0,1] [1,14]/\SX 23 (jE 19) [ok 4 0] [0,1,3] [1,14,21]/\SX 23 (jE 267) [om 6 4,ol 7 27 1,od 8 100 [tq 7],ob 9 .lss 3 6 8] [1,3,4] [1,14,21]/\SX 23 (jE 1099) [ol 12 27 1,om 13 4,od 14 101 [tq 12,tq 13],om 5 14] [1,3,4] [1,14,21]/\SX 23 (jE 2635) [ol 15 27 1,om 16 5,od 17 102 [tq 15,tq 16]] [1,3,4,5] [1,14,21]/\SX 23 (jE 5707) [om 18 3,om 19 5,oq 20 (.buildS 23 1 [(0,tq 19)]),oq 21 (.app [tq 18,tq 20] [23,23]),om 3 21] [1,3,4,5] [1,14,21]/\SX 23 (jE 459) [om 10 4,oc 11 .add 3 10 1,om 4 11] [0,1,3,4] [1,14,21]/\SX 23 (jE 23) [om 22 3,om 2 22] [3] [21]/\LX 23 YQ [1,3,4] [1,14,21]:=⟨fun _ _=>rfl,rx,rx,rx,rx,rx,rx,rx,rx,rx,lx⟩
def K2:=rg Tryz.f70
@[simp] def ACR:bq:=(lp (K2 4287) 38 0 1 (.seq (K2 17599) (.cond (.tmp 50) (.seq (K2 74943) .ret) .skip)) (K2 7359))
def SZ:=ACR
@[simp] def ACS:bq:=(lp (K2 8575) 55 2 3 (.seq (K2 35199) (.cond (.tmp 75) (.seq (K2 149887) .ret) .skip)) (K2 14719))
def S0:=ACS
def c70:bq:=(.seq (K2 2) (.seq (.seq (K2 9) (.cond (.tmp 9) (.seq (K2 37) .ret) .skip)) (.seq (.seq (K2 19) (.seq (K2 43) (.cond (.tmp 14) (.seq (K2 155) .ret) .skip))) (.seq (.seq (K2 39) (.cond (.tmp 21) (.seq (K2 151) .ret) .skip)) (.seq (.seq (K2 79) (.cond (.tmp 26) (.seq (K2 303) .ret) .skip)) (.seq (.seq (K2 159) (.cond (.tmp 33) (.seq (K2 607) .ret) .skip)) (.seq (.seq (K2 319) (.block 0 (.loop SZ))) (.seq (.seq (K2 639) (.block 2 (.loop S0))) (.seq (K2 767) .ret)))))))))
theorem b70:Tryz.f70.body=some c70:=by kernel_rfl
@[simp] theorem x70:UX 76 SZ ACR/\UX 76 S0 ACS/\SX 76 (K2 2) [oq 1 (.box (tq 0)),ok 2 0] [0] [1,24]/\SX 76 (K2 9) [oz 6 31 1 3,ol 7 29 6,oe 8 7 29,oc 9 .gtr 3 8 3] [1] [1,24]/\SX 76 (K2 37) [ok 2 3] [] []/\SX 76 (K2 19) [oz 10 31 1 0,ol 11 27 10,od 12 108 [tq 11],om 3 12] [1] [1,24]/\SX 76 (K2 43) [om 13 3,oc 14 .neq 3 13 0] [1,3] [1,24]/\SX 76 (K2 155) [om 15 3,om 2 15] [3] []/\SX 76 (K2 39) [oz 16 31 1 0,ol 17 27 16,oz 18 31 1 1,ol 19 23 18,od 20 116 [tq 17,tq 19],ou 21 20] [1] [1,24]/\SX 76 (K2 151) [ok 2 2] [] []/\SX 76 (K2 79) [oz 22 31 1 0,ol 23 27 22,od 24 55 [tq 23],oe 25 24 23,oc 26 .eql 3 25 0] [1] [1,24]/\SX 76 (K2 303) [ok 2 11] [] []/\SX 76 (K2 159) [oz 27 31 1 2,ol 28 28 27,oe 29 28 28,oz 30 31 1 0,oz 31 27 30 1,ol 32 3 31,ob 33 .neq 3 29 32] [1] [1,24]/\SX 76 (K2 607) [ok 2 1] [] []/\SX 76 (K2 319) [ok 4 0] [1] [1,24]/\SX 76 (K2 4287) [om 34 4,oz 35 31 1 2,ol 36 28 35,oe 37 36 28,ob 38 .lss 3 34 37] [1,4] [1,24]/\RX 76 (K2 17599) (.drw [⟨[],[oz 41 31 1 2,ol 42 28 41,om 43 4,oi 44 28 42 43,ol 45 97 44,oe 46 45 97,oz 47 31 1 0,oz 48 27 47 2,ol 49 3 48,ob 50 .neq 3 46 49],[]⟩]) (some ([1,4],[1,24]))/\SX 76 (K2 74943) [ok 2 1] [] []/\SX 76 (K2 7359) [om 39 4,oc 40 .add 3 39 1,om 4 40] [1,4] [1,24]/\SX 76 (K2 639) [ok 5 0] [1] [1,24]/\SX 76 (K2 8575) [om 51 5,oz 52 31 1 3,ol 53 29 52,oe 54 53 29,ob 55 .lss 3 51 54] [1,5] [1,24]/\SX 76 (K2 35199) [oz 58 31 1 3,ol 59 29 58,om 60 5,oi 61 29 59 60,oz 62 57 61 0,ol 63 3 62,od 64 57 [tq 63,ci 1,ci 4],ou 65 64,om 66 65,gz 66 false 67 31 1 3,gl 66 false 68 29 67,gm 66 false 69 5,gi 66 false 70 29 68 69,gz 66 false 71 57 70 1,gl 66 false 72 3 71,gd 66 false 73 57 [tq 72,ci 0,ci 5],og 66 false 74 (.oth (.unOp .not 4 (tq 73))),oq 75 (.pick (tq 66) (cb true) (tq 74))] [1,5] [1,24]/\SX 76 (K2 149887) [ok 2 1] [] []/\SX 76 (K2 14719) [om 56 5,oc 57 .add 3 56 1,om 5 57] [1,5] [1,24]/\SX 76 (K2 767) [ok 2 0] [] []/\LX 76 SZ [1,4] [1,24]/\LX 76 S0 [1,5] [1,24]:=by and_intros<;>first|exact rx|exact lx|exact fun _ _=>rfl
def g3:=rg Tryz.f3
@[simp] def AMT:bq:=(lp (g3 34303) 93 0 1 (.seq (g3 140799) (.seq (g3 337407) (.cond (.tmp 116) (.seq (g3 1254911) .ret) .skip))) (g3 58879))
def oX:=AMT
def c3:bq:=(.seq (g3 2) (.seq (.seq (g3 9) (.cond (.tmp 26) (.seq (g3 37) .ret) .skip)) (.seq (g3 11) (.seq (g3 23) (.seq (.seq (g3 79) (.cond (.tmp 44) (.seq (g3 303) .ret) .skip)) (.seq (.seq (g3 159) (.cond (.tmp 61) (g3 351) .skip)) (.seq (.seq (g3 319) (.cond (.tmp 63) (.seq (g3 1215) .ret) .skip)) (.seq (g3 383) (.seq (.seq (g3 1279) (.cond (.tmp 89) (.seq (g3 4863) .ret) .skip)) (.seq (.seq (g3 2559) (.block 0 (.loop oX))) (.seq (g3 3071) .ret)))))))))))
theorem b3:Tryz.f3.body=some c3:=by kernel_rfl
@[simp] theorem x3:UX 118 oX AMT/\LX 118 oX [1,3,7,10,11] [3,30,32,34,35,41,50,80]:=⟨fun _ _=>rfl,lx⟩
def g54:=rg Tryz.f54
def c54:bq:=(.seq (g54 2) (.seq (g54 5) .ret))
theorem b54:Tryz.f54.body=some c54:=by kernel_rfl
@[simp] theorem x54:SX 10 (g54 2) [oq 1 (.box (tq 0)),ot 2 false] [0] [1]/\SX 10 (g54 5) [ol 3 31 1,od 4 18 [tq 3],om 5 4,gl 5 true 6 31 1,gd 5 true 7 70 [tq 6],gc 5 true 8 .eql 3 7 0,oq 9 (.pick (tq 5) (tq 8) (cb false)),om 2 9] [0,1,2] [1,2,3,4]:=⟨rx,rx⟩
def II:=rg Tryz.f129
@[simp] def ACT:bq:=(lp (II 4267) 32 0 1 (.seq (II 17579) (.seq (II 42155) (.seq (II 91307) (.seq (II 189611) (.cond (.tmp 82) (II 386219) .skip))))) (II 7339))
def S4:=ACT
def APY:bq:=(.seq (II 2) (.seq (II 5) (.seq (.seq (II 19) (.cond (.tmp 19) (.seq (II 75) (.seq (.seq (II 299) (.block 0 (.loop S4))) (II 235))) .skip)) (.seq (II 23) .ret))))
theorem b129:Tryz.f129.body=some APY:=by kernel_rfl
@[simp] theorem BK7:UX 94 S4 ACT/\SX 94 (II 2) [oq 3 (.box (tq 1)),oq 4 (.alloc 158)] [0,1] []/\RX 94 (II 5) (.drw [⟨[5],[om 10 0,oq 11 (.oth (.nilCheck (tq 10))),oz 12 175 11 2,oq 13 (.ldz 173 (tq 12)),oq 14 (.ldz 153 (tq 3)),oq 15 (.oth (.lookup 173 (tq 13) (tq 14) true)),om 9 15,oq 16 (.oth (.extract (tq 9) 0)),oq 17 (.oth (.extract (tq 9) 1)),oq 5 (.alloc 158),os (.sto 158 (tq 5) (tq 16)),om 6 17],[]⟩]) (some ([0,3,4],[3,4]))/\SX 94 (II 19) [om 18 6,ou 19 18] [0,3,4,5,6] [3,4,5]/\SX 94 (II 75) [oz 20 158 5 2,os (.sto 4 (tq 20) (cb true))] [0,3,4,5] [3,4,5]/\SX 94 (II 299) [oz 21 153 3 1,oz 22 86 21 1,ol 23 3 22,om 7 23] [0,3,4,5] [3,4,5]/\SX 94 (II 4267) [om 24 7,oz 25 153 3 1,oz 26 86 25 1,ol 27 3 26,oz 28 153 3 0,oz 29 151 28 1,ol 30 3 29,ob 31 .add 3 27 30,ob 32 .lss 3 24 31] [0,3,4,5,7] [3,4,5]/\RX 94 (II 17579) (.drw [⟨[],[om 35 0,oq 36 (.oth (.nilCheck (tq 35))),oz 37 175 36 1,ol 38 172 37,oz 39 153 3 1,oz 40 86 39 0,ol 41 3 40,om 42 7,oi 43 172 38 41,oi 44 206 43 42,ol 45 3 44,om 8 45],[]⟩]) (some ([0,3,4,5,7],[3,4,5]))/\SX 94 (II 42155) [oz 46 158 5 0,ol 47 3 46,om 48 8,ob 49 .add 3 47 48,oz 50 158 5 0,os (.sto 3 (tq 50) (tq 49))] [0,3,4,5,7,8] [3,4,5]/\RX 94 (II 91307) (.drw [⟨[],[oz 51 158 5 2,oq 52 (.ldz 4 (tq 51)),om 53 52,gm 53 true 54 8,gm 53 true 55 0,og 53 true 56 (.oth (.nilCheck (tq 55))),gz 53 true 57 175 56 0,gz 53 true 58 43 57 3,og 53 true 59 (.ldz 41 (tq 58)),gz 53 true 60 153 3 0,gz 53 true 61 151 60 0,og 53 true 62 (.ldz 3 (tq 61)),gi 53 true 63 41 59 62,gz 53 true 64 94 63 1,og 53 true 65 (.ldz 3 (tq 64)),gb 53 true 66 .geq 3 54 65,oq 67 (.pick (tq 53) (tq 66) (cb false)),oz 68 158 5 2],[os (.sto 4 (tq 68) (tq 67))]⟩]) (some ([0,3,4,5,7,8],[3,4,5]))/\RX 94 (II 189611) (.drw [⟨[],[om 69 0,oq 70 (.oth (.nilCheck (tq 69))),oz 71 175 70 0,oz 72 43 71 2,ol 73 28 72,oz 74 153 3 1,oz 75 86 74 0,ol 76 3 75,oi 77 28 73 76,ol 78 97 77,om 79 7,oi 80 97 78 79,ol 81 4 80,ou 82 81],[]⟩]) (some ([0,3,4,5,7],[3,4,5]))/\SX 94 (II 386219) [oz 83 158 5 1,ol 84 3 83,oc 85 .add 3 84 1,oz 86 158 5 1,os (.sto 3 (tq 86) (tq 85))] [0,3,4,5,7] [3,4,5]/\SX 94 (II 7339) [om 33 7,oc 34 .add 3 33 1,om 7 34] [0,3,4,5,7] [3,4,5]/\RX 94 (II 235) (.drw [⟨[],[om 87 0,oq 88 (.oth (.nilCheck (tq 87))),oz 89 175 88 2,ol 90 173 89,ol 91 153 3,ol 92 158 5],[os (.upd 173 (tq 90) (tq 91) (tq 92))]⟩]) (some ([0,3,4,5],[3,4,5]))/\SX 94 (II 23) [ol 93 158 5,os (.sto 158 (tq 4) (tq 93))] [4,5] [4,5]/\LX 94 S4 [0,3,4,5,7] [3,4,5]:=by and_intros<;>first|exact rx|exact lx|exact fun _ _=>rfl
def jF:=rg Tryz.f86
@[simp] def AMU:bq:=(.seq (jF 139) (.seq (.cond (.tmp 13) .skip (.exit 0)) (.seq (.block 1 (.seq (jF 2251) (.seq (jF 5323) (jF 7371)))) (jF 971))))
def YR:=AMU
def c86:bq:=(.seq (jF 2) (.seq (jF 5) (.seq (.seq (jF 19) (.block 0 (.loop YR))) (.seq (jF 23) .ret))))
theorem b86:Tryz.f86.body=some c86:=by kernel_rfl
@[simp] theorem x86:UX 38 YR AMU/\SX 38 (jF 2) [oq 4 (.alloc 158)] [0,1] []/\SX 38 (jF 5) [oq 9 (.build 158 [(2,cb true)]),oq 5 (.alloc 158),os (.sto 158 (tq 5) (tq 9))] [0,1,4] [4]/\SX 38 (jF 19) [om 10 1,oe 11 10 120,ok 12 0] [0,1,4,5] [4,5]/\SX 38 (jF 139) [ob 13 .lss 3 12 11] [0,4,5,10,11,12] [4,5]/\SX 38 (jF 2251) [oi 14 120 10 12,ol 15 153 14,oq 7 (.alloc 153),os (.sto 153 (tq 7) (tq 15))] [0,4,5,10,11,12] [4,5]/\SX 38 (jF 5323) [om 16 0,ol 17 153 7,oq 18 (.call true none (.func 129) [tq 16,tq 17]),oq 8 (.alloc 158),os (.sto 158 (tq 8) (tq 18))] [0,4,5,7,10,11,12] [4,5,7]/\SX 38 (jF 7371) [oz 19 158 5 0,ol 20 3 19,oz 21 158 8 0,ol 22 3 21,ob 23 .add 3 20 22,oz 24 158 5 1,ol 25 3 24,oz 26 158 8 1,ol 27 3 26,ob 28 .add 3 25 27,oz 29 158 5 2,ol 30 4 29,om 31 30,gz 31 true 32 158 8 2,gl 31 true 33 4 32,oq 34 (.pick (tq 31) (tq 33) (cb false)),oq 35 (.build 158 [(0,tq 23),(1,tq 28),(2,tq 34)]),os (.sto 158 (tq 5) (tq 35))] [0,4,5,8,10,11,12] [4,5,8]/\SX 38 (jF 971) [oc 36 .add 3 12 1,om 12 36] [0,4,5,10,11,12] [4,5]/\SX 38 (jF 23) [ol 37 158 5,os (.sto 158 (tq 4) (tq 37))] [4,5] [4,5]/\LX 38 YR [0,4,5,10,11,12] [4,5]:=⟨fun _ _=>rfl,rx,rx,rx,rx,rx,rx,rx,rx,rx,lx⟩
def FS:=rg Tryz.f168
@[simp] def ACU:bq:=(.seq (FS 36043) (.seq (.cond (.tmp 41) .skip (.exit 2)) (.seq (.block 3 (.seq (FS 576715) (.seq (FS 1363147) (.seq (.seq (FS 5033163) (.cond (.tmp 61) (.exit 3) .skip)) (.seq (FS 6081739) (.seq (.seq (FS 20761803) (.cond (.tmp 70) (.seq (FS 79482059) .ret) .skip)) (FS 16567499))))))) (FS 249035))))
def S5:=ACU
@[simp] def ACV:bq:=(.seq (FS 139) (.seq (.cond (.tmp 25) .skip (.exit 0)) (.seq (.block 1 (.seq (FS 2251) (.seq (FS 5323) (.block 2 (.loop S5))))) (FS 971))))
def S6:=ACV
def oY:bq:=(.seq (FS 2) (.seq (.seq (FS 9) (.cond (.tmp 14) (.seq (FS 37) .ret) .skip)) (.seq (.seq (FS 19) (.block 0 (.loop S6))) (.seq (FS 23) .ret))))
theorem b168:Tryz.f168.body=some oY:=by kernel_rfl
@[simp] theorem A8V(n:Nat)(st:XS):AF bk ann kn (n+1) 76 (FS 20761803) st=QJ (K0 bk (BL bk ann kn n) (.str [ol 66 177 5,om 67 0,oc 68 .add 3 67 1,oq 69 (.call false none (tq 66) [tq 68]),ou 70 69]) (CJ (some ([0,1,3,4,5,8,23,24,39,40],[10,65])) (LR [8004000922065] st))) :=
 EC (by kernel_rfl) (by kernel_rfl) (by kernel_rfl) (by kernel_rfl) (by kernel_rfl)
@[simp] theorem BK8:UX 76 S5 ACU/\UX 76 S6 ACV/\SX 76 (FS 2) [ot 7 false] [0,1,2,3,4,5] [10,65]/\SX 76 (FS 9) [om 11 0,ol 12 170 1,oe 13 12 170,ob 14 .eql 3 11 13] [0,1,2,3,4,5] [10,65]/\SX 76 (FS 37) [ol 15 191 2,ol 16 120 3,oq 17 (.call false none (tq 15) [tq 16]),om 7 17] [2,3] [65]/\SX 76 (FS 19) [ol 18 130 4,oq 19 (.oth (.nilCheck (tq 18))),oz 20 175 19 0,oz 21 43 20 0,oz 22 40 21 1,ol 23 3 22,ok 24 0] [0,1,3,4,5] [10,65]/\SX 76 (FS 139) [ob 25 .lss 3 24 23] [0,1,3,4,5,23,24] [10,65]/\SX 76 (FS 2251) [om 26 24,om 8 26] [0,1,3,4,5,23,24] [10,65]/\RX 76 (FS 5323) (.drw [⟨[],[ol 27 130 4,oq 28 (.oth (.nilCheck (tq 27))),oz 29 175 28 0,oz 30 43 29 0,oz 31 40 30 2,ol 32 3 31,ol 33 170 1,om 34 0,oi 35 170 33 34,oz 36 151 35 1,ol 37 3 36,ob 38 .sub 3 32 37,oc 39 .add 3 38 1,ok 40 0],[]⟩]) (some ([0,1,3,4,5,8,23,24],[10,65]))/\SX 76 (FS 36043) [ob 41 .lss 3 40 39] [0,1,3,4,5,8,23,24,39,40] [10,65]/\SX 76 (FS 576715) [om 42 40,om 9 42] [0,1,3,4,5,8,23,24,39,40] [10,65]/\SX 76 (FS 1363147) [ol 43 170 1,om 44 0,oi 45 170 43 44,ol 46 151 45,om 47 8,om 48 9,oq 49 (.build 86 [(0,tq 47),(1,tq 48)]),oq 50 (.build 153 [(0,tq 46),(1,tq 49)]),oq 10 (.alloc 153),os (.sto 153 (tq 10) (tq 50))] [0,1,3,4,5,8,9,23,24,39,40] [10,65]/\SX 76 (FS 5033163) [ol 51 130 4,ol 52 153 10,od 53 129 [tq 51,tq 52],oq 54 (.oth (.field 158 (tq 53) 2)),ou 55 54,om 56 55,gl 56 false 57 120 3,og 56 false 58 (.oth (.makeFunc (.func 169) #[] #[tq 4,tq 10])),gd 56 false 59 137 [tq 57,tq 58],og 56 false 60 (.oth (.unOp .not 4 (tq 59))),oq 61 (.pick (tq 56) (cb true) (tq 60))] [0,1,3,4,5,8,10,23,24,39,40] [10,65]/\SX 76 (FS 6081739) [ol 62 120 3,ol 63 153 10,oq 64 (.buildS 120 1 [(0,tq 63)]),oq 65 (.app [tq 62,tq 64] [120,120]),os (.sto 120 (tq 3) (tq 65))] [0,1,3,4,5,8,10,23,24,39,40] [10,65]/\SX 76 (FS 79482059) [ot 7 false] [] []/\SX 76 (FS 16567499) [ol 71 120 3,om 72 0,oq 73 (.oth (.slice 120 (tq 71) none (some (tq 72)) none)),os (.sto 120 (tq 3) (tq 73))] [0,1,3,4,5,8,23,24,39,40] [10,65]/\SX 76 (FS 249035) [oc 74 .add 3 40 1,om 40 74] [0,1,3,4,5,8,23,24,39,40] [10,65]/\SX 76 (FS 971) [oc 75 .add 3 24 1,om 24 75] [0,1,3,4,5,23,24] [10,65]/\SX 76 (FS 23) [ot 7 true] [] []/\LX 76 S6 [0,1,3,4,5,23,24] [10,65]/\LX 76 S5 [0,1,3,4,5,8,23,24,39,40] [10,65]:=by and_intros<;>first|exact rx|exact lx|exact fun _ _=>rfl
def AI4:=rg Tryz.f169
def A16:bq:=(.seq (AI4 2) (.seq (AI4 5) .ret))
theorem b169:Tryz.f169.body=some A16:=by kernel_rfl
@[simp] theorem BK9:SX 12 (AI4 2) [oq 3 (.box (tq 0)),ot 4 false] [0,1,2] []/\RX 12 (AI4 5) (.drw [⟨[],[ol 5 130 1,oq 6 (.oth (.nilCheck (tq 5))),oz 7 175 6 0,ol 8 43 7,ol 9 153 2,ol 10 153 3],[od 11 139 [tq 8,tq 9,tq 10]]⟩,⟨[],[om 4 11],[]⟩]) (some ([1,2,3],[3])):=⟨rx,rx⟩
def AI5:=rg Tryz.f128
def AI6:bq:=(.seq (AI5 2) (.seq (AI5 5) .ret))
theorem b128:Tryz.f128.body=some AI6:=by kernel_rfl
@[simp] theorem BLA:SX 6 (AI5 2) [oq 2 (.box (tq 0)),oq 3 (.box (tq 1)),oq 4 (.mv (.const .nilFunc))] [0,1] [2,3]/\SX 6 (AI5 5) [oq 5 (.oth (.makeFunc (.func 167) #[] #[tq 3,tq 2])),om 4 5] [2,3] [2,3]:=⟨rx,rx⟩
def J3:=rg Tryz.f167
@[simp] def ACW:bq:=(.seq (J3 139) (.seq (.cond (.tmp 12) .skip (.exit 0)) (.seq (.block 1 (.seq (J3 2251) (J3 3275))) (J3 971))))
def S7:=ACW
def xK:bq:=(.seq (J3 2) (.seq (J3 5) (.seq (.seq (J3 19) (.block 0 (.loop S7))) (.seq (.seq (J3 39) (.cond (.tmp 26) .ret .skip)) (.seq (J3 47) (.seq (J3 95) (.seq (J3 191) (J3 255))))))))
theorem b167:Tryz.f167.body=some xK:=by kernel_rfl
@[simp] theorem BLB:UX 30 S7 ACW/\SX 30 (J3 2) [oq 3 (.box (tq 0))] [0,1,2] [3,7,8]/\SX 30 (J3 5) [ok 4 0] [1,2,3] [3,7,8]/\SX 30 (J3 19) [ol 9 170 1,oe 10 9 170,ok 11 0] [1,2,3,4] [3,7,8]/\SX 30 (J3 139) [ob 12 .lss 3 11 10] [1,2,3,4,9,10,11] [3,7,8]/\SX 30 (J3 2251) [oi 13 170 9 11,ol 14 151 13,oq 6 (.alloc 151),os (.sto 151 (tq 6) (tq 14))] [1,2,3,4,9,10,11] [3,7,8]/\SX 30 (J3 3275) [om 15 4,oz 16 151 6 1,ol 17 3 16,ob 18 .add 3 15 17,om 4 18] [1,2,3,4,6,9,10,11] [3,6,7,8]/\SX 30 (J3 971) [oc 19 .add 3 11 1,om 11 19] [1,2,3,4,9,10,11] [3,7,8]/\SX 30 (J3 39) [om 20 4,ol 21 130 2,oq 22 (.oth (.nilCheck (tq 21))),oz 23 175 22 0,ol 24 43 23,od 25 140 [tq 24],ob 26 .gtr 3 20 25] [1,2,3,4] [3,7,8]/\SX 30 (J3 47) [oq 7 (.alloc 120)] [1,2,3] [3,7,8]/\SX 30 (J3 95) [oq 8 (.alloc 177)] [1,2,3,7] [3,7,8]/\SX 30 (J3 191) [oq 27 (.oth (.makeFunc (.func 168) #[] #[tq 1,tq 3,tq 7,tq 2,tq 8])),os (.sto 177 (tq 8) (tq 27))] [1,2,3,7,8] [3,7,8]/\SX 30 (J3 255) [ol 28 177 8,oq 29 (.call false none (tq 28) [ci 0])] [6,7,8,21,22] [1,3,4,6,7,8,11,910,911]/\LX 30 S7 [1,2,3,4,9,10,11] [3,7,8]:=⟨fun _ _=>rfl,rx,rx,rx,rx,rx,rx,rx,rx,rx,rx,rx,rx,lx⟩
def g91:=rg Tryz.f91
def c91:bq:=(.seq (g91 2) (.seq (.seq (g91 9) (.block 0 (.rangeFunc (.tmp 7) #[8] .skip (.block 1 (.seq (g91 149) .ret))))) (.seq (g91 11) .ret)))
theorem b91:Tryz.f91.body=some c91:=by kernel_rfl
@[simp] theorem x91:SX 9 (g91 2) [oq 4 (.alloc 4)] [0,1] [7]/\SX 9 (g91 9) [om 5 0,om 6 1,od 7 128 [tq 5,tq 6]] [0,1,4] [4,7]/\SX 9 (g91 149) [os (.sto 4 (tq 4) (cb true))] [4] [4]/\SX 9 (g91 11) [os (.sto 4 (tq 4) (cb false))] [4] [4]:=⟨rx,rx,rx,rx⟩
def g93:=rg Tryz.f93
def c93:bq:=(.seq (g93 2) (.seq (.seq (g93 9) (.cond (.tmp 4) (.seq (g93 37) .ret) .skip)) (.seq (g93 11) .ret)))
theorem b93:Tryz.f93.body=some c93:=by kernel_rfl
@[simp] theorem x93:SX 8 (g93 2) [oq 2 (.mv (.const (.slice none 0 0)))] [0] []/\SX 8 (g93 9) [om 3 0,oq 4 (.bin .eql 22 (tq 3) (.const (.slice none 0 0)))] [0] []/\SX 8 (g93 37) [oq 2 (.mv (.const (.slice none 0 0)))] [] []/\SX 8 (g93 11) [oq 5 (.buildS 22 0 []),om 6 0,oq 7 (.app [tq 5,tq 6] [22,22]),om 2 7] [0] []:=⟨rx,rx,rx,rx⟩
def dO:=rg Tryz.f90
@[simp] def AMW:bq:=(lp (dO 267) 30 0 1 (.seq (dO 1099) (.cond (.tmp 43) (.seq (dO 4683) .ret) .skip)) (dO 459))
def YS:=AMW
def c90:bq:=(.seq (dO 2) (.seq (.seq (dO 9) (.cond (.tmp 13) (.seq (dO 37) (.seq (dO 85) .ret)) .skip)) (.seq (.seq (dO 19) (.block 0 (.loop YS))) (.seq (dO 23) .ret))))
theorem b90:Tryz.f90.body=some c90:=by kernel_rfl
@[simp] theorem x90:UX 44 YS AMW/\SX 44 (dO 2) [ot 10 false] [0,1,2,3,4,5,6] [21,35,38]/\SX 44 (dO 9) [om 12 2,oc 13 .eql 3 12 0] [0,1,2,3,4,5,6] [21,35,38]/\SX 44 (dO 37) [om 14 0,os (.sto 22 (tq 3) (tq 14))] [0,3,4] [21,35,38]/\RX 44 (dO 85) (.drw [⟨[],[ol 15 130 4,ol 16 130 4,oq 17 (.oth (.nilCheck (tq 16))),oz 18 175 17 0,ol 19 43 18,om 20 0,od 21 92 [tq 19,tq 20]],[od 22 91 [tq 15,tq 21]]⟩,⟨[],[om 10 22],[]⟩]) (some ([0,4],[35,38]))/\SX 44 (dO 19) [om 23 1,om 11 23] [0,1,2,5,6] [21,35,38]/\SX 44 (dO 267) [om 24 11,oz 25 43 5 3,ol 26 41 25,oe 27 26 41,om 28 2,ob 29 .sub 3 27 28,ob 30 .leq 3 24 29] [0,2,5,6,11] [21,35,38]/\RX 44 (dO 1099) (.drw [⟨[35],[ol 33 168 6,om 34 0,om 36 11,oq 37 (.buildS 22 1 [(0,tq 36)]),om 39 11,oc 40 .add 3 39 1,om 41 2,oc 42 .sub 3 41 1,oq 35 (.call true none (.func 93) [tq 34]),oq 38 (.app [tq 35,tq 37] [22,22])],[oq 43 (.call false (some 38) (tq 33) [tq 38,tq 40,tq 42])]⟩,⟨[],[],[]⟩]) (some ([0,2,5,6,11],[21,38]))/\SX 44 (dO 4683) [ot 10 true] [] []/\SX 44 (dO 459) [om 31 11,oc 32 .add 3 31 1,om 11 32] [0,2,5,6,11] [21,35,38]/\SX 44 (dO 23) [ot 10 false] [] []/\LX 44 YS [0,2,5,6,11] [21,35,38]:=⟨fun _ _=>rfl,rx,rx,rx,rx,rx,rx,rx,rx,rx,rx,lx⟩
def JA:=rg Tryz.f85
@[simp] def AMX:bq:=(.seq (JA 17877) (.seq (.cond (.tmp 45) .skip (.exit 2)) (.seq (.block 3 (.seq (JA 288213) (JA 419285))) (JA 124373))))
def OI:=AMX
def c85:bq:=(.seq (JA 2) (.seq (.seq (JA 9) (.block 0 (.rangeFunc (.tmp 15) #[16] (JA 37) (.block 1 (.seq (JA 149) (.seq (.seq (JA 597) (.cond (.tmp 41) (.exit 1) .skip)) (.seq (JA 725) (.seq (.seq (JA 2517) (.block 2 (.loop OI))) (JA 2005))))))))) (.seq (JA 11) .ret)))
theorem b85:Tryz.f85.body=some c85:=by kernel_rfl
@[simp] theorem BC6(n:Nat)(st:XS):AF bk ann kn (n+1) 58 (JA 124373) st=QJ (K0 bk (BL bk ann kn n) (.str [oc 53 .add 3 44 1,om 44 53]) (CJ (some ([2,3,4,6,42,43,44],[2,3,4,6,52,922])) (LR [3003000923052] st))) :=
 EC (by kernel_rfl) (by kernel_rfl) (by kernel_rfl) (by kernel_rfl) (by kernel_rfl)
@[simp] theorem BC7(n:Nat)(st:XS):AF bk ann kn (n+1) 58 (JA 11) st=QJ (K0 bk (BL bk ann kn n) (.cls [(37,(2,55)),(158,(3,56)),(4,(4,57))]) (CJ (some ([2,3,4],[2,3,4,52,922])) (LR [922] st))) :=
 EC (by kernel_rfl) (by kernel_rfl) (by kernel_rfl) (by kernel_rfl) (by kernel_rfl)
@[simp] theorem x85:UX 58 OI AMX/\SX 58 (JA 2) [oq 1 (.box (tq 0)),oq 2 (.alloc 37),oq 3 (.alloc 158),oq 4 (.alloc 4)] [0] [1,10,14,15,32,36]/\RX 58 (JA 9) (.drw [⟨[],[ol 9 130 1,ol 10 130 1,oq 11 (.oth (.nilCheck (tq 10))),oz 12 175 11 0,ol 13 43 12,od 14 92 [tq 13,.const (.slice none 0 0)]],[od 15 128 [tq 9,tq 14]]⟩,⟨[],[],[]⟩]) (some ([1,2,3,4],[1,2,3,4,52,922]))/\SX 58 (JA 37) [om 5 16] [1,2,3,4,16] [1,2,3,4,14,15,52,922]/\SX 58 (JA 149) [ol 17 130 1,om 18 5,oq 19 (.call true none (.func 86) [tq 17,tq 18]),oq 6 (.alloc 158),os (.sto 158 (tq 6) (tq 19))] [1,2,3,4,5] [1,2,3,4,14,15,52,922]/\SX 58 (JA 597) [ol 20 4 4,om 21 20,gz 21 true 22 158 6 0,gl 21 true 23 3 22,gz 21 true 24 158 3 0,gl 21 true 25 3 24,gb 21 true 26 .lss 3 23 25,gm 21 true 27 26,gz 27 false 28 158 6 0,gl 27 false 29 3 28,gz 27 false 30 158 3 0,gl 27 false 31 3 30,gb 27 false 32 .eql 3 29 31,gm 27 false 33 32,gz 33 true 34 158 6 1,gl 33 true 35 3 34,gz 33 true 36 158 3 1,gl 33 true 37 3 36,gb 33 true 38 .geq 3 35 37,og 27 false 39 (.pick (tq 33) (tq 38) (cb false)),og 21 true 40 (.pick (tq 27) (cb true) (tq 39)),oq 41 (.pick (tq 21) (tq 40) (cb false))] [2,3,4,5,6] [2,3,4,6,52,922]/\SX 58 (JA 725) [os (.sto 37 (tq 2) (.const (.slice none 0 0)))] [2,3,4,5,6] [2,3,4,6,52,922]/\SX 58 (JA 2517) [om 42 5,oe 43 42 120,ok 44 0] [2,3,4,5,6] [2,3,4,6,52,922]/\SX 58 (JA 17877) [ob 45 .lss 3 44 43] [2,3,4,6,42,43,44] [2,3,4,6,52,922]/\SX 58 (JA 288213) [oi 46 120 42 44,ol 47 153 46,oq 8 (.alloc 153),os (.sto 153 (tq 8) (tq 47))] [2,3,4,6,42,43,44] [2,3,4,6,52,922]/\SX 58 (JA 419285) [ol 48 37 2,oz 49 153 8 1,ol 50 86 49,oq 51 (.buildS 37 1 [(0,tq 50)]),oq 52 (.app [tq 48,tq 51] [37,37]),os (.sto 37 (tq 2) (tq 52))] [2,3,4,6,8,42,43,44] [2,3,4,6,8,52,922]/\SX 58 (JA 2005) [ol 54 158 6,os (.sto 158 (tq 3) (tq 54)),os (.sto 4 (tq 4) (cb true))] [3,4,6] [3,4,6]/\LX 58 OI [2,3,4,6,42,43,44] [2,3,4,6,52,922]:=⟨fun _ _=>rfl,rx,rx,rx,rx,rx,rx,rx,rx,rx,rx,rx,lx⟩
def oK:=rg Tryz.f33
def c33:bq:=(.seq (oK 2) (.seq (oK 5) (.seq (.seq (oK 19) (.cond (.tmp 15) (.seq (oK 75) .ret) .skip)) (.seq (oK 23) (.seq (.seq (oK 79) (.cond (.tmp 24) (.seq (oK 303) .ret) .skip)) (.seq (oK 95) .ret))))))
theorem b33:Tryz.f33.body=some c33:=by kernel_rfl
@[simp] theorem x33:SX 30 (oK 2) [oq 1 (.box (tq 0)),oq 2 (.mv (.const (.slice none 0 0))),ok 3 0,ok 4 0,ok 5 0] [0] [1,11,19,910,911]/\SX 30 (oK 5) [ol 10 43 1,od 11 71 [tq 10],om 9 11,oq 12 (.oth (.extract (tq 9) 0)),oq 13 (.oth (.extract (tq 9) 1)),om 6 12,om 5 13] [1] [1,11,19,910,911]/\SX 30 (oK 19) [om 14 5,oc 15 .neq 34 14 0] [1,4,5,6] [1,4,6,7,11,19,910,911]/\SX 30 (oK 75) [om 16 5,oq 2 (.mv (.const (.slice none 0 0))),ok 3 0,ok 4 0,om 5 16] [5] []/\SX 30 (oK 23) [om 18 6,od 19 85 [tq 18],om 17 19,oq 20 (.oth (.extract (tq 17) 0)),oq 21 (.oth (.extract (tq 17) 1)),oq 22 (.oth (.extract (tq 17) 2)),oq 7 (.alloc 158),om 2 20,os (.sto 158 (tq 7) (tq 21)),om 8 22] [6] [1,11,19,910,911]/\SX 30 (oK 79) [om 23 8,ou 24 23] [2,7,8] [1,7,11,19,910,911]/\SX 30 (oK 303) [oq 2 (.mv (.const (.slice none 0 0))),ok 3 0,ok 4 0,ok 5 10] [] []/\RX 30 (oK 95) (.drw [⟨[],[om 25 2,oz 26 158 7 0,ol 27 3 26,oz 28 158 7 1,ol 29 3 28,om 2 25,om 3 27,om 4 29,ok 5 0],[]⟩]) (some ([2,7],[1,7,11,19,910,911])):=by and_intros<;>exact rx
def WD:=rg Tryz.f41
@[simp] def AMY:bq:=(.seq (WD 8957) (.seq (.cond (.tmp 23) .skip (.exit 0)) (.seq (.block 1 (.seq (WD 144125) (.seq (WD 340733) (.cond (.tmp 27) (.exit 0) .skip)))) (WD 62205))))
def YT:=AMY
def c41:bq:=(.seq (WD 2) (.scope (.seq (WD 9) (.seq (.seq (WD 37) (.cond (.tmp 15) (.seq (WD 149) .ret) .skip)) (.seq (WD 45) (.seq (WD 93) (.seq (WD 189) (.seq (.label 0) (.seq (.seq (WD 1277) (.block 0 (.loop YT))) (.seq (WD 1533) .ret))))))))))
theorem b41:Tryz.f41.body=some c41:=by kernel_rfl
@[simp] theorem x41:UX 30 YT AMY/\SX 30 (WD 2) [oq 1 (.box (tq 0)),oq 2 (.mv (.const (.slice none 0 0))),ok 3 0] [0] [1,4,6,7,11,910,911]/\SX 30 (WD 9) [ol 10 43 1,od 11 71 [tq 10],om 9 11,oq 12 (.oth (.extract (tq 9) 0)),oq 13 (.oth (.extract (tq 9) 1)),oq 4 (.alloc 130),os (.sto 130 (tq 4) (tq 12)),om 5 13] [1] [1,4,6,7,11,910,911]/\SX 30 (WD 37) [om 14 5,oc 15 .neq 34 14 0] [1,4,5,6] [1,4,6,7,11,19,910,911]/\SX 30 (WD 149) [om 16 5,oq 2 (.mv (.const (.slice none 0 0))),om 3 16] [5] []/\SX 30 (WD 45) [oq 6 (.alloc 22)] [1,4] [1,4,6,7,11,910,911]/\SX 30 (WD 93) [oq 7 (.alloc 168)] [1,4,6] [1,4,6,7,11,910,911]/\SX 30 (WD 189) [oq 17 (.oth (.makeFunc (.func 90) #[] #[tq 6,tq 4,tq 1,tq 7])),os (.sto 168 (tq 7) (tq 17))] [1,4,6,7] [1,4,6,7,11,910,911]/\SX 30 (WD 1277) [oz 18 43 1 3,ol 19 41 18,oe 20 19 41,oc 21 .add 3 20 1,ok 22 0] [1,6,7] [1,4,6,7,11,910,911]/\SX 30 (WD 8957) [ob 23 .lss 3 22 21] [6,7,21,22] [1,4,6,7,11,910,911]/\SX 30 (WD 144125) [om 24 22,om 8 24] [6,7,21,22] [1,4,6,7,11,910,911]/\SX 30 (WD 340733) [ol 25 168 7,om 26 8,oq 27 (.call false none (tq 25) [.const (.slice none 0 0),ci 0,tq 26])] [6,7,8,21,22] [1,4,6,7,11,910,911]/\SX 30 (WD 62205) [oc 28 .add 3 22 1,om 22 28] [6,7,8,21,22] [1,3,4,6,7,8,11,910,911]/\SX 30 (WD 1533) [ol 29 22 6,om 2 29,ok 3 0] [6] [1,4,6,7,11,910,911]/\LX 30 YT [6,7,21,22] [1,4,6,7,11,910,911]:=⟨fun _ _=>rfl,rx,rx,rx,rx,rx,rx,rx,rx,rx,rx,rx,rx,rx,lx⟩
def jG:=rg Tryz.f16
@[simp] def ACY:bq:=(lp (jG 4287) 48 0 1 (.seq (.seq (jG 33983) (.cond (.tmp 93) (.seq (jG 148671) .ret) .skip)) (.seq (jG 42175) (.seq (jG 91327) (.cond (.tmp 110) (.seq (jG 320703) .ret) .skip)))) (jG 7359))
def fZ:=ACY
def c16:bq:=(.seq (jG 2) (.seq (.seq (jG 9) (.cond (.tmp 16) (.seq (jG 37) .ret) .skip)) (.seq (jG 11) (.seq (jG 23) (.seq (.seq (jG 79) (.cond (.tmp 33) (.seq (jG 303) .ret) .skip)) (.seq (.seq (jG 159) (.cond (.tmp 44) (.seq (jG 607) .ret) .skip)) (.seq (.seq (jG 319) (.block 0 (.loop fZ))) (.seq (jG 383) .ret))))))))
@[simp] theorem x16:UX 112 fZ ACY/\LX 112 fZ [1,3,9] [1,20,21,26,27,102,103,104]:=⟨fun _ _=>rfl,lx⟩
def g58:=rg Tryz.f58
def c58:bq:=(.seq (g58 2) (.seq (g58 5) (.seq (g58 11) (.seq (g58 23) (.seq (g58 47) (.seq (g58 95) .ret))))))
theorem b58:Tryz.f58.body=some c58:=by kernel_rfl
@[simp] theorem x58:SX 87 (g58 2) [oq 2 (.box (tq 0)),oq 3 (.box (tq 1)),ot 4 false] [0,1] [2,3,19,20,27,28,35,36,41,42]/\SX 87 (g58 5) [ol 18 31 3,od 19 21 [tq 18],od 20 33 [tq 19],om 17 20,oq 21 (.oth (.extract (tq 17) 0)),oq 22 (.oth (.extract (tq 17) 1)),oq 23 (.oth (.extract (tq 17) 2)),oq 24 (.oth (.extract (tq 17) 3)),om 5 21,om 6 22,om 7 23,om 8 24] [2,3] [2,3,19,20,27,28,35,36,41,42]/\SX 87 (g58 11) [ol 26 31 2,od 27 21 [tq 26],od 28 33 [tq 27],om 25 28,oq 29 (.oth (.extract (tq 25) 0)),oq 30 (.oth (.extract (tq 25) 1)),oq 31 (.oth (.extract (tq 25) 2)),oq 32 (.oth (.extract (tq 25) 3)),om 9 29,om 10 30,om 11 31,om 12 32] [2,3,6,8] [2,3,19,20,27,28,35,36,41,42]/\SX 87 (g58 23) [ol 34 31 3,od 35 21 [tq 34],od 36 41 [tq 35],om 33 36,oq 37 (.oth (.extract (tq 33) 0)),oq 38 (.oth (.extract (tq 33) 1)),om 13 37,om 14 38] [2,3,6,8,10,12] [2,3,19,20,27,28,35,36,41,42]/\SX 87 (g58 47) [ol 40 31 2,od 41 21 [tq 40],od 42 41 [tq 41],om 39 42,oq 43 (.oth (.extract (tq 39) 0)),oq 44 (.oth (.extract (tq 39) 1)),om 15 43,om 16 44] [2,6,8,10,12,13,14] [2,3,19,20,27,28,35,36,41,42]/\SX 87 (g58 95) [om 45 8,oc 46 .eql 34 45 0,om 47 46,gm 47 false 48 8,gc 47 false 49 .eql 34 48 10,oq 50 (.pick (tq 47) (cb true) (tq 49)),om 51 50,gm 51 true 52 12,gc 51 true 53 .eql 34 52 0,gm 51 true 54 53,gm 54 false 55 12,gc 54 false 56 .eql 34 55 10,og 51 true 57 (.pick (tq 54) (cb true) (tq 56)),oq 58 (.pick (tq 51) (tq 57) (cb false)),om 59 58,gm 59 true 60 8,gc 59 true 61 .neq 34 60 0,gm 59 true 62 61,gm 62 false 63 12,gc 62 false 64 .eql 34 63 0,gm 62 false 65 64,gm 65 true 66 10,gm 65 true 67 6,gb 65 true 68 .geq 3 66 67,og 62 false 69 (.pick (tq 65) (tq 68) (cb false)),og 59 true 70 (.pick (tq 62) (cb true) (tq 69)),oq 71 (.pick (tq 59) (tq 70) (cb false)),om 72 71,gm 72 true 73 14,gc 72 true 74 .eql 34 73 0,oq 75 (.pick (tq 72) (tq 74) (cb false)),om 76 75,gm 76 true 77 16,gc 76 true 78 .eql 34 77 0,oq 79 (.pick (tq 76) (tq 78) (cb false)),om 80 79,gm 80 true 81 15,ge 80 true 82 81 22,gm 80 true 83 13,ge 80 true 84 83 22,gb 80 true 85 .leq 3 82 84,oq 86 (.pick (tq 80) (tq 85) (cb false)),om 4 86] [6,8,10,12,13,14,15,16] [2,3,19,20,27,28,35,36,41,42]:=⟨rx,rx,rx,rx,rx,rx⟩
def IY:=rg Tryz.f13
@[simp] def ACZ:bq:=(lp (IY 34303) 84 1 2 (IY 75263) (IY 58879))
def XL:=ACZ
def c13:bq:=(.seq (IY 2) (.seq (.seq (IY 9) (.cond (.tmp 30) (.seq (IY 37) .ret) .skip)) (.seq (IY 11) (.seq (IY 23) (.seq (IY 47) (.seq (.seq (IY 159) (.block 0 (.seq (IY 607) (.cond (.tmp 52) (IY 1375) (.seq (IY 2911) (.cond (.tmp 63) (IY 5983) (IY 8031))))))) (.seq (IY 191) (.seq (IY 383) (.seq (IY 767) (.seq (.seq (IY 2559) (.block 1 (.loop XL))) (.seq (IY 3071) (.seq (.seq (IY 10239) (.cond (.tmp 123) (.seq (IY 38911) .ret) .skip)) (.seq (IY 12287) (.seq (IY 24575) (.seq (IY 49151) .ret)))))))))))))))
theorem b13:Tryz.f13.body=some c13:=by kernel_rfl
@[simp] theorem BDA(n:Nat)(st:XS):AF bk ann kn (n+1) 159 (IY 58879) st=QJ (K0 bk (BL bk ann kn n) (.str [om 85 13,oc 86 .add 3 85 1,om 13 86]) (CJ (some ([4,9,11,12,13],[4,9,11,36,97,126,127,134,135,930,931,932])) (LR [12014931095] st))) :=
 EC (by kernel_rfl) (by kernel_rfl) (by kernel_rfl) (by kernel_rfl) (by kernel_rfl)
@[simp] theorem BDB(n:Nat)(st:XS):AF bk ann kn (n+1) 159 (IY 10239) st=QJ (K0 bk (BL bk ann kn n) (.str [ol 114 31 9,ol 115 31 4,od 116 58 [tq 114,tq 115],ou 117 116,om 118 117,gl 118 false 119 31 11,gl 118 false 120 31 4,gd 118 false 121 58 [tq 119,tq 120],og 118 false 122 (.oth (.unOp .not 4 (tq 121))),oq 123 (.pick (tq 118) (cb true) (tq 122))]) (CJ (some ([4,9,11],[4,9,11,36,97,126,127,134,135,930,931,932])) (LR [36,930,931,932,97] st))) :=
 EC (by kernel_rfl) (by kernel_rfl) (by kernel_rfl) (by kernel_rfl) (by kernel_rfl)
@[simp] theorem x13:UX 159 XL ACZ/\SX 159 (IY 2) [oq 4 (.box (tq 0)),ot 8 false] [0,1,2,3] [4,9,11,36,97,126,127,134,135,930,931,932]/\SX 159 (IY 9) [ol 22 31 4,od 23 54 [tq 22],ou 24 23,om 25 24,gz 25 false 26 31 4 3,gl 25 false 27 29 26,ge 25 false 28 27 29,gc 25 false 29 .eql 3 28 0,oq 30 (.pick (tq 25) (cb true) (tq 29))] [1,2,3,4] [4,9,11,36,97,126,127,134,135,930,931,932]/\SX 159 (IY 37) [od 31 19 [],om 8 31] [] []/\SX 159 (IY 11) [ol 32 31 4,oq 9 (.alloc 31),os (.sto 31 (tq 9) (tq 32))] [1,2,3,4] [4,9,11,36,97,126,127,134,135,930,931,932]/\SX 159 (IY 23) [oq 33 (.buildS 29 0 []),oz 34 31 4 3,ol 35 29 34,oq 36 (.app [tq 33,tq 35] [29,29]),oz 37 31 9 3,os (.sto 29 (tq 37) (tq 36))] [1,2,3,4,9] [4,9,11,36,97,126,127,134,135,930,931,932]/\RX 159 (IY 47) (.drw [⟨[],[oz 38 31 9 3,ol 39 29 38,om 40 1,oq 41 (.oth (.convert 5 3 (tq 40))),oz 42 31 9 3,ol 43 29 42,oe 44 43 29,ob 45 .rem 3 41 44,oi 46 29 39 45,om 10 46],[]⟩]) (some ([1,2,3,4,9],[4,9,11,36,97,126,127,134,135,930,931,932]))/\SX 159 (IY 159) [om 47 2,oq 48 (.bin .rem 5 (tq 47) (.const (.int .u8 3)))] [2,3,4,9,10] [4,9,11,36,97,126,127,134,135,930,931,932]/\SX 159 (IY 607) [oq 53 (.bin .eql 5 (tq 48) (.const (.int .u8 0))),om 52 53] [3,4,9,10,48] [4,9,11,36,97,126,127,134,135,930,931,932]/\SX 159 (IY 1375) [om 54 10,om 55 10,oq 56 (.oth (.nilCheck (tq 55))),oz 57 57 56 1,ol 58 3 57,oc 59 .sub 3 58 1,oq 60 (.oth (.call ⟨.builtin .max,#[ci 0,tq 59],#[3,3]⟩)),oq 61 (.oth (.nilCheck (tq 54))),oz 62 57 61 1,os (.sto 3 (tq 62) (tq 60))] [3,4,9,10] [4,9,11,36,97,126,127,134,135,930,931,932]/\SX 159 (IY 2911) [oq 64 (.bin .eql 5 (tq 48) (.const (.int .u8 1))),om 63 64] [3,4,9,10,48] [4,9,11,36,97,126,127,134,135,930,931,932]/\SX 159 (IY 5983) [om 65 10,oq 66 (.oth (.nilCheck (tq 65))),oz 67 57 66 2,os (.sto 4 (tq 67) (cb false))] [3,4,9,10] [4,9,11,36,97,126,127,134,135,930,931,932]/\SX 159 (IY 8031) [om 49 10,oq 50 (.oth (.nilCheck (tq 49))),oz 51 57 50 3,os (.sto 4 (tq 51) (cb false))] [3,4,9,10] [4,9,11,36,97,126,127,134,135,930,931,932]/\SX 159 (IY 191) [ol 68 31 4,oq 11 (.alloc 31),os (.sto 31 (tq 11) (tq 68))] [3,4,9] [4,9,11,36,97,126,127,134,135,930,931,932]/\SX 159 (IY 383) [oz 69 31 11 2,os (.sto 28 (tq 69) (.const (.slice none 0 0)))] [3,4,9,11] [4,9,11,36,97,126,127,134,135,930,931,932]/\SX 159 (IY 767) [om 70 3,oq 71 (.oth (.convert 5 3 (tq 70))),oz 72 31 4 0,oz 73 27 72 1,ol 74 3 73,oz 75 31 4 0,oz 76 27 75 2,ol 77 3 76,ob 78 .mul 3 74 77,ob 79 .rem 3 71 78,om 12 79] [3,4,9,11] [4,9,11,36,97,126,127,134,135,930,931,932]/\SX 159 (IY 2559) [ok 13 0] [4,9,11,12] [4,9,11,36,97,126,127,134,135,930,931,932]/\SX 159 (IY 34303) [om 80 13,oz 81 31 4 2,ol 82 28 81,oe 83 82 28,ob 84 .lss 3 80 83] [4,9,11,12,13] [4,9,11,36,97,126,127,134,135,930,931,932]/\RX 159 (IY 75263) (.drw [⟨[],[oz 87 31 11 2,ol 88 28 87,oq 89 (.buildS 97 0 []),oz 90 31 4 2,ol 91 28 90,om 92 13,oi 93 28 91 92,ol 94 97 93,oq 95 (.app [tq 89,tq 94] [97,97]),oq 96 (.buildS 28 1 [(0,tq 95)]),oq 97 (.app [tq 88,tq 96] [28,28]),oz 98 31 11 2],[os (.sto 28 (tq 98) (tq 97))]⟩]) (some ([4,9,11,12,13],[4,9,11,36,97,126,127,134,135,930,931,932]))/\RX 159 (IY 3071) (.drw [⟨[],[oz 99 31 11 2,oq 100 (.ldz 28 (tq 99)),om 101 12,oz 102 31 4 0,oz 103 27 102 2,oq 104 (.ldz 3 (tq 103)),ob 105 .quo 3 101 104,oi 106 28 100 105,oq 107 (.ldz 97 (tq 106)),om 108 12,oz 109 31 4 0,oz 110 27 109 2,oq 111 (.ldz 3 (tq 110)),ob 112 .rem 3 108 111,oi 113 97 107 112],[os (.sto 4 (tq 113) (cb true))]⟩]) (some ([4,9,11,12],[4,9,11,36,97,126,127,134,135,930,931,932]))/\SX 159 (IY 12287) [ol 125 31 4,od 126 21 [tq 125],od 127 33 [tq 126],om 124 127,oq 128 (.oth (.extract (tq 124) 0)),oq 129 (.oth (.extract (tq 124) 1)),oq 130 (.oth (.extract (tq 124) 2)),oq 131 (.oth (.extract (tq 124) 3)),om 14 128,om 15 129,om 16 130,om 17 131] [4,11] [4,9,11,36,97,126,127,134,135,930,931,932]/\SX 159 (IY 24575) [ol 133 31 11,od 134 21 [tq 133],od 135 33 [tq 134],om 132 135,oq 136 (.oth (.extract (tq 132) 0)),oq 137 (.oth (.extract (tq 132) 1)),oq 138 (.oth (.extract (tq 132) 2)),oq 139 (.oth (.extract (tq 132) 3)),om 18 136,om 19 137,om 20 138,om 21 139] [11,15,16,17] [4,9,11,36,97,126,127,134,135,930,931,932]/\SX 159 (IY 49151) [om 140 17,oc 141 .neq 34 140 0,om 142 141,gm 142 false 143 21,gc 142 false 144 .eql 34 143 0,gm 142 false 145 144,gm 145 true 146 19,gm 145 true 147 15,gb 145 true 148 .gtr 3 146 147,gm 145 true 149 148,gm 149 false 150 20,gm 149 false 151 16,gb 149 false 152 .leq 3 150 151,og 145 true 153 (.pick (tq 149) (cb true) (tq 152)),og 142 false 154 (.pick (tq 145) (tq 153) (cb false)),oq 155 (.pick (tq 142) (cb true) (tq 154)),om 156 155,gd 156 true 157 19 [],oq 158 (.pick (tq 156) (tq 157) (cb false)),om 8 158] [15,16,17,19,20,21] []/\LX 159 XL [4,9,11,12,13] [4,9,11,36,97,126,127,134,135,930,931,932]:=by and_intros<;>first|exact rx|exact lx|exact fun _ _=>rfl
end
end Go.Proofs.Tryz.Op
