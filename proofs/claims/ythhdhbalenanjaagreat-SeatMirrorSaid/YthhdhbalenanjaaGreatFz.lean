/- The walk's ground of function 57: its regions worked out. No condition. -/
import Derived.Test.YthhdhbalenanjaaGreatGa
open Go renaming Code->bq
open Go.Proofs.Tryz renaming prog->bk
open Int renaming negSucc->bj
set_option maxRecDepth 100000
namespace Go.Proofs.Tryz.Op
open Go Go.Pg
noncomputable section
def g57:=rg Tryz.f57
def c57:bq:=(.seq (g57 2) (.seq (g57 5) .ret))
theorem b57:Tryz.f57.body=some c57:=by kernel_rfl
@[simp] theorem x57:SX 15 (g57 2) [ot 6 false] [0,1,2] []/\SX 15 (g57 5) [om 7 0,om 8 1,ob 9 .geq 3 7 8,om 10 9,gm 10 true 11 0,gm 10 true 12 2,gb 10 true 13 .leq 3 11 12,oq 14 (.pick (tq 10) (tq 13) (cb false)),om 6 14] [0,1,2] []:=⟨rx,rx⟩
def SB:=rg Tryz.f134
@[simp] def AC6:bq:=(lp (SB 133) 9 0 1 (.seq (SB 549) (.cond (.tmp 18) (.seq (SB 2341) .ret) .skip)) (SB 229))
def SD:=AC6
def A0R:bq:=(.seq (SB 2) (.seq (.seq (SB 9) (.block 0 (.loop SD))) (.seq (SB 11) .ret)))
theorem BA5:Tryz.f134.body=some A0R:=by kernel_rfl
@[simp] theorem BH7:UX 19 SD AC6/\SX 19 (SB 2) [ot 4 false] [0,1] []/\SX 19 (SB 9) [ok 5 0] [0,1] []/\SX 19 (SB 133) [om 6 5,om 7 0,oe 8 7 22,ob 9 .lss 3 6 8] [0,1,5] []/\SX 19 (SB 549) [om 12 0,om 13 5,oi 14 22 12 13,ol 15 3 14,om 16 1,od 17 57 [tq 15,tq 16,ci 3],ou 18 17] [0,1,5] []/\SX 19 (SB 2341) [ot 4 false] [] []/\SX 19 (SB 229) [om 10 5,oc 11 .add 3 10 1,om 5 11] [0,1,5] []/\SX 19 (SB 11) [ot 4 true] [] []/\LX 19 SD [0,1,5] []:=⟨fun _ _=>rfl,rx,rx,rx,rx,rx,rx,rx,lx⟩
def AJC:=rg Tryz.f135
def A0S:bq:=(.seq (AJC 2) (.seq (AJC 5) .ret))
theorem BA6:Tryz.f135.body=some A0S:=by kernel_rfl
@[simp] theorem BH8:SX 19 (AJC 2) [oq 2 (.box (tq 0)),oq 3 (.box (tq 1)),ot 4 false] [0,1] [2]/\SX 19 (AJC 5) [oz 5 59 3 0,ol 6 3 5,oz 7 27 2 1,ol 8 3 7,oc 9 .sub 3 8 1,od 10 57 [tq 6,ci 0,tq 9],om 11 10,gz 11 true 12 59 3 1,gl 11 true 13 3 12,gz 11 true 14 27 2 2,gl 11 true 15 3 14,gc 11 true 16 .sub 3 15 1,gd 11 true 17 57 [tq 13,ci 0,tq 16],oq 18 (.pick (tq 11) (tq 17) (cb false)),om 4 18] [2,3] [2,3]:=⟨rx,rx⟩
def vD:=rg Tryz.f75
@[simp] def ANW:bq:=(lp (vD 133) 9 0 1 (.seq (vD 549) (.cond (.tmp 17) (.seq (vD 2341) .ret) .skip)) (vD 229))
def YU:=ANW
def c75:bq:=(.seq (vD 2) (.seq (.seq (vD 9) (.block 0 (.loop YU))) (.seq (vD 11) .ret)))
theorem b75:Tryz.f75.body=some c75:=by kernel_rfl
@[simp] theorem x75:UX 18 YU ANW/\SX 18 (vD 2) [ot 4 false] [0,1] []/\SX 18 (vD 9) [ok 5 0] [0,1] []/\SX 18 (vD 133) [om 6 5,om 7 0,oe 8 7 22,ob 9 .lss 3 6 8] [0,1,5] []/\SX 18 (vD 549) [om 12 0,om 13 5,oi 14 22 12 13,ol 15 3 14,om 16 1,ob 17 .eql 3 15 16] [0,1,5] []/\SX 18 (vD 2341) [ot 4 true] [] []/\SX 18 (vD 229) [om 10 5,oc 11 .add 3 10 1,om 5 11] [0,1,5] []/\SX 18 (vD 11) [ot 4 false] [] []/\LX 18 YU [0,1,5] []:=⟨fun _ _=>rfl,rx,rx,rx,rx,rx,rx,rx,lx⟩
def AJD:=rg Tryz.f114
def A0T:bq:=(.seq (AJD 2) (.seq (AJD 5) .ret))
theorem BA8:Tryz.f114.body=some A0T:=by kernel_rfl
@[simp] theorem BIA:SX 6 (AJD 2) [oq 2 (.mv (.const (.slice none 0 0)))] [0,1] []/\SX 6 (AJD 5) [oq 3 (.buildS 22 0 []),om 4 0,oq 5 (.app [tq 3,tq 4] [22,22]),om 2 5] [0,1] []:=⟨rx,rx⟩
def SE:=rg Tryz.f115
@[simp] def AC7:bq:=(lp (SE 267) 9 0 1 (SE 587) (SE 459))
def SF:=AC7
def A0U:bq:=(.seq (SE 2) (.seq (SE 5) (.seq (.seq (SE 19) (.block 0 (.loop SF))) (.seq (SE 23) .ret))))
theorem BA9:Tryz.f115.body=some A0U:=by kernel_rfl
@[simp] theorem BIB:UX 21 SF AC7/\SX 21 (SE 2) [oq 2 (.mv (.const (.slice none 0 0)))] [0] [17]/\SX 21 (SE 5) [oq 5 (.buildS 23 0 []),om 3 5] [0] [17]/\SX 21 (SE 19) [ok 4 0] [0,1,3] [1,17,19]/\SX 21 (SE 267) [om 6 4,om 7 0,oe 8 7 23,ob 9 .lss 3 6 8] [0,3,4] [17,19]/\SX 21 (SE 587) [om 12 3,om 13 0,om 14 4,oi 15 23 13 14,ol 16 22 15,od 17 114 [tq 16],oq 18 (.buildS 23 1 [(0,tq 17)]),oq 19 (.app [tq 12,tq 18] [23,23]),om 3 19] [0,1,3,4] [1,17,19]/\SX 21 (SE 459) [om 10 4,oc 11 .add 3 10 1,om 4 11] [0,1,3,4] [1,17,19]/\SX 21 (SE 23) [om 20 3,om 2 20] [0,1,3,7,8] [19]/\LX 21 SF [0,3,4] [17,19]:=⟨fun _ _=>rfl,rx,rx,rx,rx,rx,rx,rx,lx⟩
def g48:=rg Tryz.f48
def c48:bq:=(.seq (g48 2) (.seq (g48 5) .ret))
theorem b48:Tryz.f48.body=some c48:=by kernel_rfl
@[simp] theorem x48:SX 8 (g48 2) [oq 1 (.box (tq 0)),oq 2 (.alloc 86)] [0] []/\SX 8 (g48 5) [oz 3 59 1 0,ol 4 3 3,oz 5 59 1 1,ol 6 3 5,oq 7 (.build 86 [(0,tq 4),(1,tq 6)]),os (.sto 86 (tq 2) (tq 7))] [1,2] [1,2]:=⟨rx,rx⟩
def SG:=rg Tryz.f107
@[simp] def AC8:bq:=(lp (SG 133) 11 0 1 (.seq (SG 549) (.cond (.tmp 19) (.seq (SG 2341) .ret) .skip)) (SG 229))
def SH:=AC8
def A0V:bq:=(.seq (SG 2) (.seq (.seq (SG 9) (.block 0 (.loop SH))) (.seq (SG 11) .ret)))
theorem BBA:Tryz.f107.body=some A0V:=by kernel_rfl
@[simp] theorem BID:UX 23 SH AC8/\SX 23 (SG 2) [ot 2 false] [0] []/\SX 23 (SG 9) [ok 3 0] [0,1] [1,14]/\SX 23 (SG 133) [om 4 3,om 5 0,oe 6 5 23,ob 7 .lss 3 4 6,om 8 7,gm 8 true 9 3,gc 8 true 10 .lss 3 9 8,oq 11 (.pick (tq 8) (tq 10) (cb false))] [0,3] []/\SX 23 (SG 549) [om 14 0,om 15 3,oi 16 23 14 15,ol 17 22 16,oe 18 17 22,oc 19 .gtr 3 18 5] [0,3] []/\SX 23 (SG 2341) [ot 2 false] [] []/\SX 23 (SG 229) [om 12 3,oc 13 .add 3 12 1,om 3 13] [0,3] []/\SX 23 (SG 11) [om 20 0,oe 21 20 23,oc 22 .leq 3 21 7,om 2 22] [0] []/\LX 23 SH [0,3] []:=⟨fun _ _=>rfl,rx,rx,rx,rx,rx,rx,rx,lx⟩
def SI:=rg Tryz.f100
@[simp] def AC9:bq:=(lp (SI 267) 9 0 1 (SI 587) (SI 459))
def SJ:=AC9
def A0W:bq:=(.seq (SI 2) (.seq (SI 5) (.seq (.seq (SI 19) (.block 0 (.loop SJ))) (.seq (SI 23) .ret))))
theorem BBB:Tryz.f100.body=some A0W:=by kernel_rfl
@[simp] theorem BIE:UX 21 SJ AC9/\SX 21 (SI 2) [oq 1 (.box (tq 0)),ok 2 0] [0] [1]/\SX 21 (SI 5) [ok 3 1] [1] [1]/\SX 21 (SI 19) [ok 4 0] [0,1,3] [1,17,19]/\SX 21 (SI 267) [om 5 4,oz 6 27 1 6,ol 7 23 6,oe 8 7 23,ob 9 .lss 3 5 8] [1,3,4] [1]/\SX 21 (SI 587) [om 12 3,oz 13 27 1 6,ol 14 23 13,om 15 4,oi 16 23 14 15,ol 17 22 16,oe 18 17 22,ob 19 .mul 3 12 18,om 3 19] [0,1,3,4] [1,17,19]/\SX 21 (SI 459) [om 10 4,oc 11 .add 3 10 1,om 4 11] [0,1,3,4] [1,17,19]/\SX 21 (SI 23) [om 20 3,om 2 20] [0,1,3,7,8] [19]/\LX 21 SJ [1,3,4] [1]:=⟨fun _ _=>rfl,rx,rx,rx,rx,rx,rx,rx,lx⟩
def DR:=rg Tryz.f108
@[simp] def vE:bq:=(lp (DR 68759) 118 2 3 (.seq (DR 281751) (.cond (.tmp 138) (.seq (DR 1199255) .ret) .skip)) (DR 117911))
def OB:=vE
@[simp] def ADA:bq:=(lp (DR 535) 92 0 1 (.seq (.seq (DR 4247) (.cond (.tmp 110) (.seq (DR 18583) .ret) .skip)) (.seq (DR 5271) (.block 2 (.loop OB)))) (DR 919))
def SK:=ADA
@[simp] def vF:bq:=(lp (DR 1071) 143 4 5 (.seq (DR 4399) (.cond (.tmp 153) (.seq (DR 18735) .ret) .skip)) (DR 1839))
def OC:=vF
@[simp] def vG:bq:=(lp (DR 2143) 158 6 7 (.seq (DR 8799) (.cond (.tmp 180) (.seq (DR 37471) .ret) .skip)) (DR 3679))
def OD:=vG
def NX:bq:=(.seq (DR 2) (.seq (.seq (DR 9) (.cond (.tmp 31) (.seq (DR 37) .ret) .skip)) (.seq (.seq (DR 19) (.cond (.tmp 88) (.seq (DR 75) .ret) .skip)) (.seq (.seq (DR 39) (.block 0 (.loop SK))) (.seq (.seq (DR 79) (.block 4 (.loop OC))) (.seq (.seq (DR 159) (.block 6 (.loop OD))) (.seq (DR 191) .ret)))))))
theorem BBC:Tryz.f108.body=some NX:=by kernel_rfl
@[simp] theorem BIF:UX 181 OB vE/\UX 181 SK ADA/\UX 181 OC vF/\UX 181 OD vG/\SX 181 (DR 2) [oq 1 (.box (tq 0)),ok 2 0] [0] [1]/\SX 181 (DR 9) [oz 7 27 1 0,ol 8 3 7,oc 9 .gtr 3 8 4,om 10 9,gz 10 false 11 27 1 1,gl 10 false 12 3 11,gc 10 false 13 .gtr 3 12 3,oq 14 (.pick (tq 10) (cb true) (tq 13)),om 15 14,gz 15 false 16 27 1 2,gl 15 false 17 3 16,gc 15 false 18 .gtr 3 17 5,oq 19 (.pick (tq 15) (cb true) (tq 18)),om 20 19,gz 20 false 21 27 1 7,gl 20 false 22 24 21,ge 20 false 23 22 24,gc 20 false 24 .gtr 3 23 4,oq 25 (.pick (tq 20) (cb true) (tq 24)),om 26 25,gz 26 false 27 27 1 8,gl 26 false 28 25 27,ge 26 false 29 28 25,gc 26 false 30 .gtr 3 29 5,oq 31 (.pick (tq 26) (cb true) (tq 30))] [1] [1]/\SX 181 (DR 37) [ok 2 3] [] []/\SX 181 (DR 19) [oz 32 27 1 0,ol 33 3 32,oc 34 .lss 3 33 0,om 35 34,gz 35 false 36 27 1 1,gl 35 false 37 3 36,gc 35 false 38 .lss 3 37 1,oq 39 (.pick (tq 35) (cb true) (tq 38)),om 40 39,gz 40 false 41 27 1 2,gl 40 false 42 3 41,gc 40 false 43 .lss 3 42 1,oq 44 (.pick (tq 40) (cb true) (tq 43)),om 45 44,gz 45 false 46 27 1 3,gl 45 false 47 3 46,gd 45 false 48 57 [tq 47,ci 0,ci 4],og 45 false 49 (.oth (.unOp .not 4 (tq 48))),oq 50 (.pick (tq 45) (cb true) (tq 49)),om 51 50,gz 51 false 52 27 1 4,gl 51 false 53 22 52,ge 51 false 54 53 22,gz 51 false 55 27 1 1,gl 51 false 56 3 55,gb 51 false 57 .neq 3 54 56,oq 58 (.pick (tq 51) (cb true) (tq 57)),om 59 58,gz 59 false 60 27 1 5,gl 59 false 61 22 60,ge 59 false 62 61 22,gz 59 false 63 27 1 0,gl 59 false 64 3 63,gc 59 false 65 .add 3 64 1,gb 59 false 66 .neq 3 62 65,oq 67 (.pick (tq 59) (cb true) (tq 66)),om 68 67,gz 68 false 69 27 1 6,gl 68 false 70 23 69,ge 68 false 71 70 23,gz 68 false 72 27 1 0,gl 68 false 73 3 72,gc 68 false 74 .add 3 73 1,gb 68 false 75 .neq 3 71 74,oq 76 (.pick (tq 68) (cb true) (tq 75)),om 77 76,gz 77 false 78 27 1 4,gl 77 false 79 22 78,gd 77 false 80 134 [tq 79,ci 0],og 77 false 81 (.oth (.unOp .not 4 (tq 80))),oq 82 (.pick (tq 77) (cb true) (tq 81)),om 83 82,gz 83 false 84 27 1 5,gl 83 false 85 22 84,gd 83 false 86 134 [tq 85,.const (.int .i64 (bj 0))],og 83 false 87 (.oth (.unOp .not 4 (tq 86))),oq 88 (.pick (tq 83) (cb true) (tq 87))] [1] [1]/\SX 181 (DR 75) [ok 2 1] [] []/\SX 181 (DR 39) [ok 3 0] [1] [1]/\SX 181 (DR 535) [om 89 3,oz 90 27 1 0,ol 91 3 90,ob 92 .leq 3 89 91] [1,3] [1]/\SX 181 (DR 4247) [oz 95 27 1 6,ol 96 23 95,om 97 3,oi 98 23 96 97,ol 99 22 98,oe 100 99 22,oc 101 .eql 3 100 0,om 102 101,gz 102 false 103 27 1 6,gl 102 false 104 23 103,gm 102 false 105 3,gi 102 false 106 23 104 105,gl 102 false 107 22 106,gd 102 false 108 134 [tq 107,ci 0],og 102 false 109 (.oth (.unOp .not 4 (tq 108))),oq 110 (.pick (tq 102) (cb true) (tq 109))] [1,3] [1]/\SX 181 (DR 18583) [ok 2 1] [] []/\SX 181 (DR 5271) [ok 4 1] [1,3] [1]/\SX 181 (DR 68759) [om 111 4,oz 112 27 1 6,ol 113 23 112,om 114 3,oi 115 23 113 114,ol 116 22 115,oe 117 116 22,ob 118 .lss 3 111 117] [1,3,4] [1]/\RX 181 (DR 281751) (.drw [⟨[],[oz 121 27 1 6,ol 122 23 121,om 123 3,oi 124 23 122 123,ol 125 22 124,om 126 4,oi 127 22 125 126,ol 128 3 127,oz 129 27 1 6,ol 130 23 129,om 131 3,oi 132 23 130 131,ol 133 22 132,om 134 4,oc 135 .sub 3 134 1,oi 136 22 133 135,ol 137 3 136,ob 138 .leq 3 128 137],[]⟩]) (some ([1,3,4],[1]))/\SX 181 (DR 1199255) [ok 2 1] [] []/\SX 181 (DR 117911) [om 119 4,oc 120 .add 3 119 1,om 4 120] [1,3,4] [1]/\SX 181 (DR 919) [om 93 3,oc 94 .add 3 93 1,om 3 94] [1,3] [1]/\SX 181 (DR 79) [ok 5 0] [1] [1]/\SX 181 (DR 1071) [om 139 5,oz 140 27 1 7,ol 141 24 140,oe 142 141 24,ob 143 .lss 3 139 142] [1,5] [1]/\RX 181 (DR 4399) (.drw [⟨[],[ol 146 27 1,oz 147 27 1 7,ol 148 24 147,om 149 5,oi 150 24 148 149,ol 151 59 150],[od 152 135 [tq 146,tq 151]]⟩,⟨[],[ou 153 152],[]⟩]) (some ([1,5],[1]))/\SX 181 (DR 18735) [ok 2 1] [] []/\SX 181 (DR 1839) [om 144 5,oc 145 .add 3 144 1,om 5 145] [1,5] [1]/\SX 181 (DR 159) [ok 6 0] [1] [1]/\SX 181 (DR 2143) [om 154 6,oz 155 27 1 8,ol 156 25 155,oe 157 156 25,ob 158 .lss 3 154 157] [1,6] [1]/\RX 181 (DR 8799) (.drw [⟨[],[oz 161 27 1 8,ol 162 25 161,om 163 6,oi 164 25 162 163,oz 165 188 164 0,ol 166 3 165,oz 167 27 1 0,ol 168 3 167],[od 169 57 [tq 166,ci 0,tq 168]]⟩,⟨[],[ou 170 169,om 171 170,gz 171 false 172 27 1 8,gl 171 false 173 25 172,gm 171 false 174 6,gi 171 false 175 25 173 174,gz 171 false 176 188 175 1,gl 171 false 177 3 176],[gd 171 false 178 57 [tq 177,ci 0,ci 3]]⟩,⟨[],[og 171 false 179 (.oth (.unOp .not 4 (tq 178))),oq 180 (.pick (tq 171) (cb true) (tq 179))],[]⟩]) (some ([1,6],[1]))/\SX 181 (DR 37471) [ok 2 1] [] []/\SX 181 (DR 3679) [om 159 6,oc 160 .add 3 159 1,om 6 160] [1,6] [1]/\SX 181 (DR 191) [ok 2 0] [] []/\LX 181 SK [1,3] [1]/\LX 181 OB [1,3,4] [1]/\LX 181 OC [1,5] [1]/\LX 181 OD [1,6] [1]:=by and_intros<;>first|exact rx|exact lx|exact fun _ _=>rfl
def g64:=rg Tryz.f64
def c64:bq:=(.seq (g64 2) (.seq (.seq (g64 9) (.cond (.tmp 30) (.seq (g64 37) .ret) .skip)) (.seq (g64 11) .ret)))
theorem b64:Tryz.f64.body=some c64:=by kernel_rfl
@[simp] theorem x64:SX 39 (g64 2) [oq 1 (.box (tq 0)),ot 2 false] [0] [1]/\SX 39 (g64 9) [oz 3 27 1 4,ol 4 22 3,oe 5 4 22,oc 6 .gtr 3 5 5,om 7 6,gz 7 false 8 27 1 5,gl 7 false 9 22 8,ge 7 false 10 9 22,gc 7 false 11 .gtr 3 10 7,oq 12 (.pick (tq 7) (cb true) (tq 11)),om 13 12,gz 13 false 14 27 1 6,gl 13 false 15 23 14,gd 13 false 16 107 [tq 15],og 13 false 17 (.oth (.unOp .not 4 (tq 16))),oq 18 (.pick (tq 13) (cb true) (tq 17)),om 19 18,gz 19 false 20 27 1 7,gl 19 false 21 24 20,ge 19 false 22 21 24,gc 19 false 23 .gtr 3 22 6,oq 24 (.pick (tq 19) (cb true) (tq 23)),om 25 24,gz 25 false 26 27 1 8,gl 25 false 27 25 26,ge 25 false 28 27 25,gc 25 false 29 .gtr 3 28 7,oq 30 (.pick (tq 25) (cb true) (tq 29))] [1] [1]/\SX 39 (g64 37) [ot 2 false] [] []/\SX 39 (g64 11) [ol 31 27 1,od 32 108 [tq 31],oc 33 .neq 3 32 0,om 34 33,gl 34 false 35 27 1,gd 34 false 36 100 [tq 35],gc 34 false 37 .leq 3 36 80,oq 38 (.pick (tq 34) (cb true) (tq 37)),om 2 38] [1] [1]:=⟨rx,rx,rx,rx⟩
def P9:=rg Tryz.f190
@[simp] def ADB:bq:=(.seq (P9 69) (.seq (.cond (.tmp 9) .skip (.exit 0)) (.seq (.block 1 (.seq (P9 1125) (.seq (P9 2661) (.cond (.tmp 16) (.seq (P9 9829) .ret) .skip)))) (P9 485))))
def SL:=ADB
def AQO:bq:=(.seq (P9 2) (.seq (.seq (P9 9) (.block 0 (.loop SL))) (.seq (P9 11) .ret)))
theorem b190:Tryz.f190.body=some AQO:=by kernel_rfl
@[simp] theorem BIH:UX 19 SL ADB/\SX 19 (P9 2) [ok 4 0] [0,1] []/\SX 19 (P9 9) [om 6 0,oe 7 6 22,ok 8 0] [0,1] []/\SX 19 (P9 69) [ob 9 .lss 3 8 7] [0,1,7,8] []/\SX 19 (P9 1125) [om 10 8,om 5 10] [0,1,7,8] []/\SX 19 (P9 2661) [om 11 1,om 12 0,om 13 5,oi 14 22 12 13,ol 15 3 14,oq 16 (.call false none (tq 11) [tq 15])] [0,1,5,7,8] []/\SX 19 (P9 9829) [om 17 5,om 4 17] [5] []/\SX 19 (P9 485) [oc 18 .add 3 8 1,om 8 18] [0,1,3,7,8] []/\SX 19 (P9 11) [oq 4 (.mv (.const (.int .i64 (bj 0))))] [] []/\LX 19 SL [0,1,7,8] []:=⟨fun _ _=>rfl,rx,rx,rx,rx,rx,rx,rx,rx,lx⟩
def AJE:=rg Tryz.f175
def A0X:bq:=(.seq (AJE 2) (.seq (AJE 5) .ret))
theorem b175:Tryz.f175.body=some A0X:=by kernel_rfl
@[simp] theorem BII:SX 9 (AJE 2) [ot 4 false] [0,1] [7]/\SX 9 (AJE 5) [om 5 0,om 6 1,od 7 190 [tq 5,tq 6],oc 8 .geq 3 7 0,om 4 8] [0,1,2,3] [2,3]:=⟨rx,rx⟩
def AJF:=rg Tryz.f144
def AQP:bq:=(.seq (AJF 2) (.seq (AJF 5) .ret))
theorem b144:Tryz.f144.body=some AQP:=by kernel_rfl
@[simp] theorem BIJ:SX 9 (AJF 2) [oq 3 (.box (tq 1)),ot 4 false] [0,1,2] [3]/\SX 9 (AJF 5) [om 5 0,oq 6 (.oth (.makeFunc (.func 176) #[] #[tq 3])),od 7 175 [tq 5,tq 6],ou 8 7,om 4 8] [0,1,2,3] [2,3]:=⟨rx,rx⟩
def AJG:=rg Tryz.f176
def AQQ:bq:=(.seq (AJG 2) (.seq (AJG 5) .ret))
theorem b176:Tryz.f176.body=some AQQ:=by kernel_rfl
@[simp] theorem BIK:SX 8 (AJG 2) [ot 3 false] [0,1] []/\SX 8 (AJG 5) [ol 4 177 1,om 5 0,oq 6 (.call false none (tq 4) [tq 5]),ou 7 6,om 3 7] [0,1,2] [2]:=⟨rx,rx⟩
def QA:=rg Tryz.f191
@[simp] def ADC:bq:=(.seq (QA 69) (.seq (.cond (.tmp 9) .skip (.exit 0)) (.seq (.block 1 (.seq (QA 1125) (.seq (QA 2661) (.cond (.tmp 16) (.seq (QA 9829) .ret) .skip)))) (QA 485))))
def SM:=ADC
def AQR:bq:=(.seq (QA 2) (.seq (.seq (QA 9) (.block 0 (.loop SM))) (.seq (QA 11) .ret)))
theorem b191:Tryz.f191.body=some AQR:=by kernel_rfl
@[simp] theorem BIL:UX 19 SM ADC/\SX 19 (QA 2) [ok 4 0] [0,1] []/\SX 19 (QA 9) [om 6 0,oe 7 6 23,ok 8 0] [0,1] []/\SX 19 (QA 69) [ob 9 .lss 3 8 7] [0,1,7,8] []/\SX 19 (QA 1125) [om 10 8,om 5 10] [0,1,7,8] []/\SX 19 (QA 2661) [om 11 1,om 12 0,om 13 5,oi 14 23 12 13,ol 15 22 14,oq 16 (.call false none (tq 11) [tq 15])] [0,1,5,7,8] []/\SX 19 (QA 9829) [om 17 5,om 4 17] [5] []/\SX 19 (QA 485) [oc 18 .add 3 8 1,om 8 18] [0,1,3,7,8] []/\SX 19 (QA 11) [oq 4 (.mv (.const (.int .i64 (bj 0))))] [] []/\LX 19 SM [0,1,7,8] []:=⟨fun _ _=>rfl,rx,rx,rx,rx,rx,rx,rx,rx,lx⟩
def AJH:=rg Tryz.f177
def A0Y:bq:=(.seq (AJH 2) (.seq (AJH 5) .ret))
theorem b177:Tryz.f177.body=some A0Y:=by kernel_rfl
@[simp] theorem BIM:SX 9 (AJH 2) [ot 4 false] [0,1] [7]/\SX 9 (AJH 5) [om 5 0,om 6 1,od 7 191 [tq 5,tq 6],oc 8 .geq 3 7 0,om 4 8] [0,1,2,3] [2,3]:=⟨rx,rx⟩
def AJI:=rg Tryz.f147
def AQS:bq:=(.seq (AJI 2) (.seq (AJI 5) .ret))
theorem b147:Tryz.f147.body=some AQS:=by kernel_rfl
@[simp] theorem BIN:SX 9 (AJI 2) [oq 3 (.box (tq 1)),ot 4 false] [0,1,2] [3]/\SX 9 (AJI 5) [om 5 0,oq 6 (.oth (.makeFunc (.func 178) #[] #[tq 3])),od 7 177 [tq 5,tq 6],ou 8 7,om 4 8] [0,1,2,3] [2,3]:=⟨rx,rx⟩
def AJJ:=rg Tryz.f178
def AQT:bq:=(.seq (AJJ 2) (.seq (AJJ 5) .ret))
theorem b178:Tryz.f178.body=some AQT:=by kernel_rfl
@[simp] theorem BIO:SX 8 (AJJ 2) [ot 3 false] [0,1] []/\SX 8 (AJJ 5) [ol 4 193 1,om 5 0,oq 6 (.call false none (tq 4) [tq 5]),ou 7 6,om 3 7] [0,1,2] [2]:=⟨rx,rx⟩
def AJK:=rg Tryz.f143
def A0Z:bq:=(.seq (AJK 2) (.seq (AJK 5) .ret))
theorem BBD:Tryz.f143.body=some A0Z:=by kernel_rfl
@[simp] theorem BIP:SX 15 (AJK 2) [ot 6 false] [0,1,2] []/\SX 15 (AJK 5) [om 7 1,om 8 0,ob 9 .leq 3 7 8,om 10 9,gm 10 true 11 0,gm 10 true 12 2,gb 10 true 13 .leq 3 11 12,oq 14 (.pick (tq 10) (tq 13) (cb false)),om 6 14] [0,1,2] []:=⟨rx,rx⟩
def AJL:=rg Tryz.f145
def A00:bq:=(.seq (AJL 2) (.seq (AJL 5) .ret))
theorem BBE:Tryz.f145.body=some A00:=by kernel_rfl
@[simp] theorem BIQ:SX 5 (AJL 2) [ot 2 false] [0] []/\SX 5 (AJL 5) [om 3 0,od 4 143 [tq 3,ci 0,ci 3],om 2 4] [0,1,2] [1,2]:=⟨rx,rx⟩
def AJM:=rg Tryz.f146
def A01:bq:=(.seq (AJM 2) (.seq (AJM 5) .ret))
theorem BBF:Tryz.f146.body=some A01:=by kernel_rfl
@[simp] theorem BIR:SX 5 (AJM 2) [ot 2 false] [0] []/\SX 5 (AJM 5) [om 3 0,od 4 143 [tq 3,.const (.int .i64 (bj 0)),ci 3],om 2 4] [0,1,2] [1,2]:=⟨rx,rx⟩
def yZ:=rg Tryz.f148
def AQU:bq:=(.seq (yZ 2) (.seq (yZ 5) (.seq (yZ 11) .ret)))
theorem BBG:Tryz.f148.body=some AQU:=by kernel_rfl
@[simp] theorem BIS:SX 12 (yZ 2) [ot 2 false] [0] []/\SX 12 (yZ 5) [oq 3 (.alloc 3),os (.sto 3 (tq 3) (.const (.int .i64 (bj 0))))] [0] []/\SX 12 (yZ 11) [om 4 0,oe 5 4 22,oc 6 .gtr 3 5 0,om 7 6,gm 7 true 8 0,og 7 true 9 (.oth (.makeFunc (.func 179) #[] #[tq 3])),gd 7 true 10 144 [tq 8,tq 9],oq 11 (.pick (tq 7) (tq 10) (cb false)),om 2 11] [0,3] [3]:=⟨rx,rx,rx⟩
def kV:=rg Tryz.f179
def A02:bq:=(.seq (kV 2) (.seq (kV 5) (.seq (kV 11) (.seq (kV 23) .ret))))
theorem b179:Tryz.f179.body=some A02:=by kernel_rfl
@[simp] theorem BIT:SX 11 (kV 2) [ot 3 false] [0,1] []/\SX 11 (kV 5) [om 5 0,ol 6 3 1,oc 7 .add 3 6 1,od 8 143 [tq 5,tq 7,ci 3],om 4 8] [0,1] []/\SX 11 (kV 11) [om 9 0,os (.sto 3 (tq 1) (tq 9))] [0,1,4] []/\SX 11 (kV 23) [om 10 4,om 3 10] [4] []:=⟨rx,rx,rx,rx⟩
def AJN:=rg Tryz.f174
def A03:bq:=(.seq (AJN 2) (.seq (AJN 5) .ret))
theorem BBH:Tryz.f174.body=some A03:=by kernel_rfl
@[simp] theorem BIU:SX 9 (AJN 2) [oq 2 (.box (tq 0)),ot 4 false] [0,1] [2]/\SX 9 (AJN 5) [om 5 1,oz 6 40 2 0,ol 7 3 6,od 8 143 [tq 5,ci 0,tq 7],om 4 8] [0,1,2,3] [2,3]:=⟨rx,rx⟩
def AJO:=rg Tryz.f141
def A04:bq:=(.seq (AJO 2) (.seq (AJO 5) .ret))
theorem BBI:Tryz.f141.body=some A04:=by kernel_rfl
@[simp] theorem BIV:SX 19 (AJO 2) [oq 2 (.box (tq 0)),oq 3 (.box (tq 1)),ot 4 false] [0,1] [2]/\SX 19 (AJO 5) [oz 5 86 3 0,ol 6 3 5,oz 7 40 2 1,ol 8 3 7,oc 9 .sub 3 8 1,od 10 143 [tq 6,ci 0,tq 9],om 11 10,gz 11 true 12 86 3 1,gl 11 true 13 3 12,gz 11 true 14 40 2 2,gl 11 true 15 3 14,gc 11 true 16 .sub 3 15 1,gd 11 true 17 143 [tq 13,ci 0,tq 16],oq 18 (.pick (tq 11) (tq 17) (cb false)),om 4 18] [2,3] [2,3]:=⟨rx,rx⟩
def AJP:=rg Tryz.f142
def A05:bq:=(.seq (AJP 2) (.seq (AJP 5) .ret))
theorem BBJ:Tryz.f142.body=some A05:=by kernel_rfl
@[simp] theorem BIW:SX 14 (AJP 2) [oq 2 (.box (tq 0)),oq 3 (.box (tq 1)),ot 4 false] [0,1] [2]/\SX 14 (AJP 5) [ol 5 40 2,oz 6 99 3 0,ol 7 3 6,od 8 174 [tq 5,tq 7],om 9 8,gz 9 true 10 99 3 1,gl 9 true 11 3 10,gd 9 true 12 145 [tq 11],oq 13 (.pick (tq 9) (tq 12) (cb false)),om 4 13] [1,2,3,4] [2,3,4]:=⟨rx,rx⟩
def QB:=rg Tryz.f192
@[simp] def ADD:bq:=(.seq (QB 69) (.seq (.cond (.tmp 9) .skip (.exit 0)) (.seq (.block 1 (.seq (QB 1125) (.seq (QB 2661) (.cond (.tmp 16) (.seq (QB 9829) .ret) .skip)))) (QB 485))))
def SN:=ADD
def AQV:bq:=(.seq (QB 2) (.seq (.seq (QB 9) (.block 0 (.loop SN))) (.seq (QB 11) .ret)))
theorem b192:Tryz.f192.body=some AQV:=by kernel_rfl
@[simp] theorem BIX:UX 19 SN ADD/\SX 19 (QB 2) [ok 4 0] [0,1] []/\SX 19 (QB 9) [om 6 0,oe 7 6 37,ok 8 0] [0,1] []/\SX 19 (QB 69) [ob 9 .lss 3 8 7] [0,1,7,8] []/\SX 19 (QB 1125) [om 10 8,om 5 10] [0,1,7,8] []/\SX 19 (QB 2661) [om 11 1,om 12 0,om 13 5,oi 14 37 12 13,ol 15 86 14,oq 16 (.call false none (tq 11) [tq 15])] [0,1,5,7,8] []/\SX 19 (QB 9829) [om 17 5,om 4 17] [5] []/\SX 19 (QB 485) [oc 18 .add 3 8 1,om 8 18] [0,1,3,7,8] []/\SX 19 (QB 11) [oq 4 (.mv (.const (.int .i64 (bj 0))))] [] []/\LX 19 SN [0,1,7,8] []:=⟨fun _ _=>rfl,rx,rx,rx,rx,rx,rx,rx,rx,lx⟩
def AJQ:=rg Tryz.f180
def A06:bq:=(.seq (AJQ 2) (.seq (AJQ 5) .ret))
theorem b180:Tryz.f180.body=some A06:=by kernel_rfl
@[simp] theorem BIY:SX 9 (AJQ 2) [ot 4 false] [0,1] [7]/\SX 9 (AJQ 5) [om 5 0,om 6 1,od 7 192 [tq 5,tq 6],oc 8 .geq 3 7 0,om 4 8] [0,1,2,3] [2,3]:=⟨rx,rx⟩
def AJR:=rg Tryz.f149
def A07:bq:=(.seq (AJR 2) (.seq (AJR 5) .ret))
theorem BBK:Tryz.f149.body=some A07:=by kernel_rfl
@[simp] theorem BIZ:SX 9 (AJR 2) [oq 3 (.box (tq 1)),ot 4 false] [0,1,2] [3]/\SX 9 (AJR 5) [om 5 0,oq 6 (.oth (.makeFunc (.func 181) #[] #[tq 3])),od 7 180 [tq 5,tq 6],ou 8 7,om 4 8] [0,1,2,3] [2,3]:=⟨rx,rx⟩
def AJS:=rg Tryz.f181
def A08:bq:=(.seq (AJS 2) (.seq (AJS 5) .ret))
theorem b181:Tryz.f181.body=some A08:=by kernel_rfl
@[simp] theorem BI0:SX 8 (AJS 2) [oq 2 (.box (tq 0)),ot 3 false] [0,1] []/\SX 8 (AJS 5) [ol 4 225 1,ol 5 86 2,oq 6 (.call false none (tq 4) [tq 5]),ou 7 6,om 3 7] [0,1,2] [2]:=⟨rx,rx⟩
def QC:=rg Tryz.f193
@[simp] def ADE:bq:=(.seq (QC 69) (.seq (.cond (.tmp 9) .skip (.exit 0)) (.seq (.block 1 (.seq (QC 1125) (.seq (QC 2661) (.cond (.tmp 16) (.seq (QC 9829) .ret) .skip)))) (QC 485))))
def SO:=ADE
def AQW:bq:=(.seq (QC 2) (.seq (.seq (QC 9) (.block 0 (.loop SO))) (.seq (QC 11) .ret)))
theorem b193:Tryz.f193.body=some AQW:=by kernel_rfl
@[simp] theorem BI1:UX 19 SO ADE/\SX 19 (QC 2) [ok 4 0] [0,1] []/\SX 19 (QC 9) [om 6 0,oe 7 6 38,ok 8 0] [0,1] []/\SX 19 (QC 69) [ob 9 .lss 3 8 7] [0,1,7,8] []/\SX 19 (QC 1125) [om 10 8,om 5 10] [0,1,7,8] []/\SX 19 (QC 2661) [om 11 1,om 12 0,om 13 5,oi 14 38 12 13,ol 15 99 14,oq 16 (.call false none (tq 11) [tq 15])] [0,1,5,7,8] []/\SX 19 (QC 9829) [om 17 5,om 4 17] [5] []/\SX 19 (QC 485) [oc 18 .add 3 8 1,om 8 18] [0,1,3,7,8] []/\SX 19 (QC 11) [oq 4 (.mv (.const (.int .i64 (bj 0))))] [] []/\LX 19 SO [0,1,7,8] []:=⟨fun _ _=>rfl,rx,rx,rx,rx,rx,rx,rx,rx,lx⟩
def AJT:=rg Tryz.f182
def A09:bq:=(.seq (AJT 2) (.seq (AJT 5) .ret))
theorem b182:Tryz.f182.body=some A09:=by kernel_rfl
@[simp] theorem BI2:SX 9 (AJT 2) [ot 4 false] [0,1] [7]/\SX 9 (AJT 5) [om 5 0,om 6 1,od 7 193 [tq 5,tq 6],oc 8 .geq 3 7 0,om 4 8] [0,1,2,3] [2,3]:=⟨rx,rx⟩
def AJU:=rg Tryz.f150
def A1A:bq:=(.seq (AJU 2) (.seq (AJU 5) .ret))
theorem BBL:Tryz.f150.body=some A1A:=by kernel_rfl
@[simp] theorem BI3:SX 9 (AJU 2) [oq 3 (.box (tq 1)),ot 4 false] [0,1,2] [3]/\SX 9 (AJU 5) [om 5 0,oq 6 (.oth (.makeFunc (.func 183) #[] #[tq 3])),od 7 182 [tq 5,tq 6],ou 8 7,om 4 8] [0,1,2,3] [2,3]:=⟨rx,rx⟩
def AJV:=rg Tryz.f183
def A1B:bq:=(.seq (AJV 2) (.seq (AJV 5) .ret))
theorem b183:Tryz.f183.body=some A1B:=by kernel_rfl
@[simp] theorem BI4:SX 8 (AJV 2) [oq 2 (.box (tq 0)),ot 3 false] [0,1] []/\SX 8 (AJV 5) [ol 4 226 1,ol 5 99 2,oq 6 (.call false none (tq 4) [tq 5]),ou 7 6,om 3 7] [0,1,2] [2]:=⟨rx,rx⟩
def NY:=rg Tryz.f110
def N3:bq:=(.seq (NY 2) (.seq (NY 5) (.seq (.block 0 (.seq (NY 35) (.cond (.tmp 9) (.seq (NY 147) .ret) (.seq (NY 179) (.cond (.tmp 35) (.seq (NY 627) .ret) (.seq (NY 755) (.cond (.tmp 81) (.seq (NY 2547) .ret) .skip))))))) (.seq (NY 23) .ret))))
theorem BBM:Tryz.f110.body=some N3:=by kernel_rfl
@[simp] theorem BI5:SX 112 (NY 2) [oq 1 (.box (tq 0)),ok 2 0] [0] [1,20,21,26,27,102,103,104]/\RX 112 (NY 5) (.drw [⟨[],[ol 5 40 1,oq 6 (.oth (.makeFunc (.func 141) #[tq 5] #[])),ol 7 40 1,oq 8 (.oth (.makeFunc (.func 142) #[tq 7] #[])),om 3 6,om 4 8],[]⟩]) (some ([1],[1]))/\SX 112 (NY 35) [oz 10 40 1 0,ol 11 3 10,oc 12 .gtr 3 11 4,om 13 12,gz 13 false 14 40 1 1,gl 13 false 15 3 14,gc 13 false 16 .gtr 3 15 3,oq 17 (.pick (tq 13) (cb true) (tq 16)),om 18 17,gz 18 false 19 40 1 2,gl 18 false 20 3 19,gc 18 false 21 .gtr 3 20 5,oq 22 (.pick (tq 18) (cb true) (tq 21)),om 23 22,gz 23 false 24 40 1 7,gl 23 false 25 37 24,ge 23 false 26 25 37,gc 23 false 27 .gtr 3 26 4,oq 28 (.pick (tq 23) (cb true) (tq 27)),om 29 28,gz 29 false 30 40 1 8,gl 29 false 31 38 30,ge 29 false 32 31 38,gc 29 false 33 .gtr 3 32 5,oq 34 (.pick (tq 29) (cb true) (tq 33)),om 9 34] [1,3,4] [1]/\SX 112 (NY 147) [ok 2 3] [] []/\SX 112 (NY 179) [oz 36 40 1 0,ol 37 3 36,oc 38 .lss 3 37 0,om 39 38,gz 39 false 40 40 1 1,gl 39 false 41 3 40,gc 39 false 42 .lss 3 41 1,oq 43 (.pick (tq 39) (cb true) (tq 42)),om 44 43,gz 44 false 45 40 1 2,gl 44 false 46 3 45,gc 44 false 47 .lss 3 46 1,oq 48 (.pick (tq 44) (cb true) (tq 47)),om 49 48,gz 49 false 50 40 1 3,gl 49 false 51 3 50,gd 49 false 52 143 [tq 51,ci 0,ci 4],og 49 false 53 (.oth (.unOp .not 4 (tq 52))),oq 54 (.pick (tq 49) (cb true) (tq 53)),om 55 54,gz 55 false 56 40 1 4,gl 55 false 57 22 56,ge 55 false 58 57 22,gz 55 false 59 40 1 1,gl 55 false 60 3 59,gb 55 false 61 .neq 3 58 60,oq 62 (.pick (tq 55) (cb true) (tq 61)),om 63 62,gz 63 false 64 40 1 5,gl 63 false 65 22 64,ge 63 false 66 65 22,gz 63 false 67 40 1 0,gl 63 false 68 3 67,gc 63 false 69 .add 3 68 1,gb 63 false 70 .neq 3 66 69,oq 71 (.pick (tq 63) (cb true) (tq 70)),om 72 71,gz 72 false 73 40 1 6,gl 72 false 74 23 73,ge 72 false 75 74 23,gz 72 false 76 40 1 0,gl 72 false 77 3 76,gc 72 false 78 .add 3 77 1,gb 72 false 79 .neq 3 75 78,oq 80 (.pick (tq 72) (cb true) (tq 79)),om 35 80] [1,3,4] [1]/\SX 112 (NY 627) [ok 2 1] [] []/\SX 112 (NY 755) [oz 82 40 1 4,ol 83 22 82,od 84 144 [tq 83,.func 145],ou 85 84,om 86 85,gz 86 false 87 40 1 5,gl 86 false 88 22 87,gd 86 false 89 144 [tq 88,.func 146],og 86 false 90 (.oth (.unOp .not 4 (tq 89))),oq 91 (.pick (tq 86) (cb true) (tq 90)),om 92 91,gz 92 false 93 40 1 6,gl 92 false 94 23 93,gd 92 false 95 147 [tq 94,.func 148],og 92 false 96 (.oth (.unOp .not 4 (tq 95))),oq 97 (.pick (tq 92) (cb true) (tq 96)),om 98 97,gz 98 false 99 40 1 7,gl 98 false 100 37 99,gm 98 false 101 3,gd 98 false 102 149 [tq 100,tq 101],og 98 false 103 (.oth (.unOp .not 4 (tq 102))),oq 104 (.pick (tq 98) (cb true) (tq 103)),om 105 104,gz 105 false 106 40 1 8,gl 105 false 107 38 106,gm 105 false 108 4,gd 105 false 109 150 [tq 107,tq 108],og 105 false 110 (.oth (.unOp .not 4 (tq 109))),oq 111 (.pick (tq 105) (cb true) (tq 110)),om 81 111] [1,3,4] [1]/\SX 112 (NY 2547) [ok 2 1] [] []/\SX 112 (NY 23) [ok 2 0] [] []:=by and_intros<;>exact rx
def AJW:=rg Tryz.f111
def AQX:bq:=(.seq (AJW 2) (.seq (AJW 5) .ret))
theorem BBN:Tryz.f111.body=some AQX:=by kernel_rfl
@[simp] theorem BI6:SX 16 (AJW 2) [oq 2 (.box (tq 0)),ot 4 false] [0,1] [2]/\SX 16 (AJW 5) [om 5 1,oe 6 5 23,oz 7 40 2 0,ol 8 3 7,oc 9 .add 3 8 1,ob 10 .eql 3 6 9,om 11 10,gm 11 true 12 1,og 11 true 13 (.oth (.makeFunc (.func 151) #[] #[tq 2])),gd 11 true 14 147 [tq 12,tq 13],oq 15 (.pick (tq 11) (tq 14) (cb false)),om 4 15] [1,2] [2]:=⟨rx,rx⟩
def AJX:=rg Tryz.f151
def AQY:bq:=(.seq (AJX 2) (.seq (AJX 5) .ret))
theorem b151:Tryz.f151.body=some AQY:=by kernel_rfl
@[simp] theorem BI7:SX 13 (AJX 2) [ot 3 false] [0,1,2] [3,4,5,9]/\SX 13 (AJX 5) [om 4 0,oe 5 4 22,oz 6 40 1 1,ol 7 3 6,ob 8 .eql 3 5 7,om 9 8,gm 9 true 10 0,gd 9 true 11 144 [tq 10,.func 145],oq 12 (.pick (tq 9) (tq 11) (cb false)),om 3 12] [0,1] []:=⟨rx,rx⟩
def AJY:=rg Tryz.f194
def A1C:bq:=(.seq (AJY 2) (.seq (AJY 5) .ret))
theorem BBO:Tryz.f194.body=some A1C:=by kernel_rfl
@[simp] theorem BI8:SX 6 (AJY 2) [ok 2 0] [0,1] []/\SX 6 (AJY 5) [om 3 0,oc 4 .add 3 3 2,oc 5 .rem 3 4 4,om 2 5] [0,1] []:=⟨rx,rx⟩
def AJZ:=rg Tryz.f195
def A1D:bq:=(.seq (AJZ 2) (.seq (AJZ 5) .ret))
theorem BBP:Tryz.f195.body=some A1D:=by kernel_rfl
@[simp] theorem BI9:SX 11 (AJZ 2) [oq 3 (.box (tq 0)),oq 4 (.box (tq 1)),oq 5 (.box (tq 2)),ot 6 false] [0,1,2] [3,4,5]/\SX 11 (AJZ 5) [oz 7 40 3 7,ol 8 37 7,oq 9 (.oth (.makeFunc (.func 199) #[] #[tq 5,tq 4,tq 3])),od 10 180 [tq 8,tq 9],om 6 10] [3,4,5] [3,4,5]:=⟨rx,rx⟩
def KN:=rg Tryz.f199
def ADF:bq:=(.seq (KN 2) (.seq (KN 5) (.seq (.block 0 (.seq (KN 35) (.cond (.tmp 7) (KN 83) (.seq (KN 179) (.cond (.tmp 22) (KN 371) (.seq (KN 755) (.cond (.tmp 37) (KN 1523) (.seq (KN 3059) (.cond (.tmp 52) (KN 6131) .skip))))))))) (.seq (KN 23) .ret))))
theorem b199:Tryz.f199.body=some ADF:=by kernel_rfl
@[simp] theorem BJA:SX 71 (KN 2) [oq 4 (.box (tq 0)),ot 5 false] [0,1,2,3] []/\SX 71 (KN 5) [ok 6 0] [1,2,3,4] [4]/\SX 71 (KN 35) [ol 8 3 1,oc 9 .eql 3 8 0,om 10 9,gz 10 true 11 86 4 1,gl 10 true 12 3 11,gz 10 true 13 86 2 1,gl 10 true 14 3 13,gb 10 true 15 .eql 3 12 14,oq 16 (.pick (tq 10) (tq 15) (cb false)),om 7 16] [1,2,3,4,6] [4]/\SX 71 (KN 83) [oz 17 86 2 0,ol 18 3 17,oz 19 86 4 0,ol 20 3 19,ob 21 .sub 3 18 20,om 6 21] [2,3,4] [4]/\SX 71 (KN 179) [ol 23 3 1,oc 24 .eql 3 23 2,om 25 24,gz 25 true 26 86 4 1,gl 25 true 27 3 26,gz 25 true 28 86 2 1,gl 25 true 29 3 28,gb 25 true 30 .eql 3 27 29,oq 31 (.pick (tq 25) (tq 30) (cb false)),om 22 31] [1,2,3,4,6] [4]/\SX 71 (KN 371) [oz 32 86 4 0,ol 33 3 32,oz 34 86 2 0,ol 35 3 34,ob 36 .sub 3 33 35,om 6 36] [2,3,4] [4]/\SX 71 (KN 755) [ol 38 3 1,oc 39 .eql 3 38 3,om 40 39,gz 40 true 41 86 4 0,gl 40 true 42 3 41,gz 40 true 43 86 2 0,gl 40 true 44 3 43,gb 40 true 45 .eql 3 42 44,oq 46 (.pick (tq 40) (tq 45) (cb false)),om 37 46] [1,2,3,4,6] [4]/\SX 71 (KN 1523) [oz 47 86 2 1,ol 48 3 47,oz 49 86 4 1,ol 50 3 49,ob 51 .sub 3 48 50,om 6 51] [2,3,4] [4]/\SX 71 (KN 3059) [ol 53 3 1,oc 54 .eql 3 53 1,om 55 54,gz 55 true 56 86 4 0,gl 55 true 57 3 56,gz 55 true 58 86 2 0,gl 55 true 59 3 58,gb 55 true 60 .eql 3 57 59,oq 61 (.pick (tq 55) (tq 60) (cb false)),om 52 61] [1,2,3,4,6] [4]/\SX 71 (KN 6131) [oz 62 86 4 1,ol 63 3 62,oz 64 86 2 1,ol 65 3 64,ob 66 .sub 3 63 65,om 6 66] [2,3,4] [4]/\SX 71 (KN 23) [om 67 6,oz 68 40 3 3,ol 69 3 68,od 70 143 [tq 67,ci 1,tq 69],om 5 70] [3,6] []:=by and_intros<;>exact rx
def AJ0:=rg Tryz.f184
def A1E:bq:=(.seq (AJ0 2) (.seq (AJ0 5) .ret))
theorem BBQ:Tryz.f184.body=some A1E:=by kernel_rfl
@[simp] theorem BJB:SX 19 (AJ0 2) [oq 4 (.box (tq 0)),oq 5 (.box (tq 1)),ot 8 false] [0,1,2,3] [4]/\SX 19 (AJ0 5) [om 9 2,om 10 3,od 11 194 [tq 10],ob 12 .eql 3 9 11,om 13 12,gl 13 false 14 40 4,gl 13 false 15 86 5,gm 13 false 16 3,gd 13 false 17 195 [tq 14,tq 15,tq 16],oq 18 (.pick (tq 13) (cb true) (tq 17)),om 8 18] [2,3,4,5] [4,5]:=⟨rx,rx⟩
def QD:=rg Tryz.f153
def A1F:bq:=(.seq (QD 2) (.seq (QD 5) (.seq (.seq (QD 19) (.cond (.tmp 25) (QD 43) .skip)) (.seq (.seq (QD 39) (.cond (.tmp 27) (QD 87) .skip)) (.seq (QD 47) (.seq (QD 95) .ret))))))
theorem BBR:Tryz.f153.body=some A1F:=by kernel_rfl
@[simp] theorem BJC:SX 36 (QD 2) [oq 5 (.box (tq 0)),oq 6 (.box (tq 1)),oq 10 (.alloc 155)] [0,1,2,3,4] [5]/\RX 36 (QD 5) (.drw [⟨[],[oz 13 40 5 5,ol 14 22 13,om 15 2,oi 16 22 14 15,ol 17 3 16,om 18 3,ob 19 .eql 3 17 18,ol 20 40 5,ol 21 86 6,om 22 3,om 23 4,od 24 184 [tq 20,tq 21,tq 22,tq 23],om 11 19,om 12 24],[]⟩]) (some ([2,3,4,5,6,10],[5,6,10]))/\SX 36 (QD 19) [om 25 11] [10,11,12] [10]/\SX 36 (QD 43) [oz 26 155 10 0,os (.sto 3 (tq 26) (ci 1))] [10,12] [10]/\SX 36 (QD 39) [om 27 12] [10,12] [10]/\SX 36 (QD 87) [oz 28 155 10 1,os (.sto 3 (tq 28) (ci 1))] [10] [10]/\SX 36 (QD 47) [oz 29 155 10 0,ol 30 3 29,oz 31 155 10 1,ol 32 3 31,ob 33 .mul 3 30 32,oz 34 155 10 2,os (.sto 3 (tq 34) (tq 33))] [10] [10]/\SX 36 (QD 95) [ol 35 155 10,os (.sto 155 (tq 10) (tq 35))] [10] [10]:=by and_intros<;>exact rx
def QE:=rg Tryz.f101
@[simp] def ADG:bq:=(lp (QE 267) 12 0 1 (.seq (QE 1099) (QE 1611)) (QE 459))
def SP:=ADG
def A1G:bq:=(.seq (QE 2) (.seq (QE 5) (.seq (.seq (QE 19) (.block 0 (.loop SP))) (.seq (QE 23) .ret))))
theorem BBS:Tryz.f101.body=some A1G:=by kernel_rfl
@[simp] theorem BJD:UX 35 SP ADG/\SX 35 (QE 2) [oq 2 (.box (tq 0)),oq 4 (.mv (.const (.slice none 0 0)))] [0,1] [2]/\SX 35 (QE 5) [oq 5 (.mv (.const (.slice none 0 0)))] [1,2] [2]/\SX 35 (QE 19) [ok 6 0] [1,2,5] [2,29]/\SX 35 (QE 267) [om 8 6,oz 9 27 2 6,ol 10 23 9,oe 11 10 23,ob 12 .lss 3 8 11] [1,2,5,6] [2,29]/\SX 35 (QE 1099) [oz 15 27 2 6,ol 16 23 15,om 17 6,oi 18 23 16 17,ol 19 22 18,om 7 19] [1,2,5,6] [2,29]/\RX 35 (QE 1611) (.drw [⟨[],[om 20 5,om 21 7,om 22 1,om 23 7,oe 24 23 22,ob 25 .rem 3 22 24,oi 26 22 21 25,ol 27 3 26,oq 28 (.buildS 22 1 [(0,tq 27)]),om 30 1,om 31 7,oe 32 31 22,ob 33 .quo 3 30 32,oq 29 (.app [tq 20,tq 28] [22,22]),om 5 29,om 1 33],[]⟩]) (some ([1,2,5,6,7],[2,29]))/\SX 35 (QE 459) [om 13 6,oc 14 .add 3 13 1,om 6 14] [1,2,5,6] [2,29]/\SX 35 (QE 23) [om 34 5,om 4 34] [5] [29]/\LX 35 SP [1,2,5,6] [2,29]:=⟨fun _ _=>rfl,rx,rx,rx,rx,rx,rx,rx,rx,lx⟩
def QF:=rg Tryz.f170
@[simp] def ADH:bq:=(.seq (QF 69) (.seq (.cond (.tmp 9) .skip (.exit 0)) (.seq (.block 1 (.seq (QF 1125) (.seq (QF 2661) (.cond (.tmp 16) (.seq (QF 9829) .ret) .skip)))) (QF 485))))
def SQ:=ADH
def AQZ:bq:=(.seq (QF 2) (.seq (.seq (QF 9) (.block 0 (.loop SQ))) (.seq (QF 11) .ret)))
theorem A1H:Tryz.f170.body=some AQZ:=by kernel_rfl
@[simp] theorem BJE:UX 19 SQ ADH/\SX 19 (QF 2) [ok 4 0] [0,1] []/\SX 19 (QF 9) [om 6 0,oe 7 6 22,ok 8 0] [0,1] []/\SX 19 (QF 69) [ob 9 .lss 3 8 7] [0,1,7,8] []/\SX 19 (QF 1125) [om 10 8,om 5 10] [0,1,7,8] []/\SX 19 (QF 2661) [om 11 1,om 12 0,om 13 5,oi 14 22 12 13,ol 15 3 14,ob 16 .eql 3 11 15] [0,1,5,7,8] []/\SX 19 (QF 9829) [om 17 5,om 4 17] [5] []/\SX 19 (QF 485) [oc 18 .add 3 8 1,om 8 18] [0,1,3,7,8] []/\SX 19 (QF 11) [oq 4 (.mv (.const (.int .i64 (bj 0))))] [] []/\LX 19 SQ [0,1,7,8] []:=⟨fun _ _=>rfl,rx,rx,rx,rx,rx,rx,rx,rx,lx⟩
def AJ1:=rg Tryz.f132
def A1I:bq:=(.seq (AJ1 2) (.seq (AJ1 5) .ret))
theorem BBT:Tryz.f132.body=some A1I:=by kernel_rfl
@[simp] theorem BJF:SX 9 (AJ1 2) [ot 4 false] [0,1] [7]/\SX 9 (AJ1 5) [om 5 0,om 6 1,od 7 170 [tq 5,tq 6],oc 8 .geq 3 7 0,om 4 8] [0,1,2,3] [2,3]:=⟨rx,rx⟩
def QG:=rg Tryz.f164
@[simp] def ADI:bq:=(.seq (QG 69) (.seq (.cond (.tmp 13) .skip (.exit 0)) (.seq (.block 1 (.seq (QG 1125) (.seq (QG 2661) (.cond (.tmp 30) (.seq (QG 9829) .ret) .skip)))) (QG 485))))
def SR:=ADI
def A1J:bq:=(.seq (QG 2) (.seq (.seq (QG 9) (.block 0 (.loop SR))) (.seq (QG 11) .ret)))
theorem BBU:Tryz.f164.body=some A1J:=by kernel_rfl
@[simp] theorem BJG:UX 32 SR ADI/\SX 32 (QG 2) [oq 3 (.box (tq 0)),ot 6 false] [0,1,2] [3]/\SX 32 (QG 9) [oz 9 40 3 8,ol 10 38 9,oe 11 10 38,ok 12 0] [1,2,3] [3]/\SX 32 (QG 69) [ob 13 .lss 3 12 11] [1,2,10,11,12] [3]/\SX 32 (QG 1125) [om 14 12,oi 15 38 10 12,ol 16 99 15,oq 8 (.alloc 99),om 7 14,os (.sto 99 (tq 8) (tq 16))] [1,2,10,11,12] [3]/\RX 32 (QG 2661) (.drw [⟨[],[om 17 2,om 18 7],[od 19 132 [tq 17,tq 18]]⟩,⟨[],[ou 20 19,om 21 20,gm 21 true 22 1,gz 21 true 23 99 8 0,gl 21 true 24 3 23,gi 21 true 25 22 22 24,gl 21 true 26 3 25,gz 21 true 27 99 8 1,gl 21 true 28 3 27,gb 21 true 29 .neq 3 26 28,oq 30 (.pick (tq 21) (tq 29) (cb false))],[]⟩]) (some ([1,2,7,8,10,11,12],[3,8]))/\SX 32 (QG 9829) [ot 6 false] [] []/\SX 32 (QG 485) [oc 31 .add 3 12 1,om 12 31] [1,2,10,11,12] [3]/\SX 32 (QG 11) [ot 6 true] [] []/\LX 32 SR [1,2,10,11,12] [3]:=⟨fun _ _=>rfl,rx,rx,rx,rx,rx,rx,rx,rx,lx⟩
def OE:=rg Tryz.f165
@[simp] def ADJ:bq:=(lp (OE 535) 15 0 1 (OE 1175) (OE 919))
def gU:=ADJ
def A1K:bq:=(.seq (OE 2) (.seq (.seq (OE 9) (.cond (.tmp 7) (OE 21) .skip)) (.seq (OE 11) (.seq (.seq (OE 39) (.block 0 (.loop gU))) (.seq (OE 47) .ret)))))
theorem BBV:Tryz.f165.body=some A1K:=by kernel_rfl
@[simp] theorem BJH:UX 25 gU ADJ/\SX 25 (OE 2) [ok 2 0] [0] []/\SX 25 (OE 9) [om 5 0,oe 6 5 22,oc 7 .lss 3 6 1] [0] []/\SX 25 (OE 11) [om 9 0,oq 10 (.oth (.indexAddr 22 (tq 9) (ci 0))),ol 11 3 10,om 3 11] [0] []/\SX 25 (OE 39) [ok 4 1] [0,3] []/\SX 25 (OE 535) [om 12 4,om 13 0,oe 14 13 22,ob 15 .lss 3 12 14] [0,3,4] []/\SX 25 (OE 1175) [om 18 3,om 19 0,om 20 4,oi 21 22 19 20,ol 22 3 21,oq 23 (.oth (.call ⟨.builtin .min,#[tq 18,tq 22],#[3,3]⟩)),om 3 23] [0,3,4] []/\SX 25 (OE 919) [om 16 4,oc 17 .add 3 16 1,om 4 17] [0,3,4] []/\SX 25 (OE 47) [om 24 3,om 2 24] [3] []/\LX 25 gU [0,3,4] []:=⟨fun _ _=>rfl,rx,rx,rx,rx,rx,rx,rx,rx,lx⟩
def AJ2:=rg Tryz.f198
def A1L:bq:=(.seq (AJ2 2) (.seq (AJ2 5) .ret))
theorem BBW:Tryz.f198.body=some A1L:=by kernel_rfl
@[simp] theorem BJI:SX 5 (AJ2 2) [ok 2 0] [0] []/\SX 5 (AJ2 5) [om 3 0,od 4 165 [tq 3],om 2 4] [0,1,2] [1,2]:=⟨rx,rx⟩
def AJ3:=rg Tryz.f186
def A1M:bq:=(.seq (AJ3 2) (.seq (AJ3 5) .ret))
theorem BBX:Tryz.f186.body=some A1M:=by kernel_rfl
@[simp] theorem BJJ:SX 15 (AJ3 2) [oq 2 (.box (tq 0)),oq 4 (.alloc 207)] [0,1] []/\RX 15 (AJ3 5) (.drw [⟨[],[oz 5 207 2 0,oq 6 (.ldz 3 (tq 5)),om 7 1,oq 8 (.buildS 22 2 [(0,tq 6),(1,tq 7)]),od 9 198 [tq 8],oz 10 207 2 1,oq 11 (.ldz 3 (tq 10)),om 12 1,oq 13 (.oth (.call ⟨.builtin .max,#[tq 11,tq 12],#[3,3]⟩)),oq 14 (.build 207 [(0,tq 9),(1,tq 13)])],[os (.sto 207 (tq 4) (tq 14))]⟩]) (some ([1,2,4],[2,4])):=⟨rx,rx⟩
def cV:=rg Tryz.f196
def A1N:bq:=(.seq (cV 2) (.seq (cV 5) (.seq (cV 11) (.seq (cV 23) (cV 31)))))
theorem b196:Tryz.f196.body=some A1N:=by kernel_rfl
@[simp] theorem BJK:SX 13 (cV 2) [oq 3 (.box (tq 0))] [0,1,2] [3,4,5,9]/\SX 13 (cV 5) [oz 6 40 1 0,ol 7 3 6,oc 8 .add 3 7 1,oq 9 (.mkS 22 (tq 8) (tq 8)),oq 4 (.alloc 22),os (.sto 22 (tq 4) (tq 9))] [1,2,3] [3,4,5,9]/\SX 13 (cV 11) [oq 5 (.alloc 177)] [1,2,3,4] [3,4,5,9]/\SX 13 (cV 23) [oq 10 (.oth (.makeFunc (.func 197) #[] #[tq 4,tq 1,tq 2,tq 3,tq 5])),os (.sto 177 (tq 5) (tq 10))] [1,2,3,4,5] [3,4,5,9]/\SX 13 (cV 31) [ol 11 177 5,oq 12 (.call false none (tq 11) [ci 0])] [5] [3,4,5,9]:=⟨rx,rx,rx,rx,rx⟩
def KO:=rg Tryz.f197
@[simp] def ADK:bq:=(.seq (KO 139) (.seq (.cond (.tmp 31) .skip (.exit 0)) (.seq (.block 1 (.seq (KO 2251) (.seq (KO 5323) (.seq (KO 11467) (.cond (.tmp 42) (.seq (KO 40139) .ret) .skip))))) (KO 971))))
def SS:=ADK
def ADL:bq:=(.seq (KO 2) (.seq (.seq (KO 9) (.cond (.tmp 13) (.seq (KO 37) .ret) .skip)) (.seq (.seq (KO 19) (.block 0 (.loop SS))) (.seq (KO 23) .ret))))
theorem b197:Tryz.f197.body=some ADL:=by kernel_rfl
@[simp] theorem BBY(n:Nat)(st:XS):AE bk ann kn (n+1) 44 (KO 37) st=QM (KJ bk (cfU [20009,30009] (BG bk ann kn n)) (.str [ol 14 40 2,ol 15 22 1,ol 16 22 3,od 17 164 [tq 14,tq 15,tq 16],ou 18 17,om 19 18,gl 19 false 20 193 4,gl 19 false 21 22 1,og 19 false 22 (.call false none (tq 20) [tq 21]),oq 23 (.pick (tq 19) (cb true) (tq 22)),om 7 23]) (CO (some ([1,2,3,4],[])) (MC [] st))) :=
 WG (by kernel_rfl) (by kernel_rfl) (by kernel_rfl) (by kernel_rfl) (by kernel_rfl) (by kernel_rfl)
@[simp] theorem BJL:UX 44 SS ADK/\SX 44 (KO 2) [ot 7 false] [0,1,2,3,4,5] []/\SX 44 (KO 9) [om 10 0,ol 11 22 1,oe 12 11 22,ob 13 .eql 3 10 12] [0,1,2,3,4,5] []/\SX 44 (KO 19) [oz 24 40 2 6,ol 25 23 24,om 26 0,oi 27 23 25 26,ol 28 22 27,oe 29 28 22,ok 30 0] [0,1,2,5] []/\SX 44 (KO 139) [ob 31 .lss 3 30 29] [0,1,5,28,29,30] []/\SX 44 (KO 2251) [oi 32 22 28 30,ol 33 3 32,om 9 33] [0,1,5,28,29,30] []/\SX 44 (KO 5323) [ol 34 22 1,om 35 0,om 36 9,oi 37 22 34 35,os (.sto 3 (tq 37) (tq 36))] [0,1,5,9,28,29,30] []/\SX 44 (KO 11467) [ol 38 177 5,om 39 0,oc 40 .add 3 39 1,oq 41 (.call false none (tq 38) [tq 40]),ou 42 41] [0,1,5,28,29,30] []/\SX 44 (KO 40139) [ot 7 false] [] []/\SX 44 (KO 971) [oc 43 .add 3 30 1,om 30 43] [0,1,5,28,29,30] []/\SX 44 (KO 23) [ot 7 true] [] []/\LX 44 SS [0,1,5,28,29,30] []:=⟨fun _ _=>rfl,rx,rx,rx,rx,rx,rx,rx,rx,rx,rx,lx⟩
def AJ4:=rg Tryz.f185
def A1O:bq:=(.seq (AJ4 2) (.seq (AJ4 5) .ret))
theorem BBZ:Tryz.f185.body=some A1O:=by kernel_rfl
@[simp] theorem BJM:SX 6 (AJ4 2) [oq 2 (.box (tq 0)),oq 3 (.box (tq 1)),oq 4 (.mv (.const .nilFunc))] [0,1] [2,3]/\SX 6 (AJ4 5) [oq 5 (.oth (.makeFunc (.func 196) #[] #[tq 2,tq 3])),om 4 5] [2,3] [2,3]:=⟨rx,rx⟩
def D3:=rg Tryz.f154
@[simp] def vH:bq:=(.seq (D3 36191) (.seq (.cond (.tmp 35) .skip (.exit 2)) (.seq (.block 3 (.seq (D3 576863) (.seq (D3 1363295) (.cond (.tmp 48) (D3 2936159) .skip)))) (D3 249183))))
def J7:=vH
def ADM:bq:=(.seq (D3 2) (.seq (.seq (D3 9) (.seq (D3 21) (.cond (.tmp 15) (.seq (D3 77) .ret) .skip))) (.seq (.seq (D3 19) (.cond (.tmp 19) (.seq (D3 75) .ret) .skip)) (.seq (D3 23) (.seq (D3 47) (.seq (.seq (D3 159) (.block 0 (.rangeFunc (.tmp 30) #[31] (D3 607) (.block 1 (.seq (D3 2399) (.seq (D3 5471) (.block 2 (.loop J7)))))))) (.seq (.seq (D3 319) (.cond (.tmp 67) (.seq (D3 1215) .ret) .skip)) (.seq (D3 383) .ret))))))))
theorem b154:Tryz.f154.body=some ADM:=by kernel_rfl
@[simp] theorem A8C(n:Nat)(st:XS):AE bk ann kn (n+1) 69 (D3 1363295) st=QM (KJ bk (cfU [20800,20801,20802,20803,20804] (BG bk ann kn n)) (.str [ol 39 233 7,oq 40 (.oth (.nilCheck (tq 39))),oz 41 250 40 1,ol 42 23 41,om 43 10,oi 44 23 42 43,ol 45 22 44,om 46 11,od 47 132 [tq 45,tq 46],ou 48 47]) (CO (some ([7,10,11,32,33,34],[2,7,24,25,26,28,30,63,800,801,802,803,804])) (MC [] st))) :=
 WG (by kernel_rfl) (by kernel_rfl) (by kernel_rfl) (by kernel_rfl) (by kernel_rfl) (by kernel_rfl)
@[simp] theorem A8D(n:Nat)(st:XS):AE bk ann kn (n+1) 69 (D3 249183) st=QM (KJ bk (BG bk ann kn n) (.str [oc 65 .add 3 34 1,om 34 65]) (CO (some ([7,32,33,34],[2,7,24,25,26,28,30,63,800,801,802,803,804])) (MC [25008011801063] st))) :=
 D4 (by kernel_rfl) (by kernel_rfl) (by kernel_rfl) (by kernel_rfl) (by kernel_rfl)
@[simp] theorem A8E(n:Nat)(st:XS):AE bk ann kn (n+1) 69 (D3 383) st=QM (KJ bk (BG bk ann kn n) (.str [ol 68 233 7,om 4 68,ok 5 0]) (CO (some ([7],[2,7,24,25,26,28,30,63,800,801,802,803,804])) (MC [1000000000000024,24,901025,902026,903028] st))) :=
 D4 (by kernel_rfl) (by kernel_rfl) (by kernel_rfl) (by kernel_rfl) (by kernel_rfl)
@[simp] theorem BJN:UX 69 J7 vH/\SX 69 (D3 2) [oq 2 (.box (tq 0)),oq 4 (.mv (.const (.pointer none))),ok 5 0] [0,1] [2,7,24,25,26,28,30,63,800,801,802,803,804]/\SX 69 (D3 9) [ol 12 40 2,od 13 110 [tq 12],om 6 13] [1,2] [2,7,24,25,26,28,30,63,800,801,802,803,804]/\SX 69 (D3 21) [om 14 6,oc 15 .neq 34 14 0] [1,2,6] [2,7,24,25,26,28,30,63,800,801,802,803,804]/\SX 69 (D3 77) [om 16 6,oq 4 (.mv (.const (.pointer none))),om 5 16] [6] []/\SX 69 (D3 19) [om 17 1,oq 18 (.call false none (tq 17) []),ou 19 18] [1,2] [2,7,24,25,26,28,30,63,800,801,802,803,804]/\SX 69 (D3 75) [oq 4 (.mv (.const (.pointer none))),ok 5 2] [] []/\RX 69 (D3 23) (.drw [⟨[24,25,26,28,7],[oq 20 (.ldz 40 (tq 2)),oz 21 40 2 0,oq 22 (.ldz 3 (tq 21)),oc 23 .add 3 22 1,oq 24 (.mkS 23 (tq 23) (tq 23)),oq 25 (.mkM none),oq 26 (.mkM none),oq 27 (.build 250 [(0,tq 20),(1,tq 24),(2,tq 25),(3,tq 26)]),oq 28 (.box (tq 27)),oq 7 (.alloc 233)],[os (.sto 233 (tq 7) (tq 28))]⟩]) (some ([2],[2,30,63]))/\SX 69 (D3 47) [oq 8 (.alloc 4),os (.sto 4 (tq 8) (cb false))] [2,7] [2,7,24,25,26,28,30,63,800,801,802,803,804]/\SX 69 (D3 159) [ol 29 40 2,od 30 185 [tq 29,.const (.slice none 0 0)]] [2,7,8] [2,7,8,24,25,26,28,30,63,800,801,802,803,804]/\SX 69 (D3 607) [om 9 31] [7,8,31] [2,7,8,24,25,26,28,30,63,800,801,802,803,804]/\SX 69 (D3 2399) [os (.sto 4 (tq 8) (cb true))] [7,8,9] [2,7,8,24,25,26,28,30,63,800,801,802,803,804]/\SX 69 (D3 5471) [om 32 9,oe 33 32 22,ok 34 0] [7,9] [2,7,24,25,26,28,30,63,800,801,802,803,804]/\SX 69 (D3 36191) [ob 35 .lss 3 34 33] [7,32,33,34] [2,7,24,25,26,28,30,63,800,801,802,803,804]/\SX 69 (D3 576863) [om 36 34,oi 37 22 32 34,ol 38 3 37,om 10 36,om 11 38] [7,32,33,34] [2,7,24,25,26,28,30,63,800,801,802,803,804]/\RX 69 (D3 2936159) (.drw [⟨[],[ol 49 233 7,oq 50 (.oth (.nilCheck (tq 49))),oz 51 250 50 1,ol 52 23 51,om 53 10,ol 54 233 7,oq 55 (.oth (.nilCheck (tq 54))),oz 56 250 55 1,ol 57 23 56,om 58 10,oi 59 23 57 58,oq 60 (.ldz 22 (tq 59)),om 61 11,oq 62 (.buildS 22 1 [(0,tq 61)]),oq 63 (.app [tq 60,tq 62] [22,22]),oi 64 23 52 53],[os (.sto 22 (tq 64) (tq 63))]⟩]) (some ([7,10,11,32,33,34],[2,7,24,25,26,28,30,63,800,801,802,803,804]))/\SX 69 (D3 319) [ol 66 4 8,ou 67 66] [7,8] [2,7,8,24,25,26,28,30,63,800,801,802,803,804]/\SX 69 (D3 1215) [oq 4 (.mv (.const (.pointer none))),ok 5 11] [] []/\LX 69 J7 [7,32,33,34] [2,7,24,25,26,28,30,63,800,801,802,803,804]:=by and_intros<;>first|exact rx|exact lx|exact fun _ _=>rfl
def cN:=rg Tryz.f68
@[simp] def ANZ:bq:=(lp (cN 267) 28 0 1 (cN 587) (cN 459))
def YV:=ANZ
@[simp] def AN0:bq:=(lp (cN 535) 46 2 3 (cN 1175) (cN 919))
def YW:=AN0
def c68:bq:=(.seq (cN 2) (.seq (cN 5) (.seq (.seq (cN 19) (.block 0 (.loop YV))) (.seq (.seq (cN 39) (.block 2 (.loop YW))) (.seq (cN 47) .ret)))))
theorem b68:Tryz.f68.body=some c68:=by kernel_rfl
@[simp] theorem x68:UX 68 YV ANZ/\UX 68 YW AN0/\SX 68 (cN 2) [oq 1 (.box (tq 0)),oq 2 (.alloc 40)] [0] [1,2,3,16,19,22,40,65]/\RX 68 (cN 5) (.drw [⟨[3],[oz 6 27 1 0,oq 7 (.ldz 3 (tq 6)),oz 8 27 1 1,oq 9 (.ldz 3 (tq 8)),oz 10 27 1 2,oq 11 (.ldz 3 (tq 10)),oz 12 27 1 3,oq 13 (.ldz 3 (tq 12)),oz 14 27 1 4,oq 15 (.ldz 22 (tq 14)),od 16 114 [tq 15],oz 17 27 1 5,oq 18 (.ldz 22 (tq 17)),od 19 114 [tq 18],oz 20 27 1 6,oq 21 (.ldz 23 (tq 20)),od 22 115 [tq 21],oq 23 (.build 40 [(0,tq 7),(1,tq 9),(2,tq 11),(3,tq 13),(4,tq 16),(5,tq 19),(6,tq 22)]),oq 3 (.alloc 40)],[os (.sto 40 (tq 3) (tq 23))]⟩]) (some ([1,2],[1,2,40,65]))/\SX 68 (cN 19) [ok 4 0] [1,2,3] [1,2,3,16,19,22,40,65]/\SX 68 (cN 267) [om 24 4,oz 25 27 1 7,ol 26 24 25,oe 27 26 24,ob 28 .lss 3 24 27] [1,2,3,4] [1,2,3,16,19,22,40,65]/\RX 68 (cN 587) (.drw [⟨[],[oz 31 40 3 7,oq 32 (.ldz 37 (tq 31)),oz 33 27 1 7,ol 34 24 33,om 35 4,oi 36 24 34 35,ol 37 59 36,od 38 48 [tq 37],oq 39 (.buildS 37 1 [(0,tq 38)]),oq 40 (.app [tq 32,tq 39] [37,37]),oz 41 40 3 7],[os (.sto 37 (tq 41) (tq 40))]⟩]) (some ([1,2,3,4],[1,2,3,16,19,22,40,65]))/\SX 68 (cN 459) [om 29 4,oc 30 .add 3 29 1,om 4 30] [1,2,3,4] [1,2,3,16,19,22,40,65]/\SX 68 (cN 39) [ok 5 0] [1,2,3] [1,2,3,16,19,22,40,65]/\SX 68 (cN 535) [om 42 5,oz 43 27 1 8,ol 44 25 43,oe 45 44 25,ob 46 .lss 3 42 45] [1,2,3,5] [1,2,3,16,19,22,40,65]/\RX 68 (cN 1175) (.drw [⟨[],[oz 49 40 3 8,oq 50 (.ldz 38 (tq 49)),oz 51 27 1 8,ol 52 25 51,om 53 5,oi 54 25 52 53,oz 55 188 54 0,ol 56 3 55,oz 57 27 1 8,ol 58 25 57,om 59 5,oi 60 25 58 59,oz 61 188 60 1,ol 62 3 61,oq 63 (.build 99 [(0,tq 56),(1,tq 62)]),oq 64 (.buildS 38 1 [(0,tq 63)]),oq 65 (.app [tq 50,tq 64] [38,38]),oz 66 40 3 8],[os (.sto 38 (tq 66) (tq 65))]⟩]) (some ([1,2,3,5],[1,2,3,16,19,22,40,65]))/\SX 68 (cN 919) [om 47 5,oc 48 .add 3 47 1,om 5 48] [1,2,3,5] [1,2,3,16,19,22,40,65]/\SX 68 (cN 47) [ol 67 40 3,os (.sto 40 (tq 2) (tq 67))] [2,3] [1,2,3,16,19,22,40,65]/\LX 68 YV [1,2,3,4] [1,2,3,16,19,22,40,65]/\LX 68 YW [1,2,3,5] [1,2,3,16,19,22,40,65]:=by and_intros<;>first|exact rx|exact lx|exact fun _ _=>rfl
def IX:=rg Tryz.f157
@[simp] def ADN:bq:=(.seq (IX 71269) (.seq (.cond (.tmp 28) .skip (.exit 2)) (.seq (.block 3 (.seq (IX 1152613) (IX 1676901))) (IX 497253))))
def SU:=ADN
@[simp] def ADO:bq:=(.seq (IX 69) (.seq (.cond (.tmp 20) .skip (.exit 0)) (.seq (.block 1 (.seq (IX 1125) (.seq (IX 2661) (.seq (.seq (IX 9829) (.block 2 (.loop SU))) (IX 7781))))) (IX 485))))
def SV:=ADO
def A1P:bq:=(.seq (IX 2) (.seq (.seq (IX 9) (.block 0 (.loop SV))) (.seq (IX 11) .ret)))
theorem BB0:Tryz.f157.body=some A1P:=by kernel_rfl
@[simp] theorem BJP:UX 66 SU ADN/\UX 66 SV ADO/\SX 66 (IX 2) [oq 4 (.box (tq 0)),oq 7 (.box (tq 3)),oq 8 (.alloc 207)] [0,1,2,3] [4]/\SX 66 (IX 9) [om 14 1,oq 15 (.oth (.nilCheck (tq 14))),oz 16 250 15 1,ol 17 23 16,oe 18 17 23,ok 19 0] [1,2,4,7,8] [4,7,8]/\SX 66 (IX 69) [ob 20 .lss 3 19 18] [1,2,4,7,8,17,18,19] [4,7,8]/\SX 66 (IX 1125) [om 21 19,oi 22 23 17 19,ol 23 22 22,om 9 21,om 10 23] [1,2,4,7,8,17,18,19] [4,7,8]/\SX 66 (IX 2661) [oq 24 (.build 207 [(0,ci 1),(1,ci 0)]),oq 11 (.alloc 207),os (.sto 207 (tq 11) (tq 24))] [1,2,4,7,8,9,10,17,18,19] [4,7,8]/\SX 66 (IX 9829) [om 25 10,oe 26 25 22,ok 27 0] [1,2,4,7,8,9,10,11,17,18,19] [4,7,8,11]/\SX 66 (IX 71269) [ob 28 .lss 3 27 26] [1,2,4,7,8,9,11,17,18,19,25,26,27] [4,7,8,11]/\SX 66 (IX 1152613) [oi 29 22 25 27,ol 30 3 29,om 13 30] [1,2,4,7,8,9,11,17,18,19,25,26,27] [4,7,8,11]/\RX 66 (IX 1676901) (.drw [⟨[],[oq 31 (.ldz 207 (tq 11)),oz 32 238 4 0,oq 33 (.ldz 236 (tq 32)),om 34 1,oq 35 (.oth (.nilCheck (tq 34))),oz 36 250 35 0,oq 37 (.ldz 40 (tq 36)),oq 38 (.ldz 86 (tq 7)),om 39 9,om 40 2,om 41 9,oi 42 23 40 41,oq 43 (.ldz 22 (tq 42)),oz 44 86 7 0,oq 45 (.ldz 3 (tq 44)),oi 46 22 43 45,oq 47 (.ldz 3 (tq 46)),om 48 13,od 49 153 [tq 37,tq 38,tq 39,tq 47,tq 48],oq 50 (.call false none (tq 33) [tq 49])],[oq 51 (.call true none (.func 186) [tq 31,tq 50])]⟩,⟨[],[],[os (.sto 207 (tq 11) (tq 51))]⟩]) (some ([1,2,4,7,8,9,11,13,17,18,19,25,26,27],[4,7,8,11]))/\SX 66 (IX 497253) [oc 52 .add 3 27 1,om 27 52] [1,2,4,7,8,9,11,17,18,19,25,26,27] [4,7,8,11]/\SX 66 (IX 7781) [oz 53 207 8 0,ol 54 3 53,oz 55 207 11 0,ol 56 3 55,ob 57 .add 3 54 56,oz 58 207 8 1,ol 59 3 58,oz 60 207 11 1,ol 61 3 60,ob 62 .add 3 59 61,oq 63 (.build 207 [(0,tq 57),(1,tq 62)]),os (.sto 207 (tq 8) (tq 63))] [1,2,4,7,8,11,17,18,19] [4,7,8,11]/\SX 66 (IX 485) [oc 64 .add 3 19 1,om 19 64] [1,2,4,7,8,17,18,19] [4,7,8]/\SX 66 (IX 11) [ol 65 207 8,os (.sto 207 (tq 8) (tq 65))] [8] [8]/\LX 66 SV [1,2,4,7,8,17,18,19] [4,7,8]/\LX 66 SU [1,2,4,7,8,9,11,17,18,19,25,26,27] [4,7,8,11]:=by and_intros<;>first|exact rx|exact lx|exact fun _ _=>rfl
def AJ5:=rg Tryz.f156
def A1Q:bq:=(.seq (AJ5 2) (.seq (AJ5 5) .ret))
theorem BB1:Tryz.f156.body=some A1Q:=by kernel_rfl
@[simp] theorem BJQ:SX 5 (AJ5 2) [oq 1 (.box (tq 0)),ok 2 0] [0] [1]/\SX 5 (AJ5 5) [oz 3 155 1 1,ol 4 3 3,om 2 4] [0,1,2] [1,2]:=⟨rx,rx⟩
def AJ6:=rg Tryz.f158
def A1R:bq:=(.seq (AJ6 2) (.seq (AJ6 5) .ret))
theorem BB2:Tryz.f158.body=some A1R:=by kernel_rfl
@[simp] theorem BJR:SX 5 (AJ6 2) [oq 1 (.box (tq 0)),ok 2 0] [0] [1]/\SX 5 (AJ6 5) [oz 3 155 1 2,ol 4 3 3,om 2 4] [0,1,2] [1,2]:=⟨rx,rx⟩
def EA:=rg Tryz.f117
@[simp] def vI:bq:=(.seq (EA 583840559) (.seq (.cond (.tmp 42) .skip (.exit 4)) (.seq (.block 5 (.seq (EA 9442210607) (EA 13737177903))) (EA 4073501487))))
def OG:=vI
@[simp] def vJ:bq:=(.seq (EA 570159) (.seq (.cond (.tmp 34) .skip (.exit 2)) (.seq (.block 3 (.seq (EA 9220911) (.seq (EA 21803823) (.seq (.seq (EA 80524079) (.block 4 (.loop OG))) (EA 63746863))))) (EA 3978031))))
def OH:=vJ
@[simp] def ADP:bq:=(.seq (EA 559) (.seq (.cond (.tmp 26) .skip (.exit 0)) (.seq (.block 1 (.seq (EA 9007) (.seq (EA 21295) (.seq (.seq (EA 78639) (.block 2 (.loop OH))) (EA 62255))))) (EA 3887))))
def SW:=ADP
def ADQ:bq:=(.seq (EA 2) (.seq (EA 5) (.seq (.seq (EA 19) (.cond (.tmp 21) (.seq (EA 75) .ret) .skip)) (.seq (EA 23) (.seq (.seq (EA 79) (.block 0 (.loop SW))) (.seq (EA 95) .ret))))))
theorem BB3:Tryz.f117.body=some ADQ:=by kernel_rfl
@[simp] theorem BB4(n:Nat)(st:XS):AE bk ann kn (n+1) 90 (EA 23) st=QM (KJ bk (BG bk ann kn n) (.str [oq 8 (.mv (.const (.slice none 0 0)))]) (CO (some ([2,3,6],[2,3,17,900,901,902])) (MC [902] st))) :=
 D4 (by kernel_rfl) (by kernel_rfl) (by kernel_rfl) (by kernel_rfl) (by kernel_rfl)
@[simp] theorem A8F(n:Nat)(st:XS):AE bk ann kn (n+1) 90 (EA 62255) st=QM (KJ bk (BG bk ann kn n) (.str [om 84 8,om 85 10,oq 86 (.buildS 197 1 [(0,tq 85)]),oq 87 (.app [tq 84,tq 86] [197,197]),om 8 87]) (CO (some ([2,3,6,8,10,24,25],[2,3,17,30,87])) (MC [30] st))) :=
 D4 (by kernel_rfl) (by kernel_rfl) (by kernel_rfl) (by kernel_rfl) (by kernel_rfl)
@[simp] theorem BJS:UX 90 OG vI/\UX 90 OH vJ/\UX 90 SW ADP/\SX 90 (EA 2) [oq 2 (.box (tq 0)),oq 3 (.box (tq 1)),oq 4 (.mv (.const (.slice none 0 0))),ok 5 0] [0,1] [2,3,17,900,901,902]/\SX 90 (EA 5) [ol 15 40 2,oq 16 (.oth (.makeFunc (.func 155) #[] #[tq 2,tq 3])),od 17 154 [tq 15,tq 16],om 14 17,oq 18 (.oth (.extract (tq 14) 0)),oq 19 (.oth (.extract (tq 14) 1)),om 6 18,om 7 19] [2,3] [2,3,17,900,901,902]/\SX 90 (EA 19) [om 20 7,oc 21 .neq 34 20 0] [2,3,6,7] [2,3,17,900,901,902]/\SX 90 (EA 75) [om 22 7,oq 4 (.mv (.const (.slice none 0 0))),om 5 22] [7] []/\SX 90 (EA 79) [oz 23 40 2 1,ol 24 3 23,ok 25 0] [2,3,6,8] [2,3,17,87]/\SX 90 (EA 559) [ob 26 .lss 3 25 24] [2,3,6,8,24,25] [2,3,17,87]/\SX 90 (EA 9007) [om 27 25,om 9 27] [2,3,6,8,24,25] [2,3,17,87]/\SX 90 (EA 21295) [oz 28 40 2 2,ol 29 3 28,oq 30 (.mkS 204 (tq 29) (tq 29)),om 10 30] [2,3,6,8,9,24,25] [2,3,17,87]/\SX 90 (EA 78639) [om 31 10,oe 32 31 204,ok 33 0] [2,3,6,8,9,10,24,25] [2,3,17,30,87]/\SX 90 (EA 570159) [ob 34 .lss 3 33 32] [2,3,6,8,9,10,24,25,32,33] [2,3,17,30,87]/\SX 90 (EA 9220911) [om 35 33,om 11 35] [2,3,6,8,9,10,24,25,32,33] [2,3,17,30,87]/\SX 90 (EA 21803823) [om 36 9,om 37 11,oq 38 (.build 86 [(0,tq 36),(1,tq 37)]),oq 12 (.alloc 86),os (.sto 86 (tq 12) (tq 38))] [2,3,6,8,9,10,11,24,25,32,33] [2,3,17,30,87]/\SX 90 (EA 80524079) [ol 39 23 3,oe 40 39 23,ok 41 0] [2,3,6,8,9,10,11,12,24,25,32,33] [2,3,12,17,30,87]/\SX 90 (EA 583840559) [ob 42 .lss 3 41 40] [2,3,6,8,9,10,11,12,24,25,32,33,40,41] [2,3,12,17,30,87]/\SX 90 (EA 9442210607) [om 43 41,om 13 43] [2,3,6,8,9,10,11,12,24,25,32,33,40,41] [2,3,12,17,30,87]/\RX 90 (EA 13737177903) (.drw [⟨[],[om 44 10,om 45 11,oi 46 204 44 45,oz 47 209 46 0,oq 48 (.ldz 3 (tq 47)),oq 49 (.ldz 40 (tq 2)),oq 50 (.ldz 86 (tq 12)),om 51 13,oq 52 (.ldz 23 (tq 3)),om 53 13,oi 54 23 52 53,oq 55 (.ldz 22 (tq 54)),om 56 9,oi 57 22 55 56,oq 58 (.ldz 3 (tq 57)),od 59 153 [tq 49,tq 50,tq 51,tq 58,ci 0],oq 60 (.oth (.field 155 (tq 59) 0)),ob 61 .add 3 48 60,oi 62 204 44 45,oz 63 209 62 0,os (.sto 3 (tq 63) (tq 61))],[]⟩]) (some ([2,3,6,8,9,10,11,12,13,24,25,32,33,40,41],[2,3,12,17,30,87]))/\SX 90 (EA 4073501487) [oc 64 .add 3 41 1,om 41 64] [2,3,6,8,9,10,11,12,24,25,32,33,40,41] [2,3,12,17,30,87]/\RX 90 (EA 63746863) (.drw [⟨[73,78],[om 65 10,om 66 11,om 67 10,om 68 11,oq 69 (.build 238 [(0,.func 156)]),om 70 6,oq 71 (.ldz 23 (tq 3)),oq 72 (.ldz 86 (tq 12)),oq 74 (.build 238 [(0,.func 158)]),om 75 6,ol 76 23 3,ol 77 86 12,oq 73 (.call true none (.func 157) [tq 69,tq 70,tq 71,tq 72]),oq 78 (.call true none (.func 157) [tq 74,tq 75,tq 76,tq 77]),oi 79 204 65 66,oz 80 209 79 1,os (.sto 207 (tq 80) (tq 73)),oi 81 204 67 68,oz 82 209 81 2,os (.sto 207 (tq 82) (tq 78))],[]⟩]) (some ([2,3,6,8,9,10,11,12,24,25,32,33],[2,3,12,17,30,87]))/\SX 90 (EA 3978031) [oc 83 .add 3 33 1,om 33 83] [2,3,6,8,9,10,24,25,32,33] [2,3,17,30,87]/\SX 90 (EA 3887) [oc 88 .add 3 25 1,om 25 88] [2,3,6,8,24,25] [2,3,17,87]/\SX 90 (EA 95) [om 89 8,om 4 89,ok 5 0] [8] [87]/\LX 90 SW [2,3,6,8,24,25] [2,3,17,87]/\LX 90 OH [2,3,6,8,9,10,24,25,32,33] [2,3,17,30,87]/\LX 90 OG [2,3,6,8,9,10,11,12,24,25,32,33,40,41] [2,3,12,17,30,87]:=by and_intros<;>first|exact rx|exact lx|exact fun _ _=>rfl
def AJ7:=rg Tryz.f155
def A1S:bq:=(.seq (AJ7 2) (.seq (AJ7 5) .ret))
theorem b155:Tryz.f155.body=some A1S:=by kernel_rfl
@[simp] theorem BJT:SX 6 (AJ7 2) [ot 2 false] [0,1] []/\SX 6 (AJ7 5) [ol 3 40 0,ol 4 23 1,od 5 111 [tq 3,tq 4],om 2 5] [0,1] []:=⟨rx,rx⟩
def QH:=rg Tryz.f187
@[simp] def ADR:bq:=(.seq (QH 69) (.seq (.cond (.tmp 9) .skip (.exit 0)) (.seq (.block 1 (.seq (QH 1125) (.seq (QH 2661) (.cond (.tmp 16) (.seq (QH 9829) .ret) .skip)))) (QH 485))))
def SY:=ADR
def AQ0:bq:=(.seq (QH 2) (.seq (.seq (QH 9) (.block 0 (.loop SY))) (.seq (QH 11) .ret)))
theorem b187:Tryz.f187.body=some AQ0:=by kernel_rfl
@[simp] theorem BJU:UX 19 SY ADR/\SX 19 (QH 2) [ok 4 0] [0,1] []/\SX 19 (QH 9) [om 6 0,oe 7 6 28,ok 8 0] [0,1] []/\SX 19 (QH 69) [ob 9 .lss 3 8 7] [0,1,7,8] []/\SX 19 (QH 1125) [om 10 8,om 5 10] [0,1,7,8] []/\SX 19 (QH 2661) [om 11 1,om 12 0,om 13 5,oi 14 28 12 13,ol 15 97 14,oq 16 (.call false none (tq 11) [tq 15])] [0,1,5,7,8] []/\SX 19 (QH 9829) [om 17 5,om 4 17] [5] []/\SX 19 (QH 485) [oc 18 .add 3 8 1,om 8 18] [0,1,3,7,8] []/\SX 19 (QH 11) [oq 4 (.mv (.const (.int .i64 (bj 0))))] [] []/\LX 19 SY [0,1,7,8] []:=⟨fun _ _=>rfl,rx,rx,rx,rx,rx,rx,rx,rx,lx⟩
def AJ8:=rg Tryz.f159
def A1T:bq:=(.seq (AJ8 2) (.seq (AJ8 5) .ret))
theorem b159:Tryz.f159.body=some A1T:=by kernel_rfl
@[simp] theorem BJV:SX 9 (AJ8 2) [ot 4 false] [0,1] [7]/\SX 9 (AJ8 5) [om 5 0,om 6 1,od 7 187 [tq 5,tq 6],oc 8 .geq 3 7 0,om 4 8] [0,1,2,3] [2,3]:=⟨rx,rx⟩
def AJ9:=rg Tryz.f119
def A1U:bq:=(.seq (AJ9 2) (.seq (AJ9 5) .ret))
theorem BB5:Tryz.f119.body=some A1U:=by kernel_rfl
@[simp] theorem BJW:SX 9 (AJ9 2) [oq 3 (.box (tq 1)),ot 4 false] [0,1,2] [3]/\SX 9 (AJ9 5) [om 5 0,oq 6 (.oth (.makeFunc (.func 160) #[] #[tq 3])),od 7 159 [tq 5,tq 6],ou 8 7,om 4 8] [0,1,2,3] [2,3]:=⟨rx,rx⟩
def AKA:=rg Tryz.f160
def A1V:bq:=(.seq (AKA 2) (.seq (AKA 5) .ret))
theorem b160:Tryz.f160.body=some A1V:=by kernel_rfl
@[simp] theorem BJX:SX 8 (AKA 2) [ot 3 false] [0,1] []/\SX 8 (AKA 5) [ol 4 200 1,om 5 0,oq 6 (.call false none (tq 4) [tq 5]),ou 7 6,om 3 7] [0,1,2] [2]:=⟨rx,rx⟩
def QI:=rg Tryz.f188
@[simp] def ADS:bq:=(.seq (QI 69) (.seq (.cond (.tmp 9) .skip (.exit 0)) (.seq (.block 1 (.seq (QI 1125) (.seq (QI 2661) (.cond (.tmp 16) (.seq (QI 9829) .ret) .skip)))) (QI 485))))
def SZ:=ADS
def AQ1:bq:=(.seq (QI 2) (.seq (.seq (QI 9) (.block 0 (.loop SZ))) (.seq (QI 11) .ret)))
theorem b188:Tryz.f188.body=some AQ1:=by kernel_rfl
@[simp] theorem BJY:UX 19 SZ ADS/\SX 19 (QI 2) [ok 4 0] [0,1] []/\SX 19 (QI 9) [om 6 0,oe 7 6 41,ok 8 0] [0,1] []/\SX 19 (QI 69) [ob 9 .lss 3 8 7] [0,1,7,8] []/\SX 19 (QI 1125) [om 10 8,om 5 10] [0,1,7,8] []/\SX 19 (QI 2661) [om 11 1,om 12 0,om 13 5,oi 14 41 12 13,ol 15 94 14,oq 16 (.call false none (tq 11) [tq 15])] [0,1,5,7,8] []/\SX 19 (QI 9829) [om 17 5,om 4 17] [5] []/\SX 19 (QI 485) [oc 18 .add 3 8 1,om 8 18] [0,1,3,7,8] []/\SX 19 (QI 11) [oq 4 (.mv (.const (.int .i64 (bj 0))))] [] []/\LX 19 SZ [0,1,7,8] []:=⟨fun _ _=>rfl,rx,rx,rx,rx,rx,rx,rx,rx,lx⟩
def AKB:=rg Tryz.f161
def A1W:bq:=(.seq (AKB 2) (.seq (AKB 5) .ret))
theorem b161:Tryz.f161.body=some A1W:=by kernel_rfl
@[simp] theorem BJZ:SX 9 (AKB 2) [ot 4 false] [0,1] [7]/\SX 9 (AKB 5) [om 5 0,om 6 1,od 7 188 [tq 5,tq 6],oc 8 .geq 3 7 0,om 4 8] [0,1,2,3] [2,3]:=⟨rx,rx⟩
def AKC:=rg Tryz.f120
def A1X:bq:=(.seq (AKC 2) (.seq (AKC 5) .ret))
theorem BB6:Tryz.f120.body=some A1X:=by kernel_rfl
@[simp] theorem BJ0:SX 9 (AKC 2) [oq 3 (.box (tq 1)),ot 4 false] [0,1,2] [3]/\SX 9 (AKC 5) [om 5 0,oq 6 (.oth (.makeFunc (.func 162) #[] #[tq 3])),od 7 161 [tq 5,tq 6],ou 8 7,om 4 8] [0,1,2,3] [2,3]:=⟨rx,rx⟩
def AKD:=rg Tryz.f162
def A1Y:bq:=(.seq (AKD 2) (.seq (AKD 5) .ret))
theorem b162:Tryz.f162.body=some A1Y:=by kernel_rfl
@[simp] theorem BJ1:SX 8 (AKD 2) [oq 2 (.box (tq 0)),ot 3 false] [0,1] []/\SX 8 (AKD 5) [ol 4 203 1,ol 5 94 2,oq 6 (.call false none (tq 4) [tq 5]),ou 7 6,om 3 7] [0,1,2] [2]:=⟨rx,rx⟩
def AKE:=rg Tryz.f163
def A1Z:bq:=(.seq (AKE 2) (.seq (AKE 5) .ret))
theorem BB7:Tryz.f163.body=some A1Z:=by kernel_rfl
@[simp] theorem BJ2:SX 15 (AKE 2) [ot 6 false] [0,1,2] []/\SX 15 (AKE 5) [om 7 1,om 8 0,ob 9 .leq 3 7 8,om 10 9,gm 10 true 11 0,gm 10 true 12 2,gb 10 true 13 .leq 3 11 12,oq 14 (.pick (tq 10) (tq 13) (cb false)),om 6 14] [0,1,2] []:=⟨rx,rx⟩
def AKF:=rg Tryz.f121
def A10:bq:=(.seq (AKF 2) (.seq (AKF 5) .ret))
theorem BB8:Tryz.f121.body=some A10:=by kernel_rfl
@[simp] theorem BJ3:SX 11 (AKF 2) [oq 1 (.box (tq 0)),ot 2 false] [0] [1,7,910,911]/\SX 11 (AKF 5) [oz 3 94 1 0,ol 4 3 3,od 5 163 [tq 4,ci 1,ci 4],om 6 5,gz 6 true 7 94 1 1,gl 6 true 8 3 7,gd 6 true 9 163 [tq 8,ci 0,ci 5],oq 10 (.pick (tq 6) (tq 9) (cb false)),om 2 10] [1] [1]:=⟨rx,rx⟩
def AKG:=rg Tryz.f118
def A11:bq:=(.seq (AKG 2) (.seq (AKG 5) .ret))
theorem BB9:Tryz.f118.body=some A11:=by kernel_rfl
@[simp] theorem BJ4:SX 11 (AKG 2) [oq 2 (.box (tq 0)),ot 4 false] [0,1] [2]/\SX 11 (AKG 5) [om 5 1,oe 6 5 97,oz 7 43 2 0,oz 8 40 7 2,ol 9 3 8,ob 10 .eql 3 6 9,om 4 10] [1,2] [2]:=⟨rx,rx⟩
def KS:=rg Tryz.f71
@[simp] def ADT:bq:=(.seq (KS 4561279) (.seq (.cond (.tmp 63) .skip (.exit 2)) (.seq (.block 3 (.seq (KS 73767295) (KS 107321727))) (KS 31824255))))
def S0:=ADT
@[simp] def ADU:bq:=(.seq (KS 4479) (.seq (.cond (.tmp 57) .skip (.exit 0)) (.seq (.block 1 (.seq (KS 72063) (.seq (KS 170367) (.seq (.seq (KS 629119) (.block 2 (.loop S0))) (KS 498047))))) (KS 31103))))
def S4:=ADU
def c71:bq:=(.seq (KS 2) (.seq (.seq (KS 9) (.cond (.tmp 16) (.seq (KS 37) .ret) .skip)) (.seq (KS 11) (.seq (.seq (KS 39) (.cond (.tmp 26) (.seq (KS 151) .ret) .skip)) (.seq (KS 47) (.seq (.seq (KS 159) (.cond (.tmp 49) (.seq (KS 607) .ret) .skip)) (.seq (KS 191) (.seq (.seq (KS 639) (.block 0 (.loop S4))) (.seq (KS 767) .ret)))))))))
theorem b71:Tryz.f71.body=some c71:=by kernel_rfl
@[simp] theorem BCA(n:Nat)(st:XS):AE bk ann kn (n+1) 85 (KS 767) st=QM (KJ bk (BG bk ann kn n) (.str [om 84 7,om 2 84,ok 3 0]) (CO (some ([7],[1,22,51,53,80])) (MC [80,911051,912053] st))) :=
 D4 (by kernel_rfl) (by kernel_rfl) (by kernel_rfl) (by kernel_rfl) (by kernel_rfl)
@[simp] theorem x71:UX 85 S0 ADT/\UX 85 S4 ADU/\SX 85 (KS 2) [oq 1 (.box (tq 0)),oq 2 (.mv (.const (.pointer none))),ok 3 0] [0] [1,22,51,53,80]/\SX 85 (KS 9) [oz 13 43 1 3,ol 14 41 13,oe 15 14 41,oc 16 .gtr 3 15 3] [1] [1,22,51,53,80]/\SX 85 (KS 37) [oq 2 (.mv (.const (.pointer none))),ok 3 3] [] []/\SX 85 (KS 11) [oz 18 43 1 0,ol 19 40 18,oz 20 43 1 1,ol 21 23 20,od 22 117 [tq 19,tq 21],om 17 22,oq 23 (.oth (.extract (tq 17) 0)),oq 24 (.oth (.extract (tq 17) 1)),om 4 23,om 5 24] [1] [1,22,51,53,80]/\SX 85 (KS 39) [om 25 5,oc 26 .neq 34 25 0] [1,4,5] [1,22,51,53,80]/\SX 85 (KS 151) [om 27 5,oq 2 (.mv (.const (.pointer none))),om 3 27] [5] []/\SX 85 (KS 47) [ol 28 43 1,oq 29 (.oth (.makeFunc (.func 118) #[tq 28] #[])),om 6 29] [1,4] [1,22,51,53,80]/\SX 85 (KS 159) [oz 30 43 1 2,ol 31 28 30,oe 32 31 28,oz 33 43 1 0,oz 34 40 33 1,ol 35 3 34,ob 36 .neq 3 32 35,om 37 36,gz 37 false 38 43 1 2,gl 37 false 39 28 38,gm 37 false 40 6,gd 37 false 41 119 [tq 39,tq 40],og 37 false 42 (.oth (.unOp .not 4 (tq 41))),oq 43 (.pick (tq 37) (cb true) (tq 42)),om 44 43,gz 44 false 45 43 1 3,gl 44 false 46 41 45,gd 44 false 47 120 [tq 46,.func 121],og 44 false 48 (.oth (.unOp .not 4 (tq 47))),oq 49 (.pick (tq 44) (cb true) (tq 48))] [1,4,6] [1,22,51,53,80]/\SX 85 (KS 607) [oq 2 (.mv (.const (.pointer none))),ok 3 1] [] []/\SX 85 (KS 191) [ol 50 43 1,oq 51 (.mkM none),oq 52 (.build 175 [(0,tq 50),(1,.const (.slice none 0 0)),(2,tq 51)]),oq 53 (.box (tq 52)),om 7 53] [1,4] [1,22,51,53,80]/\SX 85 (KS 639) [om 54 4,oe 55 54 197,ok 56 0] [4,7] [1,22,51,53,80]/\SX 85 (KS 4479) [ob 57 .lss 3 56 55] [7,54,55,56] [1,22,51,53,80]/\SX 85 (KS 72063) [oi 58 197 54 56,ol 59 204 58,om 9 59] [7,54,55,56] [1,22,51,53,80]/\SX 85 (KS 170367) [oq 10 (.alloc 206)] [7,9,54,55,56] [1,22,51,53,80]/\SX 85 (KS 629119) [om 60 9,oe 61 60 204,ok 62 0] [7,9,10,54,55,56] [1,10,22,51,53,80]/\SX 85 (KS 4561279) [ob 63 .lss 3 62 61] [7,10,54,55,56,60,61,62] [1,10,22,51,53,80]/\SX 85 (KS 73767295) [om 64 62,oi 65 204 60 62,ol 66 209 65,oq 12 (.alloc 209),om 11 64,os (.sto 209 (tq 12) (tq 66))] [7,10,54,55,56,60,61,62] [1,10,22,51,53,80]/\SX 85 (KS 107321727) [om 67 11,oz 68 209 12 2,oz 69 207 68 0,ol 70 3 69,oi 71 206 10 67,os (.sto 3 (tq 71) (tq 70))] [7,10,11,12,54,55,56,60,61,62] [1,10,12,22,51,53,80]/\SX 85 (KS 31824255) [oc 72 .add 3 62 1,om 62 72] [7,10,54,55,56,60,61,62] [1,10,22,51,53,80]/\RX 85 (KS 498047) (.drw [⟨[],[om 73 7,om 74 7,oq 75 (.oth (.nilCheck (tq 74))),oz 76 175 75 1,oq 77 (.ldz 172 (tq 76)),ol 78 206 10,oq 79 (.buildS 172 1 [(0,tq 78)]),oq 80 (.app [tq 77,tq 79] [172,172]),oq 81 (.oth (.nilCheck (tq 73))),oz 82 175 81 1,os (.sto 172 (tq 82) (tq 80))],[]⟩]) (some ([7,10,54,55,56],[1,10,22,51,53,80]))/\SX 85 (KS 31103) [oc 83 .add 3 56 1,om 56 83] [7,54,55,56] [1,22,51,53,80]/\LX 85 S4 [7,54,55,56] [1,22,51,53,80]/\LX 85 S0 [7,10,54,55,56,60,61,62] [1,10,22,51,53,80]:=by and_intros<;>first|exact rx|exact lx|exact fun _ _=>rfl
def g24:=rg Tryz.f24
def c24:bq:=(.seq (g24 2) (.seq (g24 5) (.seq (g24 11) .ret)))
def QJ:=rg Tryz.f189
@[simp] def ADV:bq:=(.seq (QJ 69) (.seq (.cond (.tmp 9) .skip (.exit 0)) (.seq (.block 1 (.seq (QJ 1125) (.seq (QJ 2661) (.cond (.tmp 16) (.seq (QJ 9829) .ret) .skip)))) (QJ 485))))
def S5:=ADV
def AKI:bq:=(.seq (QJ 2) (.seq (.seq (QJ 9) (.block 0 (.loop S5))) (.seq (QJ 11) .ret)))
theorem b189:Tryz.f189.body=some AKI:=by kernel_rfl
@[simp] theorem BJ5:UX 19 S5 ADV/\SX 19 (QJ 2) [ok 4 0] [0,1] []/\SX 19 (QJ 9) [om 6 0,oe 7 6 120,ok 8 0] [0,1] []/\SX 19 (QJ 69) [ob 9 .lss 3 8 7] [0,1,7,8] []/\SX 19 (QJ 1125) [om 10 8,om 5 10] [0,1,7,8] []/\SX 19 (QJ 2661) [om 11 1,om 12 0,om 13 5,oi 14 120 12 13,ol 15 153 14,oq 16 (.call false none (tq 11) [tq 15])] [0,1,5,7,8] []/\SX 19 (QJ 9829) [om 17 5,om 4 17] [5] []/\SX 19 (QJ 485) [oc 18 .add 3 8 1,om 8 18] [0,1,3,7,8] []/\SX 19 (QJ 11) [oq 4 (.mv (.const (.int .i64 (bj 0))))] [] []/\LX 19 S5 [0,1,7,8] []:=⟨fun _ _=>rfl,rx,rx,rx,rx,rx,rx,rx,rx,lx⟩
def AKJ:=rg Tryz.f171
def AQ2:bq:=(.seq (AKJ 2) (.seq (AKJ 5) .ret))
theorem b171:Tryz.f171.body=some AQ2:=by kernel_rfl
@[simp] theorem BJ6:SX 9 (AKJ 2) [ot 4 false] [0,1] [7]/\SX 9 (AKJ 5) [om 5 0,om 6 1,od 7 189 [tq 5,tq 6],oc 8 .geq 3 7 0,om 4 8] [0,1,2,3] [2,3]:=⟨rx,rx⟩
def AKK:=rg Tryz.f137
def AQ3:bq:=(.seq (AKK 2) (.seq (AKK 5) .ret))
theorem b137:Tryz.f137.body=some AQ3:=by kernel_rfl
@[simp] theorem BJ7:SX 9 (AKK 2) [oq 3 (.box (tq 1)),ot 4 false] [0,1,2] [3]/\SX 9 (AKK 5) [om 5 0,oq 6 (.oth (.makeFunc (.func 172) #[] #[tq 3])),od 7 171 [tq 5,tq 6],ou 8 7,om 4 8] [0,1,2,3] [2,3]:=⟨rx,rx⟩
def AKL:=rg Tryz.f172
def A12:bq:=(.seq (AKL 2) (.seq (AKL 5) .ret))
theorem b172:Tryz.f172.body=some A12:=by kernel_rfl
@[simp] theorem BJ8:SX 8 (AKL 2) [oq 2 (.box (tq 0)),ot 3 false] [0,1] []/\SX 8 (AKL 5) [ol 4 221 1,ol 5 153 2,oq 6 (.call false none (tq 4) [tq 5]),ou 7 6,om 3 7] [0,1,2] [2]:=⟨rx,rx⟩
def zA:=rg Tryz.f173
def A13:bq:=(.seq (zA 2) (.seq (zA 5) (.seq (zA 11) .ret)))
theorem BCB:Tryz.f173.body=some A13:=by kernel_rfl
@[simp] theorem BJ9:SX 38 (zA 2) [oq 3 (.box (tq 0)),ot 6 false] [0,1,2] [3]/\RX 38 (zA 5) (.drw [⟨[7,8],[oz 9 43 3 3,oq 10 (.ldz 41 (tq 9)),om 11 1,oi 12 41 10 11,oq 13 (.ldz 94 (tq 12)),oz 14 43 3 3,ol 15 41 14,om 16 2,oi 17 41 15 16,ol 18 94 17,oq 7 (.alloc 94),oq 8 (.alloc 94),os (.sto 94 (tq 7) (tq 13))],[os (.sto 94 (tq 8) (tq 18))]⟩]) (some ([1,2,3],[3]))/\SX 38 (zA 11) [om 19 1,om 20 2,ob 21 .neq 3 19 20,om 22 21,gz 22 true 23 94 7 3,gl 22 true 24 4 23,gm 22 true 25 24,gz 25 true 26 94 8 2,gl 25 true 27 4 26,og 22 true 28 (.pick (tq 25) (tq 27) (cb false)),gm 22 true 29 28,gz 29 false 30 94 7 2,gl 29 false 31 4 30,gm 29 false 32 31,gz 32 true 33 94 8 3,gl 32 true 34 4 33,og 29 false 35 (.pick (tq 32) (tq 34) (cb false)),og 22 true 36 (.pick (tq 29) (cb true) (tq 35)),oq 37 (.pick (tq 22) (tq 36) (cb false)),om 6 37] [1,2,7,8] [7,8]:=⟨rx,rx,rx⟩
def cW:=rg Tryz.f139
def ADW:bq:=(.seq (cW 2) (.seq (.seq (cW 9) (.cond (.tmp 14) (.seq (cW 37) .ret) .skip)) (.seq (cW 11) (.seq (cW 23) .ret))))
theorem BCC:Tryz.f139.body=some ADW:=by kernel_rfl
@[simp] theorem BKA:SX 55 (cW 2) [oq 3 (.box (tq 0)),oq 4 (.box (tq 1)),oq 5 (.box (tq 2)),ot 6 false] [0,1,2] [3]/\SX 55 (cW 9) [oz 8 153 4 1,oz 9 86 8 0,ol 10 3 9,oz 11 153 5 1,oz 12 86 11 0,ol 13 3 12,ob 14 .neq 3 10 13] [3,4,5] [3,4,5]/\SX 55 (cW 37) [ot 6 true] [] []/\SX 55 (cW 11) [oz 15 153 4 1,oz 16 86 15 1,ol 17 3 16,oz 18 153 5 1,oz 19 86 18 1,ol 20 3 19,ob 21 .sub 3 17 20,oz 22 153 5 0,oz 23 151 22 1,ol 24 3 23,ob 25 .sub 3 21 24,oz 26 153 5 1,oz 27 86 26 1,ol 28 3 27,oz 29 153 4 1,oz 30 86 29 1,ol 31 3 30,ob 32 .sub 3 28 31,oz 33 153 4 0,oz 34 151 33 1,ol 35 3 34,ob 36 .sub 3 32 35,oq 37 (.oth (.call ⟨.builtin .max,#[tq 25,tq 36],#[3,3]⟩)),om 7 37] [3,4,5] [3,4,5]/\SX 55 (cW 23) [om 38 7,oc 39 .gtr 3 38 0,om 40 39,gm 40 false 41 7,gc 40 false 42 .eql 3 41 0,gm 40 false 43 42,gl 43 true 44 43 3,gz 43 true 45 153 4 0,gz 43 true 46 151 45 0,gl 43 true 47 3 46,gz 43 true 48 153 5 0,gz 43 true 49 151 48 0,gl 43 true 50 3 49,gd 43 true 51 173 [tq 44,tq 47,tq 50],og 43 true 52 (.oth (.unOp .not 4 (tq 51))),og 40 false 53 (.pick (tq 43) (tq 52) (cb false)),oq 54 (.pick (tq 40) (cb true) (tq 53)),om 6 54] [3,4,5,7] [3,4,5]:=⟨rx,rx,rx,rx,rx⟩
def JP:=rg Tryz.f140
@[simp] def ADX:bq:=(.seq (JP 18021) (.seq (.cond (.tmp 17) .skip (.exit 2)) (.seq (.block 3 (.seq (JP 288357) (.seq (JP 681573) (.cond (.tmp 20) (JP 1468005) .skip)))) (JP 124517))))
def S6:=ADX
@[simp] def ADY:bq:=(.seq (JP 69) (.seq (.cond (.tmp 11) .skip (.exit 0)) (.seq (.block 1 (.seq (JP 1125) (.seq (JP 2661) (.block 2 (.loop S6))))) (JP 485))))
def S7:=ADY
def A14:bq:=(.seq (JP 2) (.seq (.seq (JP 9) (.block 0 (.loop S7))) (.seq (JP 11) .ret)))
theorem BCD:Tryz.f140.body=some A14:=by kernel_rfl
@[simp] theorem BKB:UX 26 S6 ADX/\UX 26 S7 ADY/\SX 26 (JP 2) [oq 1 (.box (tq 0)),ok 2 0] [0] [1]/\SX 26 (JP 9) [oz 7 43 1 2,ol 8 28 7,oe 9 8 28,ok 10 0] [1,2] [1]/\SX 26 (JP 69) [ob 11 .lss 3 10 9] [2,8,9,10] [1]/\SX 26 (JP 1125) [oi 12 28 8 10,ol 13 97 12,om 4 13] [2,8,9,10] [1]/\SX 26 (JP 2661) [om 14 4,oe 15 14 97,ok 16 0] [2,4,8,9,10] [1]/\SX 26 (JP 18021) [ob 17 .lss 3 16 15] [2,8,9,10,14,15,16] [1]/\SX 26 (JP 288357) [oi 18 97 14 16,ol 19 4 18,om 6 19] [2,8,9,10,14,15,16] [1]/\SX 26 (JP 681573) [om 20 6] [2,6,8,9,10,14,15,16] [1]/\SX 26 (JP 1468005) [om 21 2,oc 22 .add 3 21 1,om 2 22] [2,8,9,10,14,15,16] [1]/\SX 26 (JP 124517) [oc 23 .add 3 16 1,om 16 23] [2,8,9,10,14,15,16] [1]/\SX 26 (JP 485) [oc 24 .add 3 10 1,om 10 24] [2,8,9,10] [1]/\SX 26 (JP 11) [om 25 2,om 2 25] [2] []/\LX 26 S7 [2,8,9,10] [1]/\LX 26 S6 [2,8,9,10,14,15,16] [1]:=by and_intros<;>first|exact rx|exact lx|exact fun _ _=>rfl
def pR:=rg Tryz.f92
@[simp] def AN1:bq:=(.seq (pR 69) (.seq (.cond (.tmp 11) .skip (.exit 0)) (.seq (.block 1 (.seq (pR 1125) (.seq (pR 2661) (.cond (.tmp 18) (pR 5733) .skip)))) (pR 485))))
def YX:=AN1
def c92:bq:=(.seq (pR 2) (.seq (.seq (pR 9) (.block 0 (.loop YX))) (.seq (pR 11) .ret)))
theorem b92:Tryz.f92.body=some c92:=by kernel_rfl
@[simp] theorem x92:UX 28 YX AN1/\SX 28 (pR 2) [oq 2 (.box (tq 0)),oq 4 (.mv (.const (.slice none 0 0)))] [0,1] [2]/\SX 28 (pR 9) [oz 7 43 2 3,ol 8 41 7,oe 9 8 41,ok 10 0] [1,2,4] [2,25]/\SX 28 (pR 69) [ob 11 .lss 3 10 9] [1,4,8,9,10] [2,25]/\SX 28 (pR 1125) [om 12 10,oi 13 41 8 10,ol 14 94 13,oq 6 (.alloc 94),om 5 12,os (.sto 94 (tq 6) (tq 14))] [1,4,8,9,10] [2,25]/\SX 28 (pR 2661) [om 15 1,om 16 5,od 17 132 [tq 15,tq 16],ou 18 17] [1,4,5,6,8,9,10] [2,6,25]/\SX 28 (pR 5733) [om 19 4,om 20 5,oz 21 94 6 0,ol 22 3 21,oq 23 (.build 151 [(0,tq 20),(1,tq 22)]),oq 24 (.buildS 170 1 [(0,tq 23)]),oq 25 (.app [tq 19,tq 24] [170,170]),om 4 25] [1,4,5,6,8,9,10] [2,6,25]/\SX 28 (pR 485) [oc 26 .add 3 10 1,om 10 26] [1,4,8,9,10] [2,25]/\SX 28 (pR 11) [om 27 4,om 4 27] [4] [25]/\LX 28 YX [1,4,8,9,10] [2,25]:=⟨fun _ _=>rfl,rx,rx,rx,rx,rx,rx,rx,rx,lx⟩
def U1:=rg Tryz.f18
@[simp] def AN2:bq:=(lp (U1 267) 31 0 1 (.seq (U1 1099) (.cond (.tmp 40) (.seq (U1 4683) .ret) .skip)) (U1 459))
def YY:=AN2
@[simp] def AN3:bq:=(lp (U1 535) 45 2 3 (.seq (U1 2199) (.cond (.tmp 54) (.seq (U1 9367) .ret) .skip)) (U1 919))
def YZ:=AN3
def c18:bq:=(.seq (U1 2) (.seq (.seq (U1 9) (.cond (.tmp 26) (.seq (U1 37) .ret) .skip)) (.seq (.seq (U1 19) (.block 0 (.loop YY))) (.seq (.seq (U1 39) (.block 2 (.loop YZ))) (.seq (U1 47) .ret)))))
theorem b18:Tryz.f18.body=some c18:=by kernel_rfl
@[simp] theorem x18:UX 55 YY AN2/\UX 55 YZ AN3/\SX 55 (U1 2) [oq 1 (.box (tq 0)),ot 2 false] [0] [1]/\SX 55 (U1 9) [oz 5 31 1 0,ol 6 27 5,od 7 64 [tq 6],ou 8 7,om 9 8,gz 9 false 10 31 1 1,gl 9 false 11 23 10,ge 9 false 12 11 23,gc 9 false 13 .gtr 3 12 7,oq 14 (.pick (tq 9) (cb true) (tq 13)),om 15 14,gz 15 false 16 31 1 2,gl 15 false 17 28 16,ge 15 false 18 17 28,gc 15 false 19 .gtr 3 18 7,oq 20 (.pick (tq 15) (cb true) (tq 19)),om 21 20,gz 21 false 22 31 1 3,gl 21 false 23 29 22,ge 21 false 24 23 29,gc 21 false 25 .gtr 3 24 5,oq 26 (.pick (tq 21) (cb true) (tq 25))] [1] [1]/\SX 55 (U1 37) [ot 2 false] [] []/\SX 55 (U1 19) [ok 3 0] [1] [1]/\SX 55 (U1 267) [om 27 3,oz 28 31 1 1,ol 29 23 28,oe 30 29 23,ob 31 .lss 3 27 30] [1,3] [1]/\SX 55 (U1 1099) [oz 34 31 1 1,ol 35 23 34,om 36 3,oi 37 23 35 36,ol 38 22 37,oe 39 38 22,oc 40 .gtr 3 39 7] [1,3] [1]/\SX 55 (U1 4683) [ot 2 false] [] []/\SX 55 (U1 459) [om 32 3,oc 33 .add 3 32 1,om 3 33] [1,3] [1]/\SX 55 (U1 39) [ok 4 0] [1] [1]/\SX 55 (U1 535) [om 41 4,oz 42 31 1 2,ol 43 28 42,oe 44 43 28,ob 45 .lss 3 41 44] [1,4] [1]/\SX 55 (U1 2199) [oz 48 31 1 2,ol 49 28 48,om 50 4,oi 51 28 49 50,ol 52 97 51,oe 53 52 97,oc 54 .gtr 3 53 7] [1,4] [1]/\SX 55 (U1 9367) [ot 2 false] [] []/\SX 55 (U1 919) [om 46 4,oc 47 .add 3 46 1,om 4 47] [1,4] [1]/\SX 55 (U1 47) [ot 2 true] [] []/\LX 55 YY [1,3] [1]/\LX 55 YZ [1,4] [1]:=by and_intros<;>first|exact rx|exact lx|exact fun _ _=>rfl
def vK:=rg Tryz.f69
@[simp] def AN4:bq:=(lp (vK 267) 8 0 1 (vK 587) (vK 459))
def Y0:=AN4
def c69:bq:=(.seq (vK 2) (.seq (vK 5) (.seq (.seq (vK 19) (.block 0 (.loop Y0))) (.seq (vK 23) .ret))))
theorem b69:Tryz.f69.body=some c69:=by kernel_rfl
@[simp] theorem BF2(n:Nat)(st:XS):AE bk ann kn (n+1) 20 (vK 459) st=QM (KJ bk (BG bk ann kn n) (.str [om 9 4,oc 10 .add 3 9 1,om 4 10]) (CO (some ([0,3,4],[18])) (MC [16,2000000000000018] st))) :=
 D4 (by kernel_rfl) (by kernel_rfl) (by kernel_rfl) (by kernel_rfl) (by kernel_rfl)
@[simp] theorem x69:UX 20 Y0 AN4/\SX 20 (vK 2) [oq 2 (.mv (.const (.slice none 0 0)))] [0] []/\SX 20 (vK 5) [oq 3 (.mv (.const (.slice none 0 0)))] [0] []/\SX 20 (vK 19) [ok 4 0] [0,3] [18]/\SX 20 (vK 267) [om 5 4,om 6 0,oe 7 6 23,ob 8 .lss 3 5 7] [0,3,4] [18]/\SX 20 (vK 587) [om 11 3,om 12 0,om 13 4,oi 14 23 12 13,ol 15 22 14,oq 16 (.app [.const (.slice none 0 0),tq 15] [22,22]),oq 17 (.buildS 23 1 [(0,tq 16)]),oq 18 (.app [tq 11,tq 17] [23,23]),om 3 18] [0,3,4] [18]/\SX 20 (vK 23) [om 19 3,om 2 19] [3] [18]/\LX 20 Y0 [0,3,4] [18]:=⟨fun _ _=>rfl,rx,rx,rx,rx,rx,rx,lx⟩
def kX:=rg Tryz.f106
def A15:bq:=(.seq (kX 2) (.seq (.seq (kX 9) (.cond (.tmp 8) (.seq (kX 37) .ret) .skip)) (.seq (kX 11) .ret)))
theorem BCG:Tryz.f106.body=some A15:=by kernel_rfl
@[simp] theorem BKE:SX 12 (kX 2) [ok 2 0] [0] []/\SX 12 (kX 9) [om 3 0,oc 4 .eql 3 3 1,om 5 4,gm 5 false 6 0,gc 5 false 7 .eql 3 6 3,oq 8 (.pick (tq 5) (cb true) (tq 7))] [0] []/\SX 12 (kX 37) [om 9 0,oq 10 (.bin .sub 3 (ci 4) (tq 9)),om 2 10] [0] []/\SX 12 (kX 11) [om 11 0,om 2 11] [0] []:=⟨rx,rx,rx,rx⟩
def JQ:=rg Tryz.f105
@[simp] def ADZ:bq:=(lp (JQ 267) 12 0 1 (JQ 587) (JQ 459))
def S8:=ADZ
@[simp] def vL:bq:=(lp (JQ 33943) 37 4 5 (.seq (JQ 140439) (.cond (.tmp 48) (JQ 337047) .skip)) (JQ 58519))
def Y2:=vL
@[simp] def AD0:bq:=(lp (JQ 535) 29 2 3 (.seq (JQ 2199) (.block 4 (.loop Y2))) (JQ 919))
def S9:=AD0
def AQ4:bq:=(.seq (JQ 2) (.seq (JQ 5) (.seq (.seq (JQ 19) (.block 0 (.loop S8))) (.seq (.seq (JQ 39) (.block 2 (.loop S9))) (.seq (JQ 47) .ret)))))
theorem A16:Tryz.f105.body=some AQ4:=by kernel_rfl
@[simp] theorem BKF:UX 64 S8 ADZ/\UX 64 Y2 vL/\UX 64 S9 AD0/\SX 64 (JQ 2) [oq 4 (.mv (.const (.slice none 0 0)))] [0,1] []/\SX 64 (JQ 5) [oq 5 (.mv (.const (.slice none 0 0)))] [0,1] []/\SX 64 (JQ 19) [ok 6 0] [0,1,5] [22]/\SX 64 (JQ 267) [om 9 6,om 10 0,oe 11 10 22,ob 12 .lss 3 9 11] [0,1,5,6] [22]/\SX 64 (JQ 587) [om 15 5,om 16 0,om 17 6,oi 18 22 16 17,ol 19 3 18,od 20 106 [tq 19],oq 21 (.buildS 22 1 [(0,tq 20)]),oq 22 (.app [tq 15,tq 21] [22,22]),om 5 22] [0,1,5,6] [22]/\SX 64 (JQ 459) [om 13 6,oc 14 .add 3 13 1,om 6 14] [0,1,5,6] [22]/\SX 64 (JQ 39) [ok 7 0] [1,5] [22]/\SX 64 (JQ 535) [om 23 7,om 24 5,oe 25 24 22,ob 26 .lss 3 23 25,om 27 26,gm 27 true 28 1,oq 29 (.pick (tq 27) (tq 28) (cb false))] [1,5,7] [22]/\SX 64 (JQ 47) [om 63 5,om 4 63] [5] [22]/\LX 64 S8 [0,1,5,6] [22]/\LX 64 S9 [1,5,7] [22]/\LX 64 Y2 [1,5,7,8] [22]:=by and_intros<;>first|exact rx|exact lx|exact fun _ _=>rfl
def G4:=rg Tryz.f63
@[simp] def AN5:bq:=(lp (G4 4287) 49 0 1 (.seq (G4 17599) (G4 25791)) (G4 7359))
def Y3:=AN5
@[simp] def AD1:bq:=(lp (G4 8575) 84 2 3 (.seq (G4 35199) (G4 51583)) (G4 14719))
def TA:=AD1
@[simp] def AD2:bq:=(lp (G4 17151) 114 4 5 (.seq (G4 70399) (G4 103167)) (G4 29439))
def TB:=AD2
@[simp] def AD3:bq:=(lp (G4 8726015) 147 8 9 (G4 19211775) (G4 15017471))
def TC:=AD3
@[simp] def AD4:bq:=(lp (G4 34303) 142 6 7 (.seq (G4 140799) (.seq (.seq (G4 599551) (.block 8 (.loop TC))) (G4 468479))) (G4 58879))
def TD:=AD4
def c63:bq:=(.seq (G4 2) (.seq (G4 5) (.seq (G4 11) (.seq (G4 23) (.seq (G4 47) (.seq (G4 95) (.seq (.seq (G4 319) (.block 0 (.loop Y3))) (.seq (.seq (G4 639) (.block 2 (.loop TA))) (.seq (.seq (G4 1279) (.block 4 (.loop TB))) (.seq (.seq (G4 2559) (.block 6 (.loop TD))) (.seq (G4 3071) .ret)))))))))))
theorem b63:Tryz.f63.body=some c63:=by kernel_rfl
@[simp] theorem BCH(n:Nat)(st:XS):AE bk ann kn (n+1) 168 (G4 468479) st=QM (KJ bk (BG bk ann kn n) (.str [oz 161 31 3 2,ol 162 28 161,om 163 12,oq 164 (.buildS 28 1 [(0,tq 163)]),oq 165 (.app [tq 162,tq 164] [28,28]),oz 166 31 3 2,os (.sto 28 (tq 166) (tq 165))]) (CO (some ([1,2,3,5,11,12],[1,2,3,24,28,63,65,75,77,106,135,160,165])) (MC [160] st))) :=
 D4 (by kernel_rfl) (by kernel_rfl) (by kernel_rfl) (by kernel_rfl) (by kernel_rfl)
@[simp] theorem BCI(n:Nat)(st:XS):AE bk ann kn (n+1) 168 (G4 3071) st=QM (KJ bk (BG bk ann kn n) (.str [ol 167 31 3,os (.sto 31 (tq 2) (tq 167))]) (CO (some ([2,3],[1,2,3,24,28,63,65,75,77,106,135,165])) (MC [24,28,65,77,106,135,165] st))) :=
 D4 (by kernel_rfl) (by kernel_rfl) (by kernel_rfl) (by kernel_rfl) (by kernel_rfl)
@[simp] theorem x63:UX 168 Y3 AN5/\UX 168 TA AD1/\UX 168 TB AD2/\UX 168 TC AD3/\UX 168 TD AD4/\SX 168 (G4 2) [oq 1 (.box (tq 0)),oq 2 (.alloc 31)] [0] [1,2,3,24,28,63,65,75,77,106,135,165]/\SX 168 (G4 5) [ol 14 31 1,oq 3 (.alloc 31),os (.sto 31 (tq 3) (tq 14))] [1,2] [1,2,3,24,28,63,65,75,77,106,135,165]/\SX 168 (G4 11) [oz 15 31 3 0,om 4 15] [1,2,3] [1,2,3,24,28,63,65,75,77,106,135,165]/\RX 168 (G4 23) (.drw [⟨[24,28],[om 16 4,om 17 4,om 18 4,om 19 4,om 20 4,oz 21 31 1 0,oz 22 27 21 4,oq 23 (.ldz 22 (tq 22)),oz 25 31 1 0,oz 26 27 25 5,ol 27 22 26,oq 24 (.call true none (.func 105) [tq 23,cb false]),oq 28 (.call true none (.func 105) [tq 27,cb false]),oq 29 (.oth (.nilCheck (tq 16))),oz 30 27 29 4,os (.sto 22 (tq 30) (tq 24)),oq 31 (.oth (.nilCheck (tq 17))),oz 32 27 31 5,os (.sto 22 (tq 32) (tq 28)),oq 33 (.oth (.nilCheck (tq 18))),oz 34 27 33 6,os (.sto 23 (tq 34) (.const (.slice none 0 0))),oq 35 (.oth (.nilCheck (tq 19))),oz 36 27 35 7,os (.sto 24 (tq 36) (.const (.slice none 0 0))),oq 37 (.oth (.nilCheck (tq 20))),oz 38 27 37 8,os (.sto 25 (tq 38) (.const (.slice none 0 0)))],[]⟩]) (some ([1,2,3,4],[1,2,3,63,65,75,77,106,135,165]))/\SX 168 (G4 47) [oz 39 31 3 1,os (.sto 23 (tq 39) (.const (.slice none 0 0))),oz 40 31 3 2,os (.sto 28 (tq 40) (.const (.slice none 0 0)))] [1,2,3,4] [1,2,3,24,28,63,65,75,77,106,135,165]/\SX 168 (G4 95) [oz 41 31 1 0,oz 42 27 41 2,ol 43 3 42,oc 44 .sub 3 43 1,om 5 44] [1,2,3,4] [1,2,3,24,28,63,65,75,77,106,135,165]/\SX 168 (G4 319) [ok 6 0] [1,2,3,4,5] [1,2,3,24,28,63,65,75,77,106,135,165]/\SX 168 (G4 4287) [om 45 6,oz 46 31 1 0,oz 47 27 46 0,ol 48 3 47,ob 49 .leq 3 45 48] [1,2,3,4,5,6] [1,2,3,24,28,63,65,75,77,106,135,165]/\RX 168 (G4 17599) (.drw [⟨[],[om 52 4,om 53 4,oq 54 (.oth (.nilCheck (tq 53))),oz 55 27 54 6,oq 56 (.ldz 23 (tq 55)),oz 57 31 1 0,oz 58 27 57 6,ol 59 23 58,om 60 6,oi 61 23 59 60,ol 62 22 61,od 63 105 [tq 62,cb true],oq 64 (.buildS 23 1 [(0,tq 63)]),oq 65 (.app [tq 56,tq 64] [23,23]),oq 66 (.oth (.nilCheck (tq 52))),oz 67 27 66 6,os (.sto 23 (tq 67) (tq 65))],[]⟩]) (some ([1,2,3,4,5,6],[1,2,3,24,28,65,75,77,106,135,165]))/\RX 168 (G4 25791) (.drw [⟨[],[oz 68 31 3 1,oq 69 (.ldz 23 (tq 68)),oz 70 31 1 1,ol 71 23 70,om 72 6,oi 73 23 71 72,ol 74 22 73,od 75 105 [tq 74,cb false],oq 76 (.buildS 23 1 [(0,tq 75)]),oq 77 (.app [tq 69,tq 76] [23,23]),oz 78 31 3 1],[os (.sto 23 (tq 78) (tq 77))]⟩]) (some ([1,2,3,4,5,6],[1,2,3,24,28,63,65,77,106,135,165]))/\SX 168 (G4 7359) [om 50 6,oc 51 .add 3 50 1,om 6 51] [1,2,3,4,5,6] [1,2,3,24,28,63,65,75,77,106,135,165]/\SX 168 (G4 639) [ok 7 0] [1,2,3,4,5] [1,2,3,24,28,63,65,75,77,106,135,165]/\SX 168 (G4 8575) [om 79 7,oz 80 31 1 0,oz 81 27 80 7,ol 82 24 81,oe 83 82 24,ob 84 .lss 3 79 83] [1,2,3,4,5,7] [1,2,3,24,28,63,65,75,77,106,135,165]/\SX 168 (G4 35199) [oz 87 31 1 0,oz 88 27 87 7,ol 89 24 88,om 90 7,oi 91 24 89 90,ol 92 59 91,oq 8 (.alloc 59),os (.sto 59 (tq 8) (tq 92))] [1,2,3,4,5,7] [1,2,3,24,28,63,65,75,77,106,135,165]/\RX 168 (G4 51583) (.drw [⟨[],[om 93 4,om 94 4,oq 95 (.oth (.nilCheck (tq 94))),oz 96 27 95 7,oq 97 (.ldz 24 (tq 96)),oz 98 59 8 0,ol 99 3 98,om 100 5,oz 101 59 8 1,ol 102 3 101,ob 103 .sub 3 100 102,oq 104 (.build 59 [(0,tq 99),(1,tq 103)]),oq 105 (.buildS 24 1 [(0,tq 104)]),oq 106 (.app [tq 97,tq 105] [24,24]),oq 107 (.oth (.nilCheck (tq 93))),oz 108 27 107 7,os (.sto 24 (tq 108) (tq 106))],[]⟩]) (some ([1,2,3,4,5,7,8],[1,2,3,8,24,28,63,65,75,77,106,135,165]))/\SX 168 (G4 14719) [om 85 7,oc 86 .add 3 85 1,om 7 86] [1,2,3,4,5,7] [1,2,3,24,28,63,65,75,77,106,135,165]/\SX 168 (G4 1279) [ok 9 0] [1,2,3,4,5] [1,2,3,24,28,63,65,75,77,106,135,165]/\SX 168 (G4 17151) [om 109 9,oz 110 31 1 0,oz 111 27 110 8,ol 112 25 111,oe 113 112 25,ob 114 .lss 3 109 113] [1,2,3,4,5,9] [1,2,3,24,28,63,65,75,77,106,135,165]/\SX 168 (G4 70399) [oz 117 31 1 0,oz 118 27 117 8,ol 119 25 118,om 120 9,oi 121 25 119 120,ol 122 188 121,oq 10 (.alloc 188),os (.sto 188 (tq 10) (tq 122))] [1,2,3,4,5,9] [1,2,3,24,28,63,65,75,77,106,135,165]/\RX 168 (G4 103167) (.drw [⟨[],[om 123 4,om 124 4,oq 125 (.oth (.nilCheck (tq 124))),oz 126 27 125 8,oq 127 (.ldz 25 (tq 126)),oz 128 188 10 0,ol 129 3 128,oz 130 188 10 1,ol 131 3 130,od 132 106 [tq 131],oq 133 (.build 188 [(0,tq 129),(1,tq 132)]),oq 134 (.buildS 25 1 [(0,tq 133)]),oq 135 (.app [tq 127,tq 134] [25,25]),oq 136 (.oth (.nilCheck (tq 123))),oz 137 27 136 8,os (.sto 25 (tq 137) (tq 135))],[]⟩]) (some ([1,2,3,4,5,9,10],[1,2,3,10,24,28,63,65,75,77,106,135,165]))/\SX 168 (G4 29439) [om 115 9,oc 116 .add 3 115 1,om 9 116] [1,2,3,4,5,9] [1,2,3,24,28,63,65,75,77,106,135,165]/\SX 168 (G4 2559) [ok 11 0] [1,2,3,5] [1,2,3,24,28,63,65,75,77,106,135,165]/\SX 168 (G4 34303) [om 138 11,oz 139 31 1 2,ol 140 28 139,oe 141 140 28,ob 142 .lss 3 138 141] [1,2,3,5,11] [1,2,3,24,28,63,65,75,77,106,135,165]/\SX 168 (G4 140799) [oq 12 (.mv (.const (.slice none 0 0)))] [1,2,3,5,11] [1,2,3,24,28,63,65,75,77,106,135,165]/\SX 168 (G4 599551) [om 145 5,om 13 145] [1,2,3,5,11,12] [1,2,3,24,28,63,65,75,77,106,135,160,165]/\SX 168 (G4 8726015) [om 146 13,oc 147 .geq 3 146 0] [1,2,3,5,11,12,13] [1,2,3,24,28,63,65,75,77,106,135,160,165]/\SX 168 (G4 19211775) [om 150 12,oz 151 31 1 2,ol 152 28 151,om 153 11,oi 154 28 152 153,ol 155 97 154,om 156 13,oi 157 97 155 156,ol 158 4 157,oq 159 (.buildS 97 1 [(0,tq 158)]),oq 160 (.app [tq 150,tq 159] [97,97]),om 12 160] [1,2,3,5,11,12,13] [1,2,3,24,28,63,65,75,77,106,135,160,165]/\SX 168 (G4 15017471) [om 148 13,oc 149 .sub 3 148 1,om 13 149] [1,2,3,5,11,12,13] [1,2,3,24,28,63,65,75,77,106,135,160,165]/\SX 168 (G4 58879) [om 143 11,oc 144 .add 3 143 1,om 11 144] [1,2,3,5,11] [1,2,3,24,28,63,65,75,77,106,135,165]/\LX 168 Y3 [1,2,3,4,5,6] [1,2,3,24,28,63,65,75,77,106,135,165]/\LX 168 TA [1,2,3,4,5,7] [1,2,3,24,28,63,65,75,77,106,135,165]/\LX 168 TB [1,2,3,4,5,9] [1,2,3,24,28,63,65,75,77,106,135,165]/\LX 168 TD [1,2,3,5,11] [1,2,3,24,28,63,65,75,77,106,135,165]/\LX 168 TC [1,2,3,5,11,12,13] [1,2,3,24,28,63,65,75,77,106,135,160,165]:=by and_intros<;>first|exact rx|exact lx|exact fun _ _=>rfl
def jY:=rg Tryz.f44
@[simp] def AN6:bq:=(lp (jY 267) 14 0 1 (.seq (jY 1099) (.cond (.tmp 25) (.seq (jY 4683) .ret) .skip)) (jY 459))
def Y4:=AN6
def c44:bq:=(.seq (jY 2) (.seq (.seq (jY 9) (.cond (.tmp 10) (.seq (jY 37) .ret) .skip)) (.seq (.seq (jY 19) (.block 0 (.loop Y4))) (.seq (jY 23) .ret))))
theorem b44:Tryz.f44.body=some c44:=by kernel_rfl
@[simp] theorem x44:UX 26 Y4 AN6/\SX 26 (jY 2) [ot 4 false] [0,1] []/\SX 26 (jY 9) [om 6 0,oe 7 6 22,om 8 1,oe 9 8 22,ob 10 .neq 3 7 9] [0,1] []/\SX 26 (jY 37) [ot 4 false] [] []/\SX 26 (jY 19) [ok 5 0] [0,1] []/\SX 26 (jY 267) [om 11 5,om 12 0,oe 13 12 22,ob 14 .lss 3 11 13] [0,1,5] []/\RX 26 (jY 1099) (.drw [⟨[],[om 17 0,om 18 5,oi 19 22 17 18,ol 20 3 19,om 21 1,om 22 5,oi 23 22 21 22,ol 24 3 23,ob 25 .neq 3 20 24],[]⟩]) (some ([0,1,5],[]))/\SX 26 (jY 4683) [ot 4 false] [] []/\SX 26 (jY 459) [om 15 5,oc 16 .add 3 15 1,om 5 16] [0,1,5] []/\SX 26 (jY 23) [ot 4 true] [] []/\LX 26 Y4 [0,1,5] []:=⟨fun _ _=>rfl,rx,rx,rx,rx,rx,rx,rx,rx,rx,lx⟩
def TE:=rg Tryz.f116
@[simp] def AD5:bq:=(lp (TE 133) 9 0 1 (.seq (TE 549) (.cond (.tmp 27) (.seq (TE 2341) .ret) .skip)) (TE 229))
def TF:=AD5
def A17:bq:=(.seq (TE 2) (.seq (.seq (TE 9) (.block 0 (.loop TF))) (.seq (TE 11) .ret)))
theorem BCJ:Tryz.f116.body=some A17:=by kernel_rfl
@[simp] theorem BKI:UX 34 TF AD5/\SX 34 (TE 2) [oq 2 (.box (tq 0)),ot 4 false] [0,1] [2]/\SX 34 (TE 9) [ok 5 0] [1,2] [2]/\SX 34 (TE 133) [om 6 5,om 7 1,oe 8 7 23,ob 9 .lss 3 6 8] [1,2,5] [2]/\RX 34 (TE 549) (.drw [⟨[],[om 12 1,om 13 5,oi 14 23 12 13,ol 15 22 14,oe 16 15 22,oz 17 27 2 1,ol 18 3 17,ob 19 .neq 3 16 18,om 20 19,gm 20 false 21 1,gm 20 false 22 5,gi 20 false 23 23 21 22,gl 20 false 24 22 23],[gd 20 false 25 134 [tq 24,ci 0]]⟩,⟨[],[og 20 false 26 (.oth (.unOp .not 4 (tq 25))),oq 27 (.pick (tq 20) (cb true) (tq 26))],[]⟩]) (some ([1,2,5],[2]))/\SX 34 (TE 2341) [ot 4 false] [] []/\SX 34 (TE 229) [om 10 5,oc 11 .add 3 10 1,om 5 11] [1,2,5] [2]/\SX 34 (TE 11) [om 28 1,oe 29 28 23,oz 30 27 2 0,ol 31 3 30,oc 32 .add 3 31 1,ob 33 .eql 3 29 32,om 4 33] [1,2] [2]/\LX 34 TF [1,2,5] [2]:=⟨fun _ _=>rfl,rx,rx,rx,rx,rx,rx,rx,lx⟩
def jZ:=rg Tryz.f27
@[simp] def AN7:bq:=(lp (jZ 267) 15 0 1 (.seq (jZ 1099) (.cond (.tmp 28) (.seq (jZ 4683) .ret) .skip)) (jZ 459))
def Y5:=AN7
def c27:bq:=(.seq (jZ 2) (.seq (.seq (jZ 9) (.cond (.tmp 11) (.seq (jZ 37) .ret) .skip)) (.seq (.seq (jZ 19) (.block 0 (.loop Y5))) (.seq (jZ 23) .ret))))
theorem b27:Tryz.f27.body=some c27:=by kernel_rfl
@[simp] theorem x27:UX 29 Y5 AN7/\SX 29 (jZ 2) [oq 2 (.box (tq 0)),ot 4 false] [0,1] [2]/\SX 29 (jZ 9) [om 6 1,oe 7 6 22,oz 8 27 2 6,ol 9 23 8,oe 10 9 23,ob 11 .neq 3 7 10] [1,2] [2]/\SX 29 (jZ 37) [ot 4 false] [] []/\SX 29 (jZ 19) [ok 5 0] [1,2] [2]/\SX 29 (jZ 267) [om 12 5,om 13 1,oe 14 13 22,ob 15 .lss 3 12 14] [1,2,5] [2]/\RX 29 (jZ 1099) (.drw [⟨[],[oz 18 27 2 6,ol 19 23 18,om 20 5,oi 21 23 19 20,ol 22 22 21,om 23 1,om 24 5,oi 25 22 23 24,ol 26 3 25],[od 27 75 [tq 22,tq 26]]⟩,⟨[],[ou 28 27],[]⟩]) (some ([1,2,5],[2]))/\SX 29 (jZ 4683) [ot 4 false] [] []/\SX 29 (jZ 459) [om 16 5,oc 17 .add 3 16 1,om 5 17] [1,2,5] [2]/\SX 29 (jZ 23) [ot 4 true] [] []/\LX 29 Y5 [1,2,5] [2]:=⟨fun _ _=>rfl,rx,rx,rx,rx,rx,rx,rx,rx,rx,lx⟩
def N4:=rg Tryz.f102
@[simp] def AD6:bq:=(lp (N4 267) 14 0 1 (.seq (N4 1099) (.cond (.tmp 32) (.seq (N4 4683) .ret) .skip)) (N4 459))
def TG:=AD6
def AQ5:bq:=(.seq (N4 2) (.seq (.seq (N4 9) (.cond (.tmp 9) (.seq (N4 37) .ret) .skip)) (.seq (.seq (N4 19) (.block 0 (.loop TG))) (.seq (N4 23) .ret))))
theorem BCL:Tryz.f102.body=some AQ5:=by kernel_rfl
@[simp] theorem BKK:UX 33 TG AD6/\SX 33 (N4 2) [oq 2 (.box (tq 0)),ot 4 false] [0,1] [2,4,5,30]/\SX 33 (N4 9) [ol 6 27 2,om 7 1,od 8 27 [tq 6,tq 7],ou 9 8] [1,2] [2]/\SX 33 (N4 37) [ot 4 false] [] []/\SX 33 (N4 19) [ok 5 0] [1,2] [2]/\SX 33 (N4 267) [om 10 5,oz 11 27 2 8,ol 12 25 11,oe 13 12 25,ob 14 .lss 3 10 13] [1,2,5] [2]/\RX 33 (N4 1099) (.drw [⟨[],[om 17 1,oz 18 27 2 8,ol 19 25 18,om 20 5,oi 21 25 19 20,oz 22 188 21 0,ol 23 3 22,oi 24 22 17 23,ol 25 3 24,oz 26 27 2 8,ol 27 25 26,om 28 5,oi 29 25 27 28,oz 30 188 29 1,ol 31 3 30,ob 32 .neq 3 25 31],[]⟩]) (some ([1,2,5],[2]))/\SX 33 (N4 4683) [ot 4 false] [] []/\SX 33 (N4 459) [om 15 5,oc 16 .add 3 15 1,om 5 16] [1,2,5] [2]/\SX 33 (N4 23) [ot 4 true] [] []/\LX 33 TG [1,2,5] [2]:=⟨fun _ _=>rfl,rx,rx,rx,rx,rx,rx,rx,rx,rx,lx⟩
def kB:=rg Tryz.f55
@[simp] def AN8:bq:=(lp (kB 267) 9 0 1 (.seq (kB 1099) (.seq (kB 2635) (.cond (.tmp 17) (kB 5707) .skip))) (kB 459))
def Y6:=AN8
def c55:bq:=(.seq (kB 2) (.seq (kB 5) (.seq (.seq (kB 19) (.block 0 (.loop Y6))) (.seq (kB 23) .ret))))
theorem b55:Tryz.f55.body=some c55:=by kernel_rfl
@[simp] theorem x55:UX 23 Y6 AN8/\SX 23 (kB 2) [oq 1 (.box (tq 0)),oq 2 (.mv (.const (.slice none 0 0)))] [0] [1,14]/\SX 23 (kB 5) [oq 3 (.mv (.const (.slice none 0 0)))] [0,1] [1,14]/\SX 23 (kB 19) [ok 4 0] [0,1,3] [1,14,21]/\SX 23 (kB 267) [om 6 4,ol 7 27 1,od 8 100 [tq 7],ob 9 .lss 3 6 8] [1,3,4] [1,14,21]/\SX 23 (kB 1099) [ol 12 27 1,om 13 4,od 14 101 [tq 12,tq 13],om 5 14] [1,3,4] [1,14,21]/\SX 23 (kB 2635) [ol 15 27 1,om 16 5,od 17 102 [tq 15,tq 16]] [1,3,4,5] [1,14,21]/\SX 23 (kB 5707) [om 18 3,om 19 5,oq 20 (.buildS 23 1 [(0,tq 19)]),oq 21 (.app [tq 18,tq 20] [23,23]),om 3 21] [1,3,4,5] [1,14,21]/\SX 23 (kB 459) [om 10 4,oc 11 .add 3 10 1,om 4 11] [0,1,3,4] [1,14,21]/\SX 23 (kB 23) [om 22 3,om 2 22] [3] [21]/\LX 23 Y6 [1,3,4] [1,14,21]:=⟨fun _ _=>rfl,rx,rx,rx,rx,rx,rx,rx,rx,rx,lx⟩
def KM:=rg Tryz.f70
@[simp] def AD7:bq:=(lp (KM 4287) 38 0 1 (.seq (KM 17599) (.cond (.tmp 50) (.seq (KM 74943) .ret) .skip)) (KM 7359))
def TH:=AD7
@[simp] def AD8:bq:=(lp (KM 8575) 55 2 3 (.seq (KM 35199) (.cond (.tmp 75) (.seq (KM 149887) .ret) .skip)) (KM 14719))
def TI:=AD8
def c70:bq:=(.seq (KM 2) (.seq (.seq (KM 9) (.cond (.tmp 9) (.seq (KM 37) .ret) .skip)) (.seq (.seq (KM 19) (.seq (KM 43) (.cond (.tmp 14) (.seq (KM 155) .ret) .skip))) (.seq (.seq (KM 39) (.cond (.tmp 21) (.seq (KM 151) .ret) .skip)) (.seq (.seq (KM 79) (.cond (.tmp 26) (.seq (KM 303) .ret) .skip)) (.seq (.seq (KM 159) (.cond (.tmp 33) (.seq (KM 607) .ret) .skip)) (.seq (.seq (KM 319) (.block 0 (.loop TH))) (.seq (.seq (KM 639) (.block 2 (.loop TI))) (.seq (KM 767) .ret)))))))))
theorem b70:Tryz.f70.body=some c70:=by kernel_rfl
@[simp] theorem x70:UX 76 TH AD7/\UX 76 TI AD8/\SX 76 (KM 2) [oq 1 (.box (tq 0)),ok 2 0] [0] [1,24]/\SX 76 (KM 9) [oz 6 31 1 3,ol 7 29 6,oe 8 7 29,oc 9 .gtr 3 8 3] [1] [1,24]/\SX 76 (KM 37) [ok 2 3] [] []/\SX 76 (KM 19) [oz 10 31 1 0,ol 11 27 10,od 12 108 [tq 11],om 3 12] [1] [1,24]/\SX 76 (KM 43) [om 13 3,oc 14 .neq 3 13 0] [1,3] [1,24]/\SX 76 (KM 155) [om 15 3,om 2 15] [3] []/\SX 76 (KM 39) [oz 16 31 1 0,ol 17 27 16,oz 18 31 1 1,ol 19 23 18,od 20 116 [tq 17,tq 19],ou 21 20] [1] [1,24]/\SX 76 (KM 151) [ok 2 2] [] []/\SX 76 (KM 79) [oz 22 31 1 0,ol 23 27 22,od 24 55 [tq 23],oe 25 24 23,oc 26 .eql 3 25 0] [1] [1,24]/\SX 76 (KM 303) [ok 2 11] [] []/\SX 76 (KM 159) [oz 27 31 1 2,ol 28 28 27,oe 29 28 28,oz 30 31 1 0,oz 31 27 30 1,ol 32 3 31,ob 33 .neq 3 29 32] [1] [1,24]/\SX 76 (KM 607) [ok 2 1] [] []/\SX 76 (KM 319) [ok 4 0] [1] [1,24]/\SX 76 (KM 4287) [om 34 4,oz 35 31 1 2,ol 36 28 35,oe 37 36 28,ob 38 .lss 3 34 37] [1,4] [1,24]/\RX 76 (KM 17599) (.drw [⟨[],[oz 41 31 1 2,ol 42 28 41,om 43 4,oi 44 28 42 43,ol 45 97 44,oe 46 45 97,oz 47 31 1 0,oz 48 27 47 2,ol 49 3 48,ob 50 .neq 3 46 49],[]⟩]) (some ([1,4],[1,24]))/\SX 76 (KM 74943) [ok 2 1] [] []/\SX 76 (KM 7359) [om 39 4,oc 40 .add 3 39 1,om 4 40] [1,4] [1,24]/\SX 76 (KM 639) [ok 5 0] [1] [1,24]/\SX 76 (KM 8575) [om 51 5,oz 52 31 1 3,ol 53 29 52,oe 54 53 29,ob 55 .lss 3 51 54] [1,5] [1,24]/\SX 76 (KM 35199) [oz 58 31 1 3,ol 59 29 58,om 60 5,oi 61 29 59 60,oz 62 57 61 0,ol 63 3 62,od 64 57 [tq 63,ci 1,ci 4],ou 65 64,om 66 65,gz 66 false 67 31 1 3,gl 66 false 68 29 67,gm 66 false 69 5,gi 66 false 70 29 68 69,gz 66 false 71 57 70 1,gl 66 false 72 3 71,gd 66 false 73 57 [tq 72,ci 0,ci 5],og 66 false 74 (.oth (.unOp .not 4 (tq 73))),oq 75 (.pick (tq 66) (cb true) (tq 74))] [1,5] [1,24]/\SX 76 (KM 149887) [ok 2 1] [] []/\SX 76 (KM 14719) [om 56 5,oc 57 .add 3 56 1,om 5 57] [1,5] [1,24]/\SX 76 (KM 767) [ok 2 0] [] []/\LX 76 TH [1,4] [1,24]/\LX 76 TI [1,5] [1,24]:=by and_intros<;>first|exact rx|exact lx|exact fun _ _=>rfl
def XX:=rg Tryz.f21
@[simp] def AN9:bq:=(lp (XX 267) 18 0 1 (XX 587) (XX 459))
def Y7:=AN9
@[simp] def AOA:bq:=(lp (XX 535) 36 2 3 (.seq (XX 2199) (XX 3223)) (XX 919))
def Y8:=AOA
def c21:bq:=(.seq (XX 2) (.seq (XX 5) (.seq (.seq (XX 19) (.block 0 (.loop Y7))) (.seq (.seq (XX 39) (.block 2 (.loop Y8))) (.seq (XX 47) .ret)))))
theorem b21:Tryz.f21.body=some c21:=by kernel_rfl
@[simp] theorem BF5(n:Nat)(st:XS):AE bk ann kn (n+1) 59 (XX 459) st=QM (KJ bk (BG bk ann kn n) (.str [om 19 4,oc 20 .add 3 19 1,om 4 20]) (CO (some ([1,2,3,4],[1,2,3,9,12,30,56])) (MC [28,2000000000000030] st))) :=
 D4 (by kernel_rfl) (by kernel_rfl) (by kernel_rfl) (by kernel_rfl) (by kernel_rfl)
@[simp] theorem x21:UX 59 Y7 AN9/\UX 59 Y8 AOA/\SX 59 (XX 2) [oq 1 (.box (tq 0)),oq 2 (.alloc 43)] [0] [1,2,3,9,12,30,56]/\RX 59 (XX 5) (.drw [⟨[3],[oz 7 31 1 0,oq 8 (.ldz 27 (tq 7)),od 9 68 [tq 8],oz 10 31 1 1,oq 11 (.ldz 23 (tq 10)),od 12 69 [tq 11],oq 13 (.build 43 [(0,tq 9),(1,tq 12)]),oq 3 (.alloc 43)],[os (.sto 43 (tq 3) (tq 13))]⟩]) (some ([1,2],[1,2,30,56]))/\SX 59 (XX 19) [ok 4 0] [1,2,3] [1,2,3,9,12,30,56]/\SX 59 (XX 267) [om 14 4,oz 15 31 1 2,ol 16 28 15,oe 17 16 28,ob 18 .lss 3 14 17] [1,2,3,4] [1,2,3,9,12,30,56]/\RX 59 (XX 587) (.drw [⟨[],[oz 21 43 3 2,ol 22 28 21,oz 23 31 1 2,ol 24 28 23,om 25 4,oi 26 28 24 25,ol 27 97 26,oq 28 (.app [.const (.slice none 0 0),tq 27] [97,97]),oq 29 (.buildS 28 1 [(0,tq 28)]),oq 30 (.app [tq 22,tq 29] [28,28]),oz 31 43 3 2],[os (.sto 28 (tq 31) (tq 30))]⟩]) (some ([1,2,3,4],[1,2,3,9,12,30,56]))/\SX 59 (XX 39) [ok 5 0] [1,2,3] [1,2,3,9,12,30,56]/\SX 59 (XX 535) [om 32 5,oz 33 31 1 3,ol 34 29 33,oe 35 34 29,ob 36 .lss 3 32 35] [1,2,3,5] [1,2,3,9,12,30,56]/\SX 59 (XX 2199) [oz 39 31 1 3,ol 40 29 39,om 41 5,oi 42 29 40 41,ol 43 57 42,oq 6 (.alloc 57),os (.sto 57 (tq 6) (tq 43))] [1,2,3,5] [1,2,3,9,12,30,56]/\SX 59 (XX 3223) [oz 44 43 3 3,ol 45 41 44,oz 46 57 6 0,ol 47 3 46,oz 48 57 6 1,ol 49 3 48,oz 50 57 6 2,ol 51 4 50,oz 52 57 6 3,ol 53 4 52,oq 54 (.build 94 [(0,tq 47),(1,tq 49),(2,tq 51),(3,tq 53)]),oq 55 (.buildS 41 1 [(0,tq 54)]),oq 56 (.app [tq 45,tq 55] [41,41]),oz 57 43 3 3,os (.sto 41 (tq 57) (tq 56))] [1,2,3,5,6] [1,2,3,6,9,12,30,56]/\SX 59 (XX 919) [om 37 5,oc 38 .add 3 37 1,om 5 38] [1,2,3,5] [1,2,3,9,12,30,56]/\SX 59 (XX 47) [ol 58 43 3,os (.sto 43 (tq 2) (tq 58))] [2,3] [1,2,3,9,12,30,56]/\LX 59 Y7 [1,2,3,4] [1,2,3,9,12,30,56]/\LX 59 Y8 [1,2,3,5] [1,2,3,9,12,30,56]:=by and_intros<;>first|exact rx|exact lx|exact fun _ _=>rfl
def g3:=rg Tryz.f3
@[simp] def AOB:bq:=(lp (g3 34303) 93 0 1 (.seq (g3 140799) (.seq (g3 337407) (.cond (.tmp 116) (.seq (g3 1254911) .ret) .skip))) (g3 58879))
def qU:=AOB
def c3:bq:=(.seq (g3 2) (.seq (.seq (g3 9) (.cond (.tmp 26) (.seq (g3 37) .ret) .skip)) (.seq (g3 11) (.seq (g3 23) (.seq (.seq (g3 79) (.cond (.tmp 44) (.seq (g3 303) .ret) .skip)) (.seq (.seq (g3 159) (.cond (.tmp 61) (g3 351) .skip)) (.seq (.seq (g3 319) (.cond (.tmp 63) (.seq (g3 1215) .ret) .skip)) (.seq (g3 383) (.seq (.seq (g3 1279) (.cond (.tmp 89) (.seq (g3 4863) .ret) .skip)) (.seq (.seq (g3 2559) (.block 0 (.loop qU))) (.seq (g3 3071) .ret)))))))))))
theorem b3:Tryz.f3.body=some c3:=by kernel_rfl
@[simp] theorem x3:UX 118 qU AOB/\LX 118 qU [1,3,7,10,11] [3,30,32,34,35,41,50,80]:=⟨fun _ _=>rfl,lx⟩
def g54:=rg Tryz.f54
def c54:bq:=(.seq (g54 2) (.seq (g54 5) .ret))
theorem b54:Tryz.f54.body=some c54:=by kernel_rfl
@[simp] theorem x54:SX 10 (g54 2) [oq 1 (.box (tq 0)),ot 2 false] [0] [1]/\SX 10 (g54 5) [ol 3 31 1,od 4 18 [tq 3],om 5 4,gl 5 true 6 31 1,gd 5 true 7 70 [tq 6],gc 5 true 8 .eql 3 7 0,oq 9 (.pick (tq 5) (tq 8) (cb false)),om 2 9] [0,1,2] [1,2,3,4]:=⟨rx,rx⟩
def H6:=rg Tryz.f129
@[simp] def AD9:bq:=(lp (H6 4267) 32 0 1 (.seq (H6 17579) (.seq (H6 42155) (.seq (H6 91307) (.seq (H6 189611) (.cond (.tmp 82) (H6 386219) .skip))))) (H6 7339))
def TJ:=AD9
def AQ7:bq:=(.seq (H6 2) (.seq (H6 5) (.seq (.seq (H6 19) (.cond (.tmp 19) (.seq (H6 75) (.seq (.seq (H6 299) (.block 0 (.loop TJ))) (H6 235))) .skip)) (.seq (H6 23) .ret))))
theorem b129:Tryz.f129.body=some AQ7:=by kernel_rfl
@[simp] theorem BKP:UX 94 TJ AD9/\SX 94 (H6 2) [oq 3 (.box (tq 1)),oq 4 (.alloc 158)] [0,1] []/\RX 94 (H6 5) (.drw [⟨[5],[om 10 0,oq 11 (.oth (.nilCheck (tq 10))),oz 12 175 11 2,oq 13 (.ldz 173 (tq 12)),oq 14 (.ldz 153 (tq 3)),oq 15 (.oth (.lookup 173 (tq 13) (tq 14) true)),om 9 15,oq 16 (.oth (.extract (tq 9) 0)),oq 17 (.oth (.extract (tq 9) 1)),oq 5 (.alloc 158),os (.sto 158 (tq 5) (tq 16)),om 6 17],[]⟩]) (some ([0,3,4],[3,4]))/\SX 94 (H6 19) [om 18 6,ou 19 18] [0,3,4,5,6] [3,4,5]/\SX 94 (H6 75) [oz 20 158 5 2,os (.sto 4 (tq 20) (cb true))] [0,3,4,5] [3,4,5]/\SX 94 (H6 299) [oz 21 153 3 1,oz 22 86 21 1,ol 23 3 22,om 7 23] [0,3,4,5] [3,4,5]/\SX 94 (H6 4267) [om 24 7,oz 25 153 3 1,oz 26 86 25 1,ol 27 3 26,oz 28 153 3 0,oz 29 151 28 1,ol 30 3 29,ob 31 .add 3 27 30,ob 32 .lss 3 24 31] [0,3,4,5,7] [3,4,5]/\RX 94 (H6 17579) (.drw [⟨[],[om 35 0,oq 36 (.oth (.nilCheck (tq 35))),oz 37 175 36 1,ol 38 172 37,oz 39 153 3 1,oz 40 86 39 0,ol 41 3 40,om 42 7,oi 43 172 38 41,oi 44 206 43 42,ol 45 3 44,om 8 45],[]⟩]) (some ([0,3,4,5,7],[3,4,5]))/\SX 94 (H6 42155) [oz 46 158 5 0,ol 47 3 46,om 48 8,ob 49 .add 3 47 48,oz 50 158 5 0,os (.sto 3 (tq 50) (tq 49))] [0,3,4,5,7,8] [3,4,5]/\RX 94 (H6 91307) (.drw [⟨[],[oz 51 158 5 2,oq 52 (.ldz 4 (tq 51)),om 53 52,gm 53 true 54 8,gm 53 true 55 0,og 53 true 56 (.oth (.nilCheck (tq 55))),gz 53 true 57 175 56 0,gz 53 true 58 43 57 3,og 53 true 59 (.ldz 41 (tq 58)),gz 53 true 60 153 3 0,gz 53 true 61 151 60 0,og 53 true 62 (.ldz 3 (tq 61)),gi 53 true 63 41 59 62,gz 53 true 64 94 63 1,og 53 true 65 (.ldz 3 (tq 64)),gb 53 true 66 .geq 3 54 65,oq 67 (.pick (tq 53) (tq 66) (cb false)),oz 68 158 5 2],[os (.sto 4 (tq 68) (tq 67))]⟩]) (some ([0,3,4,5,7,8],[3,4,5]))/\RX 94 (H6 189611) (.drw [⟨[],[om 69 0,oq 70 (.oth (.nilCheck (tq 69))),oz 71 175 70 0,oz 72 43 71 2,ol 73 28 72,oz 74 153 3 1,oz 75 86 74 0,ol 76 3 75,oi 77 28 73 76,ol 78 97 77,om 79 7,oi 80 97 78 79,ol 81 4 80,ou 82 81],[]⟩]) (some ([0,3,4,5,7],[3,4,5]))/\SX 94 (H6 386219) [oz 83 158 5 1,ol 84 3 83,oc 85 .add 3 84 1,oz 86 158 5 1,os (.sto 3 (tq 86) (tq 85))] [0,3,4,5,7] [3,4,5]/\SX 94 (H6 7339) [om 33 7,oc 34 .add 3 33 1,om 7 34] [0,3,4,5,7] [3,4,5]/\RX 94 (H6 235) (.drw [⟨[],[om 87 0,oq 88 (.oth (.nilCheck (tq 87))),oz 89 175 88 2,ol 90 173 89,ol 91 153 3,ol 92 158 5],[os (.upd 173 (tq 90) (tq 91) (tq 92))]⟩]) (some ([0,3,4,5],[3,4,5]))/\SX 94 (H6 23) [ol 93 158 5,os (.sto 158 (tq 4) (tq 93))] [4,5] [4,5]/\LX 94 TJ [0,3,4,5,7] [3,4,5]:=by and_intros<;>first|exact rx|exact lx|exact fun _ _=>rfl
def kD:=rg Tryz.f86
@[simp] def AOC:bq:=(.seq (kD 139) (.seq (.cond (.tmp 13) .skip (.exit 0)) (.seq (.block 1 (.seq (kD 2251) (.seq (kD 5323) (kD 7371)))) (kD 971))))
def Y9:=AOC
def c86:bq:=(.seq (kD 2) (.seq (kD 5) (.seq (.seq (kD 19) (.block 0 (.loop Y9))) (.seq (kD 23) .ret))))
theorem b86:Tryz.f86.body=some c86:=by kernel_rfl
@[simp] theorem x86:UX 38 Y9 AOC/\SX 38 (kD 2) [oq 4 (.alloc 158)] [0,1] []/\SX 38 (kD 5) [oq 9 (.build 158 [(2,cb true)]),oq 5 (.alloc 158),os (.sto 158 (tq 5) (tq 9))] [0,1,4] [4]/\SX 38 (kD 19) [om 10 1,oe 11 10 120,ok 12 0] [0,1,4,5] [4,5]/\SX 38 (kD 139) [ob 13 .lss 3 12 11] [0,4,5,10,11,12] [4,5]/\SX 38 (kD 2251) [oi 14 120 10 12,ol 15 153 14,oq 7 (.alloc 153),os (.sto 153 (tq 7) (tq 15))] [0,4,5,10,11,12] [4,5]/\SX 38 (kD 5323) [om 16 0,ol 17 153 7,oq 18 (.call true none (.func 129) [tq 16,tq 17]),oq 8 (.alloc 158),os (.sto 158 (tq 8) (tq 18))] [0,4,5,7,10,11,12] [4,5,7]/\SX 38 (kD 7371) [oz 19 158 5 0,ol 20 3 19,oz 21 158 8 0,ol 22 3 21,ob 23 .add 3 20 22,oz 24 158 5 1,ol 25 3 24,oz 26 158 8 1,ol 27 3 26,ob 28 .add 3 25 27,oz 29 158 5 2,ol 30 4 29,om 31 30,gz 31 true 32 158 8 2,gl 31 true 33 4 32,oq 34 (.pick (tq 31) (tq 33) (cb false)),oq 35 (.build 158 [(0,tq 23),(1,tq 28),(2,tq 34)]),os (.sto 158 (tq 5) (tq 35))] [0,4,5,8,10,11,12] [4,5,8]/\SX 38 (kD 971) [oc 36 .add 3 12 1,om 12 36] [0,4,5,10,11,12] [4,5]/\SX 38 (kD 23) [ol 37 158 5,os (.sto 158 (tq 4) (tq 37))] [4,5] [4,5]/\LX 38 Y9 [0,4,5,10,11,12] [4,5]:=⟨fun _ _=>rfl,rx,rx,rx,rx,rx,rx,rx,rx,rx,lx⟩
def FM:=rg Tryz.f168
@[simp] def AEA:bq:=(.seq (FM 36043) (.seq (.cond (.tmp 41) .skip (.exit 2)) (.seq (.block 3 (.seq (FM 576715) (.seq (FM 1363147) (.seq (.seq (FM 5033163) (.cond (.tmp 61) (.exit 3) .skip)) (.seq (FM 6081739) (.seq (.seq (FM 20761803) (.cond (.tmp 70) (.seq (FM 79482059) .ret) .skip)) (FM 16567499))))))) (FM 249035))))
def TK:=AEA
@[simp] def AEB:bq:=(.seq (FM 139) (.seq (.cond (.tmp 25) .skip (.exit 0)) (.seq (.block 1 (.seq (FM 2251) (.seq (FM 5323) (.block 2 (.loop TK))))) (FM 971))))
def TL:=AEB
def qV:bq:=(.seq (FM 2) (.seq (.seq (FM 9) (.cond (.tmp 14) (.seq (FM 37) .ret) .skip)) (.seq (.seq (FM 19) (.block 0 (.loop TL))) (.seq (FM 23) .ret))))
theorem b168:Tryz.f168.body=some qV:=by kernel_rfl
@[simp] theorem A8I(n:Nat)(st:XS):AE bk ann kn (n+1) 76 (FM 20761803) st=QM (KJ bk (BG bk ann kn n) (.str [ol 66 177 5,om 67 0,oc 68 .add 3 67 1,oq 69 (.call false none (tq 66) [tq 68]),ou 70 69]) (CO (some ([0,1,3,4,5,8,23,24,39,40],[10,65])) (MC [8004000922065] st))) :=
 D4 (by kernel_rfl) (by kernel_rfl) (by kernel_rfl) (by kernel_rfl) (by kernel_rfl)
@[simp] theorem BKQ:UX 76 TK AEA/\UX 76 TL AEB/\SX 76 (FM 2) [ot 7 false] [0,1,2,3,4,5] [10,65]/\SX 76 (FM 9) [om 11 0,ol 12 170 1,oe 13 12 170,ob 14 .eql 3 11 13] [0,1,2,3,4,5] [10,65]/\SX 76 (FM 37) [ol 15 191 2,ol 16 120 3,oq 17 (.call false none (tq 15) [tq 16]),om 7 17] [2,3] [65]/\SX 76 (FM 19) [ol 18 130 4,oq 19 (.oth (.nilCheck (tq 18))),oz 20 175 19 0,oz 21 43 20 0,oz 22 40 21 1,ol 23 3 22,ok 24 0] [0,1,3,4,5] [10,65]/\SX 76 (FM 139) [ob 25 .lss 3 24 23] [0,1,3,4,5,23,24] [10,65]/\SX 76 (FM 2251) [om 26 24,om 8 26] [0,1,3,4,5,23,24] [10,65]/\RX 76 (FM 5323) (.drw [⟨[],[ol 27 130 4,oq 28 (.oth (.nilCheck (tq 27))),oz 29 175 28 0,oz 30 43 29 0,oz 31 40 30 2,ol 32 3 31,ol 33 170 1,om 34 0,oi 35 170 33 34,oz 36 151 35 1,ol 37 3 36,ob 38 .sub 3 32 37,oc 39 .add 3 38 1,ok 40 0],[]⟩]) (some ([0,1,3,4,5,8,23,24],[10,65]))/\SX 76 (FM 36043) [ob 41 .lss 3 40 39] [0,1,3,4,5,8,23,24,39,40] [10,65]/\SX 76 (FM 576715) [om 42 40,om 9 42] [0,1,3,4,5,8,23,24,39,40] [10,65]/\SX 76 (FM 1363147) [ol 43 170 1,om 44 0,oi 45 170 43 44,ol 46 151 45,om 47 8,om 48 9,oq 49 (.build 86 [(0,tq 47),(1,tq 48)]),oq 50 (.build 153 [(0,tq 46),(1,tq 49)]),oq 10 (.alloc 153),os (.sto 153 (tq 10) (tq 50))] [0,1,3,4,5,8,9,23,24,39,40] [10,65]/\SX 76 (FM 5033163) [ol 51 130 4,ol 52 153 10,od 53 129 [tq 51,tq 52],oq 54 (.oth (.field 158 (tq 53) 2)),ou 55 54,om 56 55,gl 56 false 57 120 3,og 56 false 58 (.oth (.makeFunc (.func 169) #[] #[tq 4,tq 10])),gd 56 false 59 137 [tq 57,tq 58],og 56 false 60 (.oth (.unOp .not 4 (tq 59))),oq 61 (.pick (tq 56) (cb true) (tq 60))] [0,1,3,4,5,8,10,23,24,39,40] [10,65]/\SX 76 (FM 6081739) [ol 62 120 3,ol 63 153 10,oq 64 (.buildS 120 1 [(0,tq 63)]),oq 65 (.app [tq 62,tq 64] [120,120]),os (.sto 120 (tq 3) (tq 65))] [0,1,3,4,5,8,10,23,24,39,40] [10,65]/\SX 76 (FM 79482059) [ot 7 false] [] []/\SX 76 (FM 16567499) [ol 71 120 3,om 72 0,oq 73 (.oth (.slice 120 (tq 71) none (some (tq 72)) none)),os (.sto 120 (tq 3) (tq 73))] [0,1,3,4,5,8,23,24,39,40] [10,65]/\SX 76 (FM 249035) [oc 74 .add 3 40 1,om 40 74] [0,1,3,4,5,8,23,24,39,40] [10,65]/\SX 76 (FM 971) [oc 75 .add 3 24 1,om 24 75] [0,1,3,4,5,23,24] [10,65]/\SX 76 (FM 23) [ot 7 true] [] []/\LX 76 TL [0,1,3,4,5,23,24] [10,65]/\LX 76 TK [0,1,3,4,5,8,23,24,39,40] [10,65]:=by and_intros<;>first|exact rx|exact lx|exact fun _ _=>rfl
def AKM:=rg Tryz.f169
def A2A:bq:=(.seq (AKM 2) (.seq (AKM 5) .ret))
theorem b169:Tryz.f169.body=some A2A:=by kernel_rfl
@[simp] theorem BKR:SX 12 (AKM 2) [oq 3 (.box (tq 0)),ot 4 false] [0,1,2] []/\RX 12 (AKM 5) (.drw [⟨[],[ol 5 130 1,oq 6 (.oth (.nilCheck (tq 5))),oz 7 175 6 0,ol 8 43 7,ol 9 153 2,ol 10 153 3],[od 11 139 [tq 8,tq 9,tq 10]]⟩,⟨[],[om 4 11],[]⟩]) (some ([1,2,3],[3])):=⟨rx,rx⟩
def AKN:=rg Tryz.f128
def AKO:bq:=(.seq (AKN 2) (.seq (AKN 5) .ret))
theorem b128:Tryz.f128.body=some AKO:=by kernel_rfl
@[simp] theorem BKS:SX 6 (AKN 2) [oq 2 (.box (tq 0)),oq 3 (.box (tq 1)),oq 4 (.mv (.const .nilFunc))] [0,1] [2,3]/\SX 6 (AKN 5) [oq 5 (.oth (.makeFunc (.func 167) #[] #[tq 3,tq 2])),om 4 5] [2,3] [2,3]:=⟨rx,rx⟩
def JR:=rg Tryz.f167
@[simp] def AEC:bq:=(.seq (JR 139) (.seq (.cond (.tmp 12) .skip (.exit 0)) (.seq (.block 1 (.seq (JR 2251) (JR 3275))) (JR 971))))
def TM:=AEC
def zC:bq:=(.seq (JR 2) (.seq (JR 5) (.seq (.seq (JR 19) (.block 0 (.loop TM))) (.seq (.seq (JR 39) (.cond (.tmp 26) .ret .skip)) (.seq (JR 47) (.seq (JR 95) (.seq (JR 191) (JR 255))))))))
theorem b167:Tryz.f167.body=some zC:=by kernel_rfl
@[simp] theorem BKT:UX 30 TM AEC/\SX 30 (JR 2) [oq 3 (.box (tq 0))] [0,1,2] [3,7,8]/\SX 30 (JR 5) [ok 4 0] [1,2,3] [3,7,8]/\SX 30 (JR 19) [ol 9 170 1,oe 10 9 170,ok 11 0] [1,2,3,4] [3,7,8]/\SX 30 (JR 139) [ob 12 .lss 3 11 10] [1,2,3,4,9,10,11] [3,7,8]/\SX 30 (JR 2251) [oi 13 170 9 11,ol 14 151 13,oq 6 (.alloc 151),os (.sto 151 (tq 6) (tq 14))] [1,2,3,4,9,10,11] [3,7,8]/\SX 30 (JR 3275) [om 15 4,oz 16 151 6 1,ol 17 3 16,ob 18 .add 3 15 17,om 4 18] [1,2,3,4,6,9,10,11] [3,6,7,8]/\SX 30 (JR 971) [oc 19 .add 3 11 1,om 11 19] [1,2,3,4,9,10,11] [3,7,8]/\SX 30 (JR 39) [om 20 4,ol 21 130 2,oq 22 (.oth (.nilCheck (tq 21))),oz 23 175 22 0,ol 24 43 23,od 25 140 [tq 24],ob 26 .gtr 3 20 25] [1,2,3,4] [3,7,8]/\SX 30 (JR 47) [oq 7 (.alloc 120)] [1,2,3] [3,7,8]/\SX 30 (JR 95) [oq 8 (.alloc 177)] [1,2,3,7] [3,7,8]/\SX 30 (JR 191) [oq 27 (.oth (.makeFunc (.func 168) #[] #[tq 1,tq 3,tq 7,tq 2,tq 8])),os (.sto 177 (tq 8) (tq 27))] [1,2,3,7,8] [3,7,8]/\SX 30 (JR 255) [ol 28 177 8,oq 29 (.call false none (tq 28) [ci 0])] [6,7,8,21,22] [1,3,4,6,7,8,11,910,911]/\LX 30 TM [1,2,3,4,9,10,11] [3,7,8]:=⟨fun _ _=>rfl,rx,rx,rx,rx,rx,rx,rx,rx,rx,rx,rx,rx,lx⟩
def g91:=rg Tryz.f91
def c91:bq:=(.seq (g91 2) (.seq (.seq (g91 9) (.block 0 (.rangeFunc (.tmp 7) #[8] .skip (.block 1 (.seq (g91 149) .ret))))) (.seq (g91 11) .ret)))
theorem b91:Tryz.f91.body=some c91:=by kernel_rfl
@[simp] theorem x91:SX 9 (g91 2) [oq 4 (.alloc 4)] [0,1] [7]/\SX 9 (g91 9) [om 5 0,om 6 1,od 7 128 [tq 5,tq 6]] [0,1,4] [4,7]/\SX 9 (g91 149) [os (.sto 4 (tq 4) (cb true))] [4] [4]/\SX 9 (g91 11) [os (.sto 4 (tq 4) (cb false))] [4] [4]:=⟨rx,rx,rx,rx⟩
def g93:=rg Tryz.f93
def c93:bq:=(.seq (g93 2) (.seq (.seq (g93 9) (.cond (.tmp 4) (.seq (g93 37) .ret) .skip)) (.seq (g93 11) .ret)))
theorem b93:Tryz.f93.body=some c93:=by kernel_rfl
@[simp] theorem x93:SX 8 (g93 2) [oq 2 (.mv (.const (.slice none 0 0)))] [0] []/\SX 8 (g93 9) [om 3 0,oq 4 (.bin .eql 22 (tq 3) (.const (.slice none 0 0)))] [0] []/\SX 8 (g93 37) [oq 2 (.mv (.const (.slice none 0 0)))] [] []/\SX 8 (g93 11) [oq 5 (.buildS 22 0 []),om 6 0,oq 7 (.app [tq 5,tq 6] [22,22]),om 2 7] [0] []:=⟨rx,rx,rx,rx⟩
def eH:=rg Tryz.f90
@[simp] def AOE:bq:=(lp (eH 267) 30 0 1 (.seq (eH 1099) (.cond (.tmp 43) (.seq (eH 4683) .ret) .skip)) (eH 459))
def ZA:=AOE
def c90:bq:=(.seq (eH 2) (.seq (.seq (eH 9) (.cond (.tmp 13) (.seq (eH 37) (.seq (eH 85) .ret)) .skip)) (.seq (.seq (eH 19) (.block 0 (.loop ZA))) (.seq (eH 23) .ret))))
theorem b90:Tryz.f90.body=some c90:=by kernel_rfl
@[simp] theorem x90:UX 44 ZA AOE/\SX 44 (eH 2) [ot 10 false] [0,1,2,3,4,5,6] [21,35,38]/\SX 44 (eH 9) [om 12 2,oc 13 .eql 3 12 0] [0,1,2,3,4,5,6] [21,35,38]/\SX 44 (eH 37) [om 14 0,os (.sto 22 (tq 3) (tq 14))] [0,3,4] [21,35,38]/\RX 44 (eH 85) (.drw [⟨[],[ol 15 130 4,ol 16 130 4,oq 17 (.oth (.nilCheck (tq 16))),oz 18 175 17 0,ol 19 43 18,om 20 0,od 21 92 [tq 19,tq 20]],[od 22 91 [tq 15,tq 21]]⟩,⟨[],[om 10 22],[]⟩]) (some ([0,4],[35,38]))/\SX 44 (eH 19) [om 23 1,om 11 23] [0,1,2,5,6] [21,35,38]/\SX 44 (eH 267) [om 24 11,oz 25 43 5 3,ol 26 41 25,oe 27 26 41,om 28 2,ob 29 .sub 3 27 28,ob 30 .leq 3 24 29] [0,2,5,6,11] [21,35,38]/\RX 44 (eH 1099) (.drw [⟨[35],[ol 33 168 6,om 34 0,om 36 11,oq 37 (.buildS 22 1 [(0,tq 36)]),om 39 11,oc 40 .add 3 39 1,om 41 2,oc 42 .sub 3 41 1,oq 35 (.call true none (.func 93) [tq 34]),oq 38 (.app [tq 35,tq 37] [22,22])],[oq 43 (.call false (some 38) (tq 33) [tq 38,tq 40,tq 42])]⟩,⟨[],[],[]⟩]) (some ([0,2,5,6,11],[21,38]))/\SX 44 (eH 4683) [ot 10 true] [] []/\SX 44 (eH 459) [om 31 11,oc 32 .add 3 31 1,om 11 32] [0,2,5,6,11] [21,35,38]/\SX 44 (eH 23) [ot 10 false] [] []/\LX 44 ZA [0,2,5,6,11] [21,35,38]:=⟨fun _ _=>rfl,rx,rx,rx,rx,rx,rx,rx,rx,rx,rx,lx⟩
def IP:=rg Tryz.f85
@[simp] def AOF:bq:=(.seq (IP 17877) (.seq (.cond (.tmp 45) .skip (.exit 2)) (.seq (.block 3 (.seq (IP 288213) (IP 419285))) (IP 124373))))
def OI:=AOF
def c85:bq:=(.seq (IP 2) (.seq (.seq (IP 9) (.block 0 (.rangeFunc (.tmp 15) #[16] (IP 37) (.block 1 (.seq (IP 149) (.seq (.seq (IP 597) (.cond (.tmp 41) (.exit 1) .skip)) (.seq (IP 725) (.seq (.seq (IP 2517) (.block 2 (.loop OI))) (IP 2005))))))))) (.seq (IP 11) .ret)))
theorem b85:Tryz.f85.body=some c85:=by kernel_rfl
@[simp] theorem BCQ(n:Nat)(st:XS):AE bk ann kn (n+1) 58 (IP 124373) st=QM (KJ bk (BG bk ann kn n) (.str [oc 53 .add 3 44 1,om 44 53]) (CO (some ([2,3,4,6,42,43,44],[2,3,4,6,52,922])) (MC [3003000923052] st))) :=
 D4 (by kernel_rfl) (by kernel_rfl) (by kernel_rfl) (by kernel_rfl) (by kernel_rfl)
@[simp] theorem BCR(n:Nat)(st:XS):AE bk ann kn (n+1) 58 (IP 11) st=QM (KJ bk (BG bk ann kn n) (.cls [(37,(2,55)),(158,(3,56)),(4,(4,57))]) (CO (some ([2,3,4],[2,3,4,52,922])) (MC [922] st))) :=
 D4 (by kernel_rfl) (by kernel_rfl) (by kernel_rfl) (by kernel_rfl) (by kernel_rfl)
@[simp] theorem x85:UX 58 OI AOF/\SX 58 (IP 2) [oq 1 (.box (tq 0)),oq 2 (.alloc 37),oq 3 (.alloc 158),oq 4 (.alloc 4)] [0] [1,10,14,15,32,36]/\RX 58 (IP 9) (.drw [⟨[],[ol 9 130 1,ol 10 130 1,oq 11 (.oth (.nilCheck (tq 10))),oz 12 175 11 0,ol 13 43 12,od 14 92 [tq 13,.const (.slice none 0 0)]],[od 15 128 [tq 9,tq 14]]⟩,⟨[],[],[]⟩]) (some ([1,2,3,4],[1,2,3,4,52,922]))/\SX 58 (IP 37) [om 5 16] [1,2,3,4,16] [1,2,3,4,14,15,52,922]/\SX 58 (IP 149) [ol 17 130 1,om 18 5,oq 19 (.call true none (.func 86) [tq 17,tq 18]),oq 6 (.alloc 158),os (.sto 158 (tq 6) (tq 19))] [1,2,3,4,5] [1,2,3,4,14,15,52,922]/\SX 58 (IP 597) [ol 20 4 4,om 21 20,gz 21 true 22 158 6 0,gl 21 true 23 3 22,gz 21 true 24 158 3 0,gl 21 true 25 3 24,gb 21 true 26 .lss 3 23 25,gm 21 true 27 26,gz 27 false 28 158 6 0,gl 27 false 29 3 28,gz 27 false 30 158 3 0,gl 27 false 31 3 30,gb 27 false 32 .eql 3 29 31,gm 27 false 33 32,gz 33 true 34 158 6 1,gl 33 true 35 3 34,gz 33 true 36 158 3 1,gl 33 true 37 3 36,gb 33 true 38 .geq 3 35 37,og 27 false 39 (.pick (tq 33) (tq 38) (cb false)),og 21 true 40 (.pick (tq 27) (cb true) (tq 39)),oq 41 (.pick (tq 21) (tq 40) (cb false))] [2,3,4,5,6] [2,3,4,6,52,922]/\SX 58 (IP 725) [os (.sto 37 (tq 2) (.const (.slice none 0 0)))] [2,3,4,5,6] [2,3,4,6,52,922]/\SX 58 (IP 2517) [om 42 5,oe 43 42 120,ok 44 0] [2,3,4,5,6] [2,3,4,6,52,922]/\SX 58 (IP 17877) [ob 45 .lss 3 44 43] [2,3,4,6,42,43,44] [2,3,4,6,52,922]/\SX 58 (IP 288213) [oi 46 120 42 44,ol 47 153 46,oq 8 (.alloc 153),os (.sto 153 (tq 8) (tq 47))] [2,3,4,6,42,43,44] [2,3,4,6,52,922]/\SX 58 (IP 419285) [ol 48 37 2,oz 49 153 8 1,ol 50 86 49,oq 51 (.buildS 37 1 [(0,tq 50)]),oq 52 (.app [tq 48,tq 51] [37,37]),os (.sto 37 (tq 2) (tq 52))] [2,3,4,6,8,42,43,44] [2,3,4,6,8,52,922]/\SX 58 (IP 2005) [ol 54 158 6,os (.sto 158 (tq 3) (tq 54)),os (.sto 4 (tq 4) (cb true))] [3,4,6] [3,4,6]/\LX 58 OI [2,3,4,6,42,43,44] [2,3,4,6,52,922]:=⟨fun _ _=>rfl,rx,rx,rx,rx,rx,rx,rx,rx,rx,rx,rx,lx⟩
def pS:=rg Tryz.f33
def c33:bq:=(.seq (pS 2) (.seq (pS 5) (.seq (.seq (pS 19) (.cond (.tmp 15) (.seq (pS 75) .ret) .skip)) (.seq (pS 23) (.seq (.seq (pS 79) (.cond (.tmp 24) (.seq (pS 303) .ret) .skip)) (.seq (pS 95) .ret))))))
theorem b33:Tryz.f33.body=some c33:=by kernel_rfl
@[simp] theorem x33:SX 30 (pS 2) [oq 1 (.box (tq 0)),oq 2 (.mv (.const (.slice none 0 0))),ok 3 0,ok 4 0,ok 5 0] [0] [1,11,19,910,911]/\SX 30 (pS 5) [ol 10 43 1,od 11 71 [tq 10],om 9 11,oq 12 (.oth (.extract (tq 9) 0)),oq 13 (.oth (.extract (tq 9) 1)),om 6 12,om 5 13] [1] [1,11,19,910,911]/\SX 30 (pS 19) [om 14 5,oc 15 .neq 34 14 0] [1,4,5,6] [1,4,6,7,11,19,910,911]/\SX 30 (pS 75) [om 16 5,oq 2 (.mv (.const (.slice none 0 0))),ok 3 0,ok 4 0,om 5 16] [5] []/\SX 30 (pS 23) [om 18 6,od 19 85 [tq 18],om 17 19,oq 20 (.oth (.extract (tq 17) 0)),oq 21 (.oth (.extract (tq 17) 1)),oq 22 (.oth (.extract (tq 17) 2)),oq 7 (.alloc 158),om 2 20,os (.sto 158 (tq 7) (tq 21)),om 8 22] [6] [1,11,19,910,911]/\SX 30 (pS 79) [om 23 8,ou 24 23] [2,7,8] [1,7,11,19,910,911]/\SX 30 (pS 303) [oq 2 (.mv (.const (.slice none 0 0))),ok 3 0,ok 4 0,ok 5 10] [] []/\RX 30 (pS 95) (.drw [⟨[],[om 25 2,oz 26 158 7 0,ol 27 3 26,oz 28 158 7 1,ol 29 3 28,om 2 25,om 3 27,om 4 29,ok 5 0],[]⟩]) (some ([2,7],[1,7,11,19,910,911])):=by and_intros<;>exact rx
def WR:=rg Tryz.f41
@[simp] def AOG:bq:=(.seq (WR 8957) (.seq (.cond (.tmp 23) .skip (.exit 0)) (.seq (.block 1 (.seq (WR 144125) (.seq (WR 340733) (.cond (.tmp 27) (.exit 0) .skip)))) (WR 62205))))
def ZB:=AOG
def c41:bq:=(.seq (WR 2) (.scope (.seq (WR 9) (.seq (.seq (WR 37) (.cond (.tmp 15) (.seq (WR 149) .ret) .skip)) (.seq (WR 45) (.seq (WR 93) (.seq (WR 189) (.seq (.label 0) (.seq (.seq (WR 1277) (.block 0 (.loop ZB))) (.seq (WR 1533) .ret))))))))))
theorem b41:Tryz.f41.body=some c41:=by kernel_rfl
@[simp] theorem x41:UX 30 ZB AOG/\SX 30 (WR 2) [oq 1 (.box (tq 0)),oq 2 (.mv (.const (.slice none 0 0))),ok 3 0] [0] [1,4,6,7,11,910,911]/\SX 30 (WR 9) [ol 10 43 1,od 11 71 [tq 10],om 9 11,oq 12 (.oth (.extract (tq 9) 0)),oq 13 (.oth (.extract (tq 9) 1)),oq 4 (.alloc 130),os (.sto 130 (tq 4) (tq 12)),om 5 13] [1] [1,4,6,7,11,910,911]/\SX 30 (WR 37) [om 14 5,oc 15 .neq 34 14 0] [1,4,5,6] [1,4,6,7,11,19,910,911]/\SX 30 (WR 149) [om 16 5,oq 2 (.mv (.const (.slice none 0 0))),om 3 16] [5] []/\SX 30 (WR 45) [oq 6 (.alloc 22)] [1,4] [1,4,6,7,11,910,911]/\SX 30 (WR 93) [oq 7 (.alloc 168)] [1,4,6] [1,4,6,7,11,910,911]/\SX 30 (WR 189) [oq 17 (.oth (.makeFunc (.func 90) #[] #[tq 6,tq 4,tq 1,tq 7])),os (.sto 168 (tq 7) (tq 17))] [1,4,6,7] [1,4,6,7,11,910,911]/\SX 30 (WR 1277) [oz 18 43 1 3,ol 19 41 18,oe 20 19 41,oc 21 .add 3 20 1,ok 22 0] [1,6,7] [1,4,6,7,11,910,911]/\SX 30 (WR 8957) [ob 23 .lss 3 22 21] [6,7,21,22] [1,4,6,7,11,910,911]/\SX 30 (WR 144125) [om 24 22,om 8 24] [6,7,21,22] [1,4,6,7,11,910,911]/\SX 30 (WR 340733) [ol 25 168 7,om 26 8,oq 27 (.call false none (tq 25) [.const (.slice none 0 0),ci 0,tq 26])] [6,7,8,21,22] [1,4,6,7,11,910,911]/\SX 30 (WR 62205) [oc 28 .add 3 22 1,om 22 28] [6,7,8,21,22] [1,3,4,6,7,8,11,910,911]/\SX 30 (WR 1533) [ol 29 22 6,om 2 29,ok 3 0] [6] [1,4,6,7,11,910,911]/\LX 30 ZB [6,7,21,22] [1,4,6,7,11,910,911]:=⟨fun _ _=>rfl,rx,rx,rx,rx,rx,rx,rx,rx,rx,rx,rx,rx,rx,lx⟩
def pT:=rg Tryz.f94
@[simp] def AOH:bq:=(lp (pT 267) 19 0 1 (.seq (pT 1099) (.cond (.tmp 40) (.seq (pT 4683) .ret) .skip)) (pT 459))
def ZC:=AOH
def c94:bq:=(.seq (pT 2) (.seq (pT 5) (.seq (.seq (pT 19) (.block 0 (.loop ZC))) (.seq (pT 23) .ret))))
theorem b94:Tryz.f94.body=some c94:=by kernel_rfl
@[simp] theorem x94:UX 41 ZC AOH/\SX 41 (pT 2) [ot 4 false] [0,1] [29,39]/\SX 41 (pT 5) [om 7 0,oq 8 (.oth (.nilCheck (tq 7))),oz 9 175 8 0,oz 10 43 9 3,ol 11 41 10,om 12 1,oi 13 41 11 12,oz 14 94 13 0,ol 15 3 14,om 5 15] [0,1] [29,39]/\SX 41 (pT 19) [ok 6 1] [0,1,5] [29,39]/\SX 41 (pT 267) [om 16 6,om 17 5,oc 18 .quo 3 17 2,ob 19 .leq 3 16 18] [0,1,5,6] [29,39]/\SX 41 (pT 1099) [om 22 0,om 23 0,oq 24 (.oth (.nilCheck (tq 23))),oz 25 175 24 0,ol 26 43 25,om 27 1,oq 28 (.buildS 22 1 [(0,tq 27)]),oq 29 (.call true none (.func 92) [tq 26,tq 28]),om 30 1,om 31 6,oq 32 (.build 151 [(0,tq 30),(1,tq 31)]),om 33 1,om 34 5,om 35 6,ob 36 .sub 3 34 35,oq 37 (.build 151 [(0,tq 33),(1,tq 36)]),oq 38 (.buildS 170 2 [(0,tq 32),(1,tq 37)]),oq 39 (.app [tq 29,tq 38] [170,170]),oq 40 (.call false (some 39) (.func 91) [tq 22,tq 39])] [0,1,5,6] [29,39]/\SX 41 (pT 4683) [ot 4 true] [] []/\SX 41 (pT 459) [om 20 6,oc 21 .add 3 20 1,om 6 21] [0,1,5,6] [29,39]/\SX 41 (pT 23) [ot 4 false] [] []/\LX 41 ZC [0,1,5,6] [29,39]:=⟨fun _ _=>rfl,rx,rx,rx,rx,rx,rx,rx,rx,lx⟩
def U2:=rg Tryz.f42
@[simp] def AOI:bq:=(.seq (U2 1119) (.seq (.cond (.tmp 27) .skip (.exit 0)) (.seq (.block 1 (.seq (U2 18015) (.seq (U2 42591) (.cond (.tmp 31) (U2 91743) .skip)))) (U2 7775))))
def ZD:=AOI
def c42:bq:=(.seq (U2 2) (.seq (U2 5) (.seq (.seq (U2 19) (.cond (.tmp 14) (.seq (U2 75) .ret) .skip)) (.seq (.seq (U2 39) (.cond (.tmp 22) (.seq (U2 151) .ret) .skip)) (.seq (U2 47) (.seq (.seq (U2 159) (.block 0 (.loop ZD))) (.seq (U2 191) .ret)))))))
theorem b42:Tryz.f42.body=some c42:=by kernel_rfl
@[simp] theorem x42:UX 38 ZD AOI/\SX 38 (U2 2) [oq 1 (.box (tq 0)),oq 2 (.mv (.const (.slice none 0 0))),ok 3 0] [0] [1,10,21,910,911]/\SX 38 (U2 5) [ol 9 43 1,od 10 71 [tq 9],om 8 10,oq 11 (.oth (.extract (tq 8) 0)),oq 12 (.oth (.extract (tq 8) 1)),om 4 11,om 5 12] [1] [1,10,21,910,911]/\SX 38 (U2 19) [om 13 5,oc 14 .neq 34 13 0] [1,4,5] [1,10,21,910,911]/\SX 38 (U2 75) [om 15 5,oq 2 (.mv (.const (.slice none 0 0))),om 3 15] [5] []/\SX 38 (U2 39) [om 16 4,om 17 4,oq 18 (.oth (.nilCheck (tq 17))),oz 19 175 18 0,ol 20 43 19,od 21 92 [tq 20,.const (.slice none 0 0)],od 22 91 [tq 16,tq 21]] [1,4] [1,10,21,910,911]/\SX 38 (U2 151) [oq 2 (.mv (.const (.slice none 0 0))),ok 3 7] [] []/\SX 38 (U2 47) [oq 6 (.mv (.const (.slice none 0 0)))] [1,4] [1,10,21,910,911]/\SX 38 (U2 159) [oz 23 43 1 3,ol 24 41 23,oe 25 24 41,ok 26 0] [1,4,6] [1,10,21,35,910,911]/\SX 38 (U2 1119) [ob 27 .lss 3 26 25] [4,6,25,26] [1,10,21,35,910,911]/\SX 38 (U2 18015) [om 28 26,om 7 28] [4,6,25,26] [1,10,21,35,910,911]/\SX 38 (U2 42591) [om 29 4,om 30 7,od 31 94 [tq 29,tq 30]] [4,6,7,25,26] [1,10,21,35,910,911]/\SX 38 (U2 91743) [om 32 6,om 33 7,oq 34 (.buildS 22 1 [(0,tq 33)]),oq 35 (.app [tq 32,tq 34] [22,22]),om 6 35] [4,6,7,25,26] [1,10,21,35,910,911]/\SX 38 (U2 7775) [oc 36 .add 3 26 1,om 26 36] [4,6,25,26] [1,10,21,35,910,911]/\SX 38 (U2 191) [om 37 6,om 2 37,ok 3 0] [6] [35]/\LX 38 ZD [4,6,25,26] [1,10,21,35,910,911]:=by and_intros<;>first|exact rx|exact lx|exact fun _ _=>rfl
def U3:=rg Tryz.f17
def c17:bq:=(.seq (U3 2) (.seq (.seq (U3 9) (.cond (.tmp 27) (.seq (U3 37) .ret) .skip)) (.seq (U3 11) (.seq (U3 23) (.seq (U3 47) (.seq (U3 95) (.seq (U3 191) (.seq (U3 383) (.seq (U3 767) (.seq (U3 1535) (.seq (U3 3071) (.seq (U3 6143) (.seq (U3 12287) .ret)))))))))))))
theorem b17:Tryz.f17.body=some c17:=by kernel_rfl
@[simp] theorem x17:SX 145 (U3 2) [oq 1 (.box (tq 0)),ot 2 false] [0] [1,3,4,30,35,36,43,44,51,52,59,60,65,66,71,72,77,78]/\SX 145 (U3 9) [ol 25 31 1,od 26 54 [tq 25],ou 27 26] [1] [1,3,4,30,35,36,43,44,51,52,59,60,65,66,71,72,77,78]/\SX 145 (U3 37) [od 28 19 [],om 2 28] [] []/\SX 145 (U3 11) [ol 29 31 1,oq 30 (.call true none (.func 63) [tq 29]),oq 3 (.alloc 31),os (.sto 31 (tq 3) (tq 30))] [1] [1,3,4,30,35,36,43,44,51,52,59,60,65,66,71,72,77,78]/\SX 145 (U3 23) [ol 31 31 1,oq 4 (.alloc 31),os (.sto 31 (tq 4) (tq 31))] [1,3] [1,3,4,30,35,36,43,44,51,52,59,60,65,66,71,72,77,78]/\SX 145 (U3 47) [oz 32 31 4 3,os (.sto 29 (tq 32) (.const (.slice none 0 0)))] [1,3,4] [1,3,4,30,35,36,43,44,51,52,59,60,65,66,71,72,77,78]/\SX 145 (U3 95) [ol 34 31 1,od 35 21 [tq 34],od 36 33 [tq 35],om 33 36,oq 37 (.oth (.extract (tq 33) 0)),oq 38 (.oth (.extract (tq 33) 1)),oq 39 (.oth (.extract (tq 33) 2)),oq 40 (.oth (.extract (tq 33) 3)),om 5 37,om 6 38,om 7 39,om 8 40] [1,3,4] [1,3,4,30,35,36,43,44,51,52,59,60,65,66,71,72,77,78]/\SX 145 (U3 191) [ol 42 31 3,od 43 21 [tq 42],od 44 33 [tq 43],om 41 44,oq 45 (.oth (.extract (tq 41) 0)),oq 46 (.oth (.extract (tq 41) 1)),oq 47 (.oth (.extract (tq 41) 2)),oq 48 (.oth (.extract (tq 41) 3)),om 9 45,om 10 46,om 11 47,om 12 48] [1,3,4,6,7,8] [1,3,4,30,35,36,43,44,51,52,59,60,65,66,71,72,77,78]/\SX 145 (U3 383) [ol 50 31 4,od 51 21 [tq 50],od 52 33 [tq 51],om 49 52,oq 53 (.oth (.extract (tq 49) 0)),oq 54 (.oth (.extract (tq 49) 1)),oq 55 (.oth (.extract (tq 49) 2)),oq 56 (.oth (.extract (tq 49) 3)),om 13 53,om 14 54,om 15 55,om 16 56] [1,3,4,6,7,8,10,11,12] [1,3,4,30,35,36,43,44,51,52,59,60,65,66,71,72,77,78]/\SX 145 (U3 767) [ol 58 31 1,od 59 21 [tq 58],od 60 41 [tq 59],om 57 60,oq 61 (.oth (.extract (tq 57) 0)),oq 62 (.oth (.extract (tq 57) 1)),om 17 61,om 18 62] [1,3,6,7,8,10,11,12,13,14,15,16] [1,3,4,30,35,36,43,44,51,52,59,60,65,66,71,72,77,78]/\SX 145 (U3 1535) [ol 64 31 3,od 65 21 [tq 64],od 66 41 [tq 65],om 63 66,oq 67 (.oth (.extract (tq 63) 0)),oq 68 (.oth (.extract (tq 63) 1)),om 19 67,om 20 68] [1,3,6,7,8,10,11,12,13,14,15,16,17,18] [1,3,4,30,35,36,43,44,51,52,59,60,65,66,71,72,77,78]/\SX 145 (U3 3071) [ol 70 31 1,od 71 21 [tq 70],od 72 42 [tq 71],om 69 72,oq 73 (.oth (.extract (tq 69) 0)),oq 74 (.oth (.extract (tq 69) 1)),om 21 73,om 22 74] [1,3,6,7,8,10,11,12,13,14,15,16,17,18,19,20] [1,3,4,30,35,36,43,44,51,52,59,60,65,66,71,72,77,78]/\SX 145 (U3 6143) [ol 76 31 3,od 77 21 [tq 76],od 78 42 [tq 77],om 75 78,oq 79 (.oth (.extract (tq 75) 0)),oq 80 (.oth (.extract (tq 75) 1)),om 23 79,om 24 80] [3,6,7,8,10,11,12,13,14,15,16,17,18,19,20,21,22] [1,3,4,30,35,36,43,44,51,52,59,60,65,66,71,72,77,78]/\SX 145 (U3 12287) [om 81 8,oc 82 .eql 34 81 0,om 83 82,gm 83 false 84 8,gc 83 false 85 .eql 34 84 10,oq 86 (.pick (tq 83) (cb true) (tq 85)),om 87 86,gm 87 true 88 8,gm 87 true 89 12,gb 87 true 90 .eql 34 88 89,oq 91 (.pick (tq 87) (tq 90) (cb false)),om 92 91,gm 92 true 93 6,gm 92 true 94 10,gb 92 true 95 .eql 3 93 94,oq 96 (.pick (tq 92) (tq 95) (cb false)),om 97 96,gm 97 true 98 7,gm 97 true 99 11,gb 97 true 100 .eql 3 98 99,oq 101 (.pick (tq 97) (tq 100) (cb false)),om 102 101,gm 102 true 103 16,gc 102 true 104 .eql 34 103 0,oq 105 (.pick (tq 102) (tq 104) (cb false)),om 106 105,gm 106 true 107 13,ge 106 true 108 107 37,gc 106 true 109 .eql 3 108 0,oq 110 (.pick (tq 106) (tq 109) (cb false)),om 111 110,gm 111 true 112 14,gc 111 true 113 .eql 3 112 0,oq 114 (.pick (tq 111) (tq 113) (cb false)),om 115 114,gm 115 true 116 15,gc 115 true 117 .eql 3 116 0,oq 118 (.pick (tq 115) (tq 117) (cb false)),om 119 118,gm 119 true 120 18,gc 119 true 121 .eql 34 120 0,oq 122 (.pick (tq 119) (tq 121) (cb false)),om 123 122,gm 123 true 124 20,gc 123 true 125 .eql 34 124 0,oq 126 (.pick (tq 123) (tq 125) (cb false)),om 127 126,gm 127 true 128 17,gm 127 true 129 19,gd 127 true 130 44 [tq 128,tq 129],oq 131 (.pick (tq 127) (tq 130) (cb false)),om 132 131,gm 132 true 133 22,gm 132 true 134 24,gb 132 true 135 .eql 34 133 134,oq 136 (.pick (tq 132) (tq 135) (cb false)),om 137 136,gm 137 true 138 21,gm 137 true 139 23,gd 137 true 140 44 [tq 138,tq 139],oq 141 (.pick (tq 137) (tq 140) (cb false)),om 142 141,gd 142 true 143 19 [],oq 144 (.pick (tq 142) (tq 143) (cb false)),om 2 144] [6,7,8,10,11,12,13,14,15,16,17,18,19,20,21,22,23,24] [1,3,4,30,35,36,43,44,51,52,59,60,65,66,71,72,77,78]:=by and_intros<;>exact rx
end
end Go.Proofs.Tryz.Op
