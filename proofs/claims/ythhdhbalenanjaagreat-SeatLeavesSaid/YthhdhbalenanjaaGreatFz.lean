/- The walk's ground of function 57: its regions worked out. No condition. -/
import Derived.Test.YthhdhbalenanjaaGreatGa
open Go renaming Code->bq
open Go.Proofs.Tryz renaming prog->bk
open Int renaming negSucc->bj
set_option maxRecDepth 100000
namespace Go.Proofs.Tryz.Op
open Go Go.Pg
noncomputable section
def g57:=rg Tryz.f57
def c57:bq:=(.seq (g57 2) (.seq (g57 5) .ret))
theorem b57:Tryz.f57.body=some c57:=by kernel_rfl
@[simp] theorem x57:SX 15 (g57 2) [ot 6 false] [0,1,2] []/\SX 15 (g57 5) [om 7 0,om 8 1,ob 9 .geq 3 7 8,om 10 9,gm 10 true 11 0,gm 10 true 12 2,gb 10 true 13 .leq 3 11 12,oq 14 (.pick (tq 10) (tq 13) (cb false)),om 6 14] [0,1,2] []:=⟨rx,rx⟩
def R6:=rg Tryz.f134
@[simp] def ADP:bq:=(lp (R6 133) 9 0 1 (.seq (R6 549) (.cond (.tmp 18) (.seq (R6 2341) .ret) .skip)) (R6 229))
def R7:=ADP
def A2N:bq:=(.seq (R6 2) (.seq (.seq (R6 9) (.block 0 (.loop R7))) (.seq (R6 11) .ret)))
theorem BC8:Tryz.f134.body=some A2N:=by kernel_rfl
@[simp] theorem BKS:UX 19 R7 ADP/\SX 19 (R6 2) [ot 4 false] [0,1] []/\SX 19 (R6 9) [ok 5 0] [0,1] []/\SX 19 (R6 133) [om 6 5,om 7 0,oe 8 7 22,ob 9 .lss 3 6 8] [0,1,5] []/\SX 19 (R6 549) [om 12 0,om 13 5,oi 14 22 12 13,ol 15 3 14,om 16 1,od 17 57 [tq 15,tq 16,ci 3],ou 18 17] [0,1,5] []/\SX 19 (R6 2341) [ot 4 false] [] []/\SX 19 (R6 229) [om 10 5,oc 11 .add 3 10 1,om 5 11] [0,1,5] []/\SX 19 (R6 11) [ot 4 true] [] []/\LX 19 R7 [0,1,5] []:=⟨fun _ _=>rfl,rx,rx,rx,rx,rx,rx,rx,lx⟩
def AKB:=rg Tryz.f135
def A2O:bq:=(.seq (AKB 2) (.seq (AKB 5) .ret))
theorem BC9:Tryz.f135.body=some A2O:=by kernel_rfl
@[simp] theorem BKT:SX 19 (AKB 2) [oq 2 (.box (tq 0)),oq 3 (.box (tq 1)),ot 4 false] [0,1] [2]/\SX 19 (AKB 5) [oz 5 59 3 0,ol 6 3 5,oz 7 27 2 1,ol 8 3 7,oc 9 .sub 3 8 1,od 10 57 [tq 6,ci 0,tq 9],om 11 10,gz 11 true 12 59 3 1,gl 11 true 13 3 12,gz 11 true 14 27 2 2,gl 11 true 15 3 14,gc 11 true 16 .sub 3 15 1,gd 11 true 17 57 [tq 13,ci 0,tq 16],oq 18 (.pick (tq 11) (tq 17) (cb false)),om 4 18] [2,3] [2,3]:=⟨rx,rx⟩
def vW:=rg Tryz.f75
@[simp] def AOY:bq:=(lp (vW 133) 9 0 1 (.seq (vW 549) (.cond (.tmp 17) (.seq (vW 2341) .ret) .skip)) (vW 229))
def ZI:=AOY
def c75:bq:=(.seq (vW 2) (.seq (.seq (vW 9) (.block 0 (.loop ZI))) (.seq (vW 11) .ret)))
theorem b75:Tryz.f75.body=some c75:=by kernel_rfl
@[simp] theorem x75:UX 18 ZI AOY/\SX 18 (vW 2) [ot 4 false] [0,1] []/\SX 18 (vW 9) [ok 5 0] [0,1] []/\SX 18 (vW 133) [om 6 5,om 7 0,oe 8 7 22,ob 9 .lss 3 6 8] [0,1,5] []/\SX 18 (vW 549) [om 12 0,om 13 5,oi 14 22 12 13,ol 15 3 14,om 16 1,ob 17 .eql 3 15 16] [0,1,5] []/\SX 18 (vW 2341) [ot 4 true] [] []/\SX 18 (vW 229) [om 10 5,oc 11 .add 3 10 1,om 5 11] [0,1,5] []/\SX 18 (vW 11) [ot 4 false] [] []/\LX 18 ZI [0,1,5] []:=⟨fun _ _=>rfl,rx,rx,rx,rx,rx,rx,rx,lx⟩
def AKC:=rg Tryz.f114
def A2P:bq:=(.seq (AKC 2) (.seq (AKC 5) .ret))
theorem BDB:Tryz.f114.body=some A2P:=by kernel_rfl
@[simp] theorem BKV:SX 6 (AKC 2) [oq 2 (.mv (.const (.slice none 0 0)))] [0,1] []/\SX 6 (AKC 5) [oq 3 (.buildS 22 0 []),om 4 0,oq 5 (.app [tq 3,tq 4] [22,22]),om 2 5] [0,1] []:=⟨rx,rx⟩
def R8:=rg Tryz.f115
@[simp] def ADQ:bq:=(lp (R8 267) 9 0 1 (R8 587) (R8 459))
def R9:=ADQ
def A2Q:bq:=(.seq (R8 2) (.seq (R8 5) (.seq (.seq (R8 19) (.block 0 (.loop R9))) (.seq (R8 23) .ret))))
theorem BDC:Tryz.f115.body=some A2Q:=by kernel_rfl
@[simp] theorem BKW:UX 21 R9 ADQ/\SX 21 (R8 2) [oq 2 (.mv (.const (.slice none 0 0)))] [0] [17]/\SX 21 (R8 5) [oq 5 (.buildS 23 0 []),om 3 5] [0] [17]/\SX 21 (R8 19) [ok 4 0] [0,1,3] [1,17,19]/\SX 21 (R8 267) [om 6 4,om 7 0,oe 8 7 23,ob 9 .lss 3 6 8] [0,3,4] [17,19]/\SX 21 (R8 587) [om 12 3,om 13 0,om 14 4,oi 15 23 13 14,ol 16 22 15,od 17 114 [tq 16],oq 18 (.buildS 23 1 [(0,tq 17)]),oq 19 (.app [tq 12,tq 18] [23,23]),om 3 19] [0,1,3,4] [1,17,19]/\SX 21 (R8 459) [om 10 4,oc 11 .add 3 10 1,om 4 11] [0,1,3,4] [1,17,19]/\SX 21 (R8 23) [om 20 3,om 2 20] [0,1,3,7,8] [19]/\LX 21 R9 [0,3,4] [17,19]:=⟨fun _ _=>rfl,rx,rx,rx,rx,rx,rx,rx,lx⟩
def g48:=rg Tryz.f48
def c48:bq:=(.seq (g48 2) (.seq (g48 5) .ret))
theorem b48:Tryz.f48.body=some c48:=by kernel_rfl
@[simp] theorem x48:SX 8 (g48 2) [oq 1 (.box (tq 0)),oq 2 (.alloc 86)] [0] []/\SX 8 (g48 5) [oz 3 59 1 0,ol 4 3 3,oz 5 59 1 1,ol 6 3 5,oq 7 (.build 86 [(0,tq 4),(1,tq 6)]),os (.sto 86 (tq 2) (tq 7))] [1,2] [1,2]:=⟨rx,rx⟩
def SA:=rg Tryz.f107
@[simp] def ADR:bq:=(lp (SA 133) 11 0 1 (.seq (SA 549) (.cond (.tmp 19) (.seq (SA 2341) .ret) .skip)) (SA 229))
def SB:=ADR
def A2R:bq:=(.seq (SA 2) (.seq (.seq (SA 9) (.block 0 (.loop SB))) (.seq (SA 11) .ret)))
theorem BDD:Tryz.f107.body=some A2R:=by kernel_rfl
@[simp] theorem BKY:UX 23 SB ADR/\SX 23 (SA 2) [ot 2 false] [0] []/\SX 23 (SA 9) [ok 3 0] [0,1] [1,14]/\SX 23 (SA 133) [om 4 3,om 5 0,oe 6 5 23,ob 7 .lss 3 4 6,om 8 7,gm 8 true 9 3,gc 8 true 10 .lss 3 9 8,oq 11 (.pick (tq 8) (tq 10) (cb false))] [0,3] []/\SX 23 (SA 549) [om 14 0,om 15 3,oi 16 23 14 15,ol 17 22 16,oe 18 17 22,oc 19 .gtr 3 18 5] [0,3] []/\SX 23 (SA 2341) [ot 2 false] [] []/\SX 23 (SA 229) [om 12 3,oc 13 .add 3 12 1,om 3 13] [0,3] []/\SX 23 (SA 11) [om 20 0,oe 21 20 23,oc 22 .leq 3 21 7,om 2 22] [0] []/\LX 23 SB [0,3] []:=⟨fun _ _=>rfl,rx,rx,rx,rx,rx,rx,rx,lx⟩
def SD:=rg Tryz.f100
@[simp] def ADS:bq:=(lp (SD 267) 9 0 1 (SD 587) (SD 459))
def SE:=ADS
def A2S:bq:=(.seq (SD 2) (.seq (SD 5) (.seq (.seq (SD 19) (.block 0 (.loop SE))) (.seq (SD 23) .ret))))
theorem BDE:Tryz.f100.body=some A2S:=by kernel_rfl
@[simp] theorem BKZ:UX 21 SE ADS/\SX 21 (SD 2) [oq 1 (.box (tq 0)),ok 2 0] [0] [1]/\SX 21 (SD 5) [ok 3 1] [1] [1]/\SX 21 (SD 19) [ok 4 0] [0,1,3] [1,17,19]/\SX 21 (SD 267) [om 5 4,oz 6 27 1 6,ol 7 23 6,oe 8 7 23,ob 9 .lss 3 5 8] [1,3,4] [1]/\SX 21 (SD 587) [om 12 3,oz 13 27 1 6,ol 14 23 13,om 15 4,oi 16 23 14 15,ol 17 22 16,oe 18 17 22,ob 19 .mul 3 12 18,om 3 19] [0,1,3,4] [1,17,19]/\SX 21 (SD 459) [om 10 4,oc 11 .add 3 10 1,om 4 11] [0,1,3,4] [1,17,19]/\SX 21 (SD 23) [om 20 3,om 2 20] [0,1,3,7,8] [19]/\LX 21 SE [1,3,4] [1]:=⟨fun _ _=>rfl,rx,rx,rx,rx,rx,rx,rx,lx⟩
def DR:=rg Tryz.f108
@[simp] def vX:bq:=(lp (DR 68759) 118 2 3 (.seq (DR 281751) (.cond (.tmp 138) (.seq (DR 1199255) .ret) .skip)) (DR 117911))
def N5:=vX
@[simp] def ADT:bq:=(lp (DR 535) 92 0 1 (.seq (.seq (DR 4247) (.cond (.tmp 110) (.seq (DR 18583) .ret) .skip)) (.seq (DR 5271) (.block 2 (.loop N5)))) (DR 919))
def SF:=ADT
@[simp] def vY:bq:=(lp (DR 1071) 143 4 5 (.seq (DR 4399) (.cond (.tmp 153) (.seq (DR 18735) .ret) .skip)) (DR 1839))
def N6:=vY
@[simp] def vZ:bq:=(lp (DR 2143) 158 6 7 (.seq (DR 8799) (.cond (.tmp 180) (.seq (DR 37471) .ret) .skip)) (DR 3679))
def N7:=vZ
def NT:bq:=(.seq (DR 2) (.seq (.seq (DR 9) (.cond (.tmp 31) (.seq (DR 37) .ret) .skip)) (.seq (.seq (DR 19) (.cond (.tmp 88) (.seq (DR 75) .ret) .skip)) (.seq (.seq (DR 39) (.block 0 (.loop SF))) (.seq (.seq (DR 79) (.block 4 (.loop N6))) (.seq (.seq (DR 159) (.block 6 (.loop N7))) (.seq (DR 191) .ret)))))))
theorem BDF:Tryz.f108.body=some NT:=by kernel_rfl
@[simp] theorem BK0:UX 181 N5 vX/\UX 181 SF ADT/\UX 181 N6 vY/\UX 181 N7 vZ/\SX 181 (DR 2) [oq 1 (.box (tq 0)),ok 2 0] [0] [1]/\SX 181 (DR 9) [oz 7 27 1 0,ol 8 3 7,oc 9 .gtr 3 8 4,om 10 9,gz 10 false 11 27 1 1,gl 10 false 12 3 11,gc 10 false 13 .gtr 3 12 3,oq 14 (.pick (tq 10) (cb true) (tq 13)),om 15 14,gz 15 false 16 27 1 2,gl 15 false 17 3 16,gc 15 false 18 .gtr 3 17 5,oq 19 (.pick (tq 15) (cb true) (tq 18)),om 20 19,gz 20 false 21 27 1 7,gl 20 false 22 24 21,ge 20 false 23 22 24,gc 20 false 24 .gtr 3 23 4,oq 25 (.pick (tq 20) (cb true) (tq 24)),om 26 25,gz 26 false 27 27 1 8,gl 26 false 28 25 27,ge 26 false 29 28 25,gc 26 false 30 .gtr 3 29 5,oq 31 (.pick (tq 26) (cb true) (tq 30))] [1] [1]/\SX 181 (DR 37) [ok 2 3] [] []/\SX 181 (DR 19) [oz 32 27 1 0,ol 33 3 32,oc 34 .lss 3 33 0,om 35 34,gz 35 false 36 27 1 1,gl 35 false 37 3 36,gc 35 false 38 .lss 3 37 1,oq 39 (.pick (tq 35) (cb true) (tq 38)),om 40 39,gz 40 false 41 27 1 2,gl 40 false 42 3 41,gc 40 false 43 .lss 3 42 1,oq 44 (.pick (tq 40) (cb true) (tq 43)),om 45 44,gz 45 false 46 27 1 3,gl 45 false 47 3 46,gd 45 false 48 57 [tq 47,ci 0,ci 4],og 45 false 49 (.oth (.unOp .not 4 (tq 48))),oq 50 (.pick (tq 45) (cb true) (tq 49)),om 51 50,gz 51 false 52 27 1 4,gl 51 false 53 22 52,ge 51 false 54 53 22,gz 51 false 55 27 1 1,gl 51 false 56 3 55,gb 51 false 57 .neq 3 54 56,oq 58 (.pick (tq 51) (cb true) (tq 57)),om 59 58,gz 59 false 60 27 1 5,gl 59 false 61 22 60,ge 59 false 62 61 22,gz 59 false 63 27 1 0,gl 59 false 64 3 63,gc 59 false 65 .add 3 64 1,gb 59 false 66 .neq 3 62 65,oq 67 (.pick (tq 59) (cb true) (tq 66)),om 68 67,gz 68 false 69 27 1 6,gl 68 false 70 23 69,ge 68 false 71 70 23,gz 68 false 72 27 1 0,gl 68 false 73 3 72,gc 68 false 74 .add 3 73 1,gb 68 false 75 .neq 3 71 74,oq 76 (.pick (tq 68) (cb true) (tq 75)),om 77 76,gz 77 false 78 27 1 4,gl 77 false 79 22 78,gd 77 false 80 134 [tq 79,ci 0],og 77 false 81 (.oth (.unOp .not 4 (tq 80))),oq 82 (.pick (tq 77) (cb true) (tq 81)),om 83 82,gz 83 false 84 27 1 5,gl 83 false 85 22 84,gd 83 false 86 134 [tq 85,.const (.int .i64 (bj 0))],og 83 false 87 (.oth (.unOp .not 4 (tq 86))),oq 88 (.pick (tq 83) (cb true) (tq 87))] [1] [1]/\SX 181 (DR 75) [ok 2 1] [] []/\SX 181 (DR 39) [ok 3 0] [1] [1]/\SX 181 (DR 535) [om 89 3,oz 90 27 1 0,ol 91 3 90,ob 92 .leq 3 89 91] [1,3] [1]/\SX 181 (DR 4247) [oz 95 27 1 6,ol 96 23 95,om 97 3,oi 98 23 96 97,ol 99 22 98,oe 100 99 22,oc 101 .eql 3 100 0,om 102 101,gz 102 false 103 27 1 6,gl 102 false 104 23 103,gm 102 false 105 3,gi 102 false 106 23 104 105,gl 102 false 107 22 106,gd 102 false 108 134 [tq 107,ci 0],og 102 false 109 (.oth (.unOp .not 4 (tq 108))),oq 110 (.pick (tq 102) (cb true) (tq 109))] [1,3] [1]/\SX 181 (DR 18583) [ok 2 1] [] []/\SX 181 (DR 5271) [ok 4 1] [1,3] [1]/\SX 181 (DR 68759) [om 111 4,oz 112 27 1 6,ol 113 23 112,om 114 3,oi 115 23 113 114,ol 116 22 115,oe 117 116 22,ob 118 .lss 3 111 117] [1,3,4] [1]/\RX 181 (DR 281751) (.drw [⟨[],[oz 121 27 1 6,ol 122 23 121,om 123 3,oi 124 23 122 123,ol 125 22 124,om 126 4,oi 127 22 125 126,ol 128 3 127,oz 129 27 1 6,ol 130 23 129,om 131 3,oi 132 23 130 131,ol 133 22 132,om 134 4,oc 135 .sub 3 134 1,oi 136 22 133 135,ol 137 3 136,ob 138 .leq 3 128 137],[]⟩]) (some ([1,3,4],[1]))/\SX 181 (DR 1199255) [ok 2 1] [] []/\SX 181 (DR 117911) [om 119 4,oc 120 .add 3 119 1,om 4 120] [1,3,4] [1]/\SX 181 (DR 919) [om 93 3,oc 94 .add 3 93 1,om 3 94] [1,3] [1]/\SX 181 (DR 79) [ok 5 0] [1] [1]/\SX 181 (DR 1071) [om 139 5,oz 140 27 1 7,ol 141 24 140,oe 142 141 24,ob 143 .lss 3 139 142] [1,5] [1]/\RX 181 (DR 4399) (.drw [⟨[],[ol 146 27 1,oz 147 27 1 7,ol 148 24 147,om 149 5,oi 150 24 148 149,ol 151 59 150],[od 152 135 [tq 146,tq 151]]⟩,⟨[],[ou 153 152],[]⟩]) (some ([1,5],[1]))/\SX 181 (DR 18735) [ok 2 1] [] []/\SX 181 (DR 1839) [om 144 5,oc 145 .add 3 144 1,om 5 145] [1,5] [1]/\SX 181 (DR 159) [ok 6 0] [1] [1]/\SX 181 (DR 2143) [om 154 6,oz 155 27 1 8,ol 156 25 155,oe 157 156 25,ob 158 .lss 3 154 157] [1,6] [1]/\RX 181 (DR 8799) (.drw [⟨[],[oz 161 27 1 8,ol 162 25 161,om 163 6,oi 164 25 162 163,oz 165 188 164 0,ol 166 3 165,oz 167 27 1 0,ol 168 3 167],[od 169 57 [tq 166,ci 0,tq 168]]⟩,⟨[],[ou 170 169,om 171 170,gz 171 false 172 27 1 8,gl 171 false 173 25 172,gm 171 false 174 6,gi 171 false 175 25 173 174,gz 171 false 176 188 175 1,gl 171 false 177 3 176],[gd 171 false 178 57 [tq 177,ci 0,ci 3]]⟩,⟨[],[og 171 false 179 (.oth (.unOp .not 4 (tq 178))),oq 180 (.pick (tq 171) (cb true) (tq 179))],[]⟩]) (some ([1,6],[1]))/\SX 181 (DR 37471) [ok 2 1] [] []/\SX 181 (DR 3679) [om 159 6,oc 160 .add 3 159 1,om 6 160] [1,6] [1]/\SX 181 (DR 191) [ok 2 0] [] []/\LX 181 SF [1,3] [1]/\LX 181 N5 [1,3,4] [1]/\LX 181 N6 [1,5] [1]/\LX 181 N7 [1,6] [1]:=by and_intros<;>first|exact rx|exact lx|exact fun _ _=>rfl
def g64:=rg Tryz.f64
def c64:bq:=(.seq (g64 2) (.seq (.seq (g64 9) (.cond (.tmp 30) (.seq (g64 37) .ret) .skip)) (.seq (g64 11) .ret)))
theorem b64:Tryz.f64.body=some c64:=by kernel_rfl
@[simp] theorem x64:SX 39 (g64 2) [oq 1 (.box (tq 0)),ot 2 false] [0] [1]/\SX 39 (g64 9) [oz 3 27 1 4,ol 4 22 3,oe 5 4 22,oc 6 .gtr 3 5 5,om 7 6,gz 7 false 8 27 1 5,gl 7 false 9 22 8,ge 7 false 10 9 22,gc 7 false 11 .gtr 3 10 7,oq 12 (.pick (tq 7) (cb true) (tq 11)),om 13 12,gz 13 false 14 27 1 6,gl 13 false 15 23 14,gd 13 false 16 107 [tq 15],og 13 false 17 (.oth (.unOp .not 4 (tq 16))),oq 18 (.pick (tq 13) (cb true) (tq 17)),om 19 18,gz 19 false 20 27 1 7,gl 19 false 21 24 20,ge 19 false 22 21 24,gc 19 false 23 .gtr 3 22 6,oq 24 (.pick (tq 19) (cb true) (tq 23)),om 25 24,gz 25 false 26 27 1 8,gl 25 false 27 25 26,ge 25 false 28 27 25,gc 25 false 29 .gtr 3 28 7,oq 30 (.pick (tq 25) (cb true) (tq 29))] [1] [1]/\SX 39 (g64 37) [ot 2 false] [] []/\SX 39 (g64 11) [ol 31 27 1,od 32 108 [tq 31],oc 33 .neq 3 32 0,om 34 33,gl 34 false 35 27 1,gd 34 false 36 100 [tq 35],gc 34 false 37 .leq 3 36 80,oq 38 (.pick (tq 34) (cb true) (tq 37)),om 2 38] [1] [1]:=⟨rx,rx,rx,rx⟩
def P3:=rg Tryz.f190
@[simp] def ADU:bq:=(.seq (P3 69) (.seq (.cond (.tmp 9) .skip (.exit 0)) (.seq (.block 1 (.seq (P3 1125) (.seq (P3 2661) (.cond (.tmp 16) (.seq (P3 9829) .ret) .skip)))) (P3 485))))
def SG:=ADU
def AR8:bq:=(.seq (P3 2) (.seq (.seq (P3 9) (.block 0 (.loop SG))) (.seq (P3 11) .ret)))
theorem b190:Tryz.f190.body=some AR8:=by kernel_rfl
@[simp] theorem BK2:UX 19 SG ADU/\SX 19 (P3 2) [ok 4 0] [0,1] []/\SX 19 (P3 9) [om 6 0,oe 7 6 22,ok 8 0] [0,1] []/\SX 19 (P3 69) [ob 9 .lss 3 8 7] [0,1,7,8] []/\SX 19 (P3 1125) [om 10 8,om 5 10] [0,1,7,8] []/\SX 19 (P3 2661) [om 11 1,om 12 0,om 13 5,oi 14 22 12 13,ol 15 3 14,oq 16 (.call false none (tq 11) [tq 15])] [0,1,5,7,8] []/\SX 19 (P3 9829) [om 17 5,om 4 17] [5] []/\SX 19 (P3 485) [oc 18 .add 3 8 1,om 8 18] [0,1,3,7,8] []/\SX 19 (P3 11) [oq 4 (.mv (.const (.int .i64 (bj 0))))] [] []/\LX 19 SG [0,1,7,8] []:=⟨fun _ _=>rfl,rx,rx,rx,rx,rx,rx,rx,rx,lx⟩
def AKD:=rg Tryz.f175
def A2T:bq:=(.seq (AKD 2) (.seq (AKD 5) .ret))
theorem b175:Tryz.f175.body=some A2T:=by kernel_rfl
@[simp] theorem BK3:SX 9 (AKD 2) [ot 4 false] [0,1] [7]/\SX 9 (AKD 5) [om 5 0,om 6 1,od 7 190 [tq 5,tq 6],oc 8 .geq 3 7 0,om 4 8] [0,1,2,3] [2,3]:=⟨rx,rx⟩
def AKE:=rg Tryz.f144
def AR9:bq:=(.seq (AKE 2) (.seq (AKE 5) .ret))
theorem b144:Tryz.f144.body=some AR9:=by kernel_rfl
@[simp] theorem BK4:SX 9 (AKE 2) [oq 3 (.box (tq 1)),ot 4 false] [0,1,2] [3]/\SX 9 (AKE 5) [om 5 0,oq 6 (.oth (.makeFunc (.func 176) #[] #[tq 3])),od 7 175 [tq 5,tq 6],ou 8 7,om 4 8] [0,1,2,3] [2,3]:=⟨rx,rx⟩
def AKF:=rg Tryz.f176
def ASA:bq:=(.seq (AKF 2) (.seq (AKF 5) .ret))
theorem b176:Tryz.f176.body=some ASA:=by kernel_rfl
@[simp] theorem BK5:SX 8 (AKF 2) [ot 3 false] [0,1] []/\SX 8 (AKF 5) [ol 4 177 1,om 5 0,oq 6 (.call false none (tq 4) [tq 5]),ou 7 6,om 3 7] [0,1,2] [2]:=⟨rx,rx⟩
def P4:=rg Tryz.f191
@[simp] def ADV:bq:=(.seq (P4 69) (.seq (.cond (.tmp 9) .skip (.exit 0)) (.seq (.block 1 (.seq (P4 1125) (.seq (P4 2661) (.cond (.tmp 16) (.seq (P4 9829) .ret) .skip)))) (P4 485))))
def SH:=ADV
def ASB:bq:=(.seq (P4 2) (.seq (.seq (P4 9) (.block 0 (.loop SH))) (.seq (P4 11) .ret)))
theorem b191:Tryz.f191.body=some ASB:=by kernel_rfl
@[simp] theorem BK6:UX 19 SH ADV/\SX 19 (P4 2) [ok 4 0] [0,1] []/\SX 19 (P4 9) [om 6 0,oe 7 6 23,ok 8 0] [0,1] []/\SX 19 (P4 69) [ob 9 .lss 3 8 7] [0,1,7,8] []/\SX 19 (P4 1125) [om 10 8,om 5 10] [0,1,7,8] []/\SX 19 (P4 2661) [om 11 1,om 12 0,om 13 5,oi 14 23 12 13,ol 15 22 14,oq 16 (.call false none (tq 11) [tq 15])] [0,1,5,7,8] []/\SX 19 (P4 9829) [om 17 5,om 4 17] [5] []/\SX 19 (P4 485) [oc 18 .add 3 8 1,om 8 18] [0,1,3,7,8] []/\SX 19 (P4 11) [oq 4 (.mv (.const (.int .i64 (bj 0))))] [] []/\LX 19 SH [0,1,7,8] []:=⟨fun _ _=>rfl,rx,rx,rx,rx,rx,rx,rx,rx,lx⟩
def AKG:=rg Tryz.f177
def A2U:bq:=(.seq (AKG 2) (.seq (AKG 5) .ret))
theorem b177:Tryz.f177.body=some A2U:=by kernel_rfl
@[simp] theorem BK7:SX 9 (AKG 2) [ot 4 false] [0,1] [7]/\SX 9 (AKG 5) [om 5 0,om 6 1,od 7 191 [tq 5,tq 6],oc 8 .geq 3 7 0,om 4 8] [0,1,2,3] [2,3]:=⟨rx,rx⟩
def AKH:=rg Tryz.f147
def ASC:bq:=(.seq (AKH 2) (.seq (AKH 5) .ret))
theorem b147:Tryz.f147.body=some ASC:=by kernel_rfl
@[simp] theorem BK8:SX 9 (AKH 2) [oq 3 (.box (tq 1)),ot 4 false] [0,1,2] [3]/\SX 9 (AKH 5) [om 5 0,oq 6 (.oth (.makeFunc (.func 178) #[] #[tq 3])),od 7 177 [tq 5,tq 6],ou 8 7,om 4 8] [0,1,2,3] [2,3]:=⟨rx,rx⟩
def AKI:=rg Tryz.f178
def ASD:bq:=(.seq (AKI 2) (.seq (AKI 5) .ret))
theorem b178:Tryz.f178.body=some ASD:=by kernel_rfl
@[simp] theorem BK9:SX 8 (AKI 2) [ot 3 false] [0,1] []/\SX 8 (AKI 5) [ol 4 193 1,om 5 0,oq 6 (.call false none (tq 4) [tq 5]),ou 7 6,om 3 7] [0,1,2] [2]:=⟨rx,rx⟩
def AKJ:=rg Tryz.f143
def A2V:bq:=(.seq (AKJ 2) (.seq (AKJ 5) .ret))
theorem BDG:Tryz.f143.body=some A2V:=by kernel_rfl
@[simp] theorem BLA:SX 15 (AKJ 2) [ot 6 false] [0,1,2] []/\SX 15 (AKJ 5) [om 7 1,om 8 0,ob 9 .leq 3 7 8,om 10 9,gm 10 true 11 0,gm 10 true 12 2,gb 10 true 13 .leq 3 11 12,oq 14 (.pick (tq 10) (tq 13) (cb false)),om 6 14] [0,1,2] []:=⟨rx,rx⟩
def AKK:=rg Tryz.f145
def A2W:bq:=(.seq (AKK 2) (.seq (AKK 5) .ret))
theorem BDH:Tryz.f145.body=some A2W:=by kernel_rfl
@[simp] theorem BLB:SX 5 (AKK 2) [ot 2 false] [0] []/\SX 5 (AKK 5) [om 3 0,od 4 143 [tq 3,ci 0,ci 3],om 2 4] [0,1,2] [1,2]:=⟨rx,rx⟩
def AKL:=rg Tryz.f146
def A2X:bq:=(.seq (AKL 2) (.seq (AKL 5) .ret))
theorem BDI:Tryz.f146.body=some A2X:=by kernel_rfl
@[simp] theorem BLC:SX 5 (AKL 2) [ot 2 false] [0] []/\SX 5 (AKL 5) [om 3 0,od 4 143 [tq 3,.const (.int .i64 (bj 0)),ci 3],om 2 4] [0,1,2] [1,2]:=⟨rx,rx⟩
def AAA:=rg Tryz.f148
def ASE:bq:=(.seq (AAA 2) (.seq (AAA 5) (.seq (AAA 11) .ret)))
theorem BDJ:Tryz.f148.body=some ASE:=by kernel_rfl
@[simp] theorem BLD:SX 12 (AAA 2) [ot 2 false] [0] []/\SX 12 (AAA 5) [oq 3 (.alloc 3),os (.sto 3 (tq 3) (.const (.int .i64 (bj 0))))] [0] []/\SX 12 (AAA 11) [om 4 0,oe 5 4 22,oc 6 .gtr 3 5 0,om 7 6,gm 7 true 8 0,og 7 true 9 (.oth (.makeFunc (.func 179) #[] #[tq 3])),gd 7 true 10 144 [tq 8,tq 9],oq 11 (.pick (tq 7) (tq 10) (cb false)),om 2 11] [0,3] [3]:=⟨rx,rx,rx⟩
def mF:=rg Tryz.f179
def A2Y:bq:=(.seq (mF 2) (.seq (mF 5) (.seq (mF 11) (.seq (mF 23) .ret))))
theorem b179:Tryz.f179.body=some A2Y:=by kernel_rfl
@[simp] theorem BLE:SX 11 (mF 2) [ot 3 false] [0,1] []/\SX 11 (mF 5) [om 5 0,ol 6 3 1,oc 7 .add 3 6 1,od 8 143 [tq 5,tq 7,ci 3],om 4 8] [0,1] []/\SX 11 (mF 11) [om 9 0,os (.sto 3 (tq 1) (tq 9))] [0,1,4] []/\SX 11 (mF 23) [om 10 4,om 3 10] [4] []:=⟨rx,rx,rx,rx⟩
def AKM:=rg Tryz.f174
def A2Z:bq:=(.seq (AKM 2) (.seq (AKM 5) .ret))
theorem BDK:Tryz.f174.body=some A2Z:=by kernel_rfl
@[simp] theorem BLF:SX 9 (AKM 2) [oq 2 (.box (tq 0)),ot 4 false] [0,1] [2]/\SX 9 (AKM 5) [om 5 1,oz 6 40 2 0,ol 7 3 6,od 8 143 [tq 5,ci 0,tq 7],om 4 8] [0,1,2,3] [2,3]:=⟨rx,rx⟩
def AKN:=rg Tryz.f141
def A20:bq:=(.seq (AKN 2) (.seq (AKN 5) .ret))
theorem BDL:Tryz.f141.body=some A20:=by kernel_rfl
@[simp] theorem BLG:SX 19 (AKN 2) [oq 2 (.box (tq 0)),oq 3 (.box (tq 1)),ot 4 false] [0,1] [2]/\SX 19 (AKN 5) [oz 5 86 3 0,ol 6 3 5,oz 7 40 2 1,ol 8 3 7,oc 9 .sub 3 8 1,od 10 143 [tq 6,ci 0,tq 9],om 11 10,gz 11 true 12 86 3 1,gl 11 true 13 3 12,gz 11 true 14 40 2 2,gl 11 true 15 3 14,gc 11 true 16 .sub 3 15 1,gd 11 true 17 143 [tq 13,ci 0,tq 16],oq 18 (.pick (tq 11) (tq 17) (cb false)),om 4 18] [2,3] [2,3]:=⟨rx,rx⟩
def AKO:=rg Tryz.f142
def A21:bq:=(.seq (AKO 2) (.seq (AKO 5) .ret))
theorem BDM:Tryz.f142.body=some A21:=by kernel_rfl
@[simp] theorem BLH:SX 14 (AKO 2) [oq 2 (.box (tq 0)),oq 3 (.box (tq 1)),ot 4 false] [0,1] [2]/\SX 14 (AKO 5) [ol 5 40 2,oz 6 99 3 0,ol 7 3 6,od 8 174 [tq 5,tq 7],om 9 8,gz 9 true 10 99 3 1,gl 9 true 11 3 10,gd 9 true 12 145 [tq 11],oq 13 (.pick (tq 9) (tq 12) (cb false)),om 4 13] [1,2,3,4] [2,3,4]:=⟨rx,rx⟩
def P5:=rg Tryz.f192
@[simp] def ADW:bq:=(.seq (P5 69) (.seq (.cond (.tmp 9) .skip (.exit 0)) (.seq (.block 1 (.seq (P5 1125) (.seq (P5 2661) (.cond (.tmp 16) (.seq (P5 9829) .ret) .skip)))) (P5 485))))
def SI:=ADW
def ASF:bq:=(.seq (P5 2) (.seq (.seq (P5 9) (.block 0 (.loop SI))) (.seq (P5 11) .ret)))
theorem b192:Tryz.f192.body=some ASF:=by kernel_rfl
@[simp] theorem BLI:UX 19 SI ADW/\SX 19 (P5 2) [ok 4 0] [0,1] []/\SX 19 (P5 9) [om 6 0,oe 7 6 37,ok 8 0] [0,1] []/\SX 19 (P5 69) [ob 9 .lss 3 8 7] [0,1,7,8] []/\SX 19 (P5 1125) [om 10 8,om 5 10] [0,1,7,8] []/\SX 19 (P5 2661) [om 11 1,om 12 0,om 13 5,oi 14 37 12 13,ol 15 86 14,oq 16 (.call false none (tq 11) [tq 15])] [0,1,5,7,8] []/\SX 19 (P5 9829) [om 17 5,om 4 17] [5] []/\SX 19 (P5 485) [oc 18 .add 3 8 1,om 8 18] [0,1,3,7,8] []/\SX 19 (P5 11) [oq 4 (.mv (.const (.int .i64 (bj 0))))] [] []/\LX 19 SI [0,1,7,8] []:=⟨fun _ _=>rfl,rx,rx,rx,rx,rx,rx,rx,rx,lx⟩
def AKP:=rg Tryz.f180
def A22:bq:=(.seq (AKP 2) (.seq (AKP 5) .ret))
theorem b180:Tryz.f180.body=some A22:=by kernel_rfl
@[simp] theorem BLJ:SX 9 (AKP 2) [ot 4 false] [0,1] [7]/\SX 9 (AKP 5) [om 5 0,om 6 1,od 7 192 [tq 5,tq 6],oc 8 .geq 3 7 0,om 4 8] [0,1,2,3] [2,3]:=⟨rx,rx⟩
def AKQ:=rg Tryz.f149
def A23:bq:=(.seq (AKQ 2) (.seq (AKQ 5) .ret))
theorem BDN:Tryz.f149.body=some A23:=by kernel_rfl
@[simp] theorem BLK:SX 9 (AKQ 2) [oq 3 (.box (tq 1)),ot 4 false] [0,1,2] [3]/\SX 9 (AKQ 5) [om 5 0,oq 6 (.oth (.makeFunc (.func 181) #[] #[tq 3])),od 7 180 [tq 5,tq 6],ou 8 7,om 4 8] [0,1,2,3] [2,3]:=⟨rx,rx⟩
def AKR:=rg Tryz.f181
def A24:bq:=(.seq (AKR 2) (.seq (AKR 5) .ret))
theorem b181:Tryz.f181.body=some A24:=by kernel_rfl
@[simp] theorem BLL:SX 8 (AKR 2) [oq 2 (.box (tq 0)),ot 3 false] [0,1] []/\SX 8 (AKR 5) [ol 4 225 1,ol 5 86 2,oq 6 (.call false none (tq 4) [tq 5]),ou 7 6,om 3 7] [0,1,2] [2]:=⟨rx,rx⟩
def P6:=rg Tryz.f193
@[simp] def ADX:bq:=(.seq (P6 69) (.seq (.cond (.tmp 9) .skip (.exit 0)) (.seq (.block 1 (.seq (P6 1125) (.seq (P6 2661) (.cond (.tmp 16) (.seq (P6 9829) .ret) .skip)))) (P6 485))))
def SJ:=ADX
def ASG:bq:=(.seq (P6 2) (.seq (.seq (P6 9) (.block 0 (.loop SJ))) (.seq (P6 11) .ret)))
theorem b193:Tryz.f193.body=some ASG:=by kernel_rfl
@[simp] theorem BLM:UX 19 SJ ADX/\SX 19 (P6 2) [ok 4 0] [0,1] []/\SX 19 (P6 9) [om 6 0,oe 7 6 38,ok 8 0] [0,1] []/\SX 19 (P6 69) [ob 9 .lss 3 8 7] [0,1,7,8] []/\SX 19 (P6 1125) [om 10 8,om 5 10] [0,1,7,8] []/\SX 19 (P6 2661) [om 11 1,om 12 0,om 13 5,oi 14 38 12 13,ol 15 99 14,oq 16 (.call false none (tq 11) [tq 15])] [0,1,5,7,8] []/\SX 19 (P6 9829) [om 17 5,om 4 17] [5] []/\SX 19 (P6 485) [oc 18 .add 3 8 1,om 8 18] [0,1,3,7,8] []/\SX 19 (P6 11) [oq 4 (.mv (.const (.int .i64 (bj 0))))] [] []/\LX 19 SJ [0,1,7,8] []:=⟨fun _ _=>rfl,rx,rx,rx,rx,rx,rx,rx,rx,lx⟩
def AKS:=rg Tryz.f182
def A25:bq:=(.seq (AKS 2) (.seq (AKS 5) .ret))
theorem b182:Tryz.f182.body=some A25:=by kernel_rfl
@[simp] theorem BLN:SX 9 (AKS 2) [ot 4 false] [0,1] [7]/\SX 9 (AKS 5) [om 5 0,om 6 1,od 7 193 [tq 5,tq 6],oc 8 .geq 3 7 0,om 4 8] [0,1,2,3] [2,3]:=⟨rx,rx⟩
def AKT:=rg Tryz.f150
def A26:bq:=(.seq (AKT 2) (.seq (AKT 5) .ret))
theorem BDO:Tryz.f150.body=some A26:=by kernel_rfl
@[simp] theorem BLO:SX 9 (AKT 2) [oq 3 (.box (tq 1)),ot 4 false] [0,1,2] [3]/\SX 9 (AKT 5) [om 5 0,oq 6 (.oth (.makeFunc (.func 183) #[] #[tq 3])),od 7 182 [tq 5,tq 6],ou 8 7,om 4 8] [0,1,2,3] [2,3]:=⟨rx,rx⟩
def AKU:=rg Tryz.f183
def A27:bq:=(.seq (AKU 2) (.seq (AKU 5) .ret))
theorem b183:Tryz.f183.body=some A27:=by kernel_rfl
@[simp] theorem BLP:SX 8 (AKU 2) [oq 2 (.box (tq 0)),ot 3 false] [0,1] []/\SX 8 (AKU 5) [ol 4 226 1,ol 5 99 2,oq 6 (.call false none (tq 4) [tq 5]),ou 7 6,om 3 7] [0,1,2] [2]:=⟨rx,rx⟩
def NU:=rg Tryz.f110
def NV:bq:=(.seq (NU 2) (.seq (NU 5) (.seq (.block 0 (.seq (NU 35) (.cond (.tmp 9) (.seq (NU 147) .ret) (.seq (NU 179) (.cond (.tmp 35) (.seq (NU 627) .ret) (.seq (NU 755) (.cond (.tmp 81) (.seq (NU 2547) .ret) .skip))))))) (.seq (NU 23) .ret))))
theorem BDP:Tryz.f110.body=some NV:=by kernel_rfl
@[simp] theorem BLQ:SX 112 (NU 2) [oq 1 (.box (tq 0)),ok 2 0] [0] [1,20,21,26,27,102,103,104]/\RX 112 (NU 5) (.drw [⟨[],[ol 5 40 1,oq 6 (.oth (.makeFunc (.func 141) #[tq 5] #[])),ol 7 40 1,oq 8 (.oth (.makeFunc (.func 142) #[tq 7] #[])),om 3 6,om 4 8],[]⟩]) (some ([1],[1]))/\SX 112 (NU 35) [oz 10 40 1 0,ol 11 3 10,oc 12 .gtr 3 11 4,om 13 12,gz 13 false 14 40 1 1,gl 13 false 15 3 14,gc 13 false 16 .gtr 3 15 3,oq 17 (.pick (tq 13) (cb true) (tq 16)),om 18 17,gz 18 false 19 40 1 2,gl 18 false 20 3 19,gc 18 false 21 .gtr 3 20 5,oq 22 (.pick (tq 18) (cb true) (tq 21)),om 23 22,gz 23 false 24 40 1 7,gl 23 false 25 37 24,ge 23 false 26 25 37,gc 23 false 27 .gtr 3 26 4,oq 28 (.pick (tq 23) (cb true) (tq 27)),om 29 28,gz 29 false 30 40 1 8,gl 29 false 31 38 30,ge 29 false 32 31 38,gc 29 false 33 .gtr 3 32 5,oq 34 (.pick (tq 29) (cb true) (tq 33)),om 9 34] [1,3,4] [1]/\SX 112 (NU 147) [ok 2 3] [] []/\SX 112 (NU 179) [oz 36 40 1 0,ol 37 3 36,oc 38 .lss 3 37 0,om 39 38,gz 39 false 40 40 1 1,gl 39 false 41 3 40,gc 39 false 42 .lss 3 41 1,oq 43 (.pick (tq 39) (cb true) (tq 42)),om 44 43,gz 44 false 45 40 1 2,gl 44 false 46 3 45,gc 44 false 47 .lss 3 46 1,oq 48 (.pick (tq 44) (cb true) (tq 47)),om 49 48,gz 49 false 50 40 1 3,gl 49 false 51 3 50,gd 49 false 52 143 [tq 51,ci 0,ci 4],og 49 false 53 (.oth (.unOp .not 4 (tq 52))),oq 54 (.pick (tq 49) (cb true) (tq 53)),om 55 54,gz 55 false 56 40 1 4,gl 55 false 57 22 56,ge 55 false 58 57 22,gz 55 false 59 40 1 1,gl 55 false 60 3 59,gb 55 false 61 .neq 3 58 60,oq 62 (.pick (tq 55) (cb true) (tq 61)),om 63 62,gz 63 false 64 40 1 5,gl 63 false 65 22 64,ge 63 false 66 65 22,gz 63 false 67 40 1 0,gl 63 false 68 3 67,gc 63 false 69 .add 3 68 1,gb 63 false 70 .neq 3 66 69,oq 71 (.pick (tq 63) (cb true) (tq 70)),om 72 71,gz 72 false 73 40 1 6,gl 72 false 74 23 73,ge 72 false 75 74 23,gz 72 false 76 40 1 0,gl 72 false 77 3 76,gc 72 false 78 .add 3 77 1,gb 72 false 79 .neq 3 75 78,oq 80 (.pick (tq 72) (cb true) (tq 79)),om 35 80] [1,3,4] [1]/\SX 112 (NU 627) [ok 2 1] [] []/\SX 112 (NU 755) [oz 82 40 1 4,ol 83 22 82,od 84 144 [tq 83,.func 145],ou 85 84,om 86 85,gz 86 false 87 40 1 5,gl 86 false 88 22 87,gd 86 false 89 144 [tq 88,.func 146],og 86 false 90 (.oth (.unOp .not 4 (tq 89))),oq 91 (.pick (tq 86) (cb true) (tq 90)),om 92 91,gz 92 false 93 40 1 6,gl 92 false 94 23 93,gd 92 false 95 147 [tq 94,.func 148],og 92 false 96 (.oth (.unOp .not 4 (tq 95))),oq 97 (.pick (tq 92) (cb true) (tq 96)),om 98 97,gz 98 false 99 40 1 7,gl 98 false 100 37 99,gm 98 false 101 3,gd 98 false 102 149 [tq 100,tq 101],og 98 false 103 (.oth (.unOp .not 4 (tq 102))),oq 104 (.pick (tq 98) (cb true) (tq 103)),om 105 104,gz 105 false 106 40 1 8,gl 105 false 107 38 106,gm 105 false 108 4,gd 105 false 109 150 [tq 107,tq 108],og 105 false 110 (.oth (.unOp .not 4 (tq 109))),oq 111 (.pick (tq 105) (cb true) (tq 110)),om 81 111] [1,3,4] [1]/\SX 112 (NU 2547) [ok 2 1] [] []/\SX 112 (NU 23) [ok 2 0] [] []:=by and_intros<;>exact rx
def AKV:=rg Tryz.f111
def ASH:bq:=(.seq (AKV 2) (.seq (AKV 5) .ret))
theorem BDQ:Tryz.f111.body=some ASH:=by kernel_rfl
@[simp] theorem BLR:SX 16 (AKV 2) [oq 2 (.box (tq 0)),ot 4 false] [0,1] [2]/\SX 16 (AKV 5) [om 5 1,oe 6 5 23,oz 7 40 2 0,ol 8 3 7,oc 9 .add 3 8 1,ob 10 .eql 3 6 9,om 11 10,gm 11 true 12 1,og 11 true 13 (.oth (.makeFunc (.func 151) #[] #[tq 2])),gd 11 true 14 147 [tq 12,tq 13],oq 15 (.pick (tq 11) (tq 14) (cb false)),om 4 15] [1,2] [2]:=⟨rx,rx⟩
def AKW:=rg Tryz.f151
def ASI:bq:=(.seq (AKW 2) (.seq (AKW 5) .ret))
theorem b151:Tryz.f151.body=some ASI:=by kernel_rfl
@[simp] theorem BLS:SX 13 (AKW 2) [ot 3 false] [0,1,2] [3,4,5,9]/\SX 13 (AKW 5) [om 4 0,oe 5 4 22,oz 6 40 1 1,ol 7 3 6,ob 8 .eql 3 5 7,om 9 8,gm 9 true 10 0,gd 9 true 11 144 [tq 10,.func 145],oq 12 (.pick (tq 9) (tq 11) (cb false)),om 3 12] [0,1] []:=⟨rx,rx⟩
def AKX:=rg Tryz.f194
def A28:bq:=(.seq (AKX 2) (.seq (AKX 5) .ret))
theorem BDR:Tryz.f194.body=some A28:=by kernel_rfl
@[simp] theorem BLT:SX 6 (AKX 2) [ok 2 0] [0,1] []/\SX 6 (AKX 5) [om 3 0,oc 4 .add 3 3 2,oc 5 .rem 3 4 4,om 2 5] [0,1] []:=⟨rx,rx⟩
def AKY:=rg Tryz.f195
def A29:bq:=(.seq (AKY 2) (.seq (AKY 5) .ret))
theorem BDS:Tryz.f195.body=some A29:=by kernel_rfl
@[simp] theorem BLU:SX 11 (AKY 2) [oq 3 (.box (tq 0)),oq 4 (.box (tq 1)),oq 5 (.box (tq 2)),ot 6 false] [0,1,2] [3,4,5]/\SX 11 (AKY 5) [oz 7 40 3 7,ol 8 37 7,oq 9 (.oth (.makeFunc (.func 199) #[] #[tq 5,tq 4,tq 3])),od 10 180 [tq 8,tq 9],om 6 10] [3,4,5] [3,4,5]:=⟨rx,rx⟩
def KI:=rg Tryz.f199
def ADY:bq:=(.seq (KI 2) (.seq (KI 5) (.seq (.block 0 (.seq (KI 35) (.cond (.tmp 7) (KI 83) (.seq (KI 179) (.cond (.tmp 22) (KI 371) (.seq (KI 755) (.cond (.tmp 37) (KI 1523) (.seq (KI 3059) (.cond (.tmp 52) (KI 6131) .skip))))))))) (.seq (KI 23) .ret))))
theorem b199:Tryz.f199.body=some ADY:=by kernel_rfl
@[simp] theorem BLV:SX 71 (KI 2) [oq 4 (.box (tq 0)),ot 5 false] [0,1,2,3] []/\SX 71 (KI 5) [ok 6 0] [1,2,3,4] [4]/\SX 71 (KI 35) [ol 8 3 1,oc 9 .eql 3 8 0,om 10 9,gz 10 true 11 86 4 1,gl 10 true 12 3 11,gz 10 true 13 86 2 1,gl 10 true 14 3 13,gb 10 true 15 .eql 3 12 14,oq 16 (.pick (tq 10) (tq 15) (cb false)),om 7 16] [1,2,3,4,6] [4]/\SX 71 (KI 83) [oz 17 86 2 0,ol 18 3 17,oz 19 86 4 0,ol 20 3 19,ob 21 .sub 3 18 20,om 6 21] [2,3,4] [4]/\SX 71 (KI 179) [ol 23 3 1,oc 24 .eql 3 23 2,om 25 24,gz 25 true 26 86 4 1,gl 25 true 27 3 26,gz 25 true 28 86 2 1,gl 25 true 29 3 28,gb 25 true 30 .eql 3 27 29,oq 31 (.pick (tq 25) (tq 30) (cb false)),om 22 31] [1,2,3,4,6] [4]/\SX 71 (KI 371) [oz 32 86 4 0,ol 33 3 32,oz 34 86 2 0,ol 35 3 34,ob 36 .sub 3 33 35,om 6 36] [2,3,4] [4]/\SX 71 (KI 755) [ol 38 3 1,oc 39 .eql 3 38 3,om 40 39,gz 40 true 41 86 4 0,gl 40 true 42 3 41,gz 40 true 43 86 2 0,gl 40 true 44 3 43,gb 40 true 45 .eql 3 42 44,oq 46 (.pick (tq 40) (tq 45) (cb false)),om 37 46] [1,2,3,4,6] [4]/\SX 71 (KI 1523) [oz 47 86 2 1,ol 48 3 47,oz 49 86 4 1,ol 50 3 49,ob 51 .sub 3 48 50,om 6 51] [2,3,4] [4]/\SX 71 (KI 3059) [ol 53 3 1,oc 54 .eql 3 53 1,om 55 54,gz 55 true 56 86 4 0,gl 55 true 57 3 56,gz 55 true 58 86 2 0,gl 55 true 59 3 58,gb 55 true 60 .eql 3 57 59,oq 61 (.pick (tq 55) (tq 60) (cb false)),om 52 61] [1,2,3,4,6] [4]/\SX 71 (KI 6131) [oz 62 86 4 1,ol 63 3 62,oz 64 86 2 1,ol 65 3 64,ob 66 .sub 3 63 65,om 6 66] [2,3,4] [4]/\SX 71 (KI 23) [om 67 6,oz 68 40 3 3,ol 69 3 68,od 70 143 [tq 67,ci 1,tq 69],om 5 70] [3,6] []:=by and_intros<;>exact rx
def AKZ:=rg Tryz.f184
def A3A:bq:=(.seq (AKZ 2) (.seq (AKZ 5) .ret))
theorem BDT:Tryz.f184.body=some A3A:=by kernel_rfl
@[simp] theorem BLW:SX 19 (AKZ 2) [oq 4 (.box (tq 0)),oq 5 (.box (tq 1)),ot 8 false] [0,1,2,3] [4]/\SX 19 (AKZ 5) [om 9 2,om 10 3,od 11 194 [tq 10],ob 12 .eql 3 9 11,om 13 12,gl 13 false 14 40 4,gl 13 false 15 86 5,gm 13 false 16 3,gd 13 false 17 195 [tq 14,tq 15,tq 16],oq 18 (.pick (tq 13) (cb true) (tq 17)),om 8 18] [2,3,4,5] [4,5]:=⟨rx,rx⟩
def P7:=rg Tryz.f153
def A3B:bq:=(.seq (P7 2) (.seq (P7 5) (.seq (.seq (P7 19) (.cond (.tmp 25) (P7 43) .skip)) (.seq (.seq (P7 39) (.cond (.tmp 27) (P7 87) .skip)) (.seq (P7 47) (.seq (P7 95) .ret))))))
theorem BDU:Tryz.f153.body=some A3B:=by kernel_rfl
@[simp] theorem BLX:SX 36 (P7 2) [oq 5 (.box (tq 0)),oq 6 (.box (tq 1)),oq 10 (.alloc 155)] [0,1,2,3,4] [5]/\RX 36 (P7 5) (.drw [⟨[],[oz 13 40 5 5,ol 14 22 13,om 15 2,oi 16 22 14 15,ol 17 3 16,om 18 3,ob 19 .eql 3 17 18,ol 20 40 5,ol 21 86 6,om 22 3,om 23 4,od 24 184 [tq 20,tq 21,tq 22,tq 23],om 11 19,om 12 24],[]⟩]) (some ([2,3,4,5,6,10],[5,6,10]))/\SX 36 (P7 19) [om 25 11] [10,11,12] [10]/\SX 36 (P7 43) [oz 26 155 10 0,os (.sto 3 (tq 26) (ci 1))] [10,12] [10]/\SX 36 (P7 39) [om 27 12] [10,12] [10]/\SX 36 (P7 87) [oz 28 155 10 1,os (.sto 3 (tq 28) (ci 1))] [10] [10]/\SX 36 (P7 47) [oz 29 155 10 0,ol 30 3 29,oz 31 155 10 1,ol 32 3 31,ob 33 .mul 3 30 32,oz 34 155 10 2,os (.sto 3 (tq 34) (tq 33))] [10] [10]/\SX 36 (P7 95) [ol 35 155 10,os (.sto 155 (tq 10) (tq 35))] [10] [10]:=by and_intros<;>exact rx
def P8:=rg Tryz.f101
@[simp] def ADZ:bq:=(lp (P8 267) 12 0 1 (.seq (P8 1099) (P8 1611)) (P8 459))
def SK:=ADZ
def A3C:bq:=(.seq (P8 2) (.seq (P8 5) (.seq (.seq (P8 19) (.block 0 (.loop SK))) (.seq (P8 23) .ret))))
theorem BDV:Tryz.f101.body=some A3C:=by kernel_rfl
@[simp] theorem BLY:UX 35 SK ADZ/\SX 35 (P8 2) [oq 2 (.box (tq 0)),oq 4 (.mv (.const (.slice none 0 0)))] [0,1] [2]/\SX 35 (P8 5) [oq 5 (.mv (.const (.slice none 0 0)))] [1,2] [2]/\SX 35 (P8 19) [ok 6 0] [1,2,5] [2,29]/\SX 35 (P8 267) [om 8 6,oz 9 27 2 6,ol 10 23 9,oe 11 10 23,ob 12 .lss 3 8 11] [1,2,5,6] [2,29]/\SX 35 (P8 1099) [oz 15 27 2 6,ol 16 23 15,om 17 6,oi 18 23 16 17,ol 19 22 18,om 7 19] [1,2,5,6] [2,29]/\RX 35 (P8 1611) (.drw [⟨[],[om 20 5,om 21 7,om 22 1,om 23 7,oe 24 23 22,ob 25 .rem 3 22 24,oi 26 22 21 25,ol 27 3 26,oq 28 (.buildS 22 1 [(0,tq 27)]),om 30 1,om 31 7,oe 32 31 22,ob 33 .quo 3 30 32,oq 29 (.app [tq 20,tq 28] [22,22]),om 5 29,om 1 33],[]⟩]) (some ([1,2,5,6,7],[2,29]))/\SX 35 (P8 459) [om 13 6,oc 14 .add 3 13 1,om 6 14] [1,2,5,6] [2,29]/\SX 35 (P8 23) [om 34 5,om 4 34] [5] [29]/\LX 35 SK [1,2,5,6] [2,29]:=⟨fun _ _=>rfl,rx,rx,rx,rx,rx,rx,rx,rx,lx⟩
def P9:=rg Tryz.f170
@[simp] def AD0:bq:=(.seq (P9 69) (.seq (.cond (.tmp 9) .skip (.exit 0)) (.seq (.block 1 (.seq (P9 1125) (.seq (P9 2661) (.cond (.tmp 16) (.seq (P9 9829) .ret) .skip)))) (P9 485))))
def SL:=AD0
def ASJ:bq:=(.seq (P9 2) (.seq (.seq (P9 9) (.block 0 (.loop SL))) (.seq (P9 11) .ret)))
theorem A3D:Tryz.f170.body=some ASJ:=by kernel_rfl
@[simp] theorem BLZ:UX 19 SL AD0/\SX 19 (P9 2) [ok 4 0] [0,1] []/\SX 19 (P9 9) [om 6 0,oe 7 6 22,ok 8 0] [0,1] []/\SX 19 (P9 69) [ob 9 .lss 3 8 7] [0,1,7,8] []/\SX 19 (P9 1125) [om 10 8,om 5 10] [0,1,7,8] []/\SX 19 (P9 2661) [om 11 1,om 12 0,om 13 5,oi 14 22 12 13,ol 15 3 14,ob 16 .eql 3 11 15] [0,1,5,7,8] []/\SX 19 (P9 9829) [om 17 5,om 4 17] [5] []/\SX 19 (P9 485) [oc 18 .add 3 8 1,om 8 18] [0,1,3,7,8] []/\SX 19 (P9 11) [oq 4 (.mv (.const (.int .i64 (bj 0))))] [] []/\LX 19 SL [0,1,7,8] []:=⟨fun _ _=>rfl,rx,rx,rx,rx,rx,rx,rx,rx,lx⟩
def AK0:=rg Tryz.f132
def A3E:bq:=(.seq (AK0 2) (.seq (AK0 5) .ret))
theorem BDW:Tryz.f132.body=some A3E:=by kernel_rfl
@[simp] theorem BL0:SX 9 (AK0 2) [ot 4 false] [0,1] [7]/\SX 9 (AK0 5) [om 5 0,om 6 1,od 7 170 [tq 5,tq 6],oc 8 .geq 3 7 0,om 4 8] [0,1,2,3] [2,3]:=⟨rx,rx⟩
def QA:=rg Tryz.f164
@[simp] def AD1:bq:=(.seq (QA 69) (.seq (.cond (.tmp 13) .skip (.exit 0)) (.seq (.block 1 (.seq (QA 1125) (.seq (QA 2661) (.cond (.tmp 30) (.seq (QA 9829) .ret) .skip)))) (QA 485))))
def SM:=AD1
def A3F:bq:=(.seq (QA 2) (.seq (.seq (QA 9) (.block 0 (.loop SM))) (.seq (QA 11) .ret)))
theorem BDX:Tryz.f164.body=some A3F:=by kernel_rfl
@[simp] theorem BL1:UX 32 SM AD1/\SX 32 (QA 2) [oq 3 (.box (tq 0)),ot 6 false] [0,1,2] [3]/\SX 32 (QA 9) [oz 9 40 3 8,ol 10 38 9,oe 11 10 38,ok 12 0] [1,2,3] [3]/\SX 32 (QA 69) [ob 13 .lss 3 12 11] [1,2,10,11,12] [3]/\SX 32 (QA 1125) [om 14 12,oi 15 38 10 12,ol 16 99 15,oq 8 (.alloc 99),om 7 14,os (.sto 99 (tq 8) (tq 16))] [1,2,10,11,12] [3]/\RX 32 (QA 2661) (.drw [⟨[],[om 17 2,om 18 7],[od 19 132 [tq 17,tq 18]]⟩,⟨[],[ou 20 19,om 21 20,gm 21 true 22 1,gz 21 true 23 99 8 0,gl 21 true 24 3 23,gi 21 true 25 22 22 24,gl 21 true 26 3 25,gz 21 true 27 99 8 1,gl 21 true 28 3 27,gb 21 true 29 .neq 3 26 28,oq 30 (.pick (tq 21) (tq 29) (cb false))],[]⟩]) (some ([1,2,7,8,10,11,12],[3,8]))/\SX 32 (QA 9829) [ot 6 false] [] []/\SX 32 (QA 485) [oc 31 .add 3 12 1,om 12 31] [1,2,10,11,12] [3]/\SX 32 (QA 11) [ot 6 true] [] []/\LX 32 SM [1,2,10,11,12] [3]:=⟨fun _ _=>rfl,rx,rx,rx,rx,rx,rx,rx,rx,lx⟩
def N8:=rg Tryz.f165
@[simp] def AD2:bq:=(lp (N8 535) 15 0 1 (N8 1175) (N8 919))
def iW:=AD2
def A3G:bq:=(.seq (N8 2) (.seq (.seq (N8 9) (.cond (.tmp 7) (N8 21) .skip)) (.seq (N8 11) (.seq (.seq (N8 39) (.block 0 (.loop iW))) (.seq (N8 47) .ret)))))
theorem BDY:Tryz.f165.body=some A3G:=by kernel_rfl
@[simp] theorem BL2:UX 25 iW AD2/\SX 25 (N8 2) [ok 2 0] [0] []/\SX 25 (N8 9) [om 5 0,oe 6 5 22,oc 7 .lss 3 6 1] [0] []/\SX 25 (N8 11) [om 9 0,oq 10 (.oth (.indexAddr 22 (tq 9) (ci 0))),ol 11 3 10,om 3 11] [0] []/\SX 25 (N8 39) [ok 4 1] [0,3] []/\SX 25 (N8 535) [om 12 4,om 13 0,oe 14 13 22,ob 15 .lss 3 12 14] [0,3,4] []/\SX 25 (N8 1175) [om 18 3,om 19 0,om 20 4,oi 21 22 19 20,ol 22 3 21,oq 23 (.oth (.call ⟨.builtin .min,#[tq 18,tq 22],#[3,3]⟩)),om 3 23] [0,3,4] []/\SX 25 (N8 919) [om 16 4,oc 17 .add 3 16 1,om 4 17] [0,3,4] []/\SX 25 (N8 47) [om 24 3,om 2 24] [3] []/\LX 25 iW [0,3,4] []:=⟨fun _ _=>rfl,rx,rx,rx,rx,rx,rx,rx,rx,lx⟩
def AK1:=rg Tryz.f198
def A3H:bq:=(.seq (AK1 2) (.seq (AK1 5) .ret))
theorem BDZ:Tryz.f198.body=some A3H:=by kernel_rfl
@[simp] theorem BL3:SX 5 (AK1 2) [ok 2 0] [0] []/\SX 5 (AK1 5) [om 3 0,od 4 165 [tq 3],om 2 4] [0,1,2] [1,2]:=⟨rx,rx⟩
def AK2:=rg Tryz.f186
def A3I:bq:=(.seq (AK2 2) (.seq (AK2 5) .ret))
theorem BD0:Tryz.f186.body=some A3I:=by kernel_rfl
@[simp] theorem BL4:SX 15 (AK2 2) [oq 2 (.box (tq 0)),oq 4 (.alloc 207)] [0,1] []/\RX 15 (AK2 5) (.drw [⟨[],[oz 5 207 2 0,oq 6 (.ldz 3 (tq 5)),om 7 1,oq 8 (.buildS 22 2 [(0,tq 6),(1,tq 7)]),od 9 198 [tq 8],oz 10 207 2 1,oq 11 (.ldz 3 (tq 10)),om 12 1,oq 13 (.oth (.call ⟨.builtin .max,#[tq 11,tq 12],#[3,3]⟩)),oq 14 (.build 207 [(0,tq 9),(1,tq 13)])],[os (.sto 207 (tq 4) (tq 14))]⟩]) (some ([1,2,4],[2,4])):=⟨rx,rx⟩
def eF:=rg Tryz.f196
def A3J:bq:=(.seq (eF 2) (.seq (eF 5) (.seq (eF 11) (.seq (eF 23) (eF 31)))))
theorem b196:Tryz.f196.body=some A3J:=by kernel_rfl
@[simp] theorem BL5:SX 13 (eF 2) [oq 3 (.box (tq 0))] [0,1,2] [3,4,5,9]/\SX 13 (eF 5) [oz 6 40 1 0,ol 7 3 6,oc 8 .add 3 7 1,oq 9 (.mkS 22 (tq 8) (tq 8)),oq 4 (.alloc 22),os (.sto 22 (tq 4) (tq 9))] [1,2,3] [3,4,5,9]/\SX 13 (eF 11) [oq 5 (.alloc 177)] [1,2,3,4] [3,4,5,9]/\SX 13 (eF 23) [oq 10 (.oth (.makeFunc (.func 197) #[] #[tq 4,tq 1,tq 2,tq 3,tq 5])),os (.sto 177 (tq 5) (tq 10))] [1,2,3,4,5] [3,4,5,9]/\SX 13 (eF 31) [ol 11 177 5,oq 12 (.call false none (tq 11) [ci 0])] [5] [3,4,5,9]:=⟨rx,rx,rx,rx,rx⟩
def KJ:=rg Tryz.f197
@[simp] def AD3:bq:=(.seq (KJ 139) (.seq (.cond (.tmp 31) .skip (.exit 0)) (.seq (.block 1 (.seq (KJ 2251) (.seq (KJ 5323) (.seq (KJ 11467) (.cond (.tmp 42) (.seq (KJ 40139) .ret) .skip))))) (KJ 971))))
def SN:=AD3
def AD4:bq:=(.seq (KJ 2) (.seq (.seq (KJ 9) (.cond (.tmp 13) (.seq (KJ 37) .ret) .skip)) (.seq (.seq (KJ 19) (.block 0 (.loop SN))) (.seq (KJ 23) .ret))))
theorem b197:Tryz.f197.body=some AD4:=by kernel_rfl
@[simp] theorem BD1(n:Nat)(st:XS):AE bk ann kn (n+1) 44 (KJ 37) st=PW (KC bk (cfU [20009,30009] (BN bk ann kn n)) (.str [ol 14 40 2,ol 15 22 1,ol 16 22 3,od 17 164 [tq 14,tq 15,tq 16],ou 18 17,om 19 18,gl 19 false 20 193 4,gl 19 false 21 22 1,og 19 false 22 (.call false none (tq 20) [tq 21]),oq 23 (.pick (tq 19) (cb true) (tq 22)),om 7 23]) (CH (some ([1,2,3,4],[])) (ND [] st))) :=
 WR (by kernel_rfl) (by kernel_rfl) (by kernel_rfl) (by kernel_rfl) (by kernel_rfl) (by kernel_rfl)
@[simp] theorem BL6:UX 44 SN AD3/\SX 44 (KJ 2) [ot 7 false] [0,1,2,3,4,5] []/\SX 44 (KJ 9) [om 10 0,ol 11 22 1,oe 12 11 22,ob 13 .eql 3 10 12] [0,1,2,3,4,5] []/\SX 44 (KJ 19) [oz 24 40 2 6,ol 25 23 24,om 26 0,oi 27 23 25 26,ol 28 22 27,oe 29 28 22,ok 30 0] [0,1,2,5] []/\SX 44 (KJ 139) [ob 31 .lss 3 30 29] [0,1,5,28,29,30] []/\SX 44 (KJ 2251) [oi 32 22 28 30,ol 33 3 32,om 9 33] [0,1,5,28,29,30] []/\SX 44 (KJ 5323) [ol 34 22 1,om 35 0,om 36 9,oi 37 22 34 35,os (.sto 3 (tq 37) (tq 36))] [0,1,5,9,28,29,30] []/\SX 44 (KJ 11467) [ol 38 177 5,om 39 0,oc 40 .add 3 39 1,oq 41 (.call false none (tq 38) [tq 40]),ou 42 41] [0,1,5,28,29,30] []/\SX 44 (KJ 40139) [ot 7 false] [] []/\SX 44 (KJ 971) [oc 43 .add 3 30 1,om 30 43] [0,1,5,28,29,30] []/\SX 44 (KJ 23) [ot 7 true] [] []/\LX 44 SN [0,1,5,28,29,30] []:=⟨fun _ _=>rfl,rx,rx,rx,rx,rx,rx,rx,rx,rx,rx,lx⟩
def AK3:=rg Tryz.f185
def A3K:bq:=(.seq (AK3 2) (.seq (AK3 5) .ret))
theorem BD2:Tryz.f185.body=some A3K:=by kernel_rfl
@[simp] theorem BL7:SX 6 (AK3 2) [oq 2 (.box (tq 0)),oq 3 (.box (tq 1)),oq 4 (.mv (.const .nilFunc))] [0,1] [2,3]/\SX 6 (AK3 5) [oq 5 (.oth (.makeFunc (.func 196) #[] #[tq 2,tq 3])),om 4 5] [2,3] [2,3]:=⟨rx,rx⟩
def D5:=rg Tryz.f154
@[simp] def wA:bq:=(.seq (D5 36191) (.seq (.cond (.tmp 35) .skip (.exit 2)) (.seq (.block 3 (.seq (D5 576863) (.seq (D5 1363295) (.cond (.tmp 48) (D5 2936159) .skip)))) (D5 249183))))
def JX:=wA
def AD5:bq:=(.seq (D5 2) (.seq (.seq (D5 9) (.seq (D5 21) (.cond (.tmp 15) (.seq (D5 77) .ret) .skip))) (.seq (.seq (D5 19) (.cond (.tmp 19) (.seq (D5 75) .ret) .skip)) (.seq (D5 23) (.seq (D5 47) (.seq (.seq (D5 159) (.block 0 (.rangeFunc (.tmp 30) #[31] (D5 607) (.block 1 (.seq (D5 2399) (.seq (D5 5471) (.block 2 (.loop JX)))))))) (.seq (.seq (D5 319) (.cond (.tmp 67) (.seq (D5 1215) .ret) .skip)) (.seq (D5 383) .ret))))))))
theorem b154:Tryz.f154.body=some AD5:=by kernel_rfl
@[simp] theorem A99(n:Nat)(st:XS):AE bk ann kn (n+1) 69 (D5 1363295) st=PW (KC bk (cfU [20800,20801,20802,20803,20804] (BN bk ann kn n)) (.str [ol 39 233 7,oq 40 (.oth (.nilCheck (tq 39))),oz 41 250 40 1,ol 42 23 41,om 43 10,oi 44 23 42 43,ol 45 22 44,om 46 11,od 47 132 [tq 45,tq 46],ou 48 47]) (CH (some ([7,10,11,32,33,34],[2,7,24,25,26,28,30,63,800,801,802,803,804])) (ND [] st))) :=
 WR (by kernel_rfl) (by kernel_rfl) (by kernel_rfl) (by kernel_rfl) (by kernel_rfl) (by kernel_rfl)
@[simp] theorem BAA(n:Nat)(st:XS):AE bk ann kn (n+1) 69 (D5 249183) st=PW (KC bk (BN bk ann kn n) (.str [oc 65 .add 3 34 1,om 34 65]) (CH (some ([7,32,33,34],[2,7,24,25,26,28,30,63,800,801,802,803,804])) (ND [25008011801063] st))) :=
 DT (by kernel_rfl) (by kernel_rfl) (by kernel_rfl) (by kernel_rfl) (by kernel_rfl)
@[simp] theorem BAB(n:Nat)(st:XS):AE bk ann kn (n+1) 69 (D5 383) st=PW (KC bk (BN bk ann kn n) (.str [ol 68 233 7,om 4 68,ok 5 0]) (CH (some ([7],[2,7,24,25,26,28,30,63,800,801,802,803,804])) (ND [1000000000000024,24,901025,902026,903028] st))) :=
 DT (by kernel_rfl) (by kernel_rfl) (by kernel_rfl) (by kernel_rfl) (by kernel_rfl)
@[simp] theorem BL8:UX 69 JX wA/\SX 69 (D5 2) [oq 2 (.box (tq 0)),oq 4 (.mv (.const (.pointer none))),ok 5 0] [0,1] [2,7,24,25,26,28,30,63,800,801,802,803,804]/\SX 69 (D5 9) [ol 12 40 2,od 13 110 [tq 12],om 6 13] [1,2] [2,7,24,25,26,28,30,63,800,801,802,803,804]/\SX 69 (D5 21) [om 14 6,oc 15 .neq 34 14 0] [1,2,6] [2,7,24,25,26,28,30,63,800,801,802,803,804]/\SX 69 (D5 77) [om 16 6,oq 4 (.mv (.const (.pointer none))),om 5 16] [6] []/\SX 69 (D5 19) [om 17 1,oq 18 (.call false none (tq 17) []),ou 19 18] [1,2] [2,7,24,25,26,28,30,63,800,801,802,803,804]/\SX 69 (D5 75) [oq 4 (.mv (.const (.pointer none))),ok 5 2] [] []/\RX 69 (D5 23) (.drw [⟨[24,25,26,28,7],[oq 20 (.ldz 40 (tq 2)),oz 21 40 2 0,oq 22 (.ldz 3 (tq 21)),oc 23 .add 3 22 1,oq 24 (.mkS 23 (tq 23) (tq 23)),oq 25 (.mkM none),oq 26 (.mkM none),oq 27 (.build 250 [(0,tq 20),(1,tq 24),(2,tq 25),(3,tq 26)]),oq 28 (.box (tq 27)),oq 7 (.alloc 233)],[os (.sto 233 (tq 7) (tq 28))]⟩]) (some ([2],[2,30,63]))/\SX 69 (D5 47) [oq 8 (.alloc 4),os (.sto 4 (tq 8) (cb false))] [2,7] [2,7,24,25,26,28,30,63,800,801,802,803,804]/\SX 69 (D5 159) [ol 29 40 2,od 30 185 [tq 29,.const (.slice none 0 0)]] [2,7,8] [2,7,8,24,25,26,28,30,63,800,801,802,803,804]/\SX 69 (D5 607) [om 9 31] [7,8,31] [2,7,8,24,25,26,28,30,63,800,801,802,803,804]/\SX 69 (D5 2399) [os (.sto 4 (tq 8) (cb true))] [7,8,9] [2,7,8,24,25,26,28,30,63,800,801,802,803,804]/\SX 69 (D5 5471) [om 32 9,oe 33 32 22,ok 34 0] [7,9] [2,7,24,25,26,28,30,63,800,801,802,803,804]/\SX 69 (D5 36191) [ob 35 .lss 3 34 33] [7,32,33,34] [2,7,24,25,26,28,30,63,800,801,802,803,804]/\SX 69 (D5 576863) [om 36 34,oi 37 22 32 34,ol 38 3 37,om 10 36,om 11 38] [7,32,33,34] [2,7,24,25,26,28,30,63,800,801,802,803,804]/\RX 69 (D5 2936159) (.drw [⟨[],[ol 49 233 7,oq 50 (.oth (.nilCheck (tq 49))),oz 51 250 50 1,ol 52 23 51,om 53 10,ol 54 233 7,oq 55 (.oth (.nilCheck (tq 54))),oz 56 250 55 1,ol 57 23 56,om 58 10,oi 59 23 57 58,oq 60 (.ldz 22 (tq 59)),om 61 11,oq 62 (.buildS 22 1 [(0,tq 61)]),oq 63 (.app [tq 60,tq 62] [22,22]),oi 64 23 52 53],[os (.sto 22 (tq 64) (tq 63))]⟩]) (some ([7,10,11,32,33,34],[2,7,24,25,26,28,30,63,800,801,802,803,804]))/\SX 69 (D5 319) [ol 66 4 8,ou 67 66] [7,8] [2,7,8,24,25,26,28,30,63,800,801,802,803,804]/\SX 69 (D5 1215) [oq 4 (.mv (.const (.pointer none))),ok 5 11] [] []/\LX 69 JX [7,32,33,34] [2,7,24,25,26,28,30,63,800,801,802,803,804]:=by and_intros<;>first|exact rx|exact lx|exact fun _ _=>rfl
def dY:=rg Tryz.f68
@[simp] def AO1:bq:=(lp (dY 267) 28 0 1 (dY 587) (dY 459))
def ZJ:=AO1
@[simp] def AO2:bq:=(lp (dY 535) 46 2 3 (dY 1175) (dY 919))
def ZK:=AO2
def c68:bq:=(.seq (dY 2) (.seq (dY 5) (.seq (.seq (dY 19) (.block 0 (.loop ZJ))) (.seq (.seq (dY 39) (.block 2 (.loop ZK))) (.seq (dY 47) .ret)))))
theorem b68:Tryz.f68.body=some c68:=by kernel_rfl
@[simp] theorem x68:UX 68 ZJ AO1/\UX 68 ZK AO2/\SX 68 (dY 2) [oq 1 (.box (tq 0)),oq 2 (.alloc 40)] [0] [1,2,3,16,19,22,40,65]/\RX 68 (dY 5) (.drw [⟨[3],[oz 6 27 1 0,oq 7 (.ldz 3 (tq 6)),oz 8 27 1 1,oq 9 (.ldz 3 (tq 8)),oz 10 27 1 2,oq 11 (.ldz 3 (tq 10)),oz 12 27 1 3,oq 13 (.ldz 3 (tq 12)),oz 14 27 1 4,oq 15 (.ldz 22 (tq 14)),od 16 114 [tq 15],oz 17 27 1 5,oq 18 (.ldz 22 (tq 17)),od 19 114 [tq 18],oz 20 27 1 6,oq 21 (.ldz 23 (tq 20)),od 22 115 [tq 21],oq 23 (.build 40 [(0,tq 7),(1,tq 9),(2,tq 11),(3,tq 13),(4,tq 16),(5,tq 19),(6,tq 22)]),oq 3 (.alloc 40)],[os (.sto 40 (tq 3) (tq 23))]⟩]) (some ([1,2],[1,2,40,65]))/\SX 68 (dY 19) [ok 4 0] [1,2,3] [1,2,3,16,19,22,40,65]/\SX 68 (dY 267) [om 24 4,oz 25 27 1 7,ol 26 24 25,oe 27 26 24,ob 28 .lss 3 24 27] [1,2,3,4] [1,2,3,16,19,22,40,65]/\RX 68 (dY 587) (.drw [⟨[],[oz 31 40 3 7,oq 32 (.ldz 37 (tq 31)),oz 33 27 1 7,ol 34 24 33,om 35 4,oi 36 24 34 35,ol 37 59 36,od 38 48 [tq 37],oq 39 (.buildS 37 1 [(0,tq 38)]),oq 40 (.app [tq 32,tq 39] [37,37]),oz 41 40 3 7],[os (.sto 37 (tq 41) (tq 40))]⟩]) (some ([1,2,3,4],[1,2,3,16,19,22,40,65]))/\SX 68 (dY 459) [om 29 4,oc 30 .add 3 29 1,om 4 30] [1,2,3,4] [1,2,3,16,19,22,40,65]/\SX 68 (dY 39) [ok 5 0] [1,2,3] [1,2,3,16,19,22,40,65]/\SX 68 (dY 535) [om 42 5,oz 43 27 1 8,ol 44 25 43,oe 45 44 25,ob 46 .lss 3 42 45] [1,2,3,5] [1,2,3,16,19,22,40,65]/\RX 68 (dY 1175) (.drw [⟨[],[oz 49 40 3 8,oq 50 (.ldz 38 (tq 49)),oz 51 27 1 8,ol 52 25 51,om 53 5,oi 54 25 52 53,oz 55 188 54 0,ol 56 3 55,oz 57 27 1 8,ol 58 25 57,om 59 5,oi 60 25 58 59,oz 61 188 60 1,ol 62 3 61,oq 63 (.build 99 [(0,tq 56),(1,tq 62)]),oq 64 (.buildS 38 1 [(0,tq 63)]),oq 65 (.app [tq 50,tq 64] [38,38]),oz 66 40 3 8],[os (.sto 38 (tq 66) (tq 65))]⟩]) (some ([1,2,3,5],[1,2,3,16,19,22,40,65]))/\SX 68 (dY 919) [om 47 5,oc 48 .add 3 47 1,om 5 48] [1,2,3,5] [1,2,3,16,19,22,40,65]/\SX 68 (dY 47) [ol 67 40 3,os (.sto 40 (tq 2) (tq 67))] [2,3] [1,2,3,16,19,22,40,65]/\LX 68 ZJ [1,2,3,4] [1,2,3,16,19,22,40,65]/\LX 68 ZK [1,2,3,5] [1,2,3,16,19,22,40,65]:=by and_intros<;>first|exact rx|exact lx|exact fun _ _=>rfl
def IV:=rg Tryz.f157
@[simp] def AD6:bq:=(.seq (IV 71269) (.seq (.cond (.tmp 28) .skip (.exit 2)) (.seq (.block 3 (.seq (IV 1152613) (IV 1676901))) (IV 497253))))
def SO:=AD6
@[simp] def AD7:bq:=(.seq (IV 69) (.seq (.cond (.tmp 20) .skip (.exit 0)) (.seq (.block 1 (.seq (IV 1125) (.seq (IV 2661) (.seq (.seq (IV 9829) (.block 2 (.loop SO))) (IV 7781))))) (IV 485))))
def SP:=AD7
def A3L:bq:=(.seq (IV 2) (.seq (.seq (IV 9) (.block 0 (.loop SP))) (.seq (IV 11) .ret)))
theorem BD3:Tryz.f157.body=some A3L:=by kernel_rfl
@[simp] theorem BMA:UX 66 SO AD6/\UX 66 SP AD7/\SX 66 (IV 2) [oq 4 (.box (tq 0)),oq 7 (.box (tq 3)),oq 8 (.alloc 207)] [0,1,2,3] [4]/\SX 66 (IV 9) [om 14 1,oq 15 (.oth (.nilCheck (tq 14))),oz 16 250 15 1,ol 17 23 16,oe 18 17 23,ok 19 0] [1,2,4,7,8] [4,7,8]/\SX 66 (IV 69) [ob 20 .lss 3 19 18] [1,2,4,7,8,17,18,19] [4,7,8]/\SX 66 (IV 1125) [om 21 19,oi 22 23 17 19,ol 23 22 22,om 9 21,om 10 23] [1,2,4,7,8,17,18,19] [4,7,8]/\SX 66 (IV 2661) [oq 24 (.build 207 [(0,ci 1),(1,ci 0)]),oq 11 (.alloc 207),os (.sto 207 (tq 11) (tq 24))] [1,2,4,7,8,9,10,17,18,19] [4,7,8]/\SX 66 (IV 9829) [om 25 10,oe 26 25 22,ok 27 0] [1,2,4,7,8,9,10,11,17,18,19] [4,7,8,11]/\SX 66 (IV 71269) [ob 28 .lss 3 27 26] [1,2,4,7,8,9,11,17,18,19,25,26,27] [4,7,8,11]/\SX 66 (IV 1152613) [oi 29 22 25 27,ol 30 3 29,om 13 30] [1,2,4,7,8,9,11,17,18,19,25,26,27] [4,7,8,11]/\RX 66 (IV 1676901) (.drw [⟨[],[oq 31 (.ldz 207 (tq 11)),oz 32 238 4 0,oq 33 (.ldz 236 (tq 32)),om 34 1,oq 35 (.oth (.nilCheck (tq 34))),oz 36 250 35 0,oq 37 (.ldz 40 (tq 36)),oq 38 (.ldz 86 (tq 7)),om 39 9,om 40 2,om 41 9,oi 42 23 40 41,oq 43 (.ldz 22 (tq 42)),oz 44 86 7 0,oq 45 (.ldz 3 (tq 44)),oi 46 22 43 45,oq 47 (.ldz 3 (tq 46)),om 48 13,od 49 153 [tq 37,tq 38,tq 39,tq 47,tq 48],oq 50 (.call false none (tq 33) [tq 49])],[oq 51 (.call true none (.func 186) [tq 31,tq 50])]⟩,⟨[],[],[os (.sto 207 (tq 11) (tq 51))]⟩]) (some ([1,2,4,7,8,9,11,13,17,18,19,25,26,27],[4,7,8,11]))/\SX 66 (IV 497253) [oc 52 .add 3 27 1,om 27 52] [1,2,4,7,8,9,11,17,18,19,25,26,27] [4,7,8,11]/\SX 66 (IV 7781) [oz 53 207 8 0,ol 54 3 53,oz 55 207 11 0,ol 56 3 55,ob 57 .add 3 54 56,oz 58 207 8 1,ol 59 3 58,oz 60 207 11 1,ol 61 3 60,ob 62 .add 3 59 61,oq 63 (.build 207 [(0,tq 57),(1,tq 62)]),os (.sto 207 (tq 8) (tq 63))] [1,2,4,7,8,11,17,18,19] [4,7,8,11]/\SX 66 (IV 485) [oc 64 .add 3 19 1,om 19 64] [1,2,4,7,8,17,18,19] [4,7,8]/\SX 66 (IV 11) [ol 65 207 8,os (.sto 207 (tq 8) (tq 65))] [8] [8]/\LX 66 SP [1,2,4,7,8,17,18,19] [4,7,8]/\LX 66 SO [1,2,4,7,8,9,11,17,18,19,25,26,27] [4,7,8,11]:=by and_intros<;>first|exact rx|exact lx|exact fun _ _=>rfl
def AK4:=rg Tryz.f156
def A3M:bq:=(.seq (AK4 2) (.seq (AK4 5) .ret))
theorem BD4:Tryz.f156.body=some A3M:=by kernel_rfl
@[simp] theorem BMB:SX 5 (AK4 2) [oq 1 (.box (tq 0)),ok 2 0] [0] [1]/\SX 5 (AK4 5) [oz 3 155 1 1,ol 4 3 3,om 2 4] [0,1,2] [1,2]:=⟨rx,rx⟩
def AK5:=rg Tryz.f158
def A3N:bq:=(.seq (AK5 2) (.seq (AK5 5) .ret))
theorem BD5:Tryz.f158.body=some A3N:=by kernel_rfl
@[simp] theorem BMC:SX 5 (AK5 2) [oq 1 (.box (tq 0)),ok 2 0] [0] [1]/\SX 5 (AK5 5) [oz 3 155 1 2,ol 4 3 3,om 2 4] [0,1,2] [1,2]:=⟨rx,rx⟩
def D9:=rg Tryz.f117
@[simp] def wB:bq:=(.seq (D9 583840559) (.seq (.cond (.tmp 42) .skip (.exit 4)) (.seq (.block 5 (.seq (D9 9442210607) (D9 13737177903))) (D9 4073501487))))
def N9:=wB
@[simp] def wC:bq:=(.seq (D9 570159) (.seq (.cond (.tmp 34) .skip (.exit 2)) (.seq (.block 3 (.seq (D9 9220911) (.seq (D9 21803823) (.seq (.seq (D9 80524079) (.block 4 (.loop N9))) (D9 63746863))))) (D9 3978031))))
def OA:=wC
@[simp] def AD8:bq:=(.seq (D9 559) (.seq (.cond (.tmp 26) .skip (.exit 0)) (.seq (.block 1 (.seq (D9 9007) (.seq (D9 21295) (.seq (.seq (D9 78639) (.block 2 (.loop OA))) (D9 62255))))) (D9 3887))))
def SQ:=AD8
def AD9:bq:=(.seq (D9 2) (.seq (D9 5) (.seq (.seq (D9 19) (.cond (.tmp 21) (.seq (D9 75) .ret) .skip)) (.seq (D9 23) (.seq (.seq (D9 79) (.block 0 (.loop SQ))) (.seq (D9 95) .ret))))))
theorem BD6:Tryz.f117.body=some AD9:=by kernel_rfl
@[simp] theorem BD7(n:Nat)(st:XS):AE bk ann kn (n+1) 90 (D9 23) st=PW (KC bk (BN bk ann kn n) (.str [oq 8 (.mv (.const (.slice none 0 0)))]) (CH (some ([2,3,6],[2,3,17,900,901,902])) (ND [902] st))) :=
 DT (by kernel_rfl) (by kernel_rfl) (by kernel_rfl) (by kernel_rfl) (by kernel_rfl)
@[simp] theorem BAC(n:Nat)(st:XS):AE bk ann kn (n+1) 90 (D9 62255) st=PW (KC bk (BN bk ann kn n) (.str [om 84 8,om 85 10,oq 86 (.buildS 197 1 [(0,tq 85)]),oq 87 (.app [tq 84,tq 86] [197,197]),om 8 87]) (CH (some ([2,3,6,8,10,24,25],[2,3,17,30,87])) (ND [30] st))) :=
 DT (by kernel_rfl) (by kernel_rfl) (by kernel_rfl) (by kernel_rfl) (by kernel_rfl)
@[simp] theorem BMD:UX 90 N9 wB/\UX 90 OA wC/\UX 90 SQ AD8/\SX 90 (D9 2) [oq 2 (.box (tq 0)),oq 3 (.box (tq 1)),oq 4 (.mv (.const (.slice none 0 0))),ok 5 0] [0,1] [2,3,17,900,901,902]/\SX 90 (D9 5) [ol 15 40 2,oq 16 (.oth (.makeFunc (.func 155) #[] #[tq 2,tq 3])),od 17 154 [tq 15,tq 16],om 14 17,oq 18 (.oth (.extract (tq 14) 0)),oq 19 (.oth (.extract (tq 14) 1)),om 6 18,om 7 19] [2,3] [2,3,17,900,901,902]/\SX 90 (D9 19) [om 20 7,oc 21 .neq 34 20 0] [2,3,6,7] [2,3,17,900,901,902]/\SX 90 (D9 75) [om 22 7,oq 4 (.mv (.const (.slice none 0 0))),om 5 22] [7] []/\SX 90 (D9 79) [oz 23 40 2 1,ol 24 3 23,ok 25 0] [2,3,6,8] [2,3,17,87]/\SX 90 (D9 559) [ob 26 .lss 3 25 24] [2,3,6,8,24,25] [2,3,17,87]/\SX 90 (D9 9007) [om 27 25,om 9 27] [2,3,6,8,24,25] [2,3,17,87]/\SX 90 (D9 21295) [oz 28 40 2 2,ol 29 3 28,oq 30 (.mkS 204 (tq 29) (tq 29)),om 10 30] [2,3,6,8,9,24,25] [2,3,17,87]/\SX 90 (D9 78639) [om 31 10,oe 32 31 204,ok 33 0] [2,3,6,8,9,10,24,25] [2,3,17,30,87]/\SX 90 (D9 570159) [ob 34 .lss 3 33 32] [2,3,6,8,9,10,24,25,32,33] [2,3,17,30,87]/\SX 90 (D9 9220911) [om 35 33,om 11 35] [2,3,6,8,9,10,24,25,32,33] [2,3,17,30,87]/\SX 90 (D9 21803823) [om 36 9,om 37 11,oq 38 (.build 86 [(0,tq 36),(1,tq 37)]),oq 12 (.alloc 86),os (.sto 86 (tq 12) (tq 38))] [2,3,6,8,9,10,11,24,25,32,33] [2,3,17,30,87]/\SX 90 (D9 80524079) [ol 39 23 3,oe 40 39 23,ok 41 0] [2,3,6,8,9,10,11,12,24,25,32,33] [2,3,12,17,30,87]/\SX 90 (D9 583840559) [ob 42 .lss 3 41 40] [2,3,6,8,9,10,11,12,24,25,32,33,40,41] [2,3,12,17,30,87]/\SX 90 (D9 9442210607) [om 43 41,om 13 43] [2,3,6,8,9,10,11,12,24,25,32,33,40,41] [2,3,12,17,30,87]/\RX 90 (D9 13737177903) (.drw [⟨[],[om 44 10,om 45 11,oi 46 204 44 45,oz 47 209 46 0,oq 48 (.ldz 3 (tq 47)),oq 49 (.ldz 40 (tq 2)),oq 50 (.ldz 86 (tq 12)),om 51 13,oq 52 (.ldz 23 (tq 3)),om 53 13,oi 54 23 52 53,oq 55 (.ldz 22 (tq 54)),om 56 9,oi 57 22 55 56,oq 58 (.ldz 3 (tq 57)),od 59 153 [tq 49,tq 50,tq 51,tq 58,ci 0],oq 60 (.oth (.field 155 (tq 59) 0)),ob 61 .add 3 48 60,oi 62 204 44 45,oz 63 209 62 0,os (.sto 3 (tq 63) (tq 61))],[]⟩]) (some ([2,3,6,8,9,10,11,12,13,24,25,32,33,40,41],[2,3,12,17,30,87]))/\SX 90 (D9 4073501487) [oc 64 .add 3 41 1,om 41 64] [2,3,6,8,9,10,11,12,24,25,32,33,40,41] [2,3,12,17,30,87]/\RX 90 (D9 63746863) (.drw [⟨[73,78],[om 65 10,om 66 11,om 67 10,om 68 11,oq 69 (.build 238 [(0,.func 156)]),om 70 6,oq 71 (.ldz 23 (tq 3)),oq 72 (.ldz 86 (tq 12)),oq 74 (.build 238 [(0,.func 158)]),om 75 6,ol 76 23 3,ol 77 86 12,oq 73 (.call true none (.func 157) [tq 69,tq 70,tq 71,tq 72]),oq 78 (.call true none (.func 157) [tq 74,tq 75,tq 76,tq 77]),oi 79 204 65 66,oz 80 209 79 1,os (.sto 207 (tq 80) (tq 73)),oi 81 204 67 68,oz 82 209 81 2,os (.sto 207 (tq 82) (tq 78))],[]⟩]) (some ([2,3,6,8,9,10,11,12,24,25,32,33],[2,3,12,17,30,87]))/\SX 90 (D9 3978031) [oc 83 .add 3 33 1,om 33 83] [2,3,6,8,9,10,24,25,32,33] [2,3,17,30,87]/\SX 90 (D9 3887) [oc 88 .add 3 25 1,om 25 88] [2,3,6,8,24,25] [2,3,17,87]/\SX 90 (D9 95) [om 89 8,om 4 89,ok 5 0] [8] [87]/\LX 90 SQ [2,3,6,8,24,25] [2,3,17,87]/\LX 90 OA [2,3,6,8,9,10,24,25,32,33] [2,3,17,30,87]/\LX 90 N9 [2,3,6,8,9,10,11,12,24,25,32,33,40,41] [2,3,12,17,30,87]:=by and_intros<;>first|exact rx|exact lx|exact fun _ _=>rfl
def AK6:=rg Tryz.f155
def A3O:bq:=(.seq (AK6 2) (.seq (AK6 5) .ret))
theorem b155:Tryz.f155.body=some A3O:=by kernel_rfl
@[simp] theorem BME:SX 6 (AK6 2) [ot 2 false] [0,1] []/\SX 6 (AK6 5) [ol 3 40 0,ol 4 23 1,od 5 111 [tq 3,tq 4],om 2 5] [0,1] []:=⟨rx,rx⟩
def QB:=rg Tryz.f187
@[simp] def AEA:bq:=(.seq (QB 69) (.seq (.cond (.tmp 9) .skip (.exit 0)) (.seq (.block 1 (.seq (QB 1125) (.seq (QB 2661) (.cond (.tmp 16) (.seq (QB 9829) .ret) .skip)))) (QB 485))))
def SU:=AEA
def ASK:bq:=(.seq (QB 2) (.seq (.seq (QB 9) (.block 0 (.loop SU))) (.seq (QB 11) .ret)))
theorem b187:Tryz.f187.body=some ASK:=by kernel_rfl
@[simp] theorem BMF:UX 19 SU AEA/\SX 19 (QB 2) [ok 4 0] [0,1] []/\SX 19 (QB 9) [om 6 0,oe 7 6 28,ok 8 0] [0,1] []/\SX 19 (QB 69) [ob 9 .lss 3 8 7] [0,1,7,8] []/\SX 19 (QB 1125) [om 10 8,om 5 10] [0,1,7,8] []/\SX 19 (QB 2661) [om 11 1,om 12 0,om 13 5,oi 14 28 12 13,ol 15 97 14,oq 16 (.call false none (tq 11) [tq 15])] [0,1,5,7,8] []/\SX 19 (QB 9829) [om 17 5,om 4 17] [5] []/\SX 19 (QB 485) [oc 18 .add 3 8 1,om 8 18] [0,1,3,7,8] []/\SX 19 (QB 11) [oq 4 (.mv (.const (.int .i64 (bj 0))))] [] []/\LX 19 SU [0,1,7,8] []:=⟨fun _ _=>rfl,rx,rx,rx,rx,rx,rx,rx,rx,lx⟩
def AK7:=rg Tryz.f159
def A3P:bq:=(.seq (AK7 2) (.seq (AK7 5) .ret))
theorem b159:Tryz.f159.body=some A3P:=by kernel_rfl
@[simp] theorem BMG:SX 9 (AK7 2) [ot 4 false] [0,1] [7]/\SX 9 (AK7 5) [om 5 0,om 6 1,od 7 187 [tq 5,tq 6],oc 8 .geq 3 7 0,om 4 8] [0,1,2,3] [2,3]:=⟨rx,rx⟩
def AK8:=rg Tryz.f119
def A3Q:bq:=(.seq (AK8 2) (.seq (AK8 5) .ret))
theorem BD8:Tryz.f119.body=some A3Q:=by kernel_rfl
@[simp] theorem BMH:SX 9 (AK8 2) [oq 3 (.box (tq 1)),ot 4 false] [0,1,2] [3]/\SX 9 (AK8 5) [om 5 0,oq 6 (.oth (.makeFunc (.func 160) #[] #[tq 3])),od 7 159 [tq 5,tq 6],ou 8 7,om 4 8] [0,1,2,3] [2,3]:=⟨rx,rx⟩
def AK9:=rg Tryz.f160
def A3R:bq:=(.seq (AK9 2) (.seq (AK9 5) .ret))
theorem b160:Tryz.f160.body=some A3R:=by kernel_rfl
@[simp] theorem BMI:SX 8 (AK9 2) [ot 3 false] [0,1] []/\SX 8 (AK9 5) [ol 4 200 1,om 5 0,oq 6 (.call false none (tq 4) [tq 5]),ou 7 6,om 3 7] [0,1,2] [2]:=⟨rx,rx⟩
def QC:=rg Tryz.f188
@[simp] def AEB:bq:=(.seq (QC 69) (.seq (.cond (.tmp 9) .skip (.exit 0)) (.seq (.block 1 (.seq (QC 1125) (.seq (QC 2661) (.cond (.tmp 16) (.seq (QC 9829) .ret) .skip)))) (QC 485))))
def SV:=AEB
def ASL:bq:=(.seq (QC 2) (.seq (.seq (QC 9) (.block 0 (.loop SV))) (.seq (QC 11) .ret)))
theorem b188:Tryz.f188.body=some ASL:=by kernel_rfl
@[simp] theorem BMJ:UX 19 SV AEB/\SX 19 (QC 2) [ok 4 0] [0,1] []/\SX 19 (QC 9) [om 6 0,oe 7 6 41,ok 8 0] [0,1] []/\SX 19 (QC 69) [ob 9 .lss 3 8 7] [0,1,7,8] []/\SX 19 (QC 1125) [om 10 8,om 5 10] [0,1,7,8] []/\SX 19 (QC 2661) [om 11 1,om 12 0,om 13 5,oi 14 41 12 13,ol 15 94 14,oq 16 (.call false none (tq 11) [tq 15])] [0,1,5,7,8] []/\SX 19 (QC 9829) [om 17 5,om 4 17] [5] []/\SX 19 (QC 485) [oc 18 .add 3 8 1,om 8 18] [0,1,3,7,8] []/\SX 19 (QC 11) [oq 4 (.mv (.const (.int .i64 (bj 0))))] [] []/\LX 19 SV [0,1,7,8] []:=⟨fun _ _=>rfl,rx,rx,rx,rx,rx,rx,rx,rx,lx⟩
def ALA:=rg Tryz.f161
def A3S:bq:=(.seq (ALA 2) (.seq (ALA 5) .ret))
theorem b161:Tryz.f161.body=some A3S:=by kernel_rfl
@[simp] theorem BMK:SX 9 (ALA 2) [ot 4 false] [0,1] [7]/\SX 9 (ALA 5) [om 5 0,om 6 1,od 7 188 [tq 5,tq 6],oc 8 .geq 3 7 0,om 4 8] [0,1,2,3] [2,3]:=⟨rx,rx⟩
def ALB:=rg Tryz.f120
def A3T:bq:=(.seq (ALB 2) (.seq (ALB 5) .ret))
theorem BD9:Tryz.f120.body=some A3T:=by kernel_rfl
@[simp] theorem BML:SX 9 (ALB 2) [oq 3 (.box (tq 1)),ot 4 false] [0,1,2] [3]/\SX 9 (ALB 5) [om 5 0,oq 6 (.oth (.makeFunc (.func 162) #[] #[tq 3])),od 7 161 [tq 5,tq 6],ou 8 7,om 4 8] [0,1,2,3] [2,3]:=⟨rx,rx⟩
def ALC:=rg Tryz.f162
def A3U:bq:=(.seq (ALC 2) (.seq (ALC 5) .ret))
theorem b162:Tryz.f162.body=some A3U:=by kernel_rfl
@[simp] theorem BMM:SX 8 (ALC 2) [oq 2 (.box (tq 0)),ot 3 false] [0,1] []/\SX 8 (ALC 5) [ol 4 203 1,ol 5 94 2,oq 6 (.call false none (tq 4) [tq 5]),ou 7 6,om 3 7] [0,1,2] [2]:=⟨rx,rx⟩
def ALD:=rg Tryz.f163
def A3V:bq:=(.seq (ALD 2) (.seq (ALD 5) .ret))
theorem BEA:Tryz.f163.body=some A3V:=by kernel_rfl
@[simp] theorem BMN:SX 15 (ALD 2) [ot 6 false] [0,1,2] []/\SX 15 (ALD 5) [om 7 1,om 8 0,ob 9 .leq 3 7 8,om 10 9,gm 10 true 11 0,gm 10 true 12 2,gb 10 true 13 .leq 3 11 12,oq 14 (.pick (tq 10) (tq 13) (cb false)),om 6 14] [0,1,2] []:=⟨rx,rx⟩
def ALE:=rg Tryz.f121
def A3W:bq:=(.seq (ALE 2) (.seq (ALE 5) .ret))
theorem BEB:Tryz.f121.body=some A3W:=by kernel_rfl
@[simp] theorem BMO:SX 11 (ALE 2) [oq 1 (.box (tq 0)),ot 2 false] [0] [1,7,910,911]/\SX 11 (ALE 5) [oz 3 94 1 0,ol 4 3 3,od 5 163 [tq 4,ci 1,ci 4],om 6 5,gz 6 true 7 94 1 1,gl 6 true 8 3 7,gd 6 true 9 163 [tq 8,ci 0,ci 5],oq 10 (.pick (tq 6) (tq 9) (cb false)),om 2 10] [1] [1]:=⟨rx,rx⟩
def ALF:=rg Tryz.f118
def A3X:bq:=(.seq (ALF 2) (.seq (ALF 5) .ret))
theorem BEC:Tryz.f118.body=some A3X:=by kernel_rfl
@[simp] theorem BMP:SX 11 (ALF 2) [oq 2 (.box (tq 0)),ot 4 false] [0,1] [2]/\SX 11 (ALF 5) [om 5 1,oe 6 5 97,oz 7 43 2 0,oz 8 40 7 2,ol 9 3 8,ob 10 .eql 3 6 9,om 4 10] [1,2] [2]:=⟨rx,rx⟩
def KS:=rg Tryz.f71
@[simp] def AEC:bq:=(.seq (KS 4561279) (.seq (.cond (.tmp 63) .skip (.exit 2)) (.seq (.block 3 (.seq (KS 73767295) (KS 107321727))) (KS 31824255))))
def SW:=AEC
@[simp] def AED:bq:=(.seq (KS 4479) (.seq (.cond (.tmp 57) .skip (.exit 0)) (.seq (.block 1 (.seq (KS 72063) (.seq (KS 170367) (.seq (.seq (KS 629119) (.block 2 (.loop SW))) (KS 498047))))) (KS 31103))))
def SY:=AED
def c71:bq:=(.seq (KS 2) (.seq (.seq (KS 9) (.cond (.tmp 16) (.seq (KS 37) .ret) .skip)) (.seq (KS 11) (.seq (.seq (KS 39) (.cond (.tmp 26) (.seq (KS 151) .ret) .skip)) (.seq (KS 47) (.seq (.seq (KS 159) (.cond (.tmp 49) (.seq (KS 607) .ret) .skip)) (.seq (KS 191) (.seq (.seq (KS 639) (.block 0 (.loop SY))) (.seq (KS 767) .ret)))))))))
theorem b71:Tryz.f71.body=some c71:=by kernel_rfl
@[simp] theorem BED(n:Nat)(st:XS):AE bk ann kn (n+1) 85 (KS 767) st=PW (KC bk (BN bk ann kn n) (.str [om 84 7,om 2 84,ok 3 0]) (CH (some ([7],[1,22,51,53,80])) (ND [80,911051,912053] st))) :=
 DT (by kernel_rfl) (by kernel_rfl) (by kernel_rfl) (by kernel_rfl) (by kernel_rfl)
@[simp] theorem x71:UX 85 SW AEC/\UX 85 SY AED/\SX 85 (KS 2) [oq 1 (.box (tq 0)),oq 2 (.mv (.const (.pointer none))),ok 3 0] [0] [1,22,51,53,80]/\SX 85 (KS 9) [oz 13 43 1 3,ol 14 41 13,oe 15 14 41,oc 16 .gtr 3 15 3] [1] [1,22,51,53,80]/\SX 85 (KS 37) [oq 2 (.mv (.const (.pointer none))),ok 3 3] [] []/\SX 85 (KS 11) [oz 18 43 1 0,ol 19 40 18,oz 20 43 1 1,ol 21 23 20,od 22 117 [tq 19,tq 21],om 17 22,oq 23 (.oth (.extract (tq 17) 0)),oq 24 (.oth (.extract (tq 17) 1)),om 4 23,om 5 24] [1] [1,22,51,53,80]/\SX 85 (KS 39) [om 25 5,oc 26 .neq 34 25 0] [1,4,5] [1,22,51,53,80]/\SX 85 (KS 151) [om 27 5,oq 2 (.mv (.const (.pointer none))),om 3 27] [5] []/\SX 85 (KS 47) [ol 28 43 1,oq 29 (.oth (.makeFunc (.func 118) #[tq 28] #[])),om 6 29] [1,4] [1,22,51,53,80]/\SX 85 (KS 159) [oz 30 43 1 2,ol 31 28 30,oe 32 31 28,oz 33 43 1 0,oz 34 40 33 1,ol 35 3 34,ob 36 .neq 3 32 35,om 37 36,gz 37 false 38 43 1 2,gl 37 false 39 28 38,gm 37 false 40 6,gd 37 false 41 119 [tq 39,tq 40],og 37 false 42 (.oth (.unOp .not 4 (tq 41))),oq 43 (.pick (tq 37) (cb true) (tq 42)),om 44 43,gz 44 false 45 43 1 3,gl 44 false 46 41 45,gd 44 false 47 120 [tq 46,.func 121],og 44 false 48 (.oth (.unOp .not 4 (tq 47))),oq 49 (.pick (tq 44) (cb true) (tq 48))] [1,4,6] [1,22,51,53,80]/\SX 85 (KS 607) [oq 2 (.mv (.const (.pointer none))),ok 3 1] [] []/\SX 85 (KS 191) [ol 50 43 1,oq 51 (.mkM none),oq 52 (.build 175 [(0,tq 50),(1,.const (.slice none 0 0)),(2,tq 51)]),oq 53 (.box (tq 52)),om 7 53] [1,4] [1,22,51,53,80]/\SX 85 (KS 639) [om 54 4,oe 55 54 197,ok 56 0] [4,7] [1,22,51,53,80]/\SX 85 (KS 4479) [ob 57 .lss 3 56 55] [7,54,55,56] [1,22,51,53,80]/\SX 85 (KS 72063) [oi 58 197 54 56,ol 59 204 58,om 9 59] [7,54,55,56] [1,22,51,53,80]/\SX 85 (KS 170367) [oq 10 (.alloc 206)] [7,9,54,55,56] [1,22,51,53,80]/\SX 85 (KS 629119) [om 60 9,oe 61 60 204,ok 62 0] [7,9,10,54,55,56] [1,10,22,51,53,80]/\SX 85 (KS 4561279) [ob 63 .lss 3 62 61] [7,10,54,55,56,60,61,62] [1,10,22,51,53,80]/\SX 85 (KS 73767295) [om 64 62,oi 65 204 60 62,ol 66 209 65,oq 12 (.alloc 209),om 11 64,os (.sto 209 (tq 12) (tq 66))] [7,10,54,55,56,60,61,62] [1,10,22,51,53,80]/\SX 85 (KS 107321727) [om 67 11,oz 68 209 12 2,oz 69 207 68 0,ol 70 3 69,oi 71 206 10 67,os (.sto 3 (tq 71) (tq 70))] [7,10,11,12,54,55,56,60,61,62] [1,10,12,22,51,53,80]/\SX 85 (KS 31824255) [oc 72 .add 3 62 1,om 62 72] [7,10,54,55,56,60,61,62] [1,10,22,51,53,80]/\RX 85 (KS 498047) (.drw [⟨[],[om 73 7,om 74 7,oq 75 (.oth (.nilCheck (tq 74))),oz 76 175 75 1,oq 77 (.ldz 172 (tq 76)),ol 78 206 10,oq 79 (.buildS 172 1 [(0,tq 78)]),oq 80 (.app [tq 77,tq 79] [172,172]),oq 81 (.oth (.nilCheck (tq 73))),oz 82 175 81 1,os (.sto 172 (tq 82) (tq 80))],[]⟩]) (some ([7,10,54,55,56],[1,10,22,51,53,80]))/\SX 85 (KS 31103) [oc 83 .add 3 56 1,om 56 83] [7,54,55,56] [1,22,51,53,80]/\LX 85 SY [7,54,55,56] [1,22,51,53,80]/\LX 85 SW [7,10,54,55,56,60,61,62] [1,10,22,51,53,80]:=by and_intros<;>first|exact rx|exact lx|exact fun _ _=>rfl
def g24:=rg Tryz.f24
def c24:bq:=(.seq (g24 2) (.seq (g24 5) (.seq (g24 11) .ret)))
def QD:=rg Tryz.f189
@[simp] def AEE:bq:=(.seq (QD 69) (.seq (.cond (.tmp 9) .skip (.exit 0)) (.seq (.block 1 (.seq (QD 1125) (.seq (QD 2661) (.cond (.tmp 16) (.seq (QD 9829) .ret) .skip)))) (QD 485))))
def SZ:=AEE
def ALH:bq:=(.seq (QD 2) (.seq (.seq (QD 9) (.block 0 (.loop SZ))) (.seq (QD 11) .ret)))
theorem b189:Tryz.f189.body=some ALH:=by kernel_rfl
@[simp] theorem BMQ:UX 19 SZ AEE/\SX 19 (QD 2) [ok 4 0] [0,1] []/\SX 19 (QD 9) [om 6 0,oe 7 6 120,ok 8 0] [0,1] []/\SX 19 (QD 69) [ob 9 .lss 3 8 7] [0,1,7,8] []/\SX 19 (QD 1125) [om 10 8,om 5 10] [0,1,7,8] []/\SX 19 (QD 2661) [om 11 1,om 12 0,om 13 5,oi 14 120 12 13,ol 15 153 14,oq 16 (.call false none (tq 11) [tq 15])] [0,1,5,7,8] []/\SX 19 (QD 9829) [om 17 5,om 4 17] [5] []/\SX 19 (QD 485) [oc 18 .add 3 8 1,om 8 18] [0,1,3,7,8] []/\SX 19 (QD 11) [oq 4 (.mv (.const (.int .i64 (bj 0))))] [] []/\LX 19 SZ [0,1,7,8] []:=⟨fun _ _=>rfl,rx,rx,rx,rx,rx,rx,rx,rx,lx⟩
def ALI:=rg Tryz.f171
def ASM:bq:=(.seq (ALI 2) (.seq (ALI 5) .ret))
theorem b171:Tryz.f171.body=some ASM:=by kernel_rfl
@[simp] theorem BMR:SX 9 (ALI 2) [ot 4 false] [0,1] [7]/\SX 9 (ALI 5) [om 5 0,om 6 1,od 7 189 [tq 5,tq 6],oc 8 .geq 3 7 0,om 4 8] [0,1,2,3] [2,3]:=⟨rx,rx⟩
def ALJ:=rg Tryz.f137
def ASN:bq:=(.seq (ALJ 2) (.seq (ALJ 5) .ret))
theorem b137:Tryz.f137.body=some ASN:=by kernel_rfl
@[simp] theorem BMS:SX 9 (ALJ 2) [oq 3 (.box (tq 1)),ot 4 false] [0,1,2] [3]/\SX 9 (ALJ 5) [om 5 0,oq 6 (.oth (.makeFunc (.func 172) #[] #[tq 3])),od 7 171 [tq 5,tq 6],ou 8 7,om 4 8] [0,1,2,3] [2,3]:=⟨rx,rx⟩
def ALK:=rg Tryz.f172
def A3Y:bq:=(.seq (ALK 2) (.seq (ALK 5) .ret))
theorem b172:Tryz.f172.body=some A3Y:=by kernel_rfl
@[simp] theorem BMT:SX 8 (ALK 2) [oq 2 (.box (tq 0)),ot 3 false] [0,1] []/\SX 8 (ALK 5) [ol 4 221 1,ol 5 153 2,oq 6 (.call false none (tq 4) [tq 5]),ou 7 6,om 3 7] [0,1,2] [2]:=⟨rx,rx⟩
def AAB:=rg Tryz.f173
def A3Z:bq:=(.seq (AAB 2) (.seq (AAB 5) (.seq (AAB 11) .ret)))
theorem BEE:Tryz.f173.body=some A3Z:=by kernel_rfl
@[simp] theorem BMU:SX 38 (AAB 2) [oq 3 (.box (tq 0)),ot 6 false] [0,1,2] [3]/\RX 38 (AAB 5) (.drw [⟨[7,8],[oz 9 43 3 3,oq 10 (.ldz 41 (tq 9)),om 11 1,oi 12 41 10 11,oq 13 (.ldz 94 (tq 12)),oz 14 43 3 3,ol 15 41 14,om 16 2,oi 17 41 15 16,ol 18 94 17,oq 7 (.alloc 94),oq 8 (.alloc 94),os (.sto 94 (tq 7) (tq 13))],[os (.sto 94 (tq 8) (tq 18))]⟩]) (some ([1,2,3],[3]))/\SX 38 (AAB 11) [om 19 1,om 20 2,ob 21 .neq 3 19 20,om 22 21,gz 22 true 23 94 7 3,gl 22 true 24 4 23,gm 22 true 25 24,gz 25 true 26 94 8 2,gl 25 true 27 4 26,og 22 true 28 (.pick (tq 25) (tq 27) (cb false)),gm 22 true 29 28,gz 29 false 30 94 7 2,gl 29 false 31 4 30,gm 29 false 32 31,gz 32 true 33 94 8 3,gl 32 true 34 4 33,og 29 false 35 (.pick (tq 32) (tq 34) (cb false)),og 22 true 36 (.pick (tq 29) (cb true) (tq 35)),oq 37 (.pick (tq 22) (tq 36) (cb false)),om 6 37] [1,2,7,8] [7,8]:=⟨rx,rx,rx⟩
def eH:=rg Tryz.f139
def AEF:bq:=(.seq (eH 2) (.seq (.seq (eH 9) (.cond (.tmp 14) (.seq (eH 37) .ret) .skip)) (.seq (eH 11) (.seq (eH 23) .ret))))
theorem BEF:Tryz.f139.body=some AEF:=by kernel_rfl
@[simp] theorem BMV:SX 55 (eH 2) [oq 3 (.box (tq 0)),oq 4 (.box (tq 1)),oq 5 (.box (tq 2)),ot 6 false] [0,1,2] [3]/\SX 55 (eH 9) [oz 8 153 4 1,oz 9 86 8 0,ol 10 3 9,oz 11 153 5 1,oz 12 86 11 0,ol 13 3 12,ob 14 .neq 3 10 13] [3,4,5] [3,4,5]/\SX 55 (eH 37) [ot 6 true] [] []/\SX 55 (eH 11) [oz 15 153 4 1,oz 16 86 15 1,ol 17 3 16,oz 18 153 5 1,oz 19 86 18 1,ol 20 3 19,ob 21 .sub 3 17 20,oz 22 153 5 0,oz 23 151 22 1,ol 24 3 23,ob 25 .sub 3 21 24,oz 26 153 5 1,oz 27 86 26 1,ol 28 3 27,oz 29 153 4 1,oz 30 86 29 1,ol 31 3 30,ob 32 .sub 3 28 31,oz 33 153 4 0,oz 34 151 33 1,ol 35 3 34,ob 36 .sub 3 32 35,oq 37 (.oth (.call ⟨.builtin .max,#[tq 25,tq 36],#[3,3]⟩)),om 7 37] [3,4,5] [3,4,5]/\SX 55 (eH 23) [om 38 7,oc 39 .gtr 3 38 0,om 40 39,gm 40 false 41 7,gc 40 false 42 .eql 3 41 0,gm 40 false 43 42,gl 43 true 44 43 3,gz 43 true 45 153 4 0,gz 43 true 46 151 45 0,gl 43 true 47 3 46,gz 43 true 48 153 5 0,gz 43 true 49 151 48 0,gl 43 true 50 3 49,gd 43 true 51 173 [tq 44,tq 47,tq 50],og 43 true 52 (.oth (.unOp .not 4 (tq 51))),og 40 false 53 (.pick (tq 43) (tq 52) (cb false)),oq 54 (.pick (tq 40) (cb true) (tq 53)),om 6 54] [3,4,5,7] [3,4,5]:=⟨rx,rx,rx,rx,rx⟩
def JL:=rg Tryz.f140
@[simp] def AEG:bq:=(.seq (JL 18021) (.seq (.cond (.tmp 17) .skip (.exit 2)) (.seq (.block 3 (.seq (JL 288357) (.seq (JL 681573) (.cond (.tmp 20) (JL 1468005) .skip)))) (JL 124517))))
def S0:=AEG
@[simp] def AEH:bq:=(.seq (JL 69) (.seq (.cond (.tmp 11) .skip (.exit 0)) (.seq (.block 1 (.seq (JL 1125) (.seq (JL 2661) (.block 2 (.loop S0))))) (JL 485))))
def S4:=AEH
def A30:bq:=(.seq (JL 2) (.seq (.seq (JL 9) (.block 0 (.loop S4))) (.seq (JL 11) .ret)))
theorem BEG:Tryz.f140.body=some A30:=by kernel_rfl
@[simp] theorem BMW:UX 26 S0 AEG/\UX 26 S4 AEH/\SX 26 (JL 2) [oq 1 (.box (tq 0)),ok 2 0] [0] [1]/\SX 26 (JL 9) [oz 7 43 1 2,ol 8 28 7,oe 9 8 28,ok 10 0] [1,2] [1]/\SX 26 (JL 69) [ob 11 .lss 3 10 9] [2,8,9,10] [1]/\SX 26 (JL 1125) [oi 12 28 8 10,ol 13 97 12,om 4 13] [2,8,9,10] [1]/\SX 26 (JL 2661) [om 14 4,oe 15 14 97,ok 16 0] [2,4,8,9,10] [1]/\SX 26 (JL 18021) [ob 17 .lss 3 16 15] [2,8,9,10,14,15,16] [1]/\SX 26 (JL 288357) [oi 18 97 14 16,ol 19 4 18,om 6 19] [2,8,9,10,14,15,16] [1]/\SX 26 (JL 681573) [om 20 6] [2,6,8,9,10,14,15,16] [1]/\SX 26 (JL 1468005) [om 21 2,oc 22 .add 3 21 1,om 2 22] [2,8,9,10,14,15,16] [1]/\SX 26 (JL 124517) [oc 23 .add 3 16 1,om 16 23] [2,8,9,10,14,15,16] [1]/\SX 26 (JL 485) [oc 24 .add 3 10 1,om 10 24] [2,8,9,10] [1]/\SX 26 (JL 11) [om 25 2,om 2 25] [2] []/\LX 26 S4 [2,8,9,10] [1]/\LX 26 S0 [2,8,9,10,14,15,16] [1]:=by and_intros<;>first|exact rx|exact lx|exact fun _ _=>rfl
def rI:=rg Tryz.f92
@[simp] def AO3:bq:=(.seq (rI 69) (.seq (.cond (.tmp 11) .skip (.exit 0)) (.seq (.block 1 (.seq (rI 1125) (.seq (rI 2661) (.cond (.tmp 18) (rI 5733) .skip)))) (rI 485))))
def ZL:=AO3
def c92:bq:=(.seq (rI 2) (.seq (.seq (rI 9) (.block 0 (.loop ZL))) (.seq (rI 11) .ret)))
theorem b92:Tryz.f92.body=some c92:=by kernel_rfl
@[simp] theorem x92:UX 28 ZL AO3/\SX 28 (rI 2) [oq 2 (.box (tq 0)),oq 4 (.mv (.const (.slice none 0 0)))] [0,1] [2]/\SX 28 (rI 9) [oz 7 43 2 3,ol 8 41 7,oe 9 8 41,ok 10 0] [1,2,4] [2,25]/\SX 28 (rI 69) [ob 11 .lss 3 10 9] [1,4,8,9,10] [2,25]/\SX 28 (rI 1125) [om 12 10,oi 13 41 8 10,ol 14 94 13,oq 6 (.alloc 94),om 5 12,os (.sto 94 (tq 6) (tq 14))] [1,4,8,9,10] [2,25]/\SX 28 (rI 2661) [om 15 1,om 16 5,od 17 132 [tq 15,tq 16],ou 18 17] [1,4,5,6,8,9,10] [2,6,25]/\SX 28 (rI 5733) [om 19 4,om 20 5,oz 21 94 6 0,ol 22 3 21,oq 23 (.build 151 [(0,tq 20),(1,tq 22)]),oq 24 (.buildS 170 1 [(0,tq 23)]),oq 25 (.app [tq 19,tq 24] [170,170]),om 4 25] [1,4,5,6,8,9,10] [2,6,25]/\SX 28 (rI 485) [oc 26 .add 3 10 1,om 10 26] [1,4,8,9,10] [2,25]/\SX 28 (rI 11) [om 27 4,om 4 27] [4] [25]/\LX 28 ZL [1,4,8,9,10] [2,25]:=⟨fun _ _=>rfl,rx,rx,rx,rx,rx,rx,rx,rx,lx⟩
def wD:=rg Tryz.f72
@[simp] def AO4:bq:=(lp (wD 267) 8 0 1 (wD 587) (wD 459))
def ZM:=AO4
def c72:bq:=(.seq (wD 2) (.seq (wD 5) (.seq (.seq (wD 19) (.block 0 (.loop ZM))) (.seq (wD 23) .ret))))
theorem b72:Tryz.f72.body=some c72:=by kernel_rfl
@[simp] theorem x72:UX 19 ZM AO4/\SX 19 (wD 2) [ok 2 0] [0] []/\SX 19 (wD 5) [ok 3 0] [0] []/\SX 19 (wD 19) [ok 4 0] [0,3] []/\SX 19 (wD 267) [om 5 4,om 6 0,oe 7 6 49,ob 8 .lss 3 5 7] [0,3,4] []/\SX 19 (wD 587) [om 11 3,om 12 0,om 13 4,oi 14 49 12 13,oz 15 135 14 1,ol 16 3 15,ob 17 .add 3 11 16,om 3 17] [0,3,4] []/\SX 19 (wD 459) [om 9 4,oc 10 .add 3 9 1,om 4 10] [0,3,4] []/\SX 19 (wD 23) [om 18 3,om 2 18] [0,1,3,7,8] []/\LX 19 ZM [0,3,4] []:=⟨fun _ _=>rfl,rx,rx,rx,rx,rx,rx,rx,lx⟩
def dZ:=rg Tryz.f73
@[simp] def AO5:bq:=(lp (dZ 16971) 20 2 3 (.seq (dZ 70219) (.cond (.tmp 30) (dZ 168523) .skip)) (dZ 29259))
def ZN:=AO5
@[simp] def AO6:bq:=(lp (dZ 267) 10 0 1 (.seq (dZ 1099) (.block 2 (.loop ZN))) (dZ 459))
def ZO:=AO6
def c73:bq:=(.seq (dZ 2) (.seq (dZ 5) (.seq (.seq (dZ 19) (.block 0 (.loop ZO))) (.seq (dZ 23) .ret))))
theorem b73:Tryz.f73.body=some c73:=by kernel_rfl
@[simp] theorem x73:UX 34 ZN AO5/\UX 34 ZO AO6/\SX 34 (dZ 2) [oq 1 (.box (tq 0)),ok 2 0] [0] [1]/\SX 34 (dZ 5) [ok 3 0] [1] [1]/\SX 34 (dZ 19) [ok 4 0] [1,3] [1]/\SX 34 (dZ 267) [om 6 4,oz 7 31 1 2,ol 8 28 7,oe 9 8 28,ob 10 .lss 3 6 9] [1,3,4] [1]/\SX 34 (dZ 1099) [ok 5 0] [1,3,4] [1]/\SX 34 (dZ 16971) [om 13 5,oz 14 31 1 2,ol 15 28 14,om 16 4,oi 17 28 15 16,ol 18 97 17,oe 19 18 97,ob 20 .lss 3 13 19] [1,3,4,5] [1]/\SX 34 (dZ 70219) [oz 23 31 1 2,ol 24 28 23,om 25 4,oi 26 28 24 25,ol 27 97 26,om 28 5,oi 29 97 27 28,ol 30 4 29] [1,3,4,5] [1]/\SX 34 (dZ 168523) [om 31 3,oc 32 .add 3 31 1,om 3 32] [1,3,4,5] [1]/\SX 34 (dZ 29259) [om 21 5,oc 22 .add 3 21 1,om 5 22] [1,3,4,5] [1]/\SX 34 (dZ 459) [om 11 4,oc 12 .add 3 11 1,om 4 12] [1,3,4] [1]/\SX 34 (dZ 23) [om 33 3,om 2 33] [3] []/\LX 34 ZO [1,3,4] [1]/\LX 34 ZN [1,3,4,5] [1]:=by and_intros<;>first|exact rx|exact lx|exact fun _ _=>rfl
def AAC:=rg Tryz.f122
def A31:bq:=(.seq (AAC 2) (.seq (AAC 5) (.seq (AAC 11) .ret)))
theorem BEI:Tryz.f122.body=some A31:=by kernel_rfl
@[simp] theorem BMZ:SX 38 (AAC 2) [oq 3 (.box (tq 0)),ot 6 false] [0,1,2] [3]/\RX 38 (AAC 5) (.drw [⟨[7,8],[oz 9 31 3 3,oq 10 (.ldz 29 (tq 9)),om 11 1,oi 12 29 10 11,oq 13 (.ldz 57 (tq 12)),oz 14 31 3 3,ol 15 29 14,om 16 2,oi 17 29 15 16,ol 18 57 17,oq 7 (.alloc 57),oq 8 (.alloc 57),os (.sto 57 (tq 7) (tq 13))],[os (.sto 57 (tq 8) (tq 18))]⟩]) (some ([1,2,3],[3]))/\SX 38 (AAC 11) [om 19 1,om 20 2,ob 21 .neq 3 19 20,om 22 21,gz 22 true 23 57 7 3,gl 22 true 24 4 23,gm 22 true 25 24,gz 25 true 26 57 8 2,gl 25 true 27 4 26,og 22 true 28 (.pick (tq 25) (tq 27) (cb false)),gm 22 true 29 28,gz 29 false 30 57 8 3,gl 29 false 31 4 30,gm 29 false 32 31,gz 32 true 33 57 7 2,gl 32 true 34 4 33,og 29 false 35 (.pick (tq 32) (tq 34) (cb false)),og 22 true 36 (.pick (tq 29) (cb true) (tq 35)),oq 37 (.pick (tq 22) (tq 36) (cb false)),om 6 37] [1,2,7,8] [7,8]:=⟨rx,rx,rx⟩
def NJ:=rg Tryz.f74
@[simp] def AEI:bq:=(lp (NJ 8689967) 73 4 5 (.seq (NJ 35952943) (.seq (NJ 86284591) (.cond (.tmp 111) (.seq (NJ 321165615) .ret) .skip))) (NJ 14981423))
def S5:=AEI
@[simp] def AEJ:bq:=(lp (NJ 137519) 68 2 3 (.seq (NJ 563503) (.block 4 (.loop S5))) (NJ 235823))
def S6:=AEJ
@[simp] def AO7:bq:=(lp (NJ 1071) 51 0 1 (.seq (.seq (NJ 8495) (.cond (.tmp 61) (.exit 1) .skip)) (.seq (NJ 10543) (.block 2 (.loop S6)))) (NJ 1839))
def ZP:=AO7
def c74:bq:=(.seq (NJ 2) (.seq (NJ 5) (.seq (NJ 11) (.seq (.seq (NJ 39) (.cond (.tmp 48) (.seq (NJ 151) .ret) .skip)) (.seq (.seq (NJ 79) (.block 0 (.loop ZP))) (.seq (NJ 95) .ret))))))
theorem b74:Tryz.f74.body=some c74:=by kernel_rfl
@[simp] theorem x74:UX 112 S5 AEI/\UX 112 S6 AEJ/\UX 112 ZP AO7/\SX 112 (NJ 2) [oq 3 (.box (tq 0)),ot 6 false] [0,1,2] [3]/\SX 112 (NJ 5) [om 14 2,oe 15 14 24,oc 16 .sub 3 15 1,om 7 16] [1,2,3] [3]/\RX 112 (NJ 11) (.drw [⟨[8],[om 17 2,om 18 7,oi 19 24 17 18,oq 20 (.ldz 59 (tq 19)),om 21 1,om 22 7,oi 23 49 21 22,oz 24 135 23 1,ol 25 3 24,oq 8 (.alloc 59),os (.sto 59 (tq 8) (tq 20)),om 9 25],[]⟩]) (some ([1,2,3,7],[3]))/\SX 112 (NJ 39) [oz 26 59 8 0,ol 27 3 26,oz 28 31 3 0,oz 29 27 28 1,ol 30 3 29,oc 31 .sub 3 30 1,od 32 57 [tq 27,ci 0,tq 31],ou 33 32,om 34 33,gz 34 false 35 59 8 1,gl 34 false 36 3 35,gc 34 false 37 .lss 3 36 0,oq 38 (.pick (tq 34) (cb true) (tq 37)),om 39 38,gz 39 false 40 59 8 1,gl 39 false 41 3 40,gz 39 false 42 31 3 0,gz 39 false 43 27 42 2,gl 39 false 44 3 43,gm 39 false 45 9,gb 39 false 46 .sub 3 44 45,gb 39 false 47 .gtr 3 41 46,oq 48 (.pick (tq 39) (cb true) (tq 47))] [1,2,3,7,8,9] [3,8]/\SX 112 (NJ 151) [ot 6 false] [] []/\SX 112 (NJ 79) [ok 10 0] [1,2,3,7,8,9] [3,8]/\SX 112 (NJ 1071) [om 49 10,om 50 7,ob 51 .lss 3 49 50] [1,2,3,7,8,9,10] [3,8]/\RX 112 (NJ 8495) (.drw [⟨[],[om 54 2,om 55 10,oi 56 24 54 55,oz 57 59 56 0,ol 58 3 57,oz 59 59 8 0,ol 60 3 59,ob 61 .neq 3 58 60],[]⟩]) (some ([1,2,3,7,8,9,10],[3,8]))/\SX 112 (NJ 10543) [ok 11 0] [1,2,3,7,8,9,10] [3,8]/\SX 112 (NJ 137519) [om 62 11,om 63 1,om 64 10,oi 65 49 63 64,oz 66 135 65 1,ol 67 3 66,ob 68 .lss 3 62 67] [1,2,3,7,8,9,10,11] [3,8]/\SX 112 (NJ 563503) [ok 12 0] [1,2,3,7,8,9,10,11] [3,8]/\SX 112 (NJ 8689967) [om 71 12,om 72 9,ob 73 .lss 3 71 72] [1,2,3,7,8,9,10,11,12] [3,8]/\RX 112 (NJ 35952943) (.drw [⟨[],[om 76 2,om 77 10,oi 78 24 76 77,oz 79 59 78 1,ol 80 3 79,om 81 11,ob 82 .add 3 80 81,oz 83 59 8 1,ol 84 3 83,ob 85 .sub 3 82 84,om 86 12,ob 87 .sub 3 85 86,om 13 87],[]⟩]) (some ([1,2,3,7,8,9,10,11,12],[3,8]))/\RX 112 (NJ 86284591) (.drw [⟨[],[om 88 13,oc 89 .eql 3 88 0,om 90 89,gm 90 false 91 13,gc 90 false 92 .eql 3 91 1,gm 90 false 93 92,gm 93 false 94 13,og 93 false 95 (.bin .eql 3 (tq 94) (.const (.int .i64 (bj 0)))),og 90 false 96 (.pick (tq 93) (cb true) (tq 95)),gm 90 false 97 96,gl 97 true 98 31 3,gm 97 true 99 1,gm 97 true 100 10,gi 97 true 101 49 99 100,gz 97 true 102 135 101 0,gl 97 true 103 3 102,gm 97 true 104 1,gm 97 true 105 7,gi 97 true 106 49 104 105,gz 97 true 107 135 106 0,gl 97 true 108 3 107],[gd 97 true 109 122 [tq 98,tq 103,tq 108]]⟩,⟨[],[og 90 false 110 (.pick (tq 97) (tq 109) (cb false)),oq 111 (.pick (tq 90) (cb true) (tq 110))],[]⟩]) (some ([1,2,3,7,8,9,10,11,12,13],[3,8]))/\SX 112 (NJ 321165615) [ot 6 false] [] []/\SX 112 (NJ 14981423) [om 74 12,oc 75 .add 3 74 1,om 12 75] [1,2,3,7,8,9,10,11,12] [3,8]/\SX 112 (NJ 235823) [om 69 11,oc 70 .add 3 69 1,om 11 70] [1,2,3,7,8,9,10,11] [3,8]/\SX 112 (NJ 1839) [om 52 10,oc 53 .add 3 52 1,om 10 53] [1,2,3,7,8,9,10] [3,8]/\SX 112 (NJ 95) [ot 6 true] [] []/\LX 112 ZP [1,2,3,7,8,9,10] [3,8]/\LX 112 S6 [1,2,3,7,8,9,10,11] [3,8]/\LX 112 S5 [1,2,3,7,8,9,10,11,12] [3,8]:=by and_intros<;>first|exact rx|exact lx|exact fun _ _=>rfl
def U5:=rg Tryz.f18
@[simp] def AO8:bq:=(lp (U5 267) 31 0 1 (.seq (U5 1099) (.cond (.tmp 40) (.seq (U5 4683) .ret) .skip)) (U5 459))
def ZQ:=AO8
@[simp] def AO9:bq:=(lp (U5 535) 45 2 3 (.seq (U5 2199) (.cond (.tmp 54) (.seq (U5 9367) .ret) .skip)) (U5 919))
def ZR:=AO9
def c18:bq:=(.seq (U5 2) (.seq (.seq (U5 9) (.cond (.tmp 26) (.seq (U5 37) .ret) .skip)) (.seq (.seq (U5 19) (.block 0 (.loop ZQ))) (.seq (.seq (U5 39) (.block 2 (.loop ZR))) (.seq (U5 47) .ret)))))
theorem b18:Tryz.f18.body=some c18:=by kernel_rfl
@[simp] theorem x18:UX 55 ZQ AO8/\UX 55 ZR AO9/\SX 55 (U5 2) [oq 1 (.box (tq 0)),ot 2 false] [0] [1]/\SX 55 (U5 9) [oz 5 31 1 0,ol 6 27 5,od 7 64 [tq 6],ou 8 7,om 9 8,gz 9 false 10 31 1 1,gl 9 false 11 23 10,ge 9 false 12 11 23,gc 9 false 13 .gtr 3 12 7,oq 14 (.pick (tq 9) (cb true) (tq 13)),om 15 14,gz 15 false 16 31 1 2,gl 15 false 17 28 16,ge 15 false 18 17 28,gc 15 false 19 .gtr 3 18 7,oq 20 (.pick (tq 15) (cb true) (tq 19)),om 21 20,gz 21 false 22 31 1 3,gl 21 false 23 29 22,ge 21 false 24 23 29,gc 21 false 25 .gtr 3 24 5,oq 26 (.pick (tq 21) (cb true) (tq 25))] [1] [1]/\SX 55 (U5 37) [ot 2 false] [] []/\SX 55 (U5 19) [ok 3 0] [1] [1]/\SX 55 (U5 267) [om 27 3,oz 28 31 1 1,ol 29 23 28,oe 30 29 23,ob 31 .lss 3 27 30] [1,3] [1]/\SX 55 (U5 1099) [oz 34 31 1 1,ol 35 23 34,om 36 3,oi 37 23 35 36,ol 38 22 37,oe 39 38 22,oc 40 .gtr 3 39 7] [1,3] [1]/\SX 55 (U5 4683) [ot 2 false] [] []/\SX 55 (U5 459) [om 32 3,oc 33 .add 3 32 1,om 3 33] [1,3] [1]/\SX 55 (U5 39) [ok 4 0] [1] [1]/\SX 55 (U5 535) [om 41 4,oz 42 31 1 2,ol 43 28 42,oe 44 43 28,ob 45 .lss 3 41 44] [1,4] [1]/\SX 55 (U5 2199) [oz 48 31 1 2,ol 49 28 48,om 50 4,oi 51 28 49 50,ol 52 97 51,oe 53 52 97,oc 54 .gtr 3 53 7] [1,4] [1]/\SX 55 (U5 9367) [ot 2 false] [] []/\SX 55 (U5 919) [om 46 4,oc 47 .add 3 46 1,om 4 47] [1,4] [1]/\SX 55 (U5 47) [ot 2 true] [] []/\LX 55 ZQ [1,3] [1]/\LX 55 ZR [1,4] [1]:=by and_intros<;>first|exact rx|exact lx|exact fun _ _=>rfl
def wE:=rg Tryz.f69
@[simp] def APA:bq:=(lp (wE 267) 8 0 1 (wE 587) (wE 459))
def ZS:=APA
def c69:bq:=(.seq (wE 2) (.seq (wE 5) (.seq (.seq (wE 19) (.block 0 (.loop ZS))) (.seq (wE 23) .ret))))
theorem b69:Tryz.f69.body=some c69:=by kernel_rfl
@[simp] theorem BID(n:Nat)(st:XS):AE bk ann kn (n+1) 20 (wE 459) st=PW (KC bk (BN bk ann kn n) (.str [om 9 4,oc 10 .add 3 9 1,om 4 10]) (CH (some ([0,3,4],[18])) (ND [16,2000000000000018] st))) :=
 DT (by kernel_rfl) (by kernel_rfl) (by kernel_rfl) (by kernel_rfl) (by kernel_rfl)
@[simp] theorem x69:UX 20 ZS APA/\SX 20 (wE 2) [oq 2 (.mv (.const (.slice none 0 0)))] [0] []/\SX 20 (wE 5) [oq 3 (.mv (.const (.slice none 0 0)))] [0] []/\SX 20 (wE 19) [ok 4 0] [0,3] [18]/\SX 20 (wE 267) [om 5 4,om 6 0,oe 7 6 23,ob 8 .lss 3 5 7] [0,3,4] [18]/\SX 20 (wE 587) [om 11 3,om 12 0,om 13 4,oi 14 23 12 13,ol 15 22 14,oq 16 (.app [.const (.slice none 0 0),tq 15] [22,22]),oq 17 (.buildS 23 1 [(0,tq 16)]),oq 18 (.app [tq 11,tq 17] [23,23]),om 3 18] [0,3,4] [18]/\SX 20 (wE 23) [om 19 3,om 2 19] [3] [18]/\LX 20 ZS [0,3,4] [18]:=⟨fun _ _=>rfl,rx,rx,rx,rx,rx,rx,lx⟩
def rJ:=rg Tryz.f26
@[simp] def APB:bq:=(lp (rJ 267) 11 0 1 (.seq (rJ 1099) (.cond (.tmp 19) (rJ 2635) .skip)) (rJ 459))
def ZT:=APB
def c26:bq:=(.seq (rJ 2) (.seq (rJ 5) (.seq (.seq (rJ 19) (.block 0 (.loop ZT))) (.seq (rJ 23) .ret))))
theorem b26:Tryz.f26.body=some c26:=by kernel_rfl
@[simp] theorem x26:UX 32 ZT APB/\SX 32 (rJ 2) [oq 2 (.box (tq 0)),oq 4 (.mv (.const (.slice none 0 0)))] [0,1] [2]/\SX 32 (rJ 5) [oq 5 (.mv (.const (.slice none 0 0)))] [1,2] [2]/\SX 32 (rJ 19) [ok 6 0] [1,2,5] [2,30]/\SX 32 (rJ 267) [om 7 6,oz 8 31 2 3,ol 9 29 8,oe 10 9 29,ob 11 .lss 3 7 10] [1,2,5,6] [2,30]/\SX 32 (rJ 1099) [om 14 1,om 15 6,oq 16 (.oth (.convert 3 115 (tq 15))),ob 17 .shr 3 14 16,oc 18 .rem 3 17 2,oc 19 .eql 3 18 0] [1,2,5,6] [2,30]/\SX 32 (rJ 2635) [om 20 5,om 21 6,oz 22 31 2 3,ol 23 29 22,om 24 6,oi 25 29 23 24,oz 26 57 25 0,ol 27 3 26,oq 28 (.build 135 [(0,tq 21),(1,tq 27)]),oq 29 (.buildS 49 1 [(0,tq 28)]),oq 30 (.app [tq 20,tq 29] [49,49]),om 5 30] [1,2,5,6] [2,30]/\SX 32 (rJ 459) [om 12 6,oc 13 .add 3 12 1,om 6 13] [1,2,5,6] [2,30]/\SX 32 (rJ 23) [om 31 5,om 4 31] [5] [30]/\LX 32 ZT [1,2,5,6] [2,30]:=⟨fun _ _=>rfl,rx,rx,rx,rx,rx,rx,rx,rx,lx⟩
def QX:=rg Tryz.f104
@[simp] def AEK:bq:=(lp (QX 133) 15 0 1 (.seq (QX 549) (.cond (.tmp 26) (.seq (QX 2341) .ret) .skip)) (QX 229))
def S7:=AEK
def A32:bq:=(.seq (QX 2) (.seq (.seq (QX 9) (.block 0 (.loop S7))) (.seq (QX 11) .ret)))
theorem BEM:Tryz.f104.body=some A32:=by kernel_rfl
@[simp] theorem BM3:UX 41 S7 AEK/\SX 41 (QX 2) [ot 4 false] [0,1] [29,39]/\SX 41 (QX 9) [ok 5 0] [0,1] []/\SX 41 (QX 133) [om 6 5,om 7 0,oe 8 7 22,ob 9 .lss 3 6 8,om 10 9,gm 10 true 11 5,gm 10 true 12 1,ge 10 true 13 12 22,gb 10 true 14 .lss 3 11 13,oq 15 (.pick (tq 10) (tq 14) (cb false))] [0,1,5] []/\RX 41 (QX 549) (.drw [⟨[],[om 18 0,om 19 5,oi 20 22 18 19,ol 21 3 20,om 22 1,om 23 5,oi 24 22 22 23,ol 25 3 24,ob 26 .neq 3 21 25],[]⟩]) (some ([0,1,5],[]))/\RX 41 (QX 2341) (.drw [⟨[],[om 27 0,om 28 5,oi 29 22 27 28,ol 30 3 29,om 31 1,om 32 5,oi 33 22 31 32,ol 34 3 33,ob 35 .lss 3 30 34,om 4 35],[]⟩]) (some ([0,1,5],[]))/\SX 41 (QX 229) [om 16 5,oc 17 .add 3 16 1,om 5 17] [0,1,5] []/\SX 41 (QX 11) [om 36 0,oe 37 36 22,om 38 1,oe 39 38 22,ob 40 .lss 3 37 39,om 4 40] [0,1] []/\LX 41 S7 [0,1,5] []:=⟨fun _ _=>rfl,rx,rx,rx,rx,rx,rx,rx,lx⟩
def g61:=rg Tryz.f61
def c61:bq:=(.seq (g61 2) (.seq (g61 5) .ret))
theorem b61:Tryz.f61.body=some c61:=by kernel_rfl
@[simp] theorem x61:SX 22 (g61 2) [ot 4 false] [0,1] []/\SX 22 (g61 5) [om 5 0,oe 6 5 22,om 7 1,oe 8 7 22,ob 9 .lss 3 6 8,om 10 9,gm 10 false 11 0,ge 10 false 12 11 22,gm 10 false 13 1,ge 10 false 14 13 22,gb 10 false 15 .eql 3 12 14,gm 10 false 16 15,gm 16 true 17 0,gm 16 true 18 1,gd 16 true 19 104 [tq 17,tq 18],og 10 false 20 (.pick (tq 16) (tq 19) (cb false)),oq 21 (.pick (tq 10) (cb true) (tq 20)),om 4 21] [0,1] []:=⟨rx,rx⟩
def wF:=rg Tryz.f88
@[simp] def APC:bq:=(lp (wF 133) 13 0 1 (.seq (wF 549) (.cond (.tmp 34) (.seq (wF 2341) .ret) .skip)) (wF 229))
def ZU:=APC
def c88:bq:=(.seq (wF 2) (.seq (.seq (wF 9) (.block 0 (.loop ZU))) (.seq (wF 11) .ret)))
theorem b88:Tryz.f88.body=some c88:=by kernel_rfl
@[simp] theorem x88:UX 35 ZU APC/\SX 35 (wF 2) [oq 4 (.box (tq 0)),oq 6 (.box (tq 2)),oq 7 (.box (tq 3)),ot 8 false] [0,1,2,3] [4]/\SX 35 (wF 9) [ok 9 0] [1,4,6,7] [4,6,7]/\SX 35 (wF 133) [om 10 9,oz 11 135 6 1,ol 12 3 11,ob 13 .lss 3 10 12] [1,4,6,7,9] [4,6,7]/\RX 35 (wF 549) (.drw [⟨[],[om 16 1,oz 17 59 7 0,ol 18 3 17,oi 19 23 16 18,ol 20 22 19,oz 21 59 7 1,ol 22 3 21,om 23 9,ob 24 .add 3 22 23,oi 25 22 20 24,ol 26 3 25,oz 27 31 4 3,ol 28 29 27,oz 29 135 6 0,ol 30 3 29,oi 31 29 28 30,oz 32 57 31 1,ol 33 3 32,ob 34 .lss 3 26 33],[]⟩]) (some ([1,4,6,7,9],[4,6,7]))/\SX 35 (wF 2341) [ot 8 false] [] []/\SX 35 (wF 229) [om 14 9,oc 15 .add 3 14 1,om 9 15] [1,4,6,7,9] [4,6,7]/\SX 35 (wF 11) [ot 8 true] [] []/\LX 35 ZU [1,4,6,7,9] [4,6,7]:=⟨fun _ _=>rfl,rx,rx,rx,rx,rx,rx,rx,lx⟩
def IW:=rg Tryz.f133
@[simp] def AEL:bq:=(lp (IW 16971) 28 2 3 (.seq (IW 70219) (.seq (IW 168523) (.cond (.tmp 64) (.seq (IW 627275) .ret) .skip))) (IW 29259))
def S8:=AEL
@[simp] def AEM:bq:=(lp (IW 267) 21 0 1 (.seq (IW 1099) (.block 2 (.loop S8))) (IW 459))
def S9:=AEM
def ALL:bq:=(.seq (IW 2) (.seq (.seq (IW 9) (.cond (.tmp 16) (.seq (IW 37) .ret) .skip)) (.seq (.seq (IW 19) (.block 0 (.loop S9))) (.seq (IW 23) .ret))))
theorem A33:Tryz.f133.body=some ALL:=by kernel_rfl
@[simp] theorem BAF(n:Nat)(st:XS):AE bk ann kn (n+1) 65 (IW 168523) st=PW (KC bk (BN bk ann kn n) (.drw [⟨[],[ol 39 31 4,om 40 2,om 41 11],[od 42 74 [tq 39,tq 40,tq 41]]⟩,⟨[],[om 43 42,gl 43 true 44 31 4,gm 43 true 45 1,gm 43 true 46 2,gm 43 true 47 3,ge 43 true 48 47 24,gi 43 true 49 49 46 48,gl 43 true 50 135 49,gm 43 true 51 11,gm 43 true 52 3,ge 43 true 53 52 24,gi 43 true 54 24 51 53,gl 43 true 55 59 54],[gd 43 true 56 88 [tq 44,tq 45,tq 50,tq 55]]⟩,⟨[],[oq 57 (.pick (tq 43) (tq 56) (cb false)),om 58 57,gl 58 true 59 31 4,gm 58 true 60 1,gm 58 true 61 2,gm 58 true 62 11],[gd 58 true 63 133 [tq 59,tq 60,tq 61,tq 62]]⟩,⟨[],[oq 64 (.pick (tq 58) (tq 63) (cb false))],[]⟩]) (CH (some ([1,2,3,4,9,10,11],[4,33,38])) (ND [33] st))) :=
 DT (by kernel_rfl) (by kernel_rfl) (by kernel_rfl) (by kernel_rfl) (by kernel_rfl)
@[simp] theorem BM6:UX 65 S8 AEL/\UX 65 S9 AEM/\SX 65 (IW 2) [oq 4 (.box (tq 0)),ot 8 false] [0,1,2,3] [4]/\SX 65 (IW 9) [om 12 3,oe 13 12 24,om 14 2,oe 15 14 49,ob 16 .eql 3 13 15] [1,2,3,4] [4]/\SX 65 (IW 37) [ot 8 true] [] []/\SX 65 (IW 19) [ok 9 0] [1,2,3,4] [4]/\SX 65 (IW 267) [om 17 9,oz 18 31 4 0,oz 19 27 18 1,ol 20 3 19,ob 21 .lss 3 17 20] [1,2,3,4,9] [4]/\SX 65 (IW 1099) [ok 10 0] [1,2,3,4,9] [4]/\SX 65 (IW 16971) [om 24 10,oz 25 31 4 0,oz 26 27 25 2,ol 27 3 26,ob 28 .lss 3 24 27] [1,2,3,4,9,10] [4]/\SX 65 (IW 70219) [oq 31 (.buildS 24 0 []),om 32 3,oq 33 (.app [tq 31,tq 32] [24,24]),om 34 9,om 35 10,oq 36 (.build 59 [(0,tq 34),(1,tq 35)]),oq 37 (.buildS 24 1 [(0,tq 36)]),oq 38 (.app [tq 33,tq 37] [24,24]),om 11 38] [1,2,3,4,9,10] [4]/\SX 65 (IW 627275) [ot 8 true] [] []/\SX 65 (IW 29259) [om 29 10,oc 30 .add 3 29 1,om 10 30] [1,2,3,4,9,10] [4]/\SX 65 (IW 459) [om 22 9,oc 23 .add 3 22 1,om 9 23] [1,2,3,4,9] [4]/\SX 65 (IW 23) [ot 8 false] [] []/\LX 65 S9 [1,2,3,4,9] [4]/\LX 65 S8 [1,2,3,4,9,10] [4]:=by and_intros<;>first|exact rx|exact lx|exact fun _ _=>rfl
def g95:=rg Tryz.f95
def c95:bq:=(.seq (g95 2) (.seq (g95 5) .ret))
theorem b95:Tryz.f95.body=some c95:=by kernel_rfl
@[simp] theorem x95:SX 18 (g95 2) [oq 3 (.box (tq 0)),ot 6 false] [0,1,2] [3]/\RX 18 (g95 5) (.drw [⟨[],[om 7 2,od 8 72 [tq 7],ol 9 31 3],[od 10 73 [tq 9]]⟩,⟨[],[ob 11 .leq 3 8 10,om 12 11,gl 12 true 13 31 3,gm 12 true 14 1,gm 12 true 15 2],[gd 12 true 16 133 [tq 13,tq 14,tq 15,.const (.slice none 0 0)]]⟩,⟨[],[oq 17 (.pick (tq 12) (tq 16) (cb false)),om 6 17],[]⟩]) (some ([1,2,3],[3])):=⟨rx,rx⟩
def rK:=rg Tryz.f62
@[simp] def APD:bq:=(lp (rK 267) 9 0 1 (.seq (rK 1099) (.cond (.tmp 17) (rK 2635) .skip)) (rK 459))
def QY:=APD
def c62:bq:=(.seq (rK 2) (.seq (rK 5) (.seq (.seq (rK 19) (.block 0 (.loop QY))) (.seq (rK 23) .ret))))
theorem b62:Tryz.f62.body=some c62:=by kernel_rfl
@[simp] theorem x62:UX 23 QY APD/\SX 23 (rK 2) [oq 2 (.mv (.const (.slice none 0 0)))] [0] []/\SX 23 (rK 5) [oq 3 (.mv (.const (.slice none 0 0)))] [0,1] [1,14]/\SX 23 (rK 19) [ok 4 0] [0,1,3] [1,14,21]/\SX 23 (rK 267) [om 5 0,om 6 4,oq 7 (.oth (.convert 3 115 (tq 6))),ob 8 .shr 3 5 7,oc 9 .gtr 3 8 0] [0,3,4] [21]/\SX 23 (rK 1099) [om 12 0,om 13 4,oq 14 (.oth (.convert 3 115 (tq 13))),ob 15 .shr 3 12 14,oc 16 .rem 3 15 2,oc 17 .eql 3 16 1] [0,3,4] [21]/\SX 23 (rK 2635) [om 18 3,om 19 4,oq 20 (.buildS 22 1 [(0,tq 19)]),oq 21 (.app [tq 18,tq 20] [22,22]),om 3 21] [0,3,4] [21]/\SX 23 (rK 459) [om 10 4,oc 11 .add 3 10 1,om 4 11] [0,1,3,4] [1,14,21]/\SX 23 (rK 23) [om 22 3,om 2 22] [3] [21]/\LX 23 QY [0,3,4] [21]:=⟨fun _ _=>rfl,rx,rx,rx,rx,rx,rx,rx,rx,lx⟩
def fQ:=rg Tryz.f43
@[simp] def APE:bq:=(lp (fQ 535) 19 0 1 (.seq (fQ 2199) (.seq (fQ 5271) (.cond (.tmp 34) (fQ 11415) .skip))) (fQ 919))
def ZV:=APE
def c43:bq:=(.seq (fQ 2) (.seq (fQ 5) (.seq (fQ 11) (.seq (.seq (fQ 39) (.block 0 (.loop ZV))) (.seq (fQ 47) .ret)))))
theorem b43:Tryz.f43.body=some c43:=by kernel_rfl
@[simp] theorem x43:UX 37 ZV APE/\SX 37 (fQ 2) [oq 2 (.box (tq 0)),oq 4 (.mv (.const (.slice none 0 0)))] [0,1] [2,7,32]/\SX 37 (fQ 5) [oz 9 31 2 3,ol 10 29 9,oe 11 10 29,oq 12 (.oth (.convert 3 115 (tq 11))),oq 13 (.bin .shl 3 (ci 1) (tq 12)),oc 14 .sub 3 13 1,om 5 14] [1,2] [2,32]/\SX 37 (fQ 11) [om 15 5,od 16 62 [tq 15],om 6 16] [1,2,5] [2,32]/\SX 37 (fQ 39) [ok 7 0] [1,2,5,6] [2,16,23,32]/\SX 37 (fQ 535) [om 17 7,om 18 5,ob 19 .leq 3 17 18] [1,2,5,6,7] [2,16,23,32]/\SX 37 (fQ 2199) [om 22 7,od 23 62 [tq 22],om 8 23] [1,2,5,6,7] [2,16,23,32]/\RX 37 (fQ 5271) (.drw [⟨[],[om 24 8,om 25 6],[od 26 61 [tq 24,tq 25]]⟩,⟨[],[om 27 26,gl 27 true 28 31 2,gm 27 true 29 1,gl 27 true 30 31 2,gm 27 true 31 7,gd 27 true 32 26 [tq 30,tq 31]],[gd 27 true 33 95 [tq 28,tq 29,tq 32]]⟩,⟨[],[oq 34 (.pick (tq 27) (tq 33) (cb false))],[]⟩]) (some ([1,2,5,6,7,8],[2,16,23]))/\SX 37 (fQ 11415) [om 35 8,om 6 35] [1,2,5,7,8] [2,16,23,32]/\SX 37 (fQ 919) [om 20 7,oc 21 .add 3 20 1,om 7 21] [1,2,5,6,7] [2,16,23,32]/\SX 37 (fQ 47) [om 36 6,om 4 36] [6] [16,23]/\LX 37 ZV [1,2,5,6,7] [2,16,23,32]:=⟨fun _ _=>rfl,rx,rx,rx,rx,rx,rx,rx,rx,rx,rx,lx⟩
def rL:=rg Tryz.f45
@[simp] def APF:bq:=(lp (rL 133) 16 0 1 (.seq (rL 549) (.seq (rL 1317) (.cond (.tmp 42) (.seq (rL 4901) .ret) .skip))) (rL 229))
def ZW:=APF
def c45:bq:=(.seq (rL 2) (.seq (.seq (rL 9) (.block 0 (.loop ZW))) (.seq (rL 11) .ret)))
theorem b45:Tryz.f45.body=some c45:=by kernel_rfl
@[simp] theorem BII(n:Nat)(st:XS):AE bk ann kn (n+1) 43 (rL 1317) st=PW (KC bk (BN bk ann kn n) (.str [ol 39 31 3,om 40 1,om 41 8,od 42 95 [tq 39,tq 40,tq 41]]) (CH (some ([1,2,3,7,8],[3,23,38])) (ND [23] st))) :=
 DT (by kernel_rfl) (by kernel_rfl) (by kernel_rfl) (by kernel_rfl) (by kernel_rfl)
@[simp] theorem x45:UX 43 ZW APF/\SX 43 (rL 2) [oq 3 (.box (tq 0)),ot 6 false] [0,1,2] [3,23,38]/\SX 43 (rL 9) [ok 7 1] [1,2,3] [3,23,38]/\SX 43 (rL 133) [om 9 7,oz 10 31 3 3,ol 11 29 10,om 12 2,oi 13 29 11 12,oz 14 57 13 0,ol 15 3 14,ob 16 .lss 3 9 15] [1,2,3,7] [3,23,38]/\RX 43 (rL 549) (.drw [⟨[23],[ol 19 31 3,om 20 2,oq 21 (.oth (.convert 3 115 (tq 20))),oq 22 (.bin .shl 3 (ci 1) (tq 21)),om 24 2,om 25 7,oq 26 (.build 135 [(0,tq 24),(1,tq 25)]),om 27 2,oz 28 31 3 3,ol 29 29 28,om 30 2,oi 31 29 29 30,oz 32 57 31 0,ol 33 3 32,om 34 7,ob 35 .sub 3 33 34,oq 36 (.build 135 [(0,tq 27),(1,tq 35)]),oq 37 (.buildS 49 2 [(0,tq 26),(1,tq 36)]),oq 23 (.call true none (.func 26) [tq 19,tq 22]),oq 38 (.app [tq 23,tq 37] [49,49]),om 8 38],[]⟩]) (some ([1,2,3,7],[3,38]))/\SX 43 (rL 4901) [ot 6 true] [] []/\SX 43 (rL 229) [om 17 7,oc 18 .add 3 17 1,om 7 18] [1,2,3,7,8] [3,23,38]/\SX 43 (rL 11) [ot 6 false] [] []/\LX 43 ZW [1,2,3,7] [3,23,38]:=⟨fun _ _=>rfl,rx,rx,rx,rx,rx,rx,rx,lx⟩
def lK:=rg Tryz.f44
@[simp] def APG:bq:=(lp (lK 267) 14 0 1 (.seq (lK 1099) (.cond (.tmp 25) (.seq (lK 4683) .ret) .skip)) (lK 459))
def ZX:=APG
def c44:bq:=(.seq (lK 2) (.seq (.seq (lK 9) (.cond (.tmp 10) (.seq (lK 37) .ret) .skip)) (.seq (.seq (lK 19) (.block 0 (.loop ZX))) (.seq (lK 23) .ret))))
theorem b44:Tryz.f44.body=some c44:=by kernel_rfl
@[simp] theorem x44:UX 26 ZX APG/\SX 26 (lK 2) [ot 4 false] [0,1] []/\SX 26 (lK 9) [om 6 0,oe 7 6 22,om 8 1,oe 9 8 22,ob 10 .neq 3 7 9] [0,1] []/\SX 26 (lK 37) [ot 4 false] [] []/\SX 26 (lK 19) [ok 5 0] [0,1] []/\SX 26 (lK 267) [om 11 5,om 12 0,oe 13 12 22,ob 14 .lss 3 11 13] [0,1,5] []/\RX 26 (lK 1099) (.drw [⟨[],[om 17 0,om 18 5,oi 19 22 17 18,ol 20 3 19,om 21 1,om 22 5,oi 23 22 21 22,ol 24 3 23,ob 25 .neq 3 20 24],[]⟩]) (some ([0,1,5],[]))/\SX 26 (lK 4683) [ot 4 false] [] []/\SX 26 (lK 459) [om 15 5,oc 16 .add 3 15 1,om 5 16] [0,1,5] []/\SX 26 (lK 23) [ot 4 true] [] []/\LX 26 ZX [0,1,5] []:=⟨fun _ _=>rfl,rx,rx,rx,rx,rx,rx,rx,rx,rx,lx⟩
def TA:=rg Tryz.f116
@[simp] def AEN:bq:=(lp (TA 133) 9 0 1 (.seq (TA 549) (.cond (.tmp 27) (.seq (TA 2341) .ret) .skip)) (TA 229))
def TB:=AEN
def A34:bq:=(.seq (TA 2) (.seq (.seq (TA 9) (.block 0 (.loop TB))) (.seq (TA 11) .ret)))
theorem BEP:Tryz.f116.body=some A34:=by kernel_rfl
@[simp] theorem BNC:UX 34 TB AEN/\SX 34 (TA 2) [oq 2 (.box (tq 0)),ot 4 false] [0,1] [2]/\SX 34 (TA 9) [ok 5 0] [1,2] [2]/\SX 34 (TA 133) [om 6 5,om 7 1,oe 8 7 23,ob 9 .lss 3 6 8] [1,2,5] [2]/\RX 34 (TA 549) (.drw [⟨[],[om 12 1,om 13 5,oi 14 23 12 13,ol 15 22 14,oe 16 15 22,oz 17 27 2 1,ol 18 3 17,ob 19 .neq 3 16 18,om 20 19,gm 20 false 21 1,gm 20 false 22 5,gi 20 false 23 23 21 22,gl 20 false 24 22 23],[gd 20 false 25 134 [tq 24,ci 0]]⟩,⟨[],[og 20 false 26 (.oth (.unOp .not 4 (tq 25))),oq 27 (.pick (tq 20) (cb true) (tq 26))],[]⟩]) (some ([1,2,5],[2]))/\SX 34 (TA 2341) [ot 4 false] [] []/\SX 34 (TA 229) [om 10 5,oc 11 .add 3 10 1,om 5 11] [1,2,5] [2]/\SX 34 (TA 11) [om 28 1,oe 29 28 23,oz 30 27 2 0,ol 31 3 30,oc 32 .add 3 31 1,ob 33 .eql 3 29 32,om 4 33] [1,2] [2]/\LX 34 TB [1,2,5] [2]:=⟨fun _ _=>rfl,rx,rx,rx,rx,rx,rx,rx,lx⟩
def lL:=rg Tryz.f27
@[simp] def APH:bq:=(lp (lL 267) 15 0 1 (.seq (lL 1099) (.cond (.tmp 28) (.seq (lL 4683) .ret) .skip)) (lL 459))
def ZY:=APH
def c27:bq:=(.seq (lL 2) (.seq (.seq (lL 9) (.cond (.tmp 11) (.seq (lL 37) .ret) .skip)) (.seq (.seq (lL 19) (.block 0 (.loop ZY))) (.seq (lL 23) .ret))))
theorem b27:Tryz.f27.body=some c27:=by kernel_rfl
@[simp] theorem x27:UX 29 ZY APH/\SX 29 (lL 2) [oq 2 (.box (tq 0)),ot 4 false] [0,1] [2]/\SX 29 (lL 9) [om 6 1,oe 7 6 22,oz 8 27 2 6,ol 9 23 8,oe 10 9 23,ob 11 .neq 3 7 10] [1,2] [2]/\SX 29 (lL 37) [ot 4 false] [] []/\SX 29 (lL 19) [ok 5 0] [1,2] [2]/\SX 29 (lL 267) [om 12 5,om 13 1,oe 14 13 22,ob 15 .lss 3 12 14] [1,2,5] [2]/\RX 29 (lL 1099) (.drw [⟨[],[oz 18 27 2 6,ol 19 23 18,om 20 5,oi 21 23 19 20,ol 22 22 21,om 23 1,om 24 5,oi 25 22 23 24,ol 26 3 25],[od 27 75 [tq 22,tq 26]]⟩,⟨[],[ou 28 27],[]⟩]) (some ([1,2,5],[2]))/\SX 29 (lL 4683) [ot 4 false] [] []/\SX 29 (lL 459) [om 16 5,oc 17 .add 3 16 1,om 5 17] [1,2,5] [2]/\SX 29 (lL 23) [ot 4 true] [] []/\LX 29 ZY [1,2,5] [2]:=⟨fun _ _=>rfl,rx,rx,rx,rx,rx,rx,rx,rx,rx,lx⟩
def NW:=rg Tryz.f102
@[simp] def AEO:bq:=(lp (NW 267) 14 0 1 (.seq (NW 1099) (.cond (.tmp 32) (.seq (NW 4683) .ret) .skip)) (NW 459))
def TC:=AEO
def ASO:bq:=(.seq (NW 2) (.seq (.seq (NW 9) (.cond (.tmp 9) (.seq (NW 37) .ret) .skip)) (.seq (.seq (NW 19) (.block 0 (.loop TC))) (.seq (NW 23) .ret))))
theorem BER:Tryz.f102.body=some ASO:=by kernel_rfl
@[simp] theorem BNE:UX 33 TC AEO/\SX 33 (NW 2) [oq 2 (.box (tq 0)),ot 4 false] [0,1] [2,4,5,30]/\SX 33 (NW 9) [ol 6 27 2,om 7 1,od 8 27 [tq 6,tq 7],ou 9 8] [1,2] [2]/\SX 33 (NW 37) [ot 4 false] [] []/\SX 33 (NW 19) [ok 5 0] [1,2] [2]/\SX 33 (NW 267) [om 10 5,oz 11 27 2 8,ol 12 25 11,oe 13 12 25,ob 14 .lss 3 10 13] [1,2,5] [2]/\RX 33 (NW 1099) (.drw [⟨[],[om 17 1,oz 18 27 2 8,ol 19 25 18,om 20 5,oi 21 25 19 20,oz 22 188 21 0,ol 23 3 22,oi 24 22 17 23,ol 25 3 24,oz 26 27 2 8,ol 27 25 26,om 28 5,oi 29 25 27 28,oz 30 188 29 1,ol 31 3 30,ob 32 .neq 3 25 31],[]⟩]) (some ([1,2,5],[2]))/\SX 33 (NW 4683) [ot 4 false] [] []/\SX 33 (NW 459) [om 15 5,oc 16 .add 3 15 1,om 5 16] [1,2,5] [2]/\SX 33 (NW 23) [ot 4 true] [] []/\LX 33 TC [1,2,5] [2]:=⟨fun _ _=>rfl,rx,rx,rx,rx,rx,rx,rx,rx,rx,lx⟩
def KT:=rg Tryz.f76
@[simp] def AEP:bq:=(lp (KT 68759) 53 3 4 (.seq (KT 281751) (.cond (.tmp 62) (.seq (KT 1199255) .ret) .skip)) (KT 117911))
def TD:=AEP
@[simp] def API:bq:=(lp (KT 535) 21 0 1 (.seq (.seq (KT 4247) (.block 2 (.seq (KT 18583) (.cond (.tmp 25) (KT 43159) (.seq (KT 92311) (.cond (.tmp 31) (KT 190615) (.seq (KT 387223) (.cond (.tmp 37) (KT 780439) (.seq (KT 1566871) (.cond (.tmp 43) (KT 3139735) .skip)))))))))) (.seq (KT 5271) (.block 3 (.loop TD)))) (KT 919))
def ZZ:=API
def c76:bq:=(.seq (KT 2) (.seq (.seq (KT 9) (.cond (.tmp 16) (.seq (KT 37) .ret) .skip)) (.seq (KT 11) (.seq (.seq (KT 39) (.block 0 (.loop ZZ))) (.seq (KT 47) .ret)))))
theorem b76:Tryz.f76.body=some c76:=by kernel_rfl
@[simp] theorem x76:UX 63 TD AEP/\UX 63 ZZ API/\SX 63 (KT 2) [oq 4 (.box (tq 0)),oq 5 (.box (tq 1)),ot 8 false] [0,1,2,3] [4]/\SX 63 (KT 9) [om 12 2,oc 13 .add 3 12 2,oc 14 .rem 3 13 4,om 15 3,ob 16 .eql 3 14 15] [2,3,4,5] [4,5]/\SX 63 (KT 37) [ot 8 true] [] []/\SX 63 (KT 11) [ol 17 59 5,oq 9 (.alloc 59),os (.sto 59 (tq 9) (tq 17))] [3,4,5] [4,5]/\SX 63 (KT 39) [ok 10 0] [3,4,9] [4,9]/\SX 63 (KT 535) [om 18 10,oz 19 27 4 3,ol 20 3 19,ob 21 .lss 3 18 20] [3,4,9,10] [4,9]/\SX 63 (KT 4247) [om 24 3] [3,4,9,10] [4,9]/\SX 63 (KT 18583) [oc 26 .eql 3 24 0,om 25 26] [3,4,9,10,24] [4,9]/\SX 63 (KT 43159) [oz 27 59 9 0,ol 28 3 27,oc 29 .sub 3 28 1,oz 30 59 9 0,os (.sto 3 (tq 30) (tq 29))] [3,4,9,10] [4,9]/\SX 63 (KT 92311) [oc 32 .eql 3 24 1,om 31 32] [3,4,9,10,24] [4,9]/\SX 63 (KT 190615) [oz 33 59 9 1,ol 34 3 33,oc 35 .add 3 34 1,oz 36 59 9 1,os (.sto 3 (tq 36) (tq 35))] [3,4,9,10] [4,9]/\SX 63 (KT 387223) [oc 38 .eql 3 24 2,om 37 38] [3,4,9,10,24] [4,9]/\SX 63 (KT 780439) [oz 39 59 9 0,ol 40 3 39,oc 41 .add 3 40 1,oz 42 59 9 0,os (.sto 3 (tq 42) (tq 41))] [3,4,9,10] [4,9]/\SX 63 (KT 1566871) [oc 44 .eql 3 24 3,om 43 44] [3,4,9,10,24] [4,9]/\SX 63 (KT 3139735) [oz 45 59 9 1,ol 46 3 45,oc 47 .sub 3 46 1,oz 48 59 9 1,os (.sto 3 (tq 48) (tq 47))] [3,4,9,10] [4,9]/\SX 63 (KT 5271) [ok 11 0] [3,4,9,10] [4,9]/\SX 63 (KT 68759) [om 49 11,oz 50 27 4 7,ol 51 24 50,oe 52 51 24,ob 53 .lss 3 49 52] [3,4,9,10,11] [4,9]/\RX 63 (KT 281751) (.drw [⟨[],[oz 56 27 4 7,ol 57 24 56,om 58 11,oi 59 24 57 58,ol 60 59 59,ol 61 59 9,ob 62 .eql 59 60 61],[]⟩]) (some ([3,4,9,10,11],[4,9]))/\SX 63 (KT 1199255) [ot 8 true] [] []/\SX 63 (KT 117911) [om 54 11,oc 55 .add 3 54 1,om 11 55] [3,4,9,10,11] [4,9]/\SX 63 (KT 919) [om 22 10,oc 23 .add 3 22 1,om 10 23] [3,4,9,10] [4,9]/\SX 63 (KT 47) [ot 8 false] [] []/\LX 63 ZZ [3,4,9,10] [4,9]/\LX 63 TD [3,4,9,10,11] [4,9]:=by and_intros<;>first|exact rx|exact lx|exact fun _ _=>rfl
def KF:=rg Tryz.f28
@[simp] def AEQ:bq:=(lp (KF 17451595) 30 4 5 (.seq (KF 71977547) (.seq (.seq (KF 306858571) (.cond (.tmp 62) (KF 709511755) .skip)) (.seq (.seq (KF 642402891) (.cond (.tmp 67) (KF 1447709259) .skip)) (.seq (KF 776620619) (.cond (.tmp 75) (KF 1581926987) .skip))))) (KF 30034507))
def TE:=AEQ
@[simp] def APJ:bq:=(lp (KF 68171) 24 2 3 (.seq (KF 281163) (.seq (.seq (KF 1198667) (.block 4 (.loop TE))) (KF 936523))) (KF 117323))
def Z0:=APJ
@[simp] def APK:bq:=(lp (KF 267) 18 0 1 (.seq (KF 1099) (.seq (.seq (KF 4683) (.block 2 (.loop Z0))) (KF 3659))) (KF 459))
def Z1:=APK
def c28:bq:=(.seq (KF 2) (.seq (KF 5) (.seq (.seq (KF 19) (.block 0 (.loop Z1))) (.seq (KF 23) .ret))))
theorem b28:Tryz.f28.body=some c28:=by kernel_rfl
@[simp] theorem BET(n:Nat)(st:XS):AE bk ann kn (n+1) 89 (KF 3659) st=PW (KC bk (BN bk ann kn n) (.str [om 84 7,om 85 9,oq 86 (.buildS 52 1 [(0,tq 85)]),oq 87 (.app [tq 84,tq 86] [52,52]),om 7 87]) (CH (some ([1,2,3,7,8,9],[3,83,87])) (ND [83] st))) :=
 DT (by kernel_rfl) (by kernel_rfl) (by kernel_rfl) (by kernel_rfl) (by kernel_rfl)
@[simp] theorem x28:UX 89 TE AEQ/\UX 89 Z0 APJ/\UX 89 Z1 APK/\SX 89 (KF 2) [oq 3 (.box (tq 0)),oq 6 (.mv (.const (.slice none 0 0)))] [0,1,2] [3]/\SX 89 (KF 5) [oq 7 (.mv (.const (.slice none 0 0)))] [1,2,3] [3]/\SX 89 (KF 19) [ok 8 0] [1,2,3,7] [3,87]/\SX 89 (KF 267) [om 15 8,oz 16 27 3 1,ol 17 3 16,ob 18 .lss 3 15 17] [1,2,3,7,8] [3,87]/\SX 89 (KF 1099) [oq 9 (.mv (.const (.slice none 0 0)))] [1,2,3,7,8] [3,87]/\SX 89 (KF 4683) [ok 10 0] [1,2,3,7,8,9] [3,83,87]/\SX 89 (KF 68171) [om 21 10,oz 22 27 3 2,ol 23 3 22,ob 24 .lss 3 21 23] [1,2,3,7,8,9,10] [3,83,87]/\SX 89 (KF 281163) [oq 11 (.alloc 139)] [1,2,3,7,8,9,10] [3,83,87]/\SX 89 (KF 1198667) [ok 12 0] [1,2,3,7,8,9,10,11] [3,11,83,87]/\SX 89 (KF 17451595) [om 27 12,om 28 2,oe 29 28 22,ob 30 .lss 3 27 29] [1,2,3,7,8,9,10,11,12] [3,11,83,87]/\RX 89 (KF 71977547) (.drw [⟨[],[om 33 1,om 34 12,oi 35 23 33 34,ol 36 22 35,om 37 8,oi 38 22 36 37,ol 39 3 38,oz 40 27 3 5,ol 41 22 40,om 42 12,oi 43 22 41 42,ol 44 3 43,ob 45 .eql 3 39 44,ol 46 27 3,om 47 8,om 48 10,oq 49 (.build 59 [(0,tq 47),(1,tq 48)]),om 50 1,om 51 12,oi 52 23 50 51,ol 53 22 52,om 54 8,oi 55 22 53 54,ol 56 3 55,om 57 2,om 58 12,oi 59 22 57 58,ol 60 3 59,od 61 76 [tq 46,tq 49,tq 56,tq 60],om 13 45,om 14 61],[]⟩]) (some ([1,2,3,7,8,9,10,11,12],[3,11,83,87]))/\SX 89 (KF 306858571) [om 62 13] [1,2,3,7,8,9,10,11,12,13,14] [3,11,83,87]/\SX 89 (KF 709511755) [oz 63 139 11 0,ol 64 3 63,oc 65 .add 3 64 1,oz 66 139 11 0,os (.sto 3 (tq 66) (tq 65))] [1,2,3,7,8,9,10,11,12,13,14] [3,11,83,87]/\SX 89 (KF 642402891) [om 67 14] [1,2,3,7,8,9,10,11,12,13,14] [3,11,83,87]/\SX 89 (KF 1447709259) [oz 68 139 11 1,ol 69 3 68,oc 70 .add 3 69 1,oz 71 139 11 1,os (.sto 3 (tq 71) (tq 70))] [1,2,3,7,8,9,10,11,12,13,14] [3,11,83,87]/\SX 89 (KF 776620619) [om 72 13,om 73 72,gm 73 true 74 14,oq 75 (.pick (tq 73) (tq 74) (cb false))] [1,2,3,7,8,9,10,11,12,13,14] [3,11,83,87]/\SX 89 (KF 1581926987) [oz 76 139 11 2,ol 77 3 76,oc 78 .add 3 77 1,oz 79 139 11 2,os (.sto 3 (tq 79) (tq 78))] [1,2,3,7,8,9,10,11,12] [3,11,83,87]/\SX 89 (KF 30034507) [om 31 12,oc 32 .add 3 31 1,om 12 32] [1,2,3,7,8,9,10,11,12] [3,11,83,87]/\SX 89 (KF 936523) [om 80 9,ol 81 139 11,oq 82 (.buildS 137 1 [(0,tq 81)]),oq 83 (.app [tq 80,tq 82] [137,137]),om 9 83] [1,2,3,7,8,9,10,11] [3,11,83,87]/\SX 89 (KF 117323) [om 25 10,oc 26 .add 3 25 1,om 10 26] [1,2,3,7,8,9,10] [3,83,87]/\SX 89 (KF 459) [om 19 8,oc 20 .add 3 19 1,om 8 20] [1,2,3,7,8] [3,87]/\SX 89 (KF 23) [om 88 7,om 6 88] [7] [87]/\LX 89 Z1 [1,2,3,7,8] [3,87]/\LX 89 Z0 [1,2,3,7,8,9,10] [3,83,87]/\LX 89 TE [1,2,3,7,8,9,10,11,12] [3,11,83,87]:=by and_intros<;>first|exact rx|exact lx|exact fun _ _=>rfl
def ALM:=rg Tryz.f130
def A35:bq:=(.seq (ALM 2) (.seq (ALM 5) .ret))
theorem BEU:Tryz.f130.body=some A35:=by kernel_rfl
@[simp] theorem BNH:SX 2 (ALM 2) [oq 0 (.alloc 162)] [] []/\SX 2 (ALM 5) [oq 1 (.build 162 [(0,ci 1099511627776),(1,.const (.int .i64 (bj 0)))]),os (.sto 162 (tq 0) (tq 1))] [0] [0]:=⟨rx,rx⟩
def ALN:=rg Tryz.f131
def A36:bq:=(.seq (ALN 2) (.seq (ALN 5) .ret))
theorem BEV:Tryz.f131.body=some A36:=by kernel_rfl
@[simp] theorem BNI:SX 14 (ALN 2) [oq 2 (.box (tq 0)),oq 4 (.alloc 162)] [0,1] [2,3,4,5,10]/\SX 14 (ALN 5) [oz 5 162 2 0,ol 6 3 5,om 7 1,oq 8 (.oth (.call ⟨.builtin .min,#[tq 6,tq 7],#[3,3]⟩)),oz 9 162 2 1,ol 10 3 9,om 11 1,oq 12 (.oth (.call ⟨.builtin .max,#[tq 10,tq 11],#[3,3]⟩)),oq 13 (.build 162 [(0,tq 8),(1,tq 12)]),os (.sto 162 (tq 4) (tq 13))] [1,2,3,4] [2,3,4]:=⟨rx,rx⟩
def lM:=rg Tryz.f55
@[simp] def APL:bq:=(lp (lM 267) 9 0 1 (.seq (lM 1099) (.seq (lM 2635) (.cond (.tmp 17) (lM 5707) .skip))) (lM 459))
def Z2:=APL
def c55:bq:=(.seq (lM 2) (.seq (lM 5) (.seq (.seq (lM 19) (.block 0 (.loop Z2))) (.seq (lM 23) .ret))))
theorem b55:Tryz.f55.body=some c55:=by kernel_rfl
@[simp] theorem x55:UX 23 Z2 APL/\SX 23 (lM 2) [oq 1 (.box (tq 0)),oq 2 (.mv (.const (.slice none 0 0)))] [0] [1,14]/\SX 23 (lM 5) [oq 3 (.mv (.const (.slice none 0 0)))] [0,1] [1,14]/\SX 23 (lM 19) [ok 4 0] [0,1,3] [1,14,21]/\SX 23 (lM 267) [om 6 4,ol 7 27 1,od 8 100 [tq 7],ob 9 .lss 3 6 8] [1,3,4] [1,14,21]/\SX 23 (lM 1099) [ol 12 27 1,om 13 4,od 14 101 [tq 12,tq 13],om 5 14] [1,3,4] [1,14,21]/\SX 23 (lM 2635) [ol 15 27 1,om 16 5,od 17 102 [tq 15,tq 16]] [1,3,4,5] [1,14,21]/\SX 23 (lM 5707) [om 18 3,om 19 5,oq 20 (.buildS 23 1 [(0,tq 19)]),oq 21 (.app [tq 18,tq 20] [23,23]),om 3 21] [1,3,4,5] [1,14,21]/\SX 23 (lM 459) [om 10 4,oc 11 .add 3 10 1,om 4 11] [0,1,3,4] [1,14,21]/\SX 23 (lM 23) [om 22 3,om 2 22] [3] [21]/\LX 23 Z2 [1,3,4] [1,14,21]:=⟨fun _ _=>rfl,rx,rx,rx,rx,rx,rx,rx,rx,rx,lx⟩
def rM:=rg Tryz.f87
@[simp] def APM:bq:=(lp (rM 267) 19 0 1 (.seq (rM 1099) (rM 1611)) (rM 459))
def Z3:=APM
def c87:bq:=(.seq (rM 2) (.seq (rM 5) (.seq (.seq (rM 19) (.block 0 (.loop Z3))) (.seq (rM 23) .ret))))
theorem b87:Tryz.f87.body=some c87:=by kernel_rfl
@[simp] theorem x87:UX 47 Z3 APM/\SX 47 (rM 2) [oq 4 (.box (tq 0)),oq 7 (.box (tq 3)),oq 8 (.alloc 162),oq 9 (.alloc 162)] [0,1,2,3] [4,28]/\SX 47 (rM 5) [oq 14 (.call true none (.func 130) []),oq 15 (.call true none (.func 130) []),oq 10 (.alloc 162),oq 11 (.alloc 162),os (.sto 162 (tq 10) (tq 14)),os (.sto 162 (tq 11) (tq 15))] [1,2,4,7,8,9] [4,7,8,9,28]/\SX 47 (rM 19) [ok 12 0] [1,2,4,7,8,9,10,11] [4,7,8,9,10,11,28]/\SX 47 (rM 267) [om 16 12,om 17 1,oe 18 17 23,ob 19 .lss 3 16 18] [1,2,4,7,8,9,10,11,12] [4,7,8,9,10,11,28]/\RX 47 (rM 1099) (.drw [⟨[13],[oq 22 (.ldz 27 (tq 4)),om 23 2,om 24 1,om 25 12,oi 26 23 24 25,oq 27 (.ldz 22 (tq 26)),od 28 28 [tq 22,tq 23,tq 27],oz 29 59 7 0,oq 30 (.ldz 3 (tq 29)),oi 31 52 28 30,oq 32 (.ldz 137 (tq 31)),oz 33 59 7 1,oq 34 (.ldz 3 (tq 33)),oi 35 137 32 34,oq 36 (.ldz 139 (tq 35)),oq 13 (.alloc 139)],[os (.sto 139 (tq 13) (tq 36))]⟩]) (some ([1,2,4,7,8,9,10,11,12],[4,7,8,9,10,11]))/\RX 47 (rM 1611) (.drw [⟨[40],[oq 37 (.ldz 162 (tq 10)),oz 38 139 13 1,oq 39 (.ldz 3 (tq 38)),ol 41 162 11,oz 42 139 13 2,ol 43 3 42,oq 40 (.call true none (.func 131) [tq 37,tq 39])],[oq 44 (.call true none (.func 131) [tq 41,tq 43])]⟩,⟨[],[os (.sto 162 (tq 10) (tq 40))],[os (.sto 162 (tq 11) (tq 44))]⟩]) (some ([1,2,4,7,8,9,10,11,12,13],[4,7,8,9,10,11,13,28]))/\SX 47 (rM 459) [om 20 12,oc 21 .add 3 20 1,om 12 21] [1,2,4,7,8,9,10,11,12] [4,7,8,9,10,11,28]/\RX 47 (rM 23) (.drw [⟨[],[oq 45 (.ldz 162 (tq 10)),ol 46 162 11,os (.sto 162 (tq 8) (tq 45))],[os (.sto 162 (tq 9) (tq 46))]⟩]) (some ([8,9,10,11],[8,9,10,11]))/\LX 47 Z3 [1,2,4,7,8,9,10,11,12] [4,7,8,9,10,11,28]:=⟨fun _ _=>rfl,rx,rx,rx,rx,rx,rx,rx,rx,lx⟩
def U6:=rg Tryz.f35
@[simp] def APN:bq:=(lp (U6 136343) 24 2 3 (.seq (U6 562327) (U6 824471)) (U6 234647))
def Z4:=APN
@[simp] def APO:bq:=(lp (U6 535) 17 0 1 (.seq (U6 2199) (.seq (.seq (U6 9367) (.block 2 (.loop Z4))) (U6 7319))) (U6 919))
def Z5:=APO
def c35:bq:=(.seq (U6 2) (.seq (U6 5) (.seq (U6 11) (.seq (.seq (U6 39) (.block 0 (.loop Z5))) (.seq (U6 47) .ret)))))
theorem b35:Tryz.f35.body=some c35:=by kernel_rfl
@[simp] theorem BEW(n:Nat)(st:XS):AE bk ann kn (n+1) 49 (U6 7319) st=PW (KC bk (BN bk ann kn n) (.str [om 44 4,om 45 6,oq 46 (.buildS 23 1 [(0,tq 45)]),oq 47 (.app [tq 44,tq 46] [23,23]),om 4 47]) (CH (some ([1,3,4,5,6],[1,12,43,47])) (ND [43] st))) :=
 DT (by kernel_rfl) (by kernel_rfl) (by kernel_rfl) (by kernel_rfl) (by kernel_rfl)
@[simp] theorem x35:UX 49 Z4 APN/\UX 49 Z5 APO/\SX 49 (U6 2) [oq 1 (.box (tq 0)),oq 2 (.mv (.const (.slice none 0 0)))] [0] [1,12]/\SX 49 (U6 5) [oz 10 31 1 0,ol 11 27 10,od 12 55 [tq 11],om 3 12] [1] [1,12]/\SX 49 (U6 11) [oq 4 (.mv (.const (.slice none 0 0)))] [1,3] [1,12]/\SX 49 (U6 39) [ok 5 0] [1,3,4] [1,12,47]/\SX 49 (U6 535) [om 13 5,oz 14 31 1 0,oz 15 27 14 1,ol 16 3 15,ob 17 .lss 3 13 16] [1,3,4,5] [1,12,47]/\SX 49 (U6 2199) [oq 6 (.mv (.const (.slice none 0 0)))] [1,3,4,5] [1,12,47]/\SX 49 (U6 9367) [ok 7 0] [1,3,4,5,6] [1,12,43,47]/\SX 49 (U6 136343) [om 20 7,oz 21 31 1 0,oz 22 27 21 2,ol 23 3 22,ob 24 .lss 3 20 23] [1,3,4,5,6,7] [1,12,43,47]/\SX 49 (U6 562327) [oz 28 31 1 0,ol 29 27 28,om 30 3,oz 31 31 1 1,ol 32 23 31,om 33 5,om 34 7,oq 35 (.build 59 [(0,tq 33),(1,tq 34)]),od 36 87 [tq 29,tq 30,tq 32,tq 35],om 27 36,oq 37 (.oth (.extract (tq 27) 0)),oq 38 (.oth (.extract (tq 27) 1)),oq 8 (.alloc 162),oq 9 (.alloc 162),os (.sto 162 (tq 8) (tq 37)),os (.sto 162 (tq 9) (tq 38))] [1,3,4,5,6,7] [1,12,43,47]/\SX 49 (U6 824471) [om 39 6,oz 40 162 9 0,ol 41 3 40,oq 42 (.buildS 22 1 [(0,tq 41)]),oq 43 (.app [tq 39,tq 42] [22,22]),om 6 43] [1,3,4,5,6,7,9] [1,9,12,43,47]/\SX 49 (U6 234647) [om 25 7,oc 26 .add 3 25 1,om 7 26] [1,3,4,5,6,7] [1,12,43,47]/\SX 49 (U6 919) [om 18 5,oc 19 .add 3 18 1,om 5 19] [1,3,4,5] [1,12,47]/\SX 49 (U6 47) [om 48 4,om 2 48] [4] [47]/\LX 49 Z5 [1,3,4,5] [1,12,47]/\LX 49 Z4 [1,3,4,5,6,7] [1,12,43,47]:=by and_intros<;>first|exact rx|exact lx|exact fun _ _=>rfl
def KG:=rg Tryz.f70
@[simp] def AER:bq:=(lp (KG 4287) 38 0 1 (.seq (KG 17599) (.cond (.tmp 50) (.seq (KG 74943) .ret) .skip)) (KG 7359))
def TF:=AER
@[simp] def AES:bq:=(lp (KG 8575) 55 2 3 (.seq (KG 35199) (.cond (.tmp 75) (.seq (KG 149887) .ret) .skip)) (KG 14719))
def TG:=AES
def c70:bq:=(.seq (KG 2) (.seq (.seq (KG 9) (.cond (.tmp 9) (.seq (KG 37) .ret) .skip)) (.seq (.seq (KG 19) (.seq (KG 43) (.cond (.tmp 14) (.seq (KG 155) .ret) .skip))) (.seq (.seq (KG 39) (.cond (.tmp 21) (.seq (KG 151) .ret) .skip)) (.seq (.seq (KG 79) (.cond (.tmp 26) (.seq (KG 303) .ret) .skip)) (.seq (.seq (KG 159) (.cond (.tmp 33) (.seq (KG 607) .ret) .skip)) (.seq (.seq (KG 319) (.block 0 (.loop TF))) (.seq (.seq (KG 639) (.block 2 (.loop TG))) (.seq (KG 767) .ret)))))))))
theorem b70:Tryz.f70.body=some c70:=by kernel_rfl
@[simp] theorem x70:UX 76 TF AER/\UX 76 TG AES/\SX 76 (KG 2) [oq 1 (.box (tq 0)),ok 2 0] [0] [1,24]/\SX 76 (KG 9) [oz 6 31 1 3,ol 7 29 6,oe 8 7 29,oc 9 .gtr 3 8 3] [1] [1,24]/\SX 76 (KG 37) [ok 2 3] [] []/\SX 76 (KG 19) [oz 10 31 1 0,ol 11 27 10,od 12 108 [tq 11],om 3 12] [1] [1,24]/\SX 76 (KG 43) [om 13 3,oc 14 .neq 3 13 0] [1,3] [1,24]/\SX 76 (KG 155) [om 15 3,om 2 15] [3] []/\SX 76 (KG 39) [oz 16 31 1 0,ol 17 27 16,oz 18 31 1 1,ol 19 23 18,od 20 116 [tq 17,tq 19],ou 21 20] [1] [1,24]/\SX 76 (KG 151) [ok 2 2] [] []/\SX 76 (KG 79) [oz 22 31 1 0,ol 23 27 22,od 24 55 [tq 23],oe 25 24 23,oc 26 .eql 3 25 0] [1] [1,24]/\SX 76 (KG 303) [ok 2 11] [] []/\SX 76 (KG 159) [oz 27 31 1 2,ol 28 28 27,oe 29 28 28,oz 30 31 1 0,oz 31 27 30 1,ol 32 3 31,ob 33 .neq 3 29 32] [1] [1,24]/\SX 76 (KG 607) [ok 2 1] [] []/\SX 76 (KG 319) [ok 4 0] [1] [1,24]/\SX 76 (KG 4287) [om 34 4,oz 35 31 1 2,ol 36 28 35,oe 37 36 28,ob 38 .lss 3 34 37] [1,4] [1,24]/\RX 76 (KG 17599) (.drw [⟨[],[oz 41 31 1 2,ol 42 28 41,om 43 4,oi 44 28 42 43,ol 45 97 44,oe 46 45 97,oz 47 31 1 0,oz 48 27 47 2,ol 49 3 48,ob 50 .neq 3 46 49],[]⟩]) (some ([1,4],[1,24]))/\SX 76 (KG 74943) [ok 2 1] [] []/\SX 76 (KG 7359) [om 39 4,oc 40 .add 3 39 1,om 4 40] [1,4] [1,24]/\SX 76 (KG 639) [ok 5 0] [1] [1,24]/\SX 76 (KG 8575) [om 51 5,oz 52 31 1 3,ol 53 29 52,oe 54 53 29,ob 55 .lss 3 51 54] [1,5] [1,24]/\SX 76 (KG 35199) [oz 58 31 1 3,ol 59 29 58,om 60 5,oi 61 29 59 60,oz 62 57 61 0,ol 63 3 62,od 64 57 [tq 63,ci 1,ci 4],ou 65 64,om 66 65,gz 66 false 67 31 1 3,gl 66 false 68 29 67,gm 66 false 69 5,gi 66 false 70 29 68 69,gz 66 false 71 57 70 1,gl 66 false 72 3 71,gd 66 false 73 57 [tq 72,ci 0,ci 5],og 66 false 74 (.oth (.unOp .not 4 (tq 73))),oq 75 (.pick (tq 66) (cb true) (tq 74))] [1,5] [1,24]/\SX 76 (KG 149887) [ok 2 1] [] []/\SX 76 (KG 14719) [om 56 5,oc 57 .add 3 56 1,om 5 57] [1,5] [1,24]/\SX 76 (KG 767) [ok 2 0] [] []/\LX 76 TF [1,4] [1,24]/\LX 76 TG [1,5] [1,24]:=by and_intros<;>first|exact rx|exact lx|exact fun _ _=>rfl
def g23:=rg Tryz.f23
def c23:bq:=(.seq (g23 2) (.seq (g23 5) .ret))
theorem b23:Tryz.f23.body=some c23:=by kernel_rfl
@[simp] theorem x23:SX 5 (g23 2) [oq 1 (.box (tq 0)),ok 2 0] [0] [1]/\SX 5 (g23 5) [ol 3 31 1,od 4 70 [tq 3],om 2 4] [0,1,2] [1,2]:=⟨rx,rx⟩
def YM:=rg Tryz.f21
@[simp] def APP:bq:=(lp (YM 267) 18 0 1 (YM 587) (YM 459))
def Z6:=APP
@[simp] def APQ:bq:=(lp (YM 535) 36 2 3 (.seq (YM 2199) (YM 3223)) (YM 919))
def Z7:=APQ
def c21:bq:=(.seq (YM 2) (.seq (YM 5) (.seq (.seq (YM 19) (.block 0 (.loop Z6))) (.seq (.seq (YM 39) (.block 2 (.loop Z7))) (.seq (YM 47) .ret)))))
theorem b21:Tryz.f21.body=some c21:=by kernel_rfl
@[simp] theorem BIO(n:Nat)(st:XS):AE bk ann kn (n+1) 59 (YM 459) st=PW (KC bk (BN bk ann kn n) (.str [om 19 4,oc 20 .add 3 19 1,om 4 20]) (CH (some ([1,2,3,4],[1,2,3,9,12,30,56])) (ND [28,2000000000000030] st))) :=
 DT (by kernel_rfl) (by kernel_rfl) (by kernel_rfl) (by kernel_rfl) (by kernel_rfl)
@[simp] theorem x21:UX 59 Z6 APP/\UX 59 Z7 APQ/\SX 59 (YM 2) [oq 1 (.box (tq 0)),oq 2 (.alloc 43)] [0] [1,2,3,9,12,30,56]/\RX 59 (YM 5) (.drw [⟨[3],[oz 7 31 1 0,oq 8 (.ldz 27 (tq 7)),od 9 68 [tq 8],oz 10 31 1 1,oq 11 (.ldz 23 (tq 10)),od 12 69 [tq 11],oq 13 (.build 43 [(0,tq 9),(1,tq 12)]),oq 3 (.alloc 43)],[os (.sto 43 (tq 3) (tq 13))]⟩]) (some ([1,2],[1,2,30,56]))/\SX 59 (YM 19) [ok 4 0] [1,2,3] [1,2,3,9,12,30,56]/\SX 59 (YM 267) [om 14 4,oz 15 31 1 2,ol 16 28 15,oe 17 16 28,ob 18 .lss 3 14 17] [1,2,3,4] [1,2,3,9,12,30,56]/\RX 59 (YM 587) (.drw [⟨[],[oz 21 43 3 2,ol 22 28 21,oz 23 31 1 2,ol 24 28 23,om 25 4,oi 26 28 24 25,ol 27 97 26,oq 28 (.app [.const (.slice none 0 0),tq 27] [97,97]),oq 29 (.buildS 28 1 [(0,tq 28)]),oq 30 (.app [tq 22,tq 29] [28,28]),oz 31 43 3 2],[os (.sto 28 (tq 31) (tq 30))]⟩]) (some ([1,2,3,4],[1,2,3,9,12,30,56]))/\SX 59 (YM 39) [ok 5 0] [1,2,3] [1,2,3,9,12,30,56]/\SX 59 (YM 535) [om 32 5,oz 33 31 1 3,ol 34 29 33,oe 35 34 29,ob 36 .lss 3 32 35] [1,2,3,5] [1,2,3,9,12,30,56]/\SX 59 (YM 2199) [oz 39 31 1 3,ol 40 29 39,om 41 5,oi 42 29 40 41,ol 43 57 42,oq 6 (.alloc 57),os (.sto 57 (tq 6) (tq 43))] [1,2,3,5] [1,2,3,9,12,30,56]/\SX 59 (YM 3223) [oz 44 43 3 3,ol 45 41 44,oz 46 57 6 0,ol 47 3 46,oz 48 57 6 1,ol 49 3 48,oz 50 57 6 2,ol 51 4 50,oz 52 57 6 3,ol 53 4 52,oq 54 (.build 94 [(0,tq 47),(1,tq 49),(2,tq 51),(3,tq 53)]),oq 55 (.buildS 41 1 [(0,tq 54)]),oq 56 (.app [tq 45,tq 55] [41,41]),oz 57 43 3 3,os (.sto 41 (tq 57) (tq 56))] [1,2,3,5,6] [1,2,3,6,9,12,30,56]/\SX 59 (YM 919) [om 37 5,oc 38 .add 3 37 1,om 5 38] [1,2,3,5] [1,2,3,9,12,30,56]/\SX 59 (YM 47) [ol 58 43 3,os (.sto 43 (tq 2) (tq 58))] [2,3] [1,2,3,9,12,30,56]/\LX 59 Z6 [1,2,3,4] [1,2,3,9,12,30,56]/\LX 59 Z7 [1,2,3,5] [1,2,3,9,12,30,56]:=by and_intros<;>first|exact rx|exact lx|exact fun _ _=>rfl
def g3:=rg Tryz.f3
@[simp] def APR:bq:=(lp (g3 34303) 93 0 1 (.seq (g3 140799) (.seq (g3 337407) (.cond (.tmp 116) (.seq (g3 1254911) .ret) .skip))) (g3 58879))
def sD:=APR
def c3:bq:=(.seq (g3 2) (.seq (.seq (g3 9) (.cond (.tmp 26) (.seq (g3 37) .ret) .skip)) (.seq (g3 11) (.seq (g3 23) (.seq (.seq (g3 79) (.cond (.tmp 44) (.seq (g3 303) .ret) .skip)) (.seq (.seq (g3 159) (.cond (.tmp 61) (g3 351) .skip)) (.seq (.seq (g3 319) (.cond (.tmp 63) (.seq (g3 1215) .ret) .skip)) (.seq (g3 383) (.seq (.seq (g3 1279) (.cond (.tmp 89) (.seq (g3 4863) .ret) .skip)) (.seq (.seq (g3 2559) (.block 0 (.loop sD))) (.seq (g3 3071) .ret)))))))))))
theorem b3:Tryz.f3.body=some c3:=by kernel_rfl
@[simp] theorem x3:UX 118 sD APR/\LX 118 sD [1,3,7,10,11] [3,30,32,34,35,41,50,80]:=⟨fun _ _=>rfl,lx⟩
def HX:=rg Tryz.f129
@[simp] def AET:bq:=(lp (HX 4267) 32 0 1 (.seq (HX 17579) (.seq (HX 42155) (.seq (HX 91307) (.seq (HX 189611) (.cond (.tmp 82) (HX 386219) .skip))))) (HX 7339))
def TH:=AET
def ASQ:bq:=(.seq (HX 2) (.seq (HX 5) (.seq (.seq (HX 19) (.cond (.tmp 19) (.seq (HX 75) (.seq (.seq (HX 299) (.block 0 (.loop TH))) (HX 235))) .skip)) (.seq (HX 23) .ret))))
theorem b129:Tryz.f129.body=some ASQ:=by kernel_rfl
@[simp] theorem BNP:UX 94 TH AET/\SX 94 (HX 2) [oq 3 (.box (tq 1)),oq 4 (.alloc 158)] [0,1] []/\RX 94 (HX 5) (.drw [⟨[5],[om 10 0,oq 11 (.oth (.nilCheck (tq 10))),oz 12 175 11 2,oq 13 (.ldz 173 (tq 12)),oq 14 (.ldz 153 (tq 3)),oq 15 (.oth (.lookup 173 (tq 13) (tq 14) true)),om 9 15,oq 16 (.oth (.extract (tq 9) 0)),oq 17 (.oth (.extract (tq 9) 1)),oq 5 (.alloc 158),os (.sto 158 (tq 5) (tq 16)),om 6 17],[]⟩]) (some ([0,3,4],[3,4]))/\SX 94 (HX 19) [om 18 6,ou 19 18] [0,3,4,5,6] [3,4,5]/\SX 94 (HX 75) [oz 20 158 5 2,os (.sto 4 (tq 20) (cb true))] [0,3,4,5] [3,4,5]/\SX 94 (HX 299) [oz 21 153 3 1,oz 22 86 21 1,ol 23 3 22,om 7 23] [0,3,4,5] [3,4,5]/\SX 94 (HX 4267) [om 24 7,oz 25 153 3 1,oz 26 86 25 1,ol 27 3 26,oz 28 153 3 0,oz 29 151 28 1,ol 30 3 29,ob 31 .add 3 27 30,ob 32 .lss 3 24 31] [0,3,4,5,7] [3,4,5]/\RX 94 (HX 17579) (.drw [⟨[],[om 35 0,oq 36 (.oth (.nilCheck (tq 35))),oz 37 175 36 1,ol 38 172 37,oz 39 153 3 1,oz 40 86 39 0,ol 41 3 40,om 42 7,oi 43 172 38 41,oi 44 206 43 42,ol 45 3 44,om 8 45],[]⟩]) (some ([0,3,4,5,7],[3,4,5]))/\SX 94 (HX 42155) [oz 46 158 5 0,ol 47 3 46,om 48 8,ob 49 .add 3 47 48,oz 50 158 5 0,os (.sto 3 (tq 50) (tq 49))] [0,3,4,5,7,8] [3,4,5]/\RX 94 (HX 91307) (.drw [⟨[],[oz 51 158 5 2,oq 52 (.ldz 4 (tq 51)),om 53 52,gm 53 true 54 8,gm 53 true 55 0,og 53 true 56 (.oth (.nilCheck (tq 55))),gz 53 true 57 175 56 0,gz 53 true 58 43 57 3,og 53 true 59 (.ldz 41 (tq 58)),gz 53 true 60 153 3 0,gz 53 true 61 151 60 0,og 53 true 62 (.ldz 3 (tq 61)),gi 53 true 63 41 59 62,gz 53 true 64 94 63 1,og 53 true 65 (.ldz 3 (tq 64)),gb 53 true 66 .geq 3 54 65,oq 67 (.pick (tq 53) (tq 66) (cb false)),oz 68 158 5 2],[os (.sto 4 (tq 68) (tq 67))]⟩]) (some ([0,3,4,5,7,8],[3,4,5]))/\RX 94 (HX 189611) (.drw [⟨[],[om 69 0,oq 70 (.oth (.nilCheck (tq 69))),oz 71 175 70 0,oz 72 43 71 2,ol 73 28 72,oz 74 153 3 1,oz 75 86 74 0,ol 76 3 75,oi 77 28 73 76,ol 78 97 77,om 79 7,oi 80 97 78 79,ol 81 4 80,ou 82 81],[]⟩]) (some ([0,3,4,5,7],[3,4,5]))/\SX 94 (HX 386219) [oz 83 158 5 1,ol 84 3 83,oc 85 .add 3 84 1,oz 86 158 5 1,os (.sto 3 (tq 86) (tq 85))] [0,3,4,5,7] [3,4,5]/\SX 94 (HX 7339) [om 33 7,oc 34 .add 3 33 1,om 7 34] [0,3,4,5,7] [3,4,5]/\RX 94 (HX 235) (.drw [⟨[],[om 87 0,oq 88 (.oth (.nilCheck (tq 87))),oz 89 175 88 2,ol 90 173 89,ol 91 153 3,ol 92 158 5],[os (.upd 173 (tq 90) (tq 91) (tq 92))]⟩]) (some ([0,3,4,5],[3,4,5]))/\SX 94 (HX 23) [ol 93 158 5,os (.sto 158 (tq 4) (tq 93))] [4,5] [4,5]/\LX 94 TH [0,3,4,5,7] [3,4,5]:=by and_intros<;>first|exact rx|exact lx|exact fun _ _=>rfl
def FH:=rg Tryz.f168
@[simp] def AEU:bq:=(.seq (FH 36043) (.seq (.cond (.tmp 41) .skip (.exit 2)) (.seq (.block 3 (.seq (FH 576715) (.seq (FH 1363147) (.seq (.seq (FH 5033163) (.cond (.tmp 61) (.exit 3) .skip)) (.seq (FH 6081739) (.seq (.seq (FH 20761803) (.cond (.tmp 70) (.seq (FH 79482059) .ret) .skip)) (FH 16567499))))))) (FH 249035))))
def TI:=AEU
@[simp] def AEV:bq:=(.seq (FH 139) (.seq (.cond (.tmp 25) .skip (.exit 0)) (.seq (.block 1 (.seq (FH 2251) (.seq (FH 5323) (.block 2 (.loop TI))))) (FH 971))))
def TJ:=AEV
def sE:bq:=(.seq (FH 2) (.seq (.seq (FH 9) (.cond (.tmp 14) (.seq (FH 37) .ret) .skip)) (.seq (.seq (FH 19) (.block 0 (.loop TJ))) (.seq (FH 23) .ret))))
theorem b168:Tryz.f168.body=some sE:=by kernel_rfl
@[simp] theorem BAJ(n:Nat)(st:XS):AE bk ann kn (n+1) 76 (FH 20761803) st=PW (KC bk (BN bk ann kn n) (.str [ol 66 177 5,om 67 0,oc 68 .add 3 67 1,oq 69 (.call false none (tq 66) [tq 68]),ou 70 69]) (CH (some ([0,1,3,4,5,8,23,24,39,40],[10,65])) (ND [8004000922065] st))) :=
 DT (by kernel_rfl) (by kernel_rfl) (by kernel_rfl) (by kernel_rfl) (by kernel_rfl)
@[simp] theorem BNQ:UX 76 TI AEU/\UX 76 TJ AEV/\SX 76 (FH 2) [ot 7 false] [0,1,2,3,4,5] [10,65]/\SX 76 (FH 9) [om 11 0,ol 12 170 1,oe 13 12 170,ob 14 .eql 3 11 13] [0,1,2,3,4,5] [10,65]/\SX 76 (FH 37) [ol 15 191 2,ol 16 120 3,oq 17 (.call false none (tq 15) [tq 16]),om 7 17] [2,3] [65]/\SX 76 (FH 19) [ol 18 130 4,oq 19 (.oth (.nilCheck (tq 18))),oz 20 175 19 0,oz 21 43 20 0,oz 22 40 21 1,ol 23 3 22,ok 24 0] [0,1,3,4,5] [10,65]/\SX 76 (FH 139) [ob 25 .lss 3 24 23] [0,1,3,4,5,23,24] [10,65]/\SX 76 (FH 2251) [om 26 24,om 8 26] [0,1,3,4,5,23,24] [10,65]/\RX 76 (FH 5323) (.drw [⟨[],[ol 27 130 4,oq 28 (.oth (.nilCheck (tq 27))),oz 29 175 28 0,oz 30 43 29 0,oz 31 40 30 2,ol 32 3 31,ol 33 170 1,om 34 0,oi 35 170 33 34,oz 36 151 35 1,ol 37 3 36,ob 38 .sub 3 32 37,oc 39 .add 3 38 1,ok 40 0],[]⟩]) (some ([0,1,3,4,5,8,23,24],[10,65]))/\SX 76 (FH 36043) [ob 41 .lss 3 40 39] [0,1,3,4,5,8,23,24,39,40] [10,65]/\SX 76 (FH 576715) [om 42 40,om 9 42] [0,1,3,4,5,8,23,24,39,40] [10,65]/\SX 76 (FH 1363147) [ol 43 170 1,om 44 0,oi 45 170 43 44,ol 46 151 45,om 47 8,om 48 9,oq 49 (.build 86 [(0,tq 47),(1,tq 48)]),oq 50 (.build 153 [(0,tq 46),(1,tq 49)]),oq 10 (.alloc 153),os (.sto 153 (tq 10) (tq 50))] [0,1,3,4,5,8,9,23,24,39,40] [10,65]/\SX 76 (FH 5033163) [ol 51 130 4,ol 52 153 10,od 53 129 [tq 51,tq 52],oq 54 (.oth (.field 158 (tq 53) 2)),ou 55 54,om 56 55,gl 56 false 57 120 3,og 56 false 58 (.oth (.makeFunc (.func 169) #[] #[tq 4,tq 10])),gd 56 false 59 137 [tq 57,tq 58],og 56 false 60 (.oth (.unOp .not 4 (tq 59))),oq 61 (.pick (tq 56) (cb true) (tq 60))] [0,1,3,4,5,8,10,23,24,39,40] [10,65]/\SX 76 (FH 6081739) [ol 62 120 3,ol 63 153 10,oq 64 (.buildS 120 1 [(0,tq 63)]),oq 65 (.app [tq 62,tq 64] [120,120]),os (.sto 120 (tq 3) (tq 65))] [0,1,3,4,5,8,10,23,24,39,40] [10,65]/\SX 76 (FH 79482059) [ot 7 false] [] []/\SX 76 (FH 16567499) [ol 71 120 3,om 72 0,oq 73 (.oth (.slice 120 (tq 71) none (some (tq 72)) none)),os (.sto 120 (tq 3) (tq 73))] [0,1,3,4,5,8,23,24,39,40] [10,65]/\SX 76 (FH 249035) [oc 74 .add 3 40 1,om 40 74] [0,1,3,4,5,8,23,24,39,40] [10,65]/\SX 76 (FH 971) [oc 75 .add 3 24 1,om 24 75] [0,1,3,4,5,23,24] [10,65]/\SX 76 (FH 23) [ot 7 true] [] []/\LX 76 TJ [0,1,3,4,5,23,24] [10,65]/\LX 76 TI [0,1,3,4,5,8,23,24,39,40] [10,65]:=by and_intros<;>first|exact rx|exact lx|exact fun _ _=>rfl
def ALO:=rg Tryz.f169
def A38:bq:=(.seq (ALO 2) (.seq (ALO 5) .ret))
theorem b169:Tryz.f169.body=some A38:=by kernel_rfl
@[simp] theorem BNR:SX 12 (ALO 2) [oq 3 (.box (tq 0)),ot 4 false] [0,1,2] []/\RX 12 (ALO 5) (.drw [⟨[],[ol 5 130 1,oq 6 (.oth (.nilCheck (tq 5))),oz 7 175 6 0,ol 8 43 7,ol 9 153 2,ol 10 153 3],[od 11 139 [tq 8,tq 9,tq 10]]⟩,⟨[],[om 4 11],[]⟩]) (some ([1,2,3],[3])):=⟨rx,rx⟩
def ALP:=rg Tryz.f128
def ALQ:bq:=(.seq (ALP 2) (.seq (ALP 5) .ret))
theorem b128:Tryz.f128.body=some ALQ:=by kernel_rfl
@[simp] theorem BNS:SX 6 (ALP 2) [oq 2 (.box (tq 0)),oq 3 (.box (tq 1)),oq 4 (.mv (.const .nilFunc))] [0,1] [2,3]/\SX 6 (ALP 5) [oq 5 (.oth (.makeFunc (.func 167) #[] #[tq 3,tq 2])),om 4 5] [2,3] [2,3]:=⟨rx,rx⟩
def JM:=rg Tryz.f167
@[simp] def AEW:bq:=(.seq (JM 139) (.seq (.cond (.tmp 12) .skip (.exit 0)) (.seq (.block 1 (.seq (JM 2251) (JM 3275))) (JM 971))))
def TK:=AEW
def AAD:bq:=(.seq (JM 2) (.seq (JM 5) (.seq (.seq (JM 19) (.block 0 (.loop TK))) (.seq (.seq (JM 39) (.cond (.tmp 26) .ret .skip)) (.seq (JM 47) (.seq (JM 95) (.seq (JM 191) (JM 255))))))))
theorem b167:Tryz.f167.body=some AAD:=by kernel_rfl
@[simp] theorem BNT:UX 30 TK AEW/\SX 30 (JM 2) [oq 3 (.box (tq 0))] [0,1,2] [3,7,8]/\SX 30 (JM 5) [ok 4 0] [1,2,3] [3,7,8]/\SX 30 (JM 19) [ol 9 170 1,oe 10 9 170,ok 11 0] [1,2,3,4] [3,7,8]/\SX 30 (JM 139) [ob 12 .lss 3 11 10] [1,2,3,4,9,10,11] [3,7,8]/\SX 30 (JM 2251) [oi 13 170 9 11,ol 14 151 13,oq 6 (.alloc 151),os (.sto 151 (tq 6) (tq 14))] [1,2,3,4,9,10,11] [3,7,8]/\SX 30 (JM 3275) [om 15 4,oz 16 151 6 1,ol 17 3 16,ob 18 .add 3 15 17,om 4 18] [1,2,3,4,6,9,10,11] [3,6,7,8]/\SX 30 (JM 971) [oc 19 .add 3 11 1,om 11 19] [1,2,3,4,9,10,11] [3,7,8]/\SX 30 (JM 39) [om 20 4,ol 21 130 2,oq 22 (.oth (.nilCheck (tq 21))),oz 23 175 22 0,ol 24 43 23,od 25 140 [tq 24],ob 26 .gtr 3 20 25] [1,2,3,4] [3,7,8]/\SX 30 (JM 47) [oq 7 (.alloc 120)] [1,2,3] [3,7,8]/\SX 30 (JM 95) [oq 8 (.alloc 177)] [1,2,3,7] [3,7,8]/\SX 30 (JM 191) [oq 27 (.oth (.makeFunc (.func 168) #[] #[tq 1,tq 3,tq 7,tq 2,tq 8])),os (.sto 177 (tq 8) (tq 27))] [1,2,3,7,8] [3,7,8]/\SX 30 (JM 255) [ol 28 177 8,oq 29 (.call false none (tq 28) [ci 0])] [6,7,8,21,22] [1,3,4,6,7,8,11,910,911]/\LX 30 TK [1,2,3,4,9,10,11] [3,7,8]:=⟨fun _ _=>rfl,rx,rx,rx,rx,rx,rx,rx,rx,rx,rx,rx,rx,lx⟩
def g91:=rg Tryz.f91
def c91:bq:=(.seq (g91 2) (.seq (.seq (g91 9) (.block 0 (.rangeFunc (.tmp 7) #[8] .skip (.block 1 (.seq (g91 149) .ret))))) (.seq (g91 11) .ret)))
theorem b91:Tryz.f91.body=some c91:=by kernel_rfl
@[simp] theorem x91:SX 9 (g91 2) [oq 4 (.alloc 4)] [0,1] [7]/\SX 9 (g91 9) [om 5 0,om 6 1,od 7 128 [tq 5,tq 6]] [0,1,4] [4,7]/\SX 9 (g91 149) [os (.sto 4 (tq 4) (cb true))] [4] [4]/\SX 9 (g91 11) [os (.sto 4 (tq 4) (cb false))] [4] [4]:=⟨rx,rx,rx,rx⟩
def g93:=rg Tryz.f93
def c93:bq:=(.seq (g93 2) (.seq (.seq (g93 9) (.cond (.tmp 4) (.seq (g93 37) .ret) .skip)) (.seq (g93 11) .ret)))
theorem b93:Tryz.f93.body=some c93:=by kernel_rfl
@[simp] theorem x93:SX 8 (g93 2) [oq 2 (.mv (.const (.slice none 0 0)))] [0] []/\SX 8 (g93 9) [om 3 0,oq 4 (.bin .eql 22 (tq 3) (.const (.slice none 0 0)))] [0] []/\SX 8 (g93 37) [oq 2 (.mv (.const (.slice none 0 0)))] [] []/\SX 8 (g93 11) [oq 5 (.buildS 22 0 []),om 6 0,oq 7 (.app [tq 5,tq 6] [22,22]),om 2 7] [0] []:=⟨rx,rx,rx,rx⟩
def fR:=rg Tryz.f90
@[simp] def APT:bq:=(lp (fR 267) 30 0 1 (.seq (fR 1099) (.cond (.tmp 43) (.seq (fR 4683) .ret) .skip)) (fR 459))
def Z8:=APT
def c90:bq:=(.seq (fR 2) (.seq (.seq (fR 9) (.cond (.tmp 13) (.seq (fR 37) (.seq (fR 85) .ret)) .skip)) (.seq (.seq (fR 19) (.block 0 (.loop Z8))) (.seq (fR 23) .ret))))
theorem b90:Tryz.f90.body=some c90:=by kernel_rfl
@[simp] theorem x90:UX 44 Z8 APT/\SX 44 (fR 2) [ot 10 false] [0,1,2,3,4,5,6] [21,35,38]/\SX 44 (fR 9) [om 12 2,oc 13 .eql 3 12 0] [0,1,2,3,4,5,6] [21,35,38]/\SX 44 (fR 37) [om 14 0,os (.sto 22 (tq 3) (tq 14))] [0,3,4] [21,35,38]/\RX 44 (fR 85) (.drw [⟨[],[ol 15 130 4,ol 16 130 4,oq 17 (.oth (.nilCheck (tq 16))),oz 18 175 17 0,ol 19 43 18,om 20 0,od 21 92 [tq 19,tq 20]],[od 22 91 [tq 15,tq 21]]⟩,⟨[],[om 10 22],[]⟩]) (some ([0,4],[35,38]))/\SX 44 (fR 19) [om 23 1,om 11 23] [0,1,2,5,6] [21,35,38]/\SX 44 (fR 267) [om 24 11,oz 25 43 5 3,ol 26 41 25,oe 27 26 41,om 28 2,ob 29 .sub 3 27 28,ob 30 .leq 3 24 29] [0,2,5,6,11] [21,35,38]/\RX 44 (fR 1099) (.drw [⟨[35],[ol 33 168 6,om 34 0,om 36 11,oq 37 (.buildS 22 1 [(0,tq 36)]),om 39 11,oc 40 .add 3 39 1,om 41 2,oc 42 .sub 3 41 1,oq 35 (.call true none (.func 93) [tq 34]),oq 38 (.app [tq 35,tq 37] [22,22])],[oq 43 (.call false (some 38) (tq 33) [tq 38,tq 40,tq 42])]⟩,⟨[],[],[]⟩]) (some ([0,2,5,6,11],[21,38]))/\SX 44 (fR 4683) [ot 10 true] [] []/\SX 44 (fR 459) [om 31 11,oc 32 .add 3 31 1,om 11 32] [0,2,5,6,11] [21,35,38]/\SX 44 (fR 23) [ot 10 false] [] []/\LX 44 Z8 [0,2,5,6,11] [21,35,38]:=⟨fun _ _=>rfl,rx,rx,rx,rx,rx,rx,rx,rx,rx,rx,lx⟩
def iX:=rg Tryz.f85
@[simp] def APU:bq:=(.seq (iX 17877) (.seq (.cond (.tmp 45) .skip (.exit 2)) (.seq (.block 3 (.seq (iX 288213) (iX 419285))) (iX 124373))))
def iY:=APU
def c85:bq:=(.seq (iX 2) (.seq (.seq (iX 9) (.block 0 (.rangeFunc (.tmp 15) #[16] (iX 37) (.block 1 (.seq (iX 149) (.seq (.seq (iX 597) (.cond (.tmp 41) (.exit 1) .skip)) (.seq (iX 725) (.seq (.seq (iX 2517) (.block 2 (.loop iY))) (iX 2005))))))))) (.seq (iX 11) .ret)))
@[simp] theorem x85:UX 58 iY APU/\LX 58 iY [2,3,4,6,42,43,44] [2,3,4,6,52,922]:=⟨fun _ _=>rfl,lx⟩
def W4:=rg Tryz.f41
@[simp] def APV:bq:=(.seq (W4 8957) (.seq (.cond (.tmp 23) .skip (.exit 0)) (.seq (.block 1 (.seq (W4 144125) (.seq (W4 340733) (.cond (.tmp 27) (.exit 0) .skip)))) (W4 62205))))
def Z9:=APV
def c41:bq:=(.seq (W4 2) (.scope (.seq (W4 9) (.seq (.seq (W4 37) (.cond (.tmp 15) (.seq (W4 149) .ret) .skip)) (.seq (W4 45) (.seq (W4 93) (.seq (W4 189) (.seq (.label 0) (.seq (.seq (W4 1277) (.block 0 (.loop Z9))) (.seq (W4 1533) .ret))))))))))
theorem b41:Tryz.f41.body=some c41:=by kernel_rfl
@[simp] theorem x41:UX 30 Z9 APV/\SX 30 (W4 2) [oq 1 (.box (tq 0)),oq 2 (.mv (.const (.slice none 0 0))),ok 3 0] [0] [1,4,6,7,11,910,911]/\SX 30 (W4 9) [ol 10 43 1,od 11 71 [tq 10],om 9 11,oq 12 (.oth (.extract (tq 9) 0)),oq 13 (.oth (.extract (tq 9) 1)),oq 4 (.alloc 130),os (.sto 130 (tq 4) (tq 12)),om 5 13] [1] [1,4,6,7,11,910,911]/\SX 30 (W4 37) [om 14 5,oc 15 .neq 34 14 0] [1,4,5,6] [1,4,6,7,11,19,910,911]/\SX 30 (W4 149) [om 16 5,oq 2 (.mv (.const (.slice none 0 0))),om 3 16] [5] []/\SX 30 (W4 45) [oq 6 (.alloc 22)] [1,4] [1,4,6,7,11,910,911]/\SX 30 (W4 93) [oq 7 (.alloc 168)] [1,4,6] [1,4,6,7,11,910,911]/\SX 30 (W4 189) [oq 17 (.oth (.makeFunc (.func 90) #[] #[tq 6,tq 4,tq 1,tq 7])),os (.sto 168 (tq 7) (tq 17))] [1,4,6,7] [1,4,6,7,11,910,911]/\SX 30 (W4 1277) [oz 18 43 1 3,ol 19 41 18,oe 20 19 41,oc 21 .add 3 20 1,ok 22 0] [1,6,7] [1,4,6,7,11,910,911]/\SX 30 (W4 8957) [ob 23 .lss 3 22 21] [6,7,21,22] [1,4,6,7,11,910,911]/\SX 30 (W4 144125) [om 24 22,om 8 24] [6,7,21,22] [1,4,6,7,11,910,911]/\SX 30 (W4 340733) [ol 25 168 7,om 26 8,oq 27 (.call false none (tq 25) [.const (.slice none 0 0),ci 0,tq 26])] [6,7,8,21,22] [1,4,6,7,11,910,911]/\SX 30 (W4 62205) [oc 28 .add 3 22 1,om 22 28] [6,7,8,21,22] [1,3,4,6,7,8,11,910,911]/\SX 30 (W4 1533) [ol 29 22 6,om 2 29,ok 3 0] [6] [1,4,6,7,11,910,911]/\LX 30 Z9 [6,7,21,22] [1,4,6,7,11,910,911]:=⟨fun _ _=>rfl,rx,rx,rx,rx,rx,rx,rx,rx,rx,rx,rx,rx,rx,lx⟩
def rN:=rg Tryz.f94
@[simp] def APW:bq:=(lp (rN 267) 19 0 1 (.seq (rN 1099) (.cond (.tmp 40) (.seq (rN 4683) .ret) .skip)) (rN 459))
def aA:=APW
def c94:bq:=(.seq (rN 2) (.seq (rN 5) (.seq (.seq (rN 19) (.block 0 (.loop aA))) (.seq (rN 23) .ret))))
theorem b94:Tryz.f94.body=some c94:=by kernel_rfl
@[simp] theorem x94:UX 41 aA APW/\SX 41 (rN 2) [ot 4 false] [0,1] [29,39]/\SX 41 (rN 5) [om 7 0,oq 8 (.oth (.nilCheck (tq 7))),oz 9 175 8 0,oz 10 43 9 3,ol 11 41 10,om 12 1,oi 13 41 11 12,oz 14 94 13 0,ol 15 3 14,om 5 15] [0,1] [29,39]/\SX 41 (rN 19) [ok 6 1] [0,1,5] [29,39]/\SX 41 (rN 267) [om 16 6,om 17 5,oc 18 .quo 3 17 2,ob 19 .leq 3 16 18] [0,1,5,6] [29,39]/\SX 41 (rN 1099) [om 22 0,om 23 0,oq 24 (.oth (.nilCheck (tq 23))),oz 25 175 24 0,ol 26 43 25,om 27 1,oq 28 (.buildS 22 1 [(0,tq 27)]),oq 29 (.call true none (.func 92) [tq 26,tq 28]),om 30 1,om 31 6,oq 32 (.build 151 [(0,tq 30),(1,tq 31)]),om 33 1,om 34 5,om 35 6,ob 36 .sub 3 34 35,oq 37 (.build 151 [(0,tq 33),(1,tq 36)]),oq 38 (.buildS 170 2 [(0,tq 32),(1,tq 37)]),oq 39 (.app [tq 29,tq 38] [170,170]),oq 40 (.call false (some 39) (.func 91) [tq 22,tq 39])] [0,1,5,6] [29,39]/\SX 41 (rN 4683) [ot 4 true] [] []/\SX 41 (rN 459) [om 20 6,oc 21 .add 3 20 1,om 6 21] [0,1,5,6] [29,39]/\SX 41 (rN 23) [ot 4 false] [] []/\LX 41 aA [0,1,5,6] [29,39]:=⟨fun _ _=>rfl,rx,rx,rx,rx,rx,rx,rx,rx,lx⟩
def U7:=rg Tryz.f42
@[simp] def APX:bq:=(.seq (U7 1119) (.seq (.cond (.tmp 27) .skip (.exit 0)) (.seq (.block 1 (.seq (U7 18015) (.seq (U7 42591) (.cond (.tmp 31) (U7 91743) .skip)))) (U7 7775))))
def aB:=APX
def c42:bq:=(.seq (U7 2) (.seq (U7 5) (.seq (.seq (U7 19) (.cond (.tmp 14) (.seq (U7 75) .ret) .skip)) (.seq (.seq (U7 39) (.cond (.tmp 22) (.seq (U7 151) .ret) .skip)) (.seq (U7 47) (.seq (.seq (U7 159) (.block 0 (.loop aB))) (.seq (U7 191) .ret)))))))
theorem b42:Tryz.f42.body=some c42:=by kernel_rfl
@[simp] theorem x42:UX 38 aB APX/\SX 38 (U7 2) [oq 1 (.box (tq 0)),oq 2 (.mv (.const (.slice none 0 0))),ok 3 0] [0] [1,10,21,910,911]/\SX 38 (U7 5) [ol 9 43 1,od 10 71 [tq 9],om 8 10,oq 11 (.oth (.extract (tq 8) 0)),oq 12 (.oth (.extract (tq 8) 1)),om 4 11,om 5 12] [1] [1,10,21,910,911]/\SX 38 (U7 19) [om 13 5,oc 14 .neq 34 13 0] [1,4,5] [1,10,21,910,911]/\SX 38 (U7 75) [om 15 5,oq 2 (.mv (.const (.slice none 0 0))),om 3 15] [5] []/\SX 38 (U7 39) [om 16 4,om 17 4,oq 18 (.oth (.nilCheck (tq 17))),oz 19 175 18 0,ol 20 43 19,od 21 92 [tq 20,.const (.slice none 0 0)],od 22 91 [tq 16,tq 21]] [1,4] [1,10,21,910,911]/\SX 38 (U7 151) [oq 2 (.mv (.const (.slice none 0 0))),ok 3 7] [] []/\SX 38 (U7 47) [oq 6 (.mv (.const (.slice none 0 0)))] [1,4] [1,10,21,910,911]/\SX 38 (U7 159) [oz 23 43 1 3,ol 24 41 23,oe 25 24 41,ok 26 0] [1,4,6] [1,10,21,35,910,911]/\SX 38 (U7 1119) [ob 27 .lss 3 26 25] [4,6,25,26] [1,10,21,35,910,911]/\SX 38 (U7 18015) [om 28 26,om 7 28] [4,6,25,26] [1,10,21,35,910,911]/\SX 38 (U7 42591) [om 29 4,om 30 7,od 31 94 [tq 29,tq 30]] [4,6,7,25,26] [1,10,21,35,910,911]/\SX 38 (U7 91743) [om 32 6,om 33 7,oq 34 (.buildS 22 1 [(0,tq 33)]),oq 35 (.app [tq 32,tq 34] [22,22]),om 6 35] [4,6,7,25,26] [1,10,21,35,910,911]/\SX 38 (U7 7775) [oc 36 .add 3 26 1,om 26 36] [4,6,25,26] [1,10,21,35,910,911]/\SX 38 (U7 191) [om 37 6,om 2 37,ok 3 0] [6] [35]/\LX 38 aB [4,6,25,26] [1,10,21,35,910,911]:=by and_intros<;>first|exact rx|exact lx|exact fun _ _=>rfl
def g6:=rg Tryz.f6
@[simp] def APY:bq:=(lp (g6 68607) 81 0 1 (.seq (g6 281599) (.cond (.tmp 87) (g6 674815) .skip)) (g6 117759))
def aC:=APY
def c6:bq:=(.seq (g6 2) (.seq (.seq (g6 9) (.cond (.tmp 14) (.seq (g6 37) .ret) .skip)) (.seq (g6 11) (.seq (g6 23) (.seq (.seq (g6 79) (.seq (g6 175) (.cond (.tmp 31) (.seq (g6 623) .ret) .skip))) (.seq (g6 95) (.seq (g6 191) (.seq (.seq (g6 639) (.cond (.tmp 63) (.seq (g6 2431) .ret) .skip)) (.seq (.seq (g6 1279) (.cond (.tmp 66) (.seq (g6 4863) .ret) .skip)) (.seq (g6 1535) (.seq (.seq (g6 5119) (.block 0 (.loop aC))) (.seq (g6 6143) .ret))))))))))))
theorem b6:Tryz.f6.body=some c6:=by kernel_rfl
@[simp] theorem BIP(n:Nat)(st:XS):AE bk ann kn (n+1) 102 (g6 6143) st=PW (KC bk (BN bk ann kn n) (.str [om 92 6,oc 93 .eql 34 92 0,om 94 93,gm 94 true 95 5,gm 94 true 96 10,gd 94 true 97 44 [tq 95,tq 96],oq 98 (.pick (tq 94) (tq 97) (cb false)),om 99 98,gd 99 true 100 19 [],oq 101 (.pick (tq 99) (tq 100) (cb false)),om 2 101]) (CH (some ([5,6,10],[1,18,19,24,25,52,55,91])) (ND [91] st))) :=
 DT (by kernel_rfl) (by kernel_rfl) (by kernel_rfl) (by kernel_rfl) (by kernel_rfl)
@[simp] theorem x6:UX 102 aC APY/\SX 102 (g6 2) [oq 1 (.box (tq 0)),ot 2 false] [0] [1,18,19,24,25,52,55]/\SX 102 (g6 9) [ol 12 31 1,od 13 18 [tq 12],ou 14 13] [1] [1,18,19,24,25,52,55]/\SX 102 (g6 37) [od 15 19 [],om 2 15] [] []/\SX 102 (g6 11) [ol 17 31 1,od 18 21 [tq 17],od 19 41 [tq 18],om 16 19,oq 20 (.oth (.extract (tq 16) 0)),oq 21 (.oth (.extract (tq 16) 1)),om 3 20,om 4 21] [1] [1,18,19,24,25,52,55]/\SX 102 (g6 23) [ol 23 31 1,od 24 21 [tq 23],od 25 42 [tq 24],om 22 25,oq 26 (.oth (.extract (tq 22) 0)),oq 27 (.oth (.extract (tq 22) 1)),om 5 26,om 6 27] [1,3,4] [1,18,19,24,25,52,55]/\SX 102 (g6 79) [ol 28 31 1,od 29 23 [tq 28],om 7 29] [1,3,4,5,6] [1,18,19,24,25,52,55]/\SX 102 (g6 175) [om 30 7,oc 31 .neq 34 30 0] [1,3,4,5,6,7] [1,18,19,24,25,52,55]/\SX 102 (g6 623) [om 32 4,om 33 7,ob 34 .eql 34 32 33,om 35 34,gm 35 true 36 6,gm 35 true 37 7,gb 35 true 38 .eql 34 36 37,oq 39 (.pick (tq 35) (tq 38) (cb false)),om 40 39,gm 40 true 41 3,ge 40 true 42 41 22,gm 40 true 43 5,ge 40 true 44 43 22,gb 40 true 45 .add 3 42 44,gc 40 true 46 .eql 3 45 0,oq 47 (.pick (tq 40) (tq 46) (cb false)),om 48 47,gd 48 true 49 19 [],oq 50 (.pick (tq 48) (tq 49) (cb false)),om 2 50] [3,4,5,6,7] [1,18,19,24,25,52,55]/\SX 102 (g6 95) [ol 51 31 1,od 52 35 [tq 51],om 8 52] [1,3,4,5,6] [1,18,19,24,25,52,55]/\SX 102 (g6 191) [ol 53 31 1,om 54 8,od 55 43 [tq 53,tq 54],om 9 55] [1,3,4,5,6,8] [1,18,19,24,25,52,55]/\SX 102 (g6 639) [om 56 4,oc 57 .neq 34 56 0,om 58 57,gm 58 false 59 3,gm 58 false 60 9,gd 58 false 61 44 [tq 59,tq 60],og 58 false 62 (.oth (.unOp .not 4 (tq 61))),oq 63 (.pick (tq 58) (cb true) (tq 62))] [1,3,4,5,6,8,9] [1,18,19,24,25,52,55]/\SX 102 (g6 1279) [om 64 9,oe 65 64 22,oc 66 .eql 3 65 0] [1,5,6,8,9] [1,18,19,24,25,52,55]/\SX 102 (g6 4863) [om 67 6,oc 68 .eql 34 67 7,om 69 68,gm 69 true 70 5,ge 69 true 71 70 22,gc 69 true 72 .eql 3 71 0,oq 73 (.pick (tq 69) (tq 72) (cb false)),om 74 73,gd 74 true 75 19 [],oq 76 (.pick (tq 74) (tq 75) (cb false)),om 2 76] [5,6] [1,18,19,24,25,52,55]/\SX 102 (g6 1535) [oq 10 (.mv (.const (.slice none 0 0)))] [1,5,6,8] [1,18,19,24,25,52,55]/\SX 102 (g6 5119) [ok 11 0] [1,5,6,8,10] [1,18,19,24,25,52,55,91]/\SX 102 (g6 68607) [om 77 11,oz 78 31 1 3,ol 79 29 78,oe 80 79 29,ob 81 .lss 3 77 80] [1,5,6,8,10,11] [1,18,19,24,25,52,55,91]/\SX 102 (g6 281599) [ol 84 31 1,om 85 8,om 86 11,od 87 45 [tq 84,tq 85,tq 86]] [1,5,6,8,10,11] [1,18,19,24,25,52,55,91]/\SX 102 (g6 674815) [om 88 10,om 89 11,oq 90 (.buildS 22 1 [(0,tq 89)]),oq 91 (.app [tq 88,tq 90] [22,22]),om 10 91] [1,5,6,8,10,11] [1,18,19,24,25,52,55,91]/\SX 102 (g6 117759) [om 82 11,oc 83 .add 3 82 1,om 11 83] [1,5,6,8,10,11] [1,18,19,24,25,52,55,91]/\LX 102 aC [1,5,6,8,10,11] [1,18,19,24,25,52,55,91]:=by and_intros<;>first|exact rx|exact lx|exact fun _ _=>rfl
end
end Go.Proofs.Tryz.Op
