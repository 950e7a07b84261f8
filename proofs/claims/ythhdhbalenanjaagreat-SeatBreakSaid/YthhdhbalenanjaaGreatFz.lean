/- The walk's ground of function 57: its regions worked out. No condition. -/
import Derived.Test.YthhdhbalenanjaaGreatGa
open Go renaming Code->bq
open Go.Proofs.Tryz renaming prog->bk
open Int renaming negSucc->bj
set_option maxRecDepth 100000
namespace Go.Proofs.Tryz.Op
open Go Go.Pg
noncomputable section
def g57:=rg Tryz.f57
def c57:bq:=(.seq (g57 2) (.seq (g57 5) .ret))
theorem b57:Tryz.f57.body=some c57:=by kernel_rfl
@[simp] theorem x57:SX 15 (g57 2) [ot 6 false] [0,1,2] []/\SX 15 (g57 5) [om 7 0,om 8 1,ob 9 .geq 3 7 8,om 10 9,gm 10 true 11 0,gm 10 true 12 2,gb 10 true 13 .leq 3 11 12,oq 14 (.pick (tq 10) (tq 13) (cb false)),om 6 14] [0,1,2] []:=⟨rx,rx⟩
def RJ:=rg Tryz.f134
@[simp] def ABD:bq:=(lp (RJ 133) 9 0 1 (.seq (RJ 549) (.cond (.tmp 18) (.seq (RJ 2341) .ret) .skip)) (RJ 229))
def RK:=ABD
def AYP:bq:=(.seq (RJ 2) (.seq (.seq (RJ 9) (.block 0 (.loop RK))) (.seq (RJ 11) .ret)))
theorem A8W:Tryz.f134.body=some AYP:=by kernel_rfl
@[simp] theorem BFW:UX 19 RK ABD/\SX 19 (RJ 2) [ot 4 false] [0,1] []/\SX 19 (RJ 9) [ok 5 0] [0,1] []/\SX 19 (RJ 133) [om 6 5,om 7 0,oe 8 7 22,ob 9 .lss 3 6 8] [0,1,5] []/\SX 19 (RJ 549) [om 12 0,om 13 5,oi 14 22 12 13,ol 15 3 14,om 16 1,od 17 57 [tq 15,tq 16,ci 3],ou 18 17] [0,1,5] []/\SX 19 (RJ 2341) [ot 4 false] [] []/\SX 19 (RJ 229) [om 10 5,oc 11 .add 3 10 1,om 5 11] [0,1,5] []/\SX 19 (RJ 11) [ot 4 true] [] []/\LX 19 RK [0,1,5] []:=⟨fun _ _=>rfl,rx,rx,rx,rx,rx,rx,rx,lx⟩
def AHI:=rg Tryz.f135
def AYQ:bq:=(.seq (AHI 2) (.seq (AHI 5) .ret))
theorem A8X:Tryz.f135.body=some AYQ:=by kernel_rfl
@[simp] theorem BFX:SX 19 (AHI 2) [oq 2 (.box (tq 0)),oq 3 (.box (tq 1)),ot 4 false] [0,1] [2]/\SX 19 (AHI 5) [oz 5 59 3 0,ol 6 3 5,oz 7 27 2 1,ol 8 3 7,oc 9 .sub 3 8 1,od 10 57 [tq 6,ci 0,tq 9],om 11 10,gz 11 true 12 59 3 1,gl 11 true 13 3 12,gz 11 true 14 27 2 2,gl 11 true 15 3 14,gc 11 true 16 .sub 3 15 1,gd 11 true 17 57 [tq 13,ci 0,tq 16],oq 18 (.pick (tq 11) (tq 17) (cb false)),om 4 18] [2,3] [2,3]:=⟨rx,rx⟩
def tF:=rg Tryz.f75
@[simp] def ALZ:bq:=(lp (tF 133) 9 0 1 (.seq (tF 549) (.cond (.tmp 17) (.seq (tF 2341) .ret) .skip)) (tF 229))
def YH:=ALZ
def c75:bq:=(.seq (tF 2) (.seq (.seq (tF 9) (.block 0 (.loop YH))) (.seq (tF 11) .ret)))
theorem b75:Tryz.f75.body=some c75:=by kernel_rfl
@[simp] theorem x75:UX 18 YH ALZ/\SX 18 (tF 2) [ot 4 false] [0,1] []/\SX 18 (tF 9) [ok 5 0] [0,1] []/\SX 18 (tF 133) [om 6 5,om 7 0,oe 8 7 22,ob 9 .lss 3 6 8] [0,1,5] []/\SX 18 (tF 549) [om 12 0,om 13 5,oi 14 22 12 13,ol 15 3 14,om 16 1,ob 17 .eql 3 15 16] [0,1,5] []/\SX 18 (tF 2341) [ot 4 true] [] []/\SX 18 (tF 229) [om 10 5,oc 11 .add 3 10 1,om 5 11] [0,1,5] []/\SX 18 (tF 11) [ot 4 false] [] []/\LX 18 YH [0,1,5] []:=⟨fun _ _=>rfl,rx,rx,rx,rx,rx,rx,rx,lx⟩
def AHJ:=rg Tryz.f114
def AYR:bq:=(.seq (AHJ 2) (.seq (AHJ 5) .ret))
theorem A8Z:Tryz.f114.body=some AYR:=by kernel_rfl
@[simp] theorem BFZ:SX 6 (AHJ 2) [oq 2 (.mv (.const (.slice none 0 0)))] [0,1] []/\SX 6 (AHJ 5) [oq 3 (.buildS 22 0 []),om 4 0,oq 5 (.app [tq 3,tq 4] [22,22]),om 2 5] [0,1] []:=⟨rx,rx⟩
def RL:=rg Tryz.f115
@[simp] def ABE:bq:=(lp (RL 267) 9 0 1 (RL 587) (RL 459))
def RM:=ABE
def AYS:bq:=(.seq (RL 2) (.seq (RL 5) (.seq (.seq (RL 19) (.block 0 (.loop RM))) (.seq (RL 23) .ret))))
theorem A80:Tryz.f115.body=some AYS:=by kernel_rfl
@[simp] theorem BF0:UX 21 RM ABE/\SX 21 (RL 2) [oq 2 (.mv (.const (.slice none 0 0)))] [0] [17]/\SX 21 (RL 5) [oq 5 (.buildS 23 0 []),om 3 5] [0] [17]/\SX 21 (RL 19) [ok 4 0] [0,1,3] [1,17,19]/\SX 21 (RL 267) [om 6 4,om 7 0,oe 8 7 23,ob 9 .lss 3 6 8] [0,3,4] [17,19]/\SX 21 (RL 587) [om 12 3,om 13 0,om 14 4,oi 15 23 13 14,ol 16 22 15,od 17 114 [tq 16],oq 18 (.buildS 23 1 [(0,tq 17)]),oq 19 (.app [tq 12,tq 18] [23,23]),om 3 19] [0,1,3,4] [1,17,19]/\SX 21 (RL 459) [om 10 4,oc 11 .add 3 10 1,om 4 11] [0,1,3,4] [1,17,19]/\SX 21 (RL 23) [om 20 3,om 2 20] [0,1,3,7,8] [19]/\LX 21 RM [0,3,4] [17,19]:=⟨fun _ _=>rfl,rx,rx,rx,rx,rx,rx,rx,lx⟩
def g48:=rg Tryz.f48
def c48:bq:=(.seq (g48 2) (.seq (g48 5) .ret))
theorem b48:Tryz.f48.body=some c48:=by kernel_rfl
@[simp] theorem x48:SX 8 (g48 2) [oq 1 (.box (tq 0)),oq 2 (.alloc 86)] [0] []/\SX 8 (g48 5) [oz 3 59 1 0,ol 4 3 3,oz 5 59 1 1,ol 6 3 5,oq 7 (.build 86 [(0,tq 4),(1,tq 6)]),os (.sto 86 (tq 2) (tq 7))] [1,2] [1,2]:=⟨rx,rx⟩
def RN:=rg Tryz.f107
@[simp] def ABF:bq:=(lp (RN 133) 11 0 1 (.seq (RN 549) (.cond (.tmp 19) (.seq (RN 2341) .ret) .skip)) (RN 229))
def RO:=ABF
def AYT:bq:=(.seq (RN 2) (.seq (.seq (RN 9) (.block 0 (.loop RO))) (.seq (RN 11) .ret)))
theorem A81:Tryz.f107.body=some AYT:=by kernel_rfl
@[simp] theorem BF2:UX 23 RO ABF/\SX 23 (RN 2) [ot 2 false] [0] []/\SX 23 (RN 9) [ok 3 0] [0,1] [1,14]/\SX 23 (RN 133) [om 4 3,om 5 0,oe 6 5 23,ob 7 .lss 3 4 6,om 8 7,gm 8 true 9 3,gc 8 true 10 .lss 3 9 8,oq 11 (.pick (tq 8) (tq 10) (cb false))] [0,3] []/\SX 23 (RN 549) [om 14 0,om 15 3,oi 16 23 14 15,ol 17 22 16,oe 18 17 22,oc 19 .gtr 3 18 5] [0,3] []/\SX 23 (RN 2341) [ot 2 false] [] []/\SX 23 (RN 229) [om 12 3,oc 13 .add 3 12 1,om 3 13] [0,3] []/\SX 23 (RN 11) [om 20 0,oe 21 20 23,oc 22 .leq 3 21 7,om 2 22] [0] []/\LX 23 RO [0,3] []:=⟨fun _ _=>rfl,rx,rx,rx,rx,rx,rx,rx,lx⟩
def RP:=rg Tryz.f100
@[simp] def ABG:bq:=(lp (RP 267) 9 0 1 (RP 587) (RP 459))
def RQ:=ABG
def AYU:bq:=(.seq (RP 2) (.seq (RP 5) (.seq (.seq (RP 19) (.block 0 (.loop RQ))) (.seq (RP 23) .ret))))
theorem A82:Tryz.f100.body=some AYU:=by kernel_rfl
@[simp] theorem BF3:UX 21 RQ ABG/\SX 21 (RP 2) [oq 1 (.box (tq 0)),ok 2 0] [0] [1]/\SX 21 (RP 5) [ok 3 1] [1] [1]/\SX 21 (RP 19) [ok 4 0] [0,1,3] [1,17,19]/\SX 21 (RP 267) [om 5 4,oz 6 27 1 6,ol 7 23 6,oe 8 7 23,ob 9 .lss 3 5 8] [1,3,4] [1]/\SX 21 (RP 587) [om 12 3,oz 13 27 1 6,ol 14 23 13,om 15 4,oi 16 23 14 15,ol 17 22 16,oe 18 17 22,ob 19 .mul 3 12 18,om 3 19] [0,1,3,4] [1,17,19]/\SX 21 (RP 459) [om 10 4,oc 11 .add 3 10 1,om 4 11] [0,1,3,4] [1,17,19]/\SX 21 (RP 23) [om 20 3,om 2 20] [0,1,3,7,8] [19]/\LX 21 RQ [1,3,4] [1]:=⟨fun _ _=>rfl,rx,rx,rx,rx,rx,rx,rx,lx⟩
def DN:=rg Tryz.f108
@[simp] def tG:bq:=(lp (DN 68759) 118 2 3 (.seq (DN 281751) (.cond (.tmp 138) (.seq (DN 1199255) .ret) .skip)) (DN 117911))
def NP:=tG
@[simp] def ABH:bq:=(lp (DN 535) 92 0 1 (.seq (.seq (DN 4247) (.cond (.tmp 110) (.seq (DN 18583) .ret) .skip)) (.seq (DN 5271) (.block 2 (.loop NP)))) (DN 919))
def RT:=ABH
@[simp] def tH:bq:=(lp (DN 1071) 143 4 5 (.seq (DN 4399) (.cond (.tmp 153) (.seq (DN 18735) .ret) .skip)) (DN 1839))
def NQ:=tH
@[simp] def tI:bq:=(lp (DN 2143) 158 6 7 (.seq (DN 8799) (.cond (.tmp 180) (.seq (DN 37471) .ret) .skip)) (DN 3679))
def NR:=tI
def NG:bq:=(.seq (DN 2) (.seq (.seq (DN 9) (.cond (.tmp 31) (.seq (DN 37) .ret) .skip)) (.seq (.seq (DN 19) (.cond (.tmp 88) (.seq (DN 75) .ret) .skip)) (.seq (.seq (DN 39) (.block 0 (.loop RT))) (.seq (.seq (DN 79) (.block 4 (.loop NQ))) (.seq (.seq (DN 159) (.block 6 (.loop NR))) (.seq (DN 191) .ret)))))))
theorem A83:Tryz.f108.body=some NG:=by kernel_rfl
@[simp] theorem BF4:UX 181 NP tG/\UX 181 RT ABH/\UX 181 NQ tH/\UX 181 NR tI/\SX 181 (DN 2) [oq 1 (.box (tq 0)),ok 2 0] [0] [1]/\SX 181 (DN 9) [oz 7 27 1 0,ol 8 3 7,oc 9 .gtr 3 8 4,om 10 9,gz 10 false 11 27 1 1,gl 10 false 12 3 11,gc 10 false 13 .gtr 3 12 3,oq 14 (.pick (tq 10) (cb true) (tq 13)),om 15 14,gz 15 false 16 27 1 2,gl 15 false 17 3 16,gc 15 false 18 .gtr 3 17 5,oq 19 (.pick (tq 15) (cb true) (tq 18)),om 20 19,gz 20 false 21 27 1 7,gl 20 false 22 24 21,ge 20 false 23 22 24,gc 20 false 24 .gtr 3 23 4,oq 25 (.pick (tq 20) (cb true) (tq 24)),om 26 25,gz 26 false 27 27 1 8,gl 26 false 28 25 27,ge 26 false 29 28 25,gc 26 false 30 .gtr 3 29 5,oq 31 (.pick (tq 26) (cb true) (tq 30))] [1] [1]/\SX 181 (DN 37) [ok 2 3] [] []/\SX 181 (DN 19) [oz 32 27 1 0,ol 33 3 32,oc 34 .lss 3 33 0,om 35 34,gz 35 false 36 27 1 1,gl 35 false 37 3 36,gc 35 false 38 .lss 3 37 1,oq 39 (.pick (tq 35) (cb true) (tq 38)),om 40 39,gz 40 false 41 27 1 2,gl 40 false 42 3 41,gc 40 false 43 .lss 3 42 1,oq 44 (.pick (tq 40) (cb true) (tq 43)),om 45 44,gz 45 false 46 27 1 3,gl 45 false 47 3 46,gd 45 false 48 57 [tq 47,ci 0,ci 4],og 45 false 49 (.oth (.unOp .not 4 (tq 48))),oq 50 (.pick (tq 45) (cb true) (tq 49)),om 51 50,gz 51 false 52 27 1 4,gl 51 false 53 22 52,ge 51 false 54 53 22,gz 51 false 55 27 1 1,gl 51 false 56 3 55,gb 51 false 57 .neq 3 54 56,oq 58 (.pick (tq 51) (cb true) (tq 57)),om 59 58,gz 59 false 60 27 1 5,gl 59 false 61 22 60,ge 59 false 62 61 22,gz 59 false 63 27 1 0,gl 59 false 64 3 63,gc 59 false 65 .add 3 64 1,gb 59 false 66 .neq 3 62 65,oq 67 (.pick (tq 59) (cb true) (tq 66)),om 68 67,gz 68 false 69 27 1 6,gl 68 false 70 23 69,ge 68 false 71 70 23,gz 68 false 72 27 1 0,gl 68 false 73 3 72,gc 68 false 74 .add 3 73 1,gb 68 false 75 .neq 3 71 74,oq 76 (.pick (tq 68) (cb true) (tq 75)),om 77 76,gz 77 false 78 27 1 4,gl 77 false 79 22 78,gd 77 false 80 134 [tq 79,ci 0],og 77 false 81 (.oth (.unOp .not 4 (tq 80))),oq 82 (.pick (tq 77) (cb true) (tq 81)),om 83 82,gz 83 false 84 27 1 5,gl 83 false 85 22 84,gd 83 false 86 134 [tq 85,.const (.int .i64 (bj 0))],og 83 false 87 (.oth (.unOp .not 4 (tq 86))),oq 88 (.pick (tq 83) (cb true) (tq 87))] [1] [1]/\SX 181 (DN 75) [ok 2 1] [] []/\SX 181 (DN 39) [ok 3 0] [1] [1]/\SX 181 (DN 535) [om 89 3,oz 90 27 1 0,ol 91 3 90,ob 92 .leq 3 89 91] [1,3] [1]/\SX 181 (DN 4247) [oz 95 27 1 6,ol 96 23 95,om 97 3,oi 98 23 96 97,ol 99 22 98,oe 100 99 22,oc 101 .eql 3 100 0,om 102 101,gz 102 false 103 27 1 6,gl 102 false 104 23 103,gm 102 false 105 3,gi 102 false 106 23 104 105,gl 102 false 107 22 106,gd 102 false 108 134 [tq 107,ci 0],og 102 false 109 (.oth (.unOp .not 4 (tq 108))),oq 110 (.pick (tq 102) (cb true) (tq 109))] [1,3] [1]/\SX 181 (DN 18583) [ok 2 1] [] []/\SX 181 (DN 5271) [ok 4 1] [1,3] [1]/\SX 181 (DN 68759) [om 111 4,oz 112 27 1 6,ol 113 23 112,om 114 3,oi 115 23 113 114,ol 116 22 115,oe 117 116 22,ob 118 .lss 3 111 117] [1,3,4] [1]/\RX 181 (DN 281751) (.drw [⟨[],[oz 121 27 1 6,ol 122 23 121,om 123 3,oi 124 23 122 123,ol 125 22 124,om 126 4,oi 127 22 125 126,ol 128 3 127,oz 129 27 1 6,ol 130 23 129,om 131 3,oi 132 23 130 131,ol 133 22 132,om 134 4,oc 135 .sub 3 134 1,oi 136 22 133 135,ol 137 3 136,ob 138 .leq 3 128 137],[]⟩]) (some ([1,3,4],[1]))/\SX 181 (DN 1199255) [ok 2 1] [] []/\SX 181 (DN 117911) [om 119 4,oc 120 .add 3 119 1,om 4 120] [1,3,4] [1]/\SX 181 (DN 919) [om 93 3,oc 94 .add 3 93 1,om 3 94] [1,3] [1]/\SX 181 (DN 79) [ok 5 0] [1] [1]/\SX 181 (DN 1071) [om 139 5,oz 140 27 1 7,ol 141 24 140,oe 142 141 24,ob 143 .lss 3 139 142] [1,5] [1]/\RX 181 (DN 4399) (.drw [⟨[],[ol 146 27 1,oz 147 27 1 7,ol 148 24 147,om 149 5,oi 150 24 148 149,ol 151 59 150],[od 152 135 [tq 146,tq 151]]⟩,⟨[],[ou 153 152],[]⟩]) (some ([1,5],[1]))/\SX 181 (DN 18735) [ok 2 1] [] []/\SX 181 (DN 1839) [om 144 5,oc 145 .add 3 144 1,om 5 145] [1,5] [1]/\SX 181 (DN 159) [ok 6 0] [1] [1]/\SX 181 (DN 2143) [om 154 6,oz 155 27 1 8,ol 156 25 155,oe 157 156 25,ob 158 .lss 3 154 157] [1,6] [1]/\RX 181 (DN 8799) (.drw [⟨[],[oz 161 27 1 8,ol 162 25 161,om 163 6,oi 164 25 162 163,oz 165 188 164 0,ol 166 3 165,oz 167 27 1 0,ol 168 3 167],[od 169 57 [tq 166,ci 0,tq 168]]⟩,⟨[],[ou 170 169,om 171 170,gz 171 false 172 27 1 8,gl 171 false 173 25 172,gm 171 false 174 6,gi 171 false 175 25 173 174,gz 171 false 176 188 175 1,gl 171 false 177 3 176],[gd 171 false 178 57 [tq 177,ci 0,ci 3]]⟩,⟨[],[og 171 false 179 (.oth (.unOp .not 4 (tq 178))),oq 180 (.pick (tq 171) (cb true) (tq 179))],[]⟩]) (some ([1,6],[1]))/\SX 181 (DN 37471) [ok 2 1] [] []/\SX 181 (DN 3679) [om 159 6,oc 160 .add 3 159 1,om 6 160] [1,6] [1]/\SX 181 (DN 191) [ok 2 0] [] []/\LX 181 RT [1,3] [1]/\LX 181 NP [1,3,4] [1]/\LX 181 NQ [1,5] [1]/\LX 181 NR [1,6] [1]:=by and_intros<;>first|exact rx|exact lx|exact fun _ _=>rfl
def g64:=rg Tryz.f64
def c64:bq:=(.seq (g64 2) (.seq (.seq (g64 9) (.cond (.tmp 30) (.seq (g64 37) .ret) .skip)) (.seq (g64 11) .ret)))
theorem b64:Tryz.f64.body=some c64:=by kernel_rfl
@[simp] theorem x64:SX 39 (g64 2) [oq 1 (.box (tq 0)),ot 2 false] [0] [1]/\SX 39 (g64 9) [oz 3 27 1 4,ol 4 22 3,oe 5 4 22,oc 6 .gtr 3 5 5,om 7 6,gz 7 false 8 27 1 5,gl 7 false 9 22 8,ge 7 false 10 9 22,gc 7 false 11 .gtr 3 10 7,oq 12 (.pick (tq 7) (cb true) (tq 11)),om 13 12,gz 13 false 14 27 1 6,gl 13 false 15 23 14,gd 13 false 16 107 [tq 15],og 13 false 17 (.oth (.unOp .not 4 (tq 16))),oq 18 (.pick (tq 13) (cb true) (tq 17)),om 19 18,gz 19 false 20 27 1 7,gl 19 false 21 24 20,ge 19 false 22 21 24,gc 19 false 23 .gtr 3 22 6,oq 24 (.pick (tq 19) (cb true) (tq 23)),om 25 24,gz 25 false 26 27 1 8,gl 25 false 27 25 26,ge 25 false 28 27 25,gc 25 false 29 .gtr 3 28 7,oq 30 (.pick (tq 25) (cb true) (tq 29))] [1] [1]/\SX 39 (g64 37) [ot 2 false] [] []/\SX 39 (g64 11) [ol 31 27 1,od 32 108 [tq 31],oc 33 .neq 3 32 0,om 34 33,gl 34 false 35 27 1,gd 34 false 36 100 [tq 35],gc 34 false 37 .leq 3 36 80,oq 38 (.pick (tq 34) (cb true) (tq 37)),om 2 38] [1] [1]:=⟨rx,rx,rx,rx⟩
def PO:=rg Tryz.f190
@[simp] def ABI:bq:=(.seq (PO 69) (.seq (.cond (.tmp 9) .skip (.exit 0)) (.seq (.block 1 (.seq (PO 1125) (.seq (PO 2661) (.cond (.tmp 16) (.seq (PO 9829) .ret) .skip)))) (PO 485))))
def RU:=ABI
def AOP:bq:=(.seq (PO 2) (.seq (.seq (PO 9) (.block 0 (.loop RU))) (.seq (PO 11) .ret)))
theorem b190:Tryz.f190.body=some AOP:=by kernel_rfl
@[simp] theorem BF6:UX 19 RU ABI/\SX 19 (PO 2) [ok 4 0] [0,1] []/\SX 19 (PO 9) [om 6 0,oe 7 6 22,ok 8 0] [0,1] []/\SX 19 (PO 69) [ob 9 .lss 3 8 7] [0,1,7,8] []/\SX 19 (PO 1125) [om 10 8,om 5 10] [0,1,7,8] []/\SX 19 (PO 2661) [om 11 1,om 12 0,om 13 5,oi 14 22 12 13,ol 15 3 14,oq 16 (.call false none (tq 11) [tq 15])] [0,1,5,7,8] []/\SX 19 (PO 9829) [om 17 5,om 4 17] [5] []/\SX 19 (PO 485) [oc 18 .add 3 8 1,om 8 18] [0,1,3,7,8] []/\SX 19 (PO 11) [oq 4 (.mv (.const (.int .i64 (bj 0))))] [] []/\LX 19 RU [0,1,7,8] []:=⟨fun _ _=>rfl,rx,rx,rx,rx,rx,rx,rx,rx,lx⟩
def AHK:=rg Tryz.f175
def AYV:bq:=(.seq (AHK 2) (.seq (AHK 5) .ret))
theorem b175:Tryz.f175.body=some AYV:=by kernel_rfl
@[simp] theorem BF7:SX 9 (AHK 2) [ot 4 false] [0,1] [7]/\SX 9 (AHK 5) [om 5 0,om 6 1,od 7 190 [tq 5,tq 6],oc 8 .geq 3 7 0,om 4 8] [0,1,2,3] [2,3]:=⟨rx,rx⟩
def AHL:=rg Tryz.f144
def AOQ:bq:=(.seq (AHL 2) (.seq (AHL 5) .ret))
theorem b144:Tryz.f144.body=some AOQ:=by kernel_rfl
@[simp] theorem BF8:SX 9 (AHL 2) [oq 3 (.box (tq 1)),ot 4 false] [0,1,2] [3]/\SX 9 (AHL 5) [om 5 0,oq 6 (.oth (.makeFunc (.func 176) #[] #[tq 3])),od 7 175 [tq 5,tq 6],ou 8 7,om 4 8] [0,1,2,3] [2,3]:=⟨rx,rx⟩
def AHM:=rg Tryz.f176
def AOR:bq:=(.seq (AHM 2) (.seq (AHM 5) .ret))
theorem b176:Tryz.f176.body=some AOR:=by kernel_rfl
@[simp] theorem BF9:SX 8 (AHM 2) [ot 3 false] [0,1] []/\SX 8 (AHM 5) [ol 4 177 1,om 5 0,oq 6 (.call false none (tq 4) [tq 5]),ou 7 6,om 3 7] [0,1,2] [2]:=⟨rx,rx⟩
def PQ:=rg Tryz.f191
@[simp] def ABJ:bq:=(.seq (PQ 69) (.seq (.cond (.tmp 9) .skip (.exit 0)) (.seq (.block 1 (.seq (PQ 1125) (.seq (PQ 2661) (.cond (.tmp 16) (.seq (PQ 9829) .ret) .skip)))) (PQ 485))))
def RV:=ABJ
def AOS:bq:=(.seq (PQ 2) (.seq (.seq (PQ 9) (.block 0 (.loop RV))) (.seq (PQ 11) .ret)))
theorem b191:Tryz.f191.body=some AOS:=by kernel_rfl
@[simp] theorem BGA:UX 19 RV ABJ/\SX 19 (PQ 2) [ok 4 0] [0,1] []/\SX 19 (PQ 9) [om 6 0,oe 7 6 23,ok 8 0] [0,1] []/\SX 19 (PQ 69) [ob 9 .lss 3 8 7] [0,1,7,8] []/\SX 19 (PQ 1125) [om 10 8,om 5 10] [0,1,7,8] []/\SX 19 (PQ 2661) [om 11 1,om 12 0,om 13 5,oi 14 23 12 13,ol 15 22 14,oq 16 (.call false none (tq 11) [tq 15])] [0,1,5,7,8] []/\SX 19 (PQ 9829) [om 17 5,om 4 17] [5] []/\SX 19 (PQ 485) [oc 18 .add 3 8 1,om 8 18] [0,1,3,7,8] []/\SX 19 (PQ 11) [oq 4 (.mv (.const (.int .i64 (bj 0))))] [] []/\LX 19 RV [0,1,7,8] []:=⟨fun _ _=>rfl,rx,rx,rx,rx,rx,rx,rx,rx,lx⟩
def AHN:=rg Tryz.f177
def AYW:bq:=(.seq (AHN 2) (.seq (AHN 5) .ret))
theorem b177:Tryz.f177.body=some AYW:=by kernel_rfl
@[simp] theorem BGB:SX 9 (AHN 2) [ot 4 false] [0,1] [7]/\SX 9 (AHN 5) [om 5 0,om 6 1,od 7 191 [tq 5,tq 6],oc 8 .geq 3 7 0,om 4 8] [0,1,2,3] [2,3]:=⟨rx,rx⟩
def AHO:=rg Tryz.f147
def AOT:bq:=(.seq (AHO 2) (.seq (AHO 5) .ret))
theorem b147:Tryz.f147.body=some AOT:=by kernel_rfl
@[simp] theorem BGC:SX 9 (AHO 2) [oq 3 (.box (tq 1)),ot 4 false] [0,1,2] [3]/\SX 9 (AHO 5) [om 5 0,oq 6 (.oth (.makeFunc (.func 178) #[] #[tq 3])),od 7 177 [tq 5,tq 6],ou 8 7,om 4 8] [0,1,2,3] [2,3]:=⟨rx,rx⟩
def AHP:=rg Tryz.f178
def AOU:bq:=(.seq (AHP 2) (.seq (AHP 5) .ret))
theorem b178:Tryz.f178.body=some AOU:=by kernel_rfl
@[simp] theorem BGD:SX 8 (AHP 2) [ot 3 false] [0,1] []/\SX 8 (AHP 5) [ol 4 193 1,om 5 0,oq 6 (.call false none (tq 4) [tq 5]),ou 7 6,om 3 7] [0,1,2] [2]:=⟨rx,rx⟩
def AHQ:=rg Tryz.f143
def AYX:bq:=(.seq (AHQ 2) (.seq (AHQ 5) .ret))
theorem A84:Tryz.f143.body=some AYX:=by kernel_rfl
@[simp] theorem BGE:SX 15 (AHQ 2) [ot 6 false] [0,1,2] []/\SX 15 (AHQ 5) [om 7 1,om 8 0,ob 9 .leq 3 7 8,om 10 9,gm 10 true 11 0,gm 10 true 12 2,gb 10 true 13 .leq 3 11 12,oq 14 (.pick (tq 10) (tq 13) (cb false)),om 6 14] [0,1,2] []:=⟨rx,rx⟩
def AHR:=rg Tryz.f145
def AYY:bq:=(.seq (AHR 2) (.seq (AHR 5) .ret))
theorem A85:Tryz.f145.body=some AYY:=by kernel_rfl
@[simp] theorem BGF:SX 5 (AHR 2) [ot 2 false] [0] []/\SX 5 (AHR 5) [om 3 0,od 4 143 [tq 3,ci 0,ci 3],om 2 4] [0,1,2] [1,2]:=⟨rx,rx⟩
def AHS:=rg Tryz.f146
def AYZ:bq:=(.seq (AHS 2) (.seq (AHS 5) .ret))
theorem A86:Tryz.f146.body=some AYZ:=by kernel_rfl
@[simp] theorem BGG:SX 5 (AHS 2) [ot 2 false] [0] []/\SX 5 (AHS 5) [om 3 0,od 4 143 [tq 3,.const (.int .i64 (bj 0)),ci 3],om 2 4] [0,1,2] [1,2]:=⟨rx,rx⟩
def wW:=rg Tryz.f148
def AOV:bq:=(.seq (wW 2) (.seq (wW 5) (.seq (wW 11) .ret)))
theorem A87:Tryz.f148.body=some AOV:=by kernel_rfl
@[simp] theorem BGH:SX 12 (wW 2) [ot 2 false] [0] []/\SX 12 (wW 5) [oq 3 (.alloc 3),os (.sto 3 (tq 3) (.const (.int .i64 (bj 0))))] [0] []/\SX 12 (wW 11) [om 4 0,oe 5 4 22,oc 6 .gtr 3 5 0,om 7 6,gm 7 true 8 0,og 7 true 9 (.oth (.makeFunc (.func 179) #[] #[tq 3])),gd 7 true 10 144 [tq 8,tq 9],oq 11 (.pick (tq 7) (tq 10) (cb false)),om 2 11] [0,3] [3]:=⟨rx,rx,rx⟩
def jH:=rg Tryz.f179
def AY0:bq:=(.seq (jH 2) (.seq (jH 5) (.seq (jH 11) (.seq (jH 23) .ret))))
theorem b179:Tryz.f179.body=some AY0:=by kernel_rfl
@[simp] theorem BGI:SX 11 (jH 2) [ot 3 false] [0,1] []/\SX 11 (jH 5) [om 5 0,ol 6 3 1,oc 7 .add 3 6 1,od 8 143 [tq 5,tq 7,ci 3],om 4 8] [0,1] []/\SX 11 (jH 11) [om 9 0,os (.sto 3 (tq 1) (tq 9))] [0,1,4] []/\SX 11 (jH 23) [om 10 4,om 3 10] [4] []:=⟨rx,rx,rx,rx⟩
def AHT:=rg Tryz.f174
def AY1:bq:=(.seq (AHT 2) (.seq (AHT 5) .ret))
theorem A88:Tryz.f174.body=some AY1:=by kernel_rfl
@[simp] theorem BGJ:SX 9 (AHT 2) [oq 2 (.box (tq 0)),ot 4 false] [0,1] [2]/\SX 9 (AHT 5) [om 5 1,oz 6 40 2 0,ol 7 3 6,od 8 143 [tq 5,ci 0,tq 7],om 4 8] [0,1,2,3] [2,3]:=⟨rx,rx⟩
def AHU:=rg Tryz.f141
def AY2:bq:=(.seq (AHU 2) (.seq (AHU 5) .ret))
theorem A89:Tryz.f141.body=some AY2:=by kernel_rfl
@[simp] theorem BGK:SX 19 (AHU 2) [oq 2 (.box (tq 0)),oq 3 (.box (tq 1)),ot 4 false] [0,1] [2]/\SX 19 (AHU 5) [oz 5 86 3 0,ol 6 3 5,oz 7 40 2 1,ol 8 3 7,oc 9 .sub 3 8 1,od 10 143 [tq 6,ci 0,tq 9],om 11 10,gz 11 true 12 86 3 1,gl 11 true 13 3 12,gz 11 true 14 40 2 2,gl 11 true 15 3 14,gc 11 true 16 .sub 3 15 1,gd 11 true 17 143 [tq 13,ci 0,tq 16],oq 18 (.pick (tq 11) (tq 17) (cb false)),om 4 18] [2,3] [2,3]:=⟨rx,rx⟩
def AHV:=rg Tryz.f142
def AY3:bq:=(.seq (AHV 2) (.seq (AHV 5) .ret))
theorem A9A:Tryz.f142.body=some AY3:=by kernel_rfl
@[simp] theorem BGL:SX 14 (AHV 2) [oq 2 (.box (tq 0)),oq 3 (.box (tq 1)),ot 4 false] [0,1] [2]/\SX 14 (AHV 5) [ol 5 40 2,oz 6 99 3 0,ol 7 3 6,od 8 174 [tq 5,tq 7],om 9 8,gz 9 true 10 99 3 1,gl 9 true 11 3 10,gd 9 true 12 145 [tq 11],oq 13 (.pick (tq 9) (tq 12) (cb false)),om 4 13] [1,2,3,4] [2,3,4]:=⟨rx,rx⟩
def PR:=rg Tryz.f192
@[simp] def ABK:bq:=(.seq (PR 69) (.seq (.cond (.tmp 9) .skip (.exit 0)) (.seq (.block 1 (.seq (PR 1125) (.seq (PR 2661) (.cond (.tmp 16) (.seq (PR 9829) .ret) .skip)))) (PR 485))))
def RW:=ABK
def AOW:bq:=(.seq (PR 2) (.seq (.seq (PR 9) (.block 0 (.loop RW))) (.seq (PR 11) .ret)))
theorem b192:Tryz.f192.body=some AOW:=by kernel_rfl
@[simp] theorem BGM:UX 19 RW ABK/\SX 19 (PR 2) [ok 4 0] [0,1] []/\SX 19 (PR 9) [om 6 0,oe 7 6 37,ok 8 0] [0,1] []/\SX 19 (PR 69) [ob 9 .lss 3 8 7] [0,1,7,8] []/\SX 19 (PR 1125) [om 10 8,om 5 10] [0,1,7,8] []/\SX 19 (PR 2661) [om 11 1,om 12 0,om 13 5,oi 14 37 12 13,ol 15 86 14,oq 16 (.call false none (tq 11) [tq 15])] [0,1,5,7,8] []/\SX 19 (PR 9829) [om 17 5,om 4 17] [5] []/\SX 19 (PR 485) [oc 18 .add 3 8 1,om 8 18] [0,1,3,7,8] []/\SX 19 (PR 11) [oq 4 (.mv (.const (.int .i64 (bj 0))))] [] []/\LX 19 RW [0,1,7,8] []:=⟨fun _ _=>rfl,rx,rx,rx,rx,rx,rx,rx,rx,lx⟩
def AHW:=rg Tryz.f180
def AY4:bq:=(.seq (AHW 2) (.seq (AHW 5) .ret))
theorem b180:Tryz.f180.body=some AY4:=by kernel_rfl
@[simp] theorem BGN:SX 9 (AHW 2) [ot 4 false] [0,1] [7]/\SX 9 (AHW 5) [om 5 0,om 6 1,od 7 192 [tq 5,tq 6],oc 8 .geq 3 7 0,om 4 8] [0,1,2,3] [2,3]:=⟨rx,rx⟩
def AHX:=rg Tryz.f149
def AY5:bq:=(.seq (AHX 2) (.seq (AHX 5) .ret))
theorem A9B:Tryz.f149.body=some AY5:=by kernel_rfl
@[simp] theorem BGO:SX 9 (AHX 2) [oq 3 (.box (tq 1)),ot 4 false] [0,1,2] [3]/\SX 9 (AHX 5) [om 5 0,oq 6 (.oth (.makeFunc (.func 181) #[] #[tq 3])),od 7 180 [tq 5,tq 6],ou 8 7,om 4 8] [0,1,2,3] [2,3]:=⟨rx,rx⟩
def AHY:=rg Tryz.f181
def AY6:bq:=(.seq (AHY 2) (.seq (AHY 5) .ret))
theorem b181:Tryz.f181.body=some AY6:=by kernel_rfl
@[simp] theorem BGP:SX 8 (AHY 2) [oq 2 (.box (tq 0)),ot 3 false] [0,1] []/\SX 8 (AHY 5) [ol 4 225 1,ol 5 86 2,oq 6 (.call false none (tq 4) [tq 5]),ou 7 6,om 3 7] [0,1,2] [2]:=⟨rx,rx⟩
def PS:=rg Tryz.f193
@[simp] def ABL:bq:=(.seq (PS 69) (.seq (.cond (.tmp 9) .skip (.exit 0)) (.seq (.block 1 (.seq (PS 1125) (.seq (PS 2661) (.cond (.tmp 16) (.seq (PS 9829) .ret) .skip)))) (PS 485))))
def RY:=ABL
def AOX:bq:=(.seq (PS 2) (.seq (.seq (PS 9) (.block 0 (.loop RY))) (.seq (PS 11) .ret)))
theorem b193:Tryz.f193.body=some AOX:=by kernel_rfl
@[simp] theorem BGQ:UX 19 RY ABL/\SX 19 (PS 2) [ok 4 0] [0,1] []/\SX 19 (PS 9) [om 6 0,oe 7 6 38,ok 8 0] [0,1] []/\SX 19 (PS 69) [ob 9 .lss 3 8 7] [0,1,7,8] []/\SX 19 (PS 1125) [om 10 8,om 5 10] [0,1,7,8] []/\SX 19 (PS 2661) [om 11 1,om 12 0,om 13 5,oi 14 38 12 13,ol 15 99 14,oq 16 (.call false none (tq 11) [tq 15])] [0,1,5,7,8] []/\SX 19 (PS 9829) [om 17 5,om 4 17] [5] []/\SX 19 (PS 485) [oc 18 .add 3 8 1,om 8 18] [0,1,3,7,8] []/\SX 19 (PS 11) [oq 4 (.mv (.const (.int .i64 (bj 0))))] [] []/\LX 19 RY [0,1,7,8] []:=⟨fun _ _=>rfl,rx,rx,rx,rx,rx,rx,rx,rx,lx⟩
def AHZ:=rg Tryz.f182
def AY7:bq:=(.seq (AHZ 2) (.seq (AHZ 5) .ret))
theorem b182:Tryz.f182.body=some AY7:=by kernel_rfl
@[simp] theorem BGR:SX 9 (AHZ 2) [ot 4 false] [0,1] [7]/\SX 9 (AHZ 5) [om 5 0,om 6 1,od 7 193 [tq 5,tq 6],oc 8 .geq 3 7 0,om 4 8] [0,1,2,3] [2,3]:=⟨rx,rx⟩
def AH0:=rg Tryz.f150
def AY8:bq:=(.seq (AH0 2) (.seq (AH0 5) .ret))
theorem A9C:Tryz.f150.body=some AY8:=by kernel_rfl
@[simp] theorem BGS:SX 9 (AH0 2) [oq 3 (.box (tq 1)),ot 4 false] [0,1,2] [3]/\SX 9 (AH0 5) [om 5 0,oq 6 (.oth (.makeFunc (.func 183) #[] #[tq 3])),od 7 182 [tq 5,tq 6],ou 8 7,om 4 8] [0,1,2,3] [2,3]:=⟨rx,rx⟩
def AH1:=rg Tryz.f183
def AY9:bq:=(.seq (AH1 2) (.seq (AH1 5) .ret))
theorem b183:Tryz.f183.body=some AY9:=by kernel_rfl
@[simp] theorem BGT:SX 8 (AH1 2) [oq 2 (.box (tq 0)),ot 3 false] [0,1] []/\SX 8 (AH1 5) [ol 4 226 1,ol 5 99 2,oq 6 (.call false none (tq 4) [tq 5]),ou 7 6,om 3 7] [0,1,2] [2]:=⟨rx,rx⟩
def NH:=rg Tryz.f110
def NI:bq:=(.seq (NH 2) (.seq (NH 5) (.seq (.block 0 (.seq (NH 35) (.cond (.tmp 9) (.seq (NH 147) .ret) (.seq (NH 179) (.cond (.tmp 35) (.seq (NH 627) .ret) (.seq (NH 755) (.cond (.tmp 81) (.seq (NH 2547) .ret) .skip))))))) (.seq (NH 23) .ret))))
theorem A9D:Tryz.f110.body=some NI:=by kernel_rfl
@[simp] theorem BGU:SX 112 (NH 2) [oq 1 (.box (tq 0)),ok 2 0] [0] [1,20,21,26,27,102,103,104]/\RX 112 (NH 5) (.drw [⟨[],[ol 5 40 1,oq 6 (.oth (.makeFunc (.func 141) #[tq 5] #[])),ol 7 40 1,oq 8 (.oth (.makeFunc (.func 142) #[tq 7] #[])),om 3 6,om 4 8],[]⟩]) (some ([1],[1]))/\SX 112 (NH 35) [oz 10 40 1 0,ol 11 3 10,oc 12 .gtr 3 11 4,om 13 12,gz 13 false 14 40 1 1,gl 13 false 15 3 14,gc 13 false 16 .gtr 3 15 3,oq 17 (.pick (tq 13) (cb true) (tq 16)),om 18 17,gz 18 false 19 40 1 2,gl 18 false 20 3 19,gc 18 false 21 .gtr 3 20 5,oq 22 (.pick (tq 18) (cb true) (tq 21)),om 23 22,gz 23 false 24 40 1 7,gl 23 false 25 37 24,ge 23 false 26 25 37,gc 23 false 27 .gtr 3 26 4,oq 28 (.pick (tq 23) (cb true) (tq 27)),om 29 28,gz 29 false 30 40 1 8,gl 29 false 31 38 30,ge 29 false 32 31 38,gc 29 false 33 .gtr 3 32 5,oq 34 (.pick (tq 29) (cb true) (tq 33)),om 9 34] [1,3,4] [1]/\SX 112 (NH 147) [ok 2 3] [] []/\SX 112 (NH 179) [oz 36 40 1 0,ol 37 3 36,oc 38 .lss 3 37 0,om 39 38,gz 39 false 40 40 1 1,gl 39 false 41 3 40,gc 39 false 42 .lss 3 41 1,oq 43 (.pick (tq 39) (cb true) (tq 42)),om 44 43,gz 44 false 45 40 1 2,gl 44 false 46 3 45,gc 44 false 47 .lss 3 46 1,oq 48 (.pick (tq 44) (cb true) (tq 47)),om 49 48,gz 49 false 50 40 1 3,gl 49 false 51 3 50,gd 49 false 52 143 [tq 51,ci 0,ci 4],og 49 false 53 (.oth (.unOp .not 4 (tq 52))),oq 54 (.pick (tq 49) (cb true) (tq 53)),om 55 54,gz 55 false 56 40 1 4,gl 55 false 57 22 56,ge 55 false 58 57 22,gz 55 false 59 40 1 1,gl 55 false 60 3 59,gb 55 false 61 .neq 3 58 60,oq 62 (.pick (tq 55) (cb true) (tq 61)),om 63 62,gz 63 false 64 40 1 5,gl 63 false 65 22 64,ge 63 false 66 65 22,gz 63 false 67 40 1 0,gl 63 false 68 3 67,gc 63 false 69 .add 3 68 1,gb 63 false 70 .neq 3 66 69,oq 71 (.pick (tq 63) (cb true) (tq 70)),om 72 71,gz 72 false 73 40 1 6,gl 72 false 74 23 73,ge 72 false 75 74 23,gz 72 false 76 40 1 0,gl 72 false 77 3 76,gc 72 false 78 .add 3 77 1,gb 72 false 79 .neq 3 75 78,oq 80 (.pick (tq 72) (cb true) (tq 79)),om 35 80] [1,3,4] [1]/\SX 112 (NH 627) [ok 2 1] [] []/\SX 112 (NH 755) [oz 82 40 1 4,ol 83 22 82,od 84 144 [tq 83,.func 145],ou 85 84,om 86 85,gz 86 false 87 40 1 5,gl 86 false 88 22 87,gd 86 false 89 144 [tq 88,.func 146],og 86 false 90 (.oth (.unOp .not 4 (tq 89))),oq 91 (.pick (tq 86) (cb true) (tq 90)),om 92 91,gz 92 false 93 40 1 6,gl 92 false 94 23 93,gd 92 false 95 147 [tq 94,.func 148],og 92 false 96 (.oth (.unOp .not 4 (tq 95))),oq 97 (.pick (tq 92) (cb true) (tq 96)),om 98 97,gz 98 false 99 40 1 7,gl 98 false 100 37 99,gm 98 false 101 3,gd 98 false 102 149 [tq 100,tq 101],og 98 false 103 (.oth (.unOp .not 4 (tq 102))),oq 104 (.pick (tq 98) (cb true) (tq 103)),om 105 104,gz 105 false 106 40 1 8,gl 105 false 107 38 106,gm 105 false 108 4,gd 105 false 109 150 [tq 107,tq 108],og 105 false 110 (.oth (.unOp .not 4 (tq 109))),oq 111 (.pick (tq 105) (cb true) (tq 110)),om 81 111] [1,3,4] [1]/\SX 112 (NH 2547) [ok 2 1] [] []/\SX 112 (NH 23) [ok 2 0] [] []:=by and_intros<;>exact rx
def AH2:=rg Tryz.f111
def AOY:bq:=(.seq (AH2 2) (.seq (AH2 5) .ret))
theorem A9E:Tryz.f111.body=some AOY:=by kernel_rfl
@[simp] theorem BGV:SX 16 (AH2 2) [oq 2 (.box (tq 0)),ot 4 false] [0,1] [2]/\SX 16 (AH2 5) [om 5 1,oe 6 5 23,oz 7 40 2 0,ol 8 3 7,oc 9 .add 3 8 1,ob 10 .eql 3 6 9,om 11 10,gm 11 true 12 1,og 11 true 13 (.oth (.makeFunc (.func 151) #[] #[tq 2])),gd 11 true 14 147 [tq 12,tq 13],oq 15 (.pick (tq 11) (tq 14) (cb false)),om 4 15] [1,2] [2]:=⟨rx,rx⟩
def AH3:=rg Tryz.f151
def AOZ:bq:=(.seq (AH3 2) (.seq (AH3 5) .ret))
theorem b151:Tryz.f151.body=some AOZ:=by kernel_rfl
@[simp] theorem BGW:SX 13 (AH3 2) [ot 3 false] [0,1,2] [3,4,5,9]/\SX 13 (AH3 5) [om 4 0,oe 5 4 22,oz 6 40 1 1,ol 7 3 6,ob 8 .eql 3 5 7,om 9 8,gm 9 true 10 0,gd 9 true 11 144 [tq 10,.func 145],oq 12 (.pick (tq 9) (tq 11) (cb false)),om 3 12] [0,1] []:=⟨rx,rx⟩
def AH4:=rg Tryz.f194
def AZA:bq:=(.seq (AH4 2) (.seq (AH4 5) .ret))
theorem A9F:Tryz.f194.body=some AZA:=by kernel_rfl
@[simp] theorem BGX:SX 6 (AH4 2) [ok 2 0] [0,1] []/\SX 6 (AH4 5) [om 3 0,oc 4 .add 3 3 2,oc 5 .rem 3 4 4,om 2 5] [0,1] []:=⟨rx,rx⟩
def AH5:=rg Tryz.f195
def AZB:bq:=(.seq (AH5 2) (.seq (AH5 5) .ret))
theorem A9G:Tryz.f195.body=some AZB:=by kernel_rfl
@[simp] theorem BGY:SX 11 (AH5 2) [oq 3 (.box (tq 0)),oq 4 (.box (tq 1)),oq 5 (.box (tq 2)),ot 6 false] [0,1,2] [3,4,5]/\SX 11 (AH5 5) [oz 7 40 3 7,ol 8 37 7,oq 9 (.oth (.makeFunc (.func 199) #[] #[tq 5,tq 4,tq 3])),od 10 180 [tq 8,tq 9],om 6 10] [3,4,5] [3,4,5]:=⟨rx,rx⟩
def KF:=rg Tryz.f199
def ABM:bq:=(.seq (KF 2) (.seq (KF 5) (.seq (.block 0 (.seq (KF 35) (.cond (.tmp 7) (KF 83) (.seq (KF 179) (.cond (.tmp 22) (KF 371) (.seq (KF 755) (.cond (.tmp 37) (KF 1523) (.seq (KF 3059) (.cond (.tmp 52) (KF 6131) .skip))))))))) (.seq (KF 23) .ret))))
theorem b199:Tryz.f199.body=some ABM:=by kernel_rfl
@[simp] theorem BGZ:SX 71 (KF 2) [oq 4 (.box (tq 0)),ot 5 false] [0,1,2,3] []/\SX 71 (KF 5) [ok 6 0] [1,2,3,4] [4]/\SX 71 (KF 35) [ol 8 3 1,oc 9 .eql 3 8 0,om 10 9,gz 10 true 11 86 4 1,gl 10 true 12 3 11,gz 10 true 13 86 2 1,gl 10 true 14 3 13,gb 10 true 15 .eql 3 12 14,oq 16 (.pick (tq 10) (tq 15) (cb false)),om 7 16] [1,2,3,4,6] [4]/\SX 71 (KF 83) [oz 17 86 2 0,ol 18 3 17,oz 19 86 4 0,ol 20 3 19,ob 21 .sub 3 18 20,om 6 21] [2,3,4] [4]/\SX 71 (KF 179) [ol 23 3 1,oc 24 .eql 3 23 2,om 25 24,gz 25 true 26 86 4 1,gl 25 true 27 3 26,gz 25 true 28 86 2 1,gl 25 true 29 3 28,gb 25 true 30 .eql 3 27 29,oq 31 (.pick (tq 25) (tq 30) (cb false)),om 22 31] [1,2,3,4,6] [4]/\SX 71 (KF 371) [oz 32 86 4 0,ol 33 3 32,oz 34 86 2 0,ol 35 3 34,ob 36 .sub 3 33 35,om 6 36] [2,3,4] [4]/\SX 71 (KF 755) [ol 38 3 1,oc 39 .eql 3 38 3,om 40 39,gz 40 true 41 86 4 0,gl 40 true 42 3 41,gz 40 true 43 86 2 0,gl 40 true 44 3 43,gb 40 true 45 .eql 3 42 44,oq 46 (.pick (tq 40) (tq 45) (cb false)),om 37 46] [1,2,3,4,6] [4]/\SX 71 (KF 1523) [oz 47 86 2 1,ol 48 3 47,oz 49 86 4 1,ol 50 3 49,ob 51 .sub 3 48 50,om 6 51] [2,3,4] [4]/\SX 71 (KF 3059) [ol 53 3 1,oc 54 .eql 3 53 1,om 55 54,gz 55 true 56 86 4 0,gl 55 true 57 3 56,gz 55 true 58 86 2 0,gl 55 true 59 3 58,gb 55 true 60 .eql 3 57 59,oq 61 (.pick (tq 55) (tq 60) (cb false)),om 52 61] [1,2,3,4,6] [4]/\SX 71 (KF 6131) [oz 62 86 4 1,ol 63 3 62,oz 64 86 2 1,ol 65 3 64,ob 66 .sub 3 63 65,om 6 66] [2,3,4] [4]/\SX 71 (KF 23) [om 67 6,oz 68 40 3 3,ol 69 3 68,od 70 143 [tq 67,ci 1,tq 69],om 5 70] [3,6] []:=by and_intros<;>exact rx
def AH6:=rg Tryz.f184
def AZC:bq:=(.seq (AH6 2) (.seq (AH6 5) .ret))
theorem A9H:Tryz.f184.body=some AZC:=by kernel_rfl
@[simp] theorem BG0:SX 19 (AH6 2) [oq 4 (.box (tq 0)),oq 5 (.box (tq 1)),ot 8 false] [0,1,2,3] [4]/\SX 19 (AH6 5) [om 9 2,om 10 3,od 11 194 [tq 10],ob 12 .eql 3 9 11,om 13 12,gl 13 false 14 40 4,gl 13 false 15 86 5,gm 13 false 16 3,gd 13 false 17 195 [tq 14,tq 15,tq 16],oq 18 (.pick (tq 13) (cb true) (tq 17)),om 8 18] [2,3,4,5] [4,5]:=⟨rx,rx⟩
def PT:=rg Tryz.f153
def AZD:bq:=(.seq (PT 2) (.seq (PT 5) (.seq (.seq (PT 19) (.cond (.tmp 25) (PT 43) .skip)) (.seq (.seq (PT 39) (.cond (.tmp 27) (PT 87) .skip)) (.seq (PT 47) (.seq (PT 95) .ret))))))
theorem A9I:Tryz.f153.body=some AZD:=by kernel_rfl
@[simp] theorem BG1:SX 36 (PT 2) [oq 5 (.box (tq 0)),oq 6 (.box (tq 1)),oq 10 (.alloc 155)] [0,1,2,3,4] [5]/\RX 36 (PT 5) (.drw [⟨[],[oz 13 40 5 5,ol 14 22 13,om 15 2,oi 16 22 14 15,ol 17 3 16,om 18 3,ob 19 .eql 3 17 18,ol 20 40 5,ol 21 86 6,om 22 3,om 23 4,od 24 184 [tq 20,tq 21,tq 22,tq 23],om 11 19,om 12 24],[]⟩]) (some ([2,3,4,5,6,10],[5,6,10]))/\SX 36 (PT 19) [om 25 11] [10,11,12] [10]/\SX 36 (PT 43) [oz 26 155 10 0,os (.sto 3 (tq 26) (ci 1))] [10,12] [10]/\SX 36 (PT 39) [om 27 12] [10,12] [10]/\SX 36 (PT 87) [oz 28 155 10 1,os (.sto 3 (tq 28) (ci 1))] [10] [10]/\SX 36 (PT 47) [oz 29 155 10 0,ol 30 3 29,oz 31 155 10 1,ol 32 3 31,ob 33 .mul 3 30 32,oz 34 155 10 2,os (.sto 3 (tq 34) (tq 33))] [10] [10]/\SX 36 (PT 95) [ol 35 155 10,os (.sto 155 (tq 10) (tq 35))] [10] [10]:=by and_intros<;>exact rx
def PU:=rg Tryz.f101
@[simp] def ABN:bq:=(lp (PU 267) 12 0 1 (.seq (PU 1099) (PU 1611)) (PU 459))
def RZ:=ABN
def AZE:bq:=(.seq (PU 2) (.seq (PU 5) (.seq (.seq (PU 19) (.block 0 (.loop RZ))) (.seq (PU 23) .ret))))
theorem A9J:Tryz.f101.body=some AZE:=by kernel_rfl
@[simp] theorem BG2:UX 35 RZ ABN/\SX 35 (PU 2) [oq 2 (.box (tq 0)),oq 4 (.mv (.const (.slice none 0 0)))] [0,1] [2]/\SX 35 (PU 5) [oq 5 (.mv (.const (.slice none 0 0)))] [1,2] [2]/\SX 35 (PU 19) [ok 6 0] [1,2,5] [2,29]/\SX 35 (PU 267) [om 8 6,oz 9 27 2 6,ol 10 23 9,oe 11 10 23,ob 12 .lss 3 8 11] [1,2,5,6] [2,29]/\SX 35 (PU 1099) [oz 15 27 2 6,ol 16 23 15,om 17 6,oi 18 23 16 17,ol 19 22 18,om 7 19] [1,2,5,6] [2,29]/\RX 35 (PU 1611) (.drw [⟨[],[om 20 5,om 21 7,om 22 1,om 23 7,oe 24 23 22,ob 25 .rem 3 22 24,oi 26 22 21 25,ol 27 3 26,oq 28 (.buildS 22 1 [(0,tq 27)]),om 30 1,om 31 7,oe 32 31 22,ob 33 .quo 3 30 32,oq 29 (.app [tq 20,tq 28] [22,22]),om 5 29,om 1 33],[]⟩]) (some ([1,2,5,6,7],[2,29]))/\SX 35 (PU 459) [om 13 6,oc 14 .add 3 13 1,om 6 14] [1,2,5,6] [2,29]/\SX 35 (PU 23) [om 34 5,om 4 34] [5] [29]/\LX 35 RZ [1,2,5,6] [2,29]:=⟨fun _ _=>rfl,rx,rx,rx,rx,rx,rx,rx,rx,lx⟩
def PV:=rg Tryz.f170
@[simp] def ABO:bq:=(.seq (PV 69) (.seq (.cond (.tmp 9) .skip (.exit 0)) (.seq (.block 1 (.seq (PV 1125) (.seq (PV 2661) (.cond (.tmp 16) (.seq (PV 9829) .ret) .skip)))) (PV 485))))
def R3:=ABO
def AO0:bq:=(.seq (PV 2) (.seq (.seq (PV 9) (.block 0 (.loop R3))) (.seq (PV 11) .ret)))
theorem AZF:Tryz.f170.body=some AO0:=by kernel_rfl
@[simp] theorem BG3:UX 19 R3 ABO/\SX 19 (PV 2) [ok 4 0] [0,1] []/\SX 19 (PV 9) [om 6 0,oe 7 6 22,ok 8 0] [0,1] []/\SX 19 (PV 69) [ob 9 .lss 3 8 7] [0,1,7,8] []/\SX 19 (PV 1125) [om 10 8,om 5 10] [0,1,7,8] []/\SX 19 (PV 2661) [om 11 1,om 12 0,om 13 5,oi 14 22 12 13,ol 15 3 14,ob 16 .eql 3 11 15] [0,1,5,7,8] []/\SX 19 (PV 9829) [om 17 5,om 4 17] [5] []/\SX 19 (PV 485) [oc 18 .add 3 8 1,om 8 18] [0,1,3,7,8] []/\SX 19 (PV 11) [oq 4 (.mv (.const (.int .i64 (bj 0))))] [] []/\LX 19 R3 [0,1,7,8] []:=⟨fun _ _=>rfl,rx,rx,rx,rx,rx,rx,rx,rx,lx⟩
def AH7:=rg Tryz.f132
def AZG:bq:=(.seq (AH7 2) (.seq (AH7 5) .ret))
theorem A9K:Tryz.f132.body=some AZG:=by kernel_rfl
@[simp] theorem BG4:SX 9 (AH7 2) [ot 4 false] [0,1] [7]/\SX 9 (AH7 5) [om 5 0,om 6 1,od 7 170 [tq 5,tq 6],oc 8 .geq 3 7 0,om 4 8] [0,1,2,3] [2,3]:=⟨rx,rx⟩
def PW:=rg Tryz.f164
@[simp] def ABP:bq:=(.seq (PW 69) (.seq (.cond (.tmp 13) .skip (.exit 0)) (.seq (.block 1 (.seq (PW 1125) (.seq (PW 2661) (.cond (.tmp 30) (.seq (PW 9829) .ret) .skip)))) (PW 485))))
def R4:=ABP
def AZH:bq:=(.seq (PW 2) (.seq (.seq (PW 9) (.block 0 (.loop R4))) (.seq (PW 11) .ret)))
theorem A9L:Tryz.f164.body=some AZH:=by kernel_rfl
@[simp] theorem BG5:UX 32 R4 ABP/\SX 32 (PW 2) [oq 3 (.box (tq 0)),ot 6 false] [0,1,2] [3]/\SX 32 (PW 9) [oz 9 40 3 8,ol 10 38 9,oe 11 10 38,ok 12 0] [1,2,3] [3]/\SX 32 (PW 69) [ob 13 .lss 3 12 11] [1,2,10,11,12] [3]/\SX 32 (PW 1125) [om 14 12,oi 15 38 10 12,ol 16 99 15,oq 8 (.alloc 99),om 7 14,os (.sto 99 (tq 8) (tq 16))] [1,2,10,11,12] [3]/\RX 32 (PW 2661) (.drw [⟨[],[om 17 2,om 18 7],[od 19 132 [tq 17,tq 18]]⟩,⟨[],[ou 20 19,om 21 20,gm 21 true 22 1,gz 21 true 23 99 8 0,gl 21 true 24 3 23,gi 21 true 25 22 22 24,gl 21 true 26 3 25,gz 21 true 27 99 8 1,gl 21 true 28 3 27,gb 21 true 29 .neq 3 26 28,oq 30 (.pick (tq 21) (tq 29) (cb false))],[]⟩]) (some ([1,2,7,8,10,11,12],[3,8]))/\SX 32 (PW 9829) [ot 6 false] [] []/\SX 32 (PW 485) [oc 31 .add 3 12 1,om 12 31] [1,2,10,11,12] [3]/\SX 32 (PW 11) [ot 6 true] [] []/\LX 32 R4 [1,2,10,11,12] [3]:=⟨fun _ _=>rfl,rx,rx,rx,rx,rx,rx,rx,rx,lx⟩
def NS:=rg Tryz.f165
@[simp] def ABQ:bq:=(lp (NS 535) 15 0 1 (NS 1175) (NS 919))
def fN:=ABQ
def AZI:bq:=(.seq (NS 2) (.seq (.seq (NS 9) (.cond (.tmp 7) (NS 21) .skip)) (.seq (NS 11) (.seq (.seq (NS 39) (.block 0 (.loop fN))) (.seq (NS 47) .ret)))))
theorem A9M:Tryz.f165.body=some AZI:=by kernel_rfl
@[simp] theorem BG6:UX 25 fN ABQ/\SX 25 (NS 2) [ok 2 0] [0] []/\SX 25 (NS 9) [om 5 0,oe 6 5 22,oc 7 .lss 3 6 1] [0] []/\SX 25 (NS 11) [om 9 0,oq 10 (.oth (.indexAddr 22 (tq 9) (ci 0))),ol 11 3 10,om 3 11] [0] []/\SX 25 (NS 39) [ok 4 1] [0,3] []/\SX 25 (NS 535) [om 12 4,om 13 0,oe 14 13 22,ob 15 .lss 3 12 14] [0,3,4] []/\SX 25 (NS 1175) [om 18 3,om 19 0,om 20 4,oi 21 22 19 20,ol 22 3 21,oq 23 (.oth (.call ⟨.builtin .min,#[tq 18,tq 22],#[3,3]⟩)),om 3 23] [0,3,4] []/\SX 25 (NS 919) [om 16 4,oc 17 .add 3 16 1,om 4 17] [0,3,4] []/\SX 25 (NS 47) [om 24 3,om 2 24] [3] []/\LX 25 fN [0,3,4] []:=⟨fun _ _=>rfl,rx,rx,rx,rx,rx,rx,rx,rx,lx⟩
def AH8:=rg Tryz.f198
def AZJ:bq:=(.seq (AH8 2) (.seq (AH8 5) .ret))
theorem A9N:Tryz.f198.body=some AZJ:=by kernel_rfl
@[simp] theorem BG7:SX 5 (AH8 2) [ok 2 0] [0] []/\SX 5 (AH8 5) [om 3 0,od 4 165 [tq 3],om 2 4] [0,1,2] [1,2]:=⟨rx,rx⟩
def AH9:=rg Tryz.f186
def AZK:bq:=(.seq (AH9 2) (.seq (AH9 5) .ret))
theorem A9O:Tryz.f186.body=some AZK:=by kernel_rfl
@[simp] theorem BG8:SX 15 (AH9 2) [oq 2 (.box (tq 0)),oq 4 (.alloc 207)] [0,1] []/\RX 15 (AH9 5) (.drw [⟨[],[oz 5 207 2 0,oq 6 (.ldz 3 (tq 5)),om 7 1,oq 8 (.buildS 22 2 [(0,tq 6),(1,tq 7)]),od 9 198 [tq 8],oz 10 207 2 1,oq 11 (.ldz 3 (tq 10)),om 12 1,oq 13 (.oth (.call ⟨.builtin .max,#[tq 11,tq 12],#[3,3]⟩)),oq 14 (.build 207 [(0,tq 9),(1,tq 13)])],[os (.sto 207 (tq 4) (tq 14))]⟩]) (some ([1,2,4],[2,4])):=⟨rx,rx⟩
def bU:=rg Tryz.f196
def AZL:bq:=(.seq (bU 2) (.seq (bU 5) (.seq (bU 11) (.seq (bU 23) (bU 31)))))
theorem b196:Tryz.f196.body=some AZL:=by kernel_rfl
@[simp] theorem BG9:SX 13 (bU 2) [oq 3 (.box (tq 0))] [0,1,2] [3,4,5,9]/\SX 13 (bU 5) [oz 6 40 1 0,ol 7 3 6,oc 8 .add 3 7 1,oq 9 (.mkS 22 (tq 8) (tq 8)),oq 4 (.alloc 22),os (.sto 22 (tq 4) (tq 9))] [1,2,3] [3,4,5,9]/\SX 13 (bU 11) [oq 5 (.alloc 177)] [1,2,3,4] [3,4,5,9]/\SX 13 (bU 23) [oq 10 (.oth (.makeFunc (.func 197) #[] #[tq 4,tq 1,tq 2,tq 3,tq 5])),os (.sto 177 (tq 5) (tq 10))] [1,2,3,4,5] [3,4,5,9]/\SX 13 (bU 31) [ol 11 177 5,oq 12 (.call false none (tq 11) [ci 0])] [5] [3,4,5,9]:=⟨rx,rx,rx,rx,rx⟩
def KG:=rg Tryz.f197
@[simp] def ABR:bq:=(.seq (KG 139) (.seq (.cond (.tmp 31) .skip (.exit 0)) (.seq (.block 1 (.seq (KG 2251) (.seq (KG 5323) (.seq (KG 11467) (.cond (.tmp 42) (.seq (KG 40139) .ret) .skip))))) (KG 971))))
def R5:=ABR
def ABS:bq:=(.seq (KG 2) (.seq (.seq (KG 9) (.cond (.tmp 13) (.seq (KG 37) .ret) .skip)) (.seq (.seq (KG 19) (.block 0 (.loop R5))) (.seq (KG 23) .ret))))
theorem b197:Tryz.f197.body=some ABS:=by kernel_rfl
@[simp] theorem A9P(n:Nat)(st:XS):AF bk ann kn (n+1) 44 (KG 37) st=TS (J9 bk (cfU [20009,30009] (BH bk ann kn n)) (.str [ol 14 40 2,ol 15 22 1,ol 16 22 3,od 17 164 [tq 14,tq 15,tq 16],ou 18 17,om 19 18,gl 19 false 20 193 4,gl 19 false 21 22 1,og 19 false 22 (.call false none (tq 20) [tq 21]),oq 23 (.pick (tq 19) (cb true) (tq 22)),om 7 23]) (CL (some ([1,2,3,4],[])) (LU [] st))) :=
 VR (by kernel_rfl) (by kernel_rfl) (by kernel_rfl) (by kernel_rfl) (by kernel_rfl) (by kernel_rfl)
@[simp] theorem BHA:UX 44 R5 ABR/\SX 44 (KG 2) [ot 7 false] [0,1,2,3,4,5] []/\SX 44 (KG 9) [om 10 0,ol 11 22 1,oe 12 11 22,ob 13 .eql 3 10 12] [0,1,2,3,4,5] []/\SX 44 (KG 19) [oz 24 40 2 6,ol 25 23 24,om 26 0,oi 27 23 25 26,ol 28 22 27,oe 29 28 22,ok 30 0] [0,1,2,5] []/\SX 44 (KG 139) [ob 31 .lss 3 30 29] [0,1,5,28,29,30] []/\SX 44 (KG 2251) [oi 32 22 28 30,ol 33 3 32,om 9 33] [0,1,5,28,29,30] []/\SX 44 (KG 5323) [ol 34 22 1,om 35 0,om 36 9,oi 37 22 34 35,os (.sto 3 (tq 37) (tq 36))] [0,1,5,9,28,29,30] []/\SX 44 (KG 11467) [ol 38 177 5,om 39 0,oc 40 .add 3 39 1,oq 41 (.call false none (tq 38) [tq 40]),ou 42 41] [0,1,5,28,29,30] []/\SX 44 (KG 40139) [ot 7 false] [] []/\SX 44 (KG 971) [oc 43 .add 3 30 1,om 30 43] [0,1,5,28,29,30] []/\SX 44 (KG 23) [ot 7 true] [] []/\LX 44 R5 [0,1,5,28,29,30] []:=⟨fun _ _=>rfl,rx,rx,rx,rx,rx,rx,rx,rx,rx,rx,lx⟩
def AIA:=rg Tryz.f185
def AZM:bq:=(.seq (AIA 2) (.seq (AIA 5) .ret))
theorem A9Q:Tryz.f185.body=some AZM:=by kernel_rfl
@[simp] theorem BHB:SX 6 (AIA 2) [oq 2 (.box (tq 0)),oq 3 (.box (tq 1)),oq 4 (.mv (.const .nilFunc))] [0,1] [2,3]/\SX 6 (AIA 5) [oq 5 (.oth (.makeFunc (.func 196) #[] #[tq 2,tq 3])),om 4 5] [2,3] [2,3]:=⟨rx,rx⟩
def D0:=rg Tryz.f154
@[simp] def tJ:bq:=(.seq (D0 36191) (.seq (.cond (.tmp 35) .skip (.exit 2)) (.seq (.block 3 (.seq (D0 576863) (.seq (D0 1363295) (.cond (.tmp 48) (D0 2936159) .skip)))) (D0 249183))))
def JR:=tJ
def ABT:bq:=(.seq (D0 2) (.seq (.seq (D0 9) (.seq (D0 21) (.cond (.tmp 15) (.seq (D0 77) .ret) .skip))) (.seq (.seq (D0 19) (.cond (.tmp 19) (.seq (D0 75) .ret) .skip)) (.seq (D0 23) (.seq (D0 47) (.seq (.seq (D0 159) (.block 0 (.rangeFunc (.tmp 30) #[31] (D0 607) (.block 1 (.seq (D0 2399) (.seq (D0 5471) (.block 2 (.loop JR)))))))) (.seq (.seq (D0 319) (.cond (.tmp 67) (.seq (D0 1215) .ret) .skip)) (.seq (D0 383) .ret))))))))
theorem b154:Tryz.f154.body=some ABT:=by kernel_rfl
@[simp] theorem A57(n:Nat)(st:XS):AF bk ann kn (n+1) 69 (D0 1363295) st=TS (J9 bk (cfU [20800,20801,20802,20803,20804] (BH bk ann kn n)) (.str [ol 39 233 7,oq 40 (.oth (.nilCheck (tq 39))),oz 41 250 40 1,ol 42 23 41,om 43 10,oi 44 23 42 43,ol 45 22 44,om 46 11,od 47 132 [tq 45,tq 46],ou 48 47]) (CL (some ([7,10,11,32,33,34],[2,7,24,25,26,28,30,63,800,801,802,803,804])) (LU [] st))) :=
 VR (by kernel_rfl) (by kernel_rfl) (by kernel_rfl) (by kernel_rfl) (by kernel_rfl) (by kernel_rfl)
@[simp] theorem A58(n:Nat)(st:XS):AF bk ann kn (n+1) 69 (D0 249183) st=TS (J9 bk (BH bk ann kn n) (.str [oc 65 .add 3 34 1,om 34 65]) (CL (some ([7,32,33,34],[2,7,24,25,26,28,30,63,800,801,802,803,804])) (LU [25008011801063] st))) :=
 D3 (by kernel_rfl) (by kernel_rfl) (by kernel_rfl) (by kernel_rfl) (by kernel_rfl)
@[simp] theorem A59(n:Nat)(st:XS):AF bk ann kn (n+1) 69 (D0 383) st=TS (J9 bk (BH bk ann kn n) (.str [ol 68 233 7,om 4 68,ok 5 0]) (CL (some ([7],[2,7,24,25,26,28,30,63,800,801,802,803,804])) (LU [1000000000000024,24,901025,902026,903028] st))) :=
 D3 (by kernel_rfl) (by kernel_rfl) (by kernel_rfl) (by kernel_rfl) (by kernel_rfl)
@[simp] theorem BHC:UX 69 JR tJ/\SX 69 (D0 2) [oq 2 (.box (tq 0)),oq 4 (.mv (.const (.pointer none))),ok 5 0] [0,1] [2,7,24,25,26,28,30,63,800,801,802,803,804]/\SX 69 (D0 9) [ol 12 40 2,od 13 110 [tq 12],om 6 13] [1,2] [2,7,24,25,26,28,30,63,800,801,802,803,804]/\SX 69 (D0 21) [om 14 6,oc 15 .neq 34 14 0] [1,2,6] [2,7,24,25,26,28,30,63,800,801,802,803,804]/\SX 69 (D0 77) [om 16 6,oq 4 (.mv (.const (.pointer none))),om 5 16] [6] []/\SX 69 (D0 19) [om 17 1,oq 18 (.call false none (tq 17) []),ou 19 18] [1,2] [2,7,24,25,26,28,30,63,800,801,802,803,804]/\SX 69 (D0 75) [oq 4 (.mv (.const (.pointer none))),ok 5 2] [] []/\RX 69 (D0 23) (.drw [⟨[24,25,26,28,7],[oq 20 (.ldz 40 (tq 2)),oz 21 40 2 0,oq 22 (.ldz 3 (tq 21)),oc 23 .add 3 22 1,oq 24 (.mkS 23 (tq 23) (tq 23)),oq 25 (.mkM none),oq 26 (.mkM none),oq 27 (.build 250 [(0,tq 20),(1,tq 24),(2,tq 25),(3,tq 26)]),oq 28 (.box (tq 27)),oq 7 (.alloc 233)],[os (.sto 233 (tq 7) (tq 28))]⟩]) (some ([2],[2,30,63]))/\SX 69 (D0 47) [oq 8 (.alloc 4),os (.sto 4 (tq 8) (cb false))] [2,7] [2,7,24,25,26,28,30,63,800,801,802,803,804]/\SX 69 (D0 159) [ol 29 40 2,od 30 185 [tq 29,.const (.slice none 0 0)]] [2,7,8] [2,7,8,24,25,26,28,30,63,800,801,802,803,804]/\SX 69 (D0 607) [om 9 31] [7,8,31] [2,7,8,24,25,26,28,30,63,800,801,802,803,804]/\SX 69 (D0 2399) [os (.sto 4 (tq 8) (cb true))] [7,8,9] [2,7,8,24,25,26,28,30,63,800,801,802,803,804]/\SX 69 (D0 5471) [om 32 9,oe 33 32 22,ok 34 0] [7,9] [2,7,24,25,26,28,30,63,800,801,802,803,804]/\SX 69 (D0 36191) [ob 35 .lss 3 34 33] [7,32,33,34] [2,7,24,25,26,28,30,63,800,801,802,803,804]/\SX 69 (D0 576863) [om 36 34,oi 37 22 32 34,ol 38 3 37,om 10 36,om 11 38] [7,32,33,34] [2,7,24,25,26,28,30,63,800,801,802,803,804]/\RX 69 (D0 2936159) (.drw [⟨[],[ol 49 233 7,oq 50 (.oth (.nilCheck (tq 49))),oz 51 250 50 1,ol 52 23 51,om 53 10,ol 54 233 7,oq 55 (.oth (.nilCheck (tq 54))),oz 56 250 55 1,ol 57 23 56,om 58 10,oi 59 23 57 58,oq 60 (.ldz 22 (tq 59)),om 61 11,oq 62 (.buildS 22 1 [(0,tq 61)]),oq 63 (.app [tq 60,tq 62] [22,22]),oi 64 23 52 53],[os (.sto 22 (tq 64) (tq 63))]⟩]) (some ([7,10,11,32,33,34],[2,7,24,25,26,28,30,63,800,801,802,803,804]))/\SX 69 (D0 319) [ol 66 4 8,ou 67 66] [7,8] [2,7,8,24,25,26,28,30,63,800,801,802,803,804]/\SX 69 (D0 1215) [oq 4 (.mv (.const (.pointer none))),ok 5 11] [] []/\LX 69 JR [7,32,33,34] [2,7,24,25,26,28,30,63,800,801,802,803,804]:=by and_intros<;>first|exact rx|exact lx|exact fun _ _=>rfl
def bO:=rg Tryz.f68
@[simp] def AL2:bq:=(lp (bO 267) 28 0 1 (bO 587) (bO 459))
def YI:=AL2
@[simp] def AL3:bq:=(lp (bO 535) 46 2 3 (bO 1175) (bO 919))
def YJ:=AL3
def c68:bq:=(.seq (bO 2) (.seq (bO 5) (.seq (.seq (bO 19) (.block 0 (.loop YI))) (.seq (.seq (bO 39) (.block 2 (.loop YJ))) (.seq (bO 47) .ret)))))
theorem b68:Tryz.f68.body=some c68:=by kernel_rfl
@[simp] theorem x68:UX 68 YI AL2/\UX 68 YJ AL3/\SX 68 (bO 2) [oq 1 (.box (tq 0)),oq 2 (.alloc 40)] [0] [1,2,3,16,19,22,40,65]/\RX 68 (bO 5) (.drw [⟨[3],[oz 6 27 1 0,oq 7 (.ldz 3 (tq 6)),oz 8 27 1 1,oq 9 (.ldz 3 (tq 8)),oz 10 27 1 2,oq 11 (.ldz 3 (tq 10)),oz 12 27 1 3,oq 13 (.ldz 3 (tq 12)),oz 14 27 1 4,oq 15 (.ldz 22 (tq 14)),od 16 114 [tq 15],oz 17 27 1 5,oq 18 (.ldz 22 (tq 17)),od 19 114 [tq 18],oz 20 27 1 6,oq 21 (.ldz 23 (tq 20)),od 22 115 [tq 21],oq 23 (.build 40 [(0,tq 7),(1,tq 9),(2,tq 11),(3,tq 13),(4,tq 16),(5,tq 19),(6,tq 22)]),oq 3 (.alloc 40)],[os (.sto 40 (tq 3) (tq 23))]⟩]) (some ([1,2],[1,2,40,65]))/\SX 68 (bO 19) [ok 4 0] [1,2,3] [1,2,3,16,19,22,40,65]/\SX 68 (bO 267) [om 24 4,oz 25 27 1 7,ol 26 24 25,oe 27 26 24,ob 28 .lss 3 24 27] [1,2,3,4] [1,2,3,16,19,22,40,65]/\RX 68 (bO 587) (.drw [⟨[],[oz 31 40 3 7,oq 32 (.ldz 37 (tq 31)),oz 33 27 1 7,ol 34 24 33,om 35 4,oi 36 24 34 35,ol 37 59 36,od 38 48 [tq 37],oq 39 (.buildS 37 1 [(0,tq 38)]),oq 40 (.app [tq 32,tq 39] [37,37]),oz 41 40 3 7],[os (.sto 37 (tq 41) (tq 40))]⟩]) (some ([1,2,3,4],[1,2,3,16,19,22,40,65]))/\SX 68 (bO 459) [om 29 4,oc 30 .add 3 29 1,om 4 30] [1,2,3,4] [1,2,3,16,19,22,40,65]/\SX 68 (bO 39) [ok 5 0] [1,2,3] [1,2,3,16,19,22,40,65]/\SX 68 (bO 535) [om 42 5,oz 43 27 1 8,ol 44 25 43,oe 45 44 25,ob 46 .lss 3 42 45] [1,2,3,5] [1,2,3,16,19,22,40,65]/\RX 68 (bO 1175) (.drw [⟨[],[oz 49 40 3 8,oq 50 (.ldz 38 (tq 49)),oz 51 27 1 8,ol 52 25 51,om 53 5,oi 54 25 52 53,oz 55 188 54 0,ol 56 3 55,oz 57 27 1 8,ol 58 25 57,om 59 5,oi 60 25 58 59,oz 61 188 60 1,ol 62 3 61,oq 63 (.build 99 [(0,tq 56),(1,tq 62)]),oq 64 (.buildS 38 1 [(0,tq 63)]),oq 65 (.app [tq 50,tq 64] [38,38]),oz 66 40 3 8],[os (.sto 38 (tq 66) (tq 65))]⟩]) (some ([1,2,3,5],[1,2,3,16,19,22,40,65]))/\SX 68 (bO 919) [om 47 5,oc 48 .add 3 47 1,om 5 48] [1,2,3,5] [1,2,3,16,19,22,40,65]/\SX 68 (bO 47) [ol 67 40 3,os (.sto 40 (tq 2) (tq 67))] [2,3] [1,2,3,16,19,22,40,65]/\LX 68 YI [1,2,3,4] [1,2,3,16,19,22,40,65]/\LX 68 YJ [1,2,3,5] [1,2,3,16,19,22,40,65]:=by and_intros<;>first|exact rx|exact lx|exact fun _ _=>rfl
def II:=rg Tryz.f157
@[simp] def ABU:bq:=(.seq (II 71269) (.seq (.cond (.tmp 28) .skip (.exit 2)) (.seq (.block 3 (.seq (II 1152613) (II 1676901))) (II 497253))))
def R6:=ABU
@[simp] def ABV:bq:=(.seq (II 69) (.seq (.cond (.tmp 20) .skip (.exit 0)) (.seq (.block 1 (.seq (II 1125) (.seq (II 2661) (.seq (.seq (II 9829) (.block 2 (.loop R6))) (II 7781))))) (II 485))))
def R7:=ABV
def AZN:bq:=(.seq (II 2) (.seq (.seq (II 9) (.block 0 (.loop R7))) (.seq (II 11) .ret)))
theorem A9R:Tryz.f157.body=some AZN:=by kernel_rfl
@[simp] theorem BHE:UX 66 R6 ABU/\UX 66 R7 ABV/\SX 66 (II 2) [oq 4 (.box (tq 0)),oq 7 (.box (tq 3)),oq 8 (.alloc 207)] [0,1,2,3] [4]/\SX 66 (II 9) [om 14 1,oq 15 (.oth (.nilCheck (tq 14))),oz 16 250 15 1,ol 17 23 16,oe 18 17 23,ok 19 0] [1,2,4,7,8] [4,7,8]/\SX 66 (II 69) [ob 20 .lss 3 19 18] [1,2,4,7,8,17,18,19] [4,7,8]/\SX 66 (II 1125) [om 21 19,oi 22 23 17 19,ol 23 22 22,om 9 21,om 10 23] [1,2,4,7,8,17,18,19] [4,7,8]/\SX 66 (II 2661) [oq 24 (.build 207 [(0,ci 1),(1,ci 0)]),oq 11 (.alloc 207),os (.sto 207 (tq 11) (tq 24))] [1,2,4,7,8,9,10,17,18,19] [4,7,8]/\SX 66 (II 9829) [om 25 10,oe 26 25 22,ok 27 0] [1,2,4,7,8,9,10,11,17,18,19] [4,7,8,11]/\SX 66 (II 71269) [ob 28 .lss 3 27 26] [1,2,4,7,8,9,11,17,18,19,25,26,27] [4,7,8,11]/\SX 66 (II 1152613) [oi 29 22 25 27,ol 30 3 29,om 13 30] [1,2,4,7,8,9,11,17,18,19,25,26,27] [4,7,8,11]/\RX 66 (II 1676901) (.drw [⟨[],[oq 31 (.ldz 207 (tq 11)),oz 32 238 4 0,oq 33 (.ldz 236 (tq 32)),om 34 1,oq 35 (.oth (.nilCheck (tq 34))),oz 36 250 35 0,oq 37 (.ldz 40 (tq 36)),oq 38 (.ldz 86 (tq 7)),om 39 9,om 40 2,om 41 9,oi 42 23 40 41,oq 43 (.ldz 22 (tq 42)),oz 44 86 7 0,oq 45 (.ldz 3 (tq 44)),oi 46 22 43 45,oq 47 (.ldz 3 (tq 46)),om 48 13,od 49 153 [tq 37,tq 38,tq 39,tq 47,tq 48],oq 50 (.call false none (tq 33) [tq 49])],[oq 51 (.call true none (.func 186) [tq 31,tq 50])]⟩,⟨[],[],[os (.sto 207 (tq 11) (tq 51))]⟩]) (some ([1,2,4,7,8,9,11,13,17,18,19,25,26,27],[4,7,8,11]))/\SX 66 (II 497253) [oc 52 .add 3 27 1,om 27 52] [1,2,4,7,8,9,11,17,18,19,25,26,27] [4,7,8,11]/\SX 66 (II 7781) [oz 53 207 8 0,ol 54 3 53,oz 55 207 11 0,ol 56 3 55,ob 57 .add 3 54 56,oz 58 207 8 1,ol 59 3 58,oz 60 207 11 1,ol 61 3 60,ob 62 .add 3 59 61,oq 63 (.build 207 [(0,tq 57),(1,tq 62)]),os (.sto 207 (tq 8) (tq 63))] [1,2,4,7,8,11,17,18,19] [4,7,8,11]/\SX 66 (II 485) [oc 64 .add 3 19 1,om 19 64] [1,2,4,7,8,17,18,19] [4,7,8]/\SX 66 (II 11) [ol 65 207 8,os (.sto 207 (tq 8) (tq 65))] [8] [8]/\LX 66 R7 [1,2,4,7,8,17,18,19] [4,7,8]/\LX 66 R6 [1,2,4,7,8,9,11,17,18,19,25,26,27] [4,7,8,11]:=by and_intros<;>first|exact rx|exact lx|exact fun _ _=>rfl
def AIB:=rg Tryz.f156
def AZO:bq:=(.seq (AIB 2) (.seq (AIB 5) .ret))
theorem A9S:Tryz.f156.body=some AZO:=by kernel_rfl
@[simp] theorem BHF:SX 5 (AIB 2) [oq 1 (.box (tq 0)),ok 2 0] [0] [1]/\SX 5 (AIB 5) [oz 3 155 1 1,ol 4 3 3,om 2 4] [0,1,2] [1,2]:=⟨rx,rx⟩
def AIC:=rg Tryz.f158
def AZP:bq:=(.seq (AIC 2) (.seq (AIC 5) .ret))
theorem A9T:Tryz.f158.body=some AZP:=by kernel_rfl
@[simp] theorem BHG:SX 5 (AIC 2) [oq 1 (.box (tq 0)),ok 2 0] [0] [1]/\SX 5 (AIC 5) [oz 3 155 1 2,ol 4 3 3,om 2 4] [0,1,2] [1,2]:=⟨rx,rx⟩
def D9:=rg Tryz.f117
@[simp] def tK:bq:=(.seq (D9 583840559) (.seq (.cond (.tmp 42) .skip (.exit 4)) (.seq (.block 5 (.seq (D9 9442210607) (D9 13737177903))) (D9 4073501487))))
def NT:=tK
@[simp] def tL:bq:=(.seq (D9 570159) (.seq (.cond (.tmp 34) .skip (.exit 2)) (.seq (.block 3 (.seq (D9 9220911) (.seq (D9 21803823) (.seq (.seq (D9 80524079) (.block 4 (.loop NT))) (D9 63746863))))) (D9 3978031))))
def NU:=tL
@[simp] def ABW:bq:=(.seq (D9 559) (.seq (.cond (.tmp 26) .skip (.exit 0)) (.seq (.block 1 (.seq (D9 9007) (.seq (D9 21295) (.seq (.seq (D9 78639) (.block 2 (.loop NU))) (D9 62255))))) (D9 3887))))
def R8:=ABW
def ABX:bq:=(.seq (D9 2) (.seq (D9 5) (.seq (.seq (D9 19) (.cond (.tmp 21) (.seq (D9 75) .ret) .skip)) (.seq (D9 23) (.seq (.seq (D9 79) (.block 0 (.loop R8))) (.seq (D9 95) .ret))))))
theorem A9U:Tryz.f117.body=some ABX:=by kernel_rfl
@[simp] theorem A9V(n:Nat)(st:XS):AF bk ann kn (n+1) 90 (D9 23) st=TS (J9 bk (BH bk ann kn n) (.str [oq 8 (.mv (.const (.slice none 0 0)))]) (CL (some ([2,3,6],[2,3,17,900,901,902])) (LU [902] st))) :=
 D3 (by kernel_rfl) (by kernel_rfl) (by kernel_rfl) (by kernel_rfl) (by kernel_rfl)
@[simp] theorem A6A(n:Nat)(st:XS):AF bk ann kn (n+1) 90 (D9 62255) st=TS (J9 bk (BH bk ann kn n) (.str [om 84 8,om 85 10,oq 86 (.buildS 197 1 [(0,tq 85)]),oq 87 (.app [tq 84,tq 86] [197,197]),om 8 87]) (CL (some ([2,3,6,8,10,24,25],[2,3,17,30,87])) (LU [30] st))) :=
 D3 (by kernel_rfl) (by kernel_rfl) (by kernel_rfl) (by kernel_rfl) (by kernel_rfl)
@[simp] theorem BHH:UX 90 NT tK/\UX 90 NU tL/\UX 90 R8 ABW/\SX 90 (D9 2) [oq 2 (.box (tq 0)),oq 3 (.box (tq 1)),oq 4 (.mv (.const (.slice none 0 0))),ok 5 0] [0,1] [2,3,17,900,901,902]/\SX 90 (D9 5) [ol 15 40 2,oq 16 (.oth (.makeFunc (.func 155) #[] #[tq 2,tq 3])),od 17 154 [tq 15,tq 16],om 14 17,oq 18 (.oth (.extract (tq 14) 0)),oq 19 (.oth (.extract (tq 14) 1)),om 6 18,om 7 19] [2,3] [2,3,17,900,901,902]/\SX 90 (D9 19) [om 20 7,oc 21 .neq 34 20 0] [2,3,6,7] [2,3,17,900,901,902]/\SX 90 (D9 75) [om 22 7,oq 4 (.mv (.const (.slice none 0 0))),om 5 22] [7] []/\SX 90 (D9 79) [oz 23 40 2 1,ol 24 3 23,ok 25 0] [2,3,6,8] [2,3,17,87]/\SX 90 (D9 559) [ob 26 .lss 3 25 24] [2,3,6,8,24,25] [2,3,17,87]/\SX 90 (D9 9007) [om 27 25,om 9 27] [2,3,6,8,24,25] [2,3,17,87]/\SX 90 (D9 21295) [oz 28 40 2 2,ol 29 3 28,oq 30 (.mkS 204 (tq 29) (tq 29)),om 10 30] [2,3,6,8,9,24,25] [2,3,17,87]/\SX 90 (D9 78639) [om 31 10,oe 32 31 204,ok 33 0] [2,3,6,8,9,10,24,25] [2,3,17,30,87]/\SX 90 (D9 570159) [ob 34 .lss 3 33 32] [2,3,6,8,9,10,24,25,32,33] [2,3,17,30,87]/\SX 90 (D9 9220911) [om 35 33,om 11 35] [2,3,6,8,9,10,24,25,32,33] [2,3,17,30,87]/\SX 90 (D9 21803823) [om 36 9,om 37 11,oq 38 (.build 86 [(0,tq 36),(1,tq 37)]),oq 12 (.alloc 86),os (.sto 86 (tq 12) (tq 38))] [2,3,6,8,9,10,11,24,25,32,33] [2,3,17,30,87]/\SX 90 (D9 80524079) [ol 39 23 3,oe 40 39 23,ok 41 0] [2,3,6,8,9,10,11,12,24,25,32,33] [2,3,12,17,30,87]/\SX 90 (D9 583840559) [ob 42 .lss 3 41 40] [2,3,6,8,9,10,11,12,24,25,32,33,40,41] [2,3,12,17,30,87]/\SX 90 (D9 9442210607) [om 43 41,om 13 43] [2,3,6,8,9,10,11,12,24,25,32,33,40,41] [2,3,12,17,30,87]/\RX 90 (D9 13737177903) (.drw [⟨[],[om 44 10,om 45 11,oi 46 204 44 45,oz 47 209 46 0,oq 48 (.ldz 3 (tq 47)),oq 49 (.ldz 40 (tq 2)),oq 50 (.ldz 86 (tq 12)),om 51 13,oq 52 (.ldz 23 (tq 3)),om 53 13,oi 54 23 52 53,oq 55 (.ldz 22 (tq 54)),om 56 9,oi 57 22 55 56,oq 58 (.ldz 3 (tq 57)),od 59 153 [tq 49,tq 50,tq 51,tq 58,ci 0],oq 60 (.oth (.field 155 (tq 59) 0)),ob 61 .add 3 48 60,oi 62 204 44 45,oz 63 209 62 0,os (.sto 3 (tq 63) (tq 61))],[]⟩]) (some ([2,3,6,8,9,10,11,12,13,24,25,32,33,40,41],[2,3,12,17,30,87]))/\SX 90 (D9 4073501487) [oc 64 .add 3 41 1,om 41 64] [2,3,6,8,9,10,11,12,24,25,32,33,40,41] [2,3,12,17,30,87]/\RX 90 (D9 63746863) (.drw [⟨[73,78],[om 65 10,om 66 11,om 67 10,om 68 11,oq 69 (.build 238 [(0,.func 156)]),om 70 6,oq 71 (.ldz 23 (tq 3)),oq 72 (.ldz 86 (tq 12)),oq 74 (.build 238 [(0,.func 158)]),om 75 6,ol 76 23 3,ol 77 86 12,oq 73 (.call true none (.func 157) [tq 69,tq 70,tq 71,tq 72]),oq 78 (.call true none (.func 157) [tq 74,tq 75,tq 76,tq 77]),oi 79 204 65 66,oz 80 209 79 1,os (.sto 207 (tq 80) (tq 73)),oi 81 204 67 68,oz 82 209 81 2,os (.sto 207 (tq 82) (tq 78))],[]⟩]) (some ([2,3,6,8,9,10,11,12,24,25,32,33],[2,3,12,17,30,87]))/\SX 90 (D9 3978031) [oc 83 .add 3 33 1,om 33 83] [2,3,6,8,9,10,24,25,32,33] [2,3,17,30,87]/\SX 90 (D9 3887) [oc 88 .add 3 25 1,om 25 88] [2,3,6,8,24,25] [2,3,17,87]/\SX 90 (D9 95) [om 89 8,om 4 89,ok 5 0] [8] [87]/\LX 90 R8 [2,3,6,8,24,25] [2,3,17,87]/\LX 90 NU [2,3,6,8,9,10,24,25,32,33] [2,3,17,30,87]/\LX 90 NT [2,3,6,8,9,10,11,12,24,25,32,33,40,41] [2,3,12,17,30,87]:=by and_intros<;>first|exact rx|exact lx|exact fun _ _=>rfl
def AID:=rg Tryz.f155
def AZQ:bq:=(.seq (AID 2) (.seq (AID 5) .ret))
theorem b155:Tryz.f155.body=some AZQ:=by kernel_rfl
@[simp] theorem BHI:SX 6 (AID 2) [ot 2 false] [0,1] []/\SX 6 (AID 5) [ol 3 40 0,ol 4 23 1,od 5 111 [tq 3,tq 4],om 2 5] [0,1] []:=⟨rx,rx⟩
def PX:=rg Tryz.f187
@[simp] def ABY:bq:=(.seq (PX 69) (.seq (.cond (.tmp 9) .skip (.exit 0)) (.seq (.block 1 (.seq (PX 1125) (.seq (PX 2661) (.cond (.tmp 16) (.seq (PX 9829) .ret) .skip)))) (PX 485))))
def R9:=ABY
def AO1:bq:=(.seq (PX 2) (.seq (.seq (PX 9) (.block 0 (.loop R9))) (.seq (PX 11) .ret)))
theorem b187:Tryz.f187.body=some AO1:=by kernel_rfl
@[simp] theorem BHJ:UX 19 R9 ABY/\SX 19 (PX 2) [ok 4 0] [0,1] []/\SX 19 (PX 9) [om 6 0,oe 7 6 28,ok 8 0] [0,1] []/\SX 19 (PX 69) [ob 9 .lss 3 8 7] [0,1,7,8] []/\SX 19 (PX 1125) [om 10 8,om 5 10] [0,1,7,8] []/\SX 19 (PX 2661) [om 11 1,om 12 0,om 13 5,oi 14 28 12 13,ol 15 97 14,oq 16 (.call false none (tq 11) [tq 15])] [0,1,5,7,8] []/\SX 19 (PX 9829) [om 17 5,om 4 17] [5] []/\SX 19 (PX 485) [oc 18 .add 3 8 1,om 8 18] [0,1,3,7,8] []/\SX 19 (PX 11) [oq 4 (.mv (.const (.int .i64 (bj 0))))] [] []/\LX 19 R9 [0,1,7,8] []:=⟨fun _ _=>rfl,rx,rx,rx,rx,rx,rx,rx,rx,lx⟩
def AIE:=rg Tryz.f159
def AZR:bq:=(.seq (AIE 2) (.seq (AIE 5) .ret))
theorem b159:Tryz.f159.body=some AZR:=by kernel_rfl
@[simp] theorem BHK:SX 9 (AIE 2) [ot 4 false] [0,1] [7]/\SX 9 (AIE 5) [om 5 0,om 6 1,od 7 187 [tq 5,tq 6],oc 8 .geq 3 7 0,om 4 8] [0,1,2,3] [2,3]:=⟨rx,rx⟩
def AIF:=rg Tryz.f119
def AZS:bq:=(.seq (AIF 2) (.seq (AIF 5) .ret))
theorem A9W:Tryz.f119.body=some AZS:=by kernel_rfl
@[simp] theorem BHL:SX 9 (AIF 2) [oq 3 (.box (tq 1)),ot 4 false] [0,1,2] [3]/\SX 9 (AIF 5) [om 5 0,oq 6 (.oth (.makeFunc (.func 160) #[] #[tq 3])),od 7 159 [tq 5,tq 6],ou 8 7,om 4 8] [0,1,2,3] [2,3]:=⟨rx,rx⟩
def AIG:=rg Tryz.f160
def AZT:bq:=(.seq (AIG 2) (.seq (AIG 5) .ret))
theorem b160:Tryz.f160.body=some AZT:=by kernel_rfl
@[simp] theorem BHM:SX 8 (AIG 2) [ot 3 false] [0,1] []/\SX 8 (AIG 5) [ol 4 200 1,om 5 0,oq 6 (.call false none (tq 4) [tq 5]),ou 7 6,om 3 7] [0,1,2] [2]:=⟨rx,rx⟩
def PY:=rg Tryz.f188
@[simp] def ABZ:bq:=(.seq (PY 69) (.seq (.cond (.tmp 9) .skip (.exit 0)) (.seq (.block 1 (.seq (PY 1125) (.seq (PY 2661) (.cond (.tmp 16) (.seq (PY 9829) .ret) .skip)))) (PY 485))))
def SA:=ABZ
def AO2:bq:=(.seq (PY 2) (.seq (.seq (PY 9) (.block 0 (.loop SA))) (.seq (PY 11) .ret)))
theorem b188:Tryz.f188.body=some AO2:=by kernel_rfl
@[simp] theorem BHN:UX 19 SA ABZ/\SX 19 (PY 2) [ok 4 0] [0,1] []/\SX 19 (PY 9) [om 6 0,oe 7 6 41,ok 8 0] [0,1] []/\SX 19 (PY 69) [ob 9 .lss 3 8 7] [0,1,7,8] []/\SX 19 (PY 1125) [om 10 8,om 5 10] [0,1,7,8] []/\SX 19 (PY 2661) [om 11 1,om 12 0,om 13 5,oi 14 41 12 13,ol 15 94 14,oq 16 (.call false none (tq 11) [tq 15])] [0,1,5,7,8] []/\SX 19 (PY 9829) [om 17 5,om 4 17] [5] []/\SX 19 (PY 485) [oc 18 .add 3 8 1,om 8 18] [0,1,3,7,8] []/\SX 19 (PY 11) [oq 4 (.mv (.const (.int .i64 (bj 0))))] [] []/\LX 19 SA [0,1,7,8] []:=⟨fun _ _=>rfl,rx,rx,rx,rx,rx,rx,rx,rx,lx⟩
def AIH:=rg Tryz.f161
def AZU:bq:=(.seq (AIH 2) (.seq (AIH 5) .ret))
theorem b161:Tryz.f161.body=some AZU:=by kernel_rfl
@[simp] theorem BHO:SX 9 (AIH 2) [ot 4 false] [0,1] [7]/\SX 9 (AIH 5) [om 5 0,om 6 1,od 7 188 [tq 5,tq 6],oc 8 .geq 3 7 0,om 4 8] [0,1,2,3] [2,3]:=⟨rx,rx⟩
def AII:=rg Tryz.f120
def AZV:bq:=(.seq (AII 2) (.seq (AII 5) .ret))
theorem A9X:Tryz.f120.body=some AZV:=by kernel_rfl
@[simp] theorem BHP:SX 9 (AII 2) [oq 3 (.box (tq 1)),ot 4 false] [0,1,2] [3]/\SX 9 (AII 5) [om 5 0,oq 6 (.oth (.makeFunc (.func 162) #[] #[tq 3])),od 7 161 [tq 5,tq 6],ou 8 7,om 4 8] [0,1,2,3] [2,3]:=⟨rx,rx⟩
def AIJ:=rg Tryz.f162
def AZW:bq:=(.seq (AIJ 2) (.seq (AIJ 5) .ret))
theorem b162:Tryz.f162.body=some AZW:=by kernel_rfl
@[simp] theorem BHQ:SX 8 (AIJ 2) [oq 2 (.box (tq 0)),ot 3 false] [0,1] []/\SX 8 (AIJ 5) [ol 4 203 1,ol 5 94 2,oq 6 (.call false none (tq 4) [tq 5]),ou 7 6,om 3 7] [0,1,2] [2]:=⟨rx,rx⟩
def AIK:=rg Tryz.f163
def AZX:bq:=(.seq (AIK 2) (.seq (AIK 5) .ret))
theorem A9Y:Tryz.f163.body=some AZX:=by kernel_rfl
@[simp] theorem BHR:SX 15 (AIK 2) [ot 6 false] [0,1,2] []/\SX 15 (AIK 5) [om 7 1,om 8 0,ob 9 .leq 3 7 8,om 10 9,gm 10 true 11 0,gm 10 true 12 2,gb 10 true 13 .leq 3 11 12,oq 14 (.pick (tq 10) (tq 13) (cb false)),om 6 14] [0,1,2] []:=⟨rx,rx⟩
def AIL:=rg Tryz.f121
def AZY:bq:=(.seq (AIL 2) (.seq (AIL 5) .ret))
theorem A9Z:Tryz.f121.body=some AZY:=by kernel_rfl
@[simp] theorem BHS:SX 11 (AIL 2) [oq 1 (.box (tq 0)),ot 2 false] [0] [1,7,910,911]/\SX 11 (AIL 5) [oz 3 94 1 0,ol 4 3 3,od 5 163 [tq 4,ci 1,ci 4],om 6 5,gz 6 true 7 94 1 1,gl 6 true 8 3 7,gd 6 true 9 163 [tq 8,ci 0,ci 5],oq 10 (.pick (tq 6) (tq 9) (cb false)),om 2 10] [1] [1]:=⟨rx,rx⟩
def AIM:=rg Tryz.f118
def AZZ:bq:=(.seq (AIM 2) (.seq (AIM 5) .ret))
theorem A90:Tryz.f118.body=some AZZ:=by kernel_rfl
@[simp] theorem BHT:SX 11 (AIM 2) [oq 2 (.box (tq 0)),ot 4 false] [0,1] [2]/\SX 11 (AIM 5) [om 5 1,oe 6 5 97,oz 7 43 2 0,oz 8 40 7 2,ol 9 3 8,ob 10 .eql 3 6 9,om 4 10] [1,2] [2]:=⟨rx,rx⟩
def KK:=rg Tryz.f71
@[simp] def AB0:bq:=(.seq (KK 4561279) (.seq (.cond (.tmp 63) .skip (.exit 2)) (.seq (.block 3 (.seq (KK 73767295) (KK 107321727))) (KK 31824255))))
def SB:=AB0
@[simp] def AB1:bq:=(.seq (KK 4479) (.seq (.cond (.tmp 57) .skip (.exit 0)) (.seq (.block 1 (.seq (KK 72063) (.seq (KK 170367) (.seq (.seq (KK 629119) (.block 2 (.loop SB))) (KK 498047))))) (KK 31103))))
def SD:=AB1
def c71:bq:=(.seq (KK 2) (.seq (.seq (KK 9) (.cond (.tmp 16) (.seq (KK 37) .ret) .skip)) (.seq (KK 11) (.seq (.seq (KK 39) (.cond (.tmp 26) (.seq (KK 151) .ret) .skip)) (.seq (KK 47) (.seq (.seq (KK 159) (.cond (.tmp 49) (.seq (KK 607) .ret) .skip)) (.seq (KK 191) (.seq (.seq (KK 639) (.block 0 (.loop SD))) (.seq (KK 767) .ret)))))))))
theorem b71:Tryz.f71.body=some c71:=by kernel_rfl
@[simp] theorem A91(n:Nat)(st:XS):AF bk ann kn (n+1) 85 (KK 767) st=TS (J9 bk (BH bk ann kn n) (.str [om 84 7,om 2 84,ok 3 0]) (CL (some ([7],[1,22,51,53,80])) (LU [80,911051,912053] st))) :=
 D3 (by kernel_rfl) (by kernel_rfl) (by kernel_rfl) (by kernel_rfl) (by kernel_rfl)
@[simp] theorem x71:UX 85 SB AB0/\UX 85 SD AB1/\SX 85 (KK 2) [oq 1 (.box (tq 0)),oq 2 (.mv (.const (.pointer none))),ok 3 0] [0] [1,22,51,53,80]/\SX 85 (KK 9) [oz 13 43 1 3,ol 14 41 13,oe 15 14 41,oc 16 .gtr 3 15 3] [1] [1,22,51,53,80]/\SX 85 (KK 37) [oq 2 (.mv (.const (.pointer none))),ok 3 3] [] []/\SX 85 (KK 11) [oz 18 43 1 0,ol 19 40 18,oz 20 43 1 1,ol 21 23 20,od 22 117 [tq 19,tq 21],om 17 22,oq 23 (.oth (.extract (tq 17) 0)),oq 24 (.oth (.extract (tq 17) 1)),om 4 23,om 5 24] [1] [1,22,51,53,80]/\SX 85 (KK 39) [om 25 5,oc 26 .neq 34 25 0] [1,4,5] [1,22,51,53,80]/\SX 85 (KK 151) [om 27 5,oq 2 (.mv (.const (.pointer none))),om 3 27] [5] []/\SX 85 (KK 47) [ol 28 43 1,oq 29 (.oth (.makeFunc (.func 118) #[tq 28] #[])),om 6 29] [1,4] [1,22,51,53,80]/\SX 85 (KK 159) [oz 30 43 1 2,ol 31 28 30,oe 32 31 28,oz 33 43 1 0,oz 34 40 33 1,ol 35 3 34,ob 36 .neq 3 32 35,om 37 36,gz 37 false 38 43 1 2,gl 37 false 39 28 38,gm 37 false 40 6,gd 37 false 41 119 [tq 39,tq 40],og 37 false 42 (.oth (.unOp .not 4 (tq 41))),oq 43 (.pick (tq 37) (cb true) (tq 42)),om 44 43,gz 44 false 45 43 1 3,gl 44 false 46 41 45,gd 44 false 47 120 [tq 46,.func 121],og 44 false 48 (.oth (.unOp .not 4 (tq 47))),oq 49 (.pick (tq 44) (cb true) (tq 48))] [1,4,6] [1,22,51,53,80]/\SX 85 (KK 607) [oq 2 (.mv (.const (.pointer none))),ok 3 1] [] []/\SX 85 (KK 191) [ol 50 43 1,oq 51 (.mkM none),oq 52 (.build 175 [(0,tq 50),(1,.const (.slice none 0 0)),(2,tq 51)]),oq 53 (.box (tq 52)),om 7 53] [1,4] [1,22,51,53,80]/\SX 85 (KK 639) [om 54 4,oe 55 54 197,ok 56 0] [4,7] [1,22,51,53,80]/\SX 85 (KK 4479) [ob 57 .lss 3 56 55] [7,54,55,56] [1,22,51,53,80]/\SX 85 (KK 72063) [oi 58 197 54 56,ol 59 204 58,om 9 59] [7,54,55,56] [1,22,51,53,80]/\SX 85 (KK 170367) [oq 10 (.alloc 206)] [7,9,54,55,56] [1,22,51,53,80]/\SX 85 (KK 629119) [om 60 9,oe 61 60 204,ok 62 0] [7,9,10,54,55,56] [1,10,22,51,53,80]/\SX 85 (KK 4561279) [ob 63 .lss 3 62 61] [7,10,54,55,56,60,61,62] [1,10,22,51,53,80]/\SX 85 (KK 73767295) [om 64 62,oi 65 204 60 62,ol 66 209 65,oq 12 (.alloc 209),om 11 64,os (.sto 209 (tq 12) (tq 66))] [7,10,54,55,56,60,61,62] [1,10,22,51,53,80]/\SX 85 (KK 107321727) [om 67 11,oz 68 209 12 2,oz 69 207 68 0,ol 70 3 69,oi 71 206 10 67,os (.sto 3 (tq 71) (tq 70))] [7,10,11,12,54,55,56,60,61,62] [1,10,12,22,51,53,80]/\SX 85 (KK 31824255) [oc 72 .add 3 62 1,om 62 72] [7,10,54,55,56,60,61,62] [1,10,22,51,53,80]/\RX 85 (KK 498047) (.drw [⟨[],[om 73 7,om 74 7,oq 75 (.oth (.nilCheck (tq 74))),oz 76 175 75 1,oq 77 (.ldz 172 (tq 76)),ol 78 206 10,oq 79 (.buildS 172 1 [(0,tq 78)]),oq 80 (.app [tq 77,tq 79] [172,172]),oq 81 (.oth (.nilCheck (tq 73))),oz 82 175 81 1,os (.sto 172 (tq 82) (tq 80))],[]⟩]) (some ([7,10,54,55,56],[1,10,22,51,53,80]))/\SX 85 (KK 31103) [oc 83 .add 3 56 1,om 56 83] [7,54,55,56] [1,22,51,53,80]/\LX 85 SD [7,54,55,56] [1,22,51,53,80]/\LX 85 SB [7,10,54,55,56,60,61,62] [1,10,22,51,53,80]:=by and_intros<;>first|exact rx|exact lx|exact fun _ _=>rfl
def g24:=rg Tryz.f24
def c24:bq:=(.seq (g24 2) (.seq (g24 5) (.seq (g24 11) .ret)))
def PZ:=rg Tryz.f189
@[simp] def AB2:bq:=(.seq (PZ 69) (.seq (.cond (.tmp 9) .skip (.exit 0)) (.seq (.block 1 (.seq (PZ 1125) (.seq (PZ 2661) (.cond (.tmp 16) (.seq (PZ 9829) .ret) .skip)))) (PZ 485))))
def SE:=AB2
def AIO:bq:=(.seq (PZ 2) (.seq (.seq (PZ 9) (.block 0 (.loop SE))) (.seq (PZ 11) .ret)))
theorem b189:Tryz.f189.body=some AIO:=by kernel_rfl
@[simp] theorem BHU:UX 19 SE AB2/\SX 19 (PZ 2) [ok 4 0] [0,1] []/\SX 19 (PZ 9) [om 6 0,oe 7 6 120,ok 8 0] [0,1] []/\SX 19 (PZ 69) [ob 9 .lss 3 8 7] [0,1,7,8] []/\SX 19 (PZ 1125) [om 10 8,om 5 10] [0,1,7,8] []/\SX 19 (PZ 2661) [om 11 1,om 12 0,om 13 5,oi 14 120 12 13,ol 15 153 14,oq 16 (.call false none (tq 11) [tq 15])] [0,1,5,7,8] []/\SX 19 (PZ 9829) [om 17 5,om 4 17] [5] []/\SX 19 (PZ 485) [oc 18 .add 3 8 1,om 8 18] [0,1,3,7,8] []/\SX 19 (PZ 11) [oq 4 (.mv (.const (.int .i64 (bj 0))))] [] []/\LX 19 SE [0,1,7,8] []:=⟨fun _ _=>rfl,rx,rx,rx,rx,rx,rx,rx,rx,lx⟩
def AIP:=rg Tryz.f171
def AO3:bq:=(.seq (AIP 2) (.seq (AIP 5) .ret))
theorem b171:Tryz.f171.body=some AO3:=by kernel_rfl
@[simp] theorem BHV:SX 9 (AIP 2) [ot 4 false] [0,1] [7]/\SX 9 (AIP 5) [om 5 0,om 6 1,od 7 189 [tq 5,tq 6],oc 8 .geq 3 7 0,om 4 8] [0,1,2,3] [2,3]:=⟨rx,rx⟩
def AIQ:=rg Tryz.f137
def AO4:bq:=(.seq (AIQ 2) (.seq (AIQ 5) .ret))
theorem b137:Tryz.f137.body=some AO4:=by kernel_rfl
@[simp] theorem BHW:SX 9 (AIQ 2) [oq 3 (.box (tq 1)),ot 4 false] [0,1,2] [3]/\SX 9 (AIQ 5) [om 5 0,oq 6 (.oth (.makeFunc (.func 172) #[] #[tq 3])),od 7 171 [tq 5,tq 6],ou 8 7,om 4 8] [0,1,2,3] [2,3]:=⟨rx,rx⟩
def AIR:=rg Tryz.f172
def AZ0:bq:=(.seq (AIR 2) (.seq (AIR 5) .ret))
theorem b172:Tryz.f172.body=some AZ0:=by kernel_rfl
@[simp] theorem BHX:SX 8 (AIR 2) [oq 2 (.box (tq 0)),ot 3 false] [0,1] []/\SX 8 (AIR 5) [ol 4 221 1,ol 5 153 2,oq 6 (.call false none (tq 4) [tq 5]),ou 7 6,om 3 7] [0,1,2] [2]:=⟨rx,rx⟩
def wX:=rg Tryz.f173
def AZ1:bq:=(.seq (wX 2) (.seq (wX 5) (.seq (wX 11) .ret)))
theorem A92:Tryz.f173.body=some AZ1:=by kernel_rfl
@[simp] theorem BHY:SX 38 (wX 2) [oq 3 (.box (tq 0)),ot 6 false] [0,1,2] [3]/\RX 38 (wX 5) (.drw [⟨[7,8],[oz 9 43 3 3,oq 10 (.ldz 41 (tq 9)),om 11 1,oi 12 41 10 11,oq 13 (.ldz 94 (tq 12)),oz 14 43 3 3,ol 15 41 14,om 16 2,oi 17 41 15 16,ol 18 94 17,oq 7 (.alloc 94),oq 8 (.alloc 94),os (.sto 94 (tq 7) (tq 13))],[os (.sto 94 (tq 8) (tq 18))]⟩]) (some ([1,2,3],[3]))/\SX 38 (wX 11) [om 19 1,om 20 2,ob 21 .neq 3 19 20,om 22 21,gz 22 true 23 94 7 3,gl 22 true 24 4 23,gm 22 true 25 24,gz 25 true 26 94 8 2,gl 25 true 27 4 26,og 22 true 28 (.pick (tq 25) (tq 27) (cb false)),gm 22 true 29 28,gz 29 false 30 94 7 2,gl 29 false 31 4 30,gm 29 false 32 31,gz 32 true 33 94 8 3,gl 32 true 34 4 33,og 29 false 35 (.pick (tq 32) (tq 34) (cb false)),og 22 true 36 (.pick (tq 29) (cb true) (tq 35)),oq 37 (.pick (tq 22) (tq 36) (cb false)),om 6 37] [1,2,7,8] [7,8]:=⟨rx,rx,rx⟩
def bV:=rg Tryz.f139
def AB3:bq:=(.seq (bV 2) (.seq (.seq (bV 9) (.cond (.tmp 14) (.seq (bV 37) .ret) .skip)) (.seq (bV 11) (.seq (bV 23) .ret))))
theorem A93:Tryz.f139.body=some AB3:=by kernel_rfl
@[simp] theorem BHZ:SX 55 (bV 2) [oq 3 (.box (tq 0)),oq 4 (.box (tq 1)),oq 5 (.box (tq 2)),ot 6 false] [0,1,2] [3]/\SX 55 (bV 9) [oz 8 153 4 1,oz 9 86 8 0,ol 10 3 9,oz 11 153 5 1,oz 12 86 11 0,ol 13 3 12,ob 14 .neq 3 10 13] [3,4,5] [3,4,5]/\SX 55 (bV 37) [ot 6 true] [] []/\SX 55 (bV 11) [oz 15 153 4 1,oz 16 86 15 1,ol 17 3 16,oz 18 153 5 1,oz 19 86 18 1,ol 20 3 19,ob 21 .sub 3 17 20,oz 22 153 5 0,oz 23 151 22 1,ol 24 3 23,ob 25 .sub 3 21 24,oz 26 153 5 1,oz 27 86 26 1,ol 28 3 27,oz 29 153 4 1,oz 30 86 29 1,ol 31 3 30,ob 32 .sub 3 28 31,oz 33 153 4 0,oz 34 151 33 1,ol 35 3 34,ob 36 .sub 3 32 35,oq 37 (.oth (.call ⟨.builtin .max,#[tq 25,tq 36],#[3,3]⟩)),om 7 37] [3,4,5] [3,4,5]/\SX 55 (bV 23) [om 38 7,oc 39 .gtr 3 38 0,om 40 39,gm 40 false 41 7,gc 40 false 42 .eql 3 41 0,gm 40 false 43 42,gl 43 true 44 43 3,gz 43 true 45 153 4 0,gz 43 true 46 151 45 0,gl 43 true 47 3 46,gz 43 true 48 153 5 0,gz 43 true 49 151 48 0,gl 43 true 50 3 49,gd 43 true 51 173 [tq 44,tq 47,tq 50],og 43 true 52 (.oth (.unOp .not 4 (tq 51))),og 40 false 53 (.pick (tq 43) (tq 52) (cb false)),oq 54 (.pick (tq 40) (cb true) (tq 53)),om 6 54] [3,4,5,7] [3,4,5]:=⟨rx,rx,rx,rx,rx⟩
def JF:=rg Tryz.f140
@[simp] def AB4:bq:=(.seq (JF 18021) (.seq (.cond (.tmp 17) .skip (.exit 2)) (.seq (.block 3 (.seq (JF 288357) (.seq (JF 681573) (.cond (.tmp 20) (JF 1468005) .skip)))) (JF 124517))))
def SF:=AB4
@[simp] def AB5:bq:=(.seq (JF 69) (.seq (.cond (.tmp 11) .skip (.exit 0)) (.seq (.block 1 (.seq (JF 1125) (.seq (JF 2661) (.block 2 (.loop SF))))) (JF 485))))
def SG:=AB5
def AZ2:bq:=(.seq (JF 2) (.seq (.seq (JF 9) (.block 0 (.loop SG))) (.seq (JF 11) .ret)))
theorem A94:Tryz.f140.body=some AZ2:=by kernel_rfl
@[simp] theorem BH0:UX 26 SF AB4/\UX 26 SG AB5/\SX 26 (JF 2) [oq 1 (.box (tq 0)),ok 2 0] [0] [1]/\SX 26 (JF 9) [oz 7 43 1 2,ol 8 28 7,oe 9 8 28,ok 10 0] [1,2] [1]/\SX 26 (JF 69) [ob 11 .lss 3 10 9] [2,8,9,10] [1]/\SX 26 (JF 1125) [oi 12 28 8 10,ol 13 97 12,om 4 13] [2,8,9,10] [1]/\SX 26 (JF 2661) [om 14 4,oe 15 14 97,ok 16 0] [2,4,8,9,10] [1]/\SX 26 (JF 18021) [ob 17 .lss 3 16 15] [2,8,9,10,14,15,16] [1]/\SX 26 (JF 288357) [oi 18 97 14 16,ol 19 4 18,om 6 19] [2,8,9,10,14,15,16] [1]/\SX 26 (JF 681573) [om 20 6] [2,6,8,9,10,14,15,16] [1]/\SX 26 (JF 1468005) [om 21 2,oc 22 .add 3 21 1,om 2 22] [2,8,9,10,14,15,16] [1]/\SX 26 (JF 124517) [oc 23 .add 3 16 1,om 16 23] [2,8,9,10,14,15,16] [1]/\SX 26 (JF 485) [oc 24 .add 3 10 1,om 10 24] [2,8,9,10] [1]/\SX 26 (JF 11) [om 25 2,om 2 25] [2] []/\LX 26 SG [2,8,9,10] [1]/\LX 26 SF [2,8,9,10,14,15,16] [1]:=by and_intros<;>first|exact rx|exact lx|exact fun _ _=>rfl
def UG:=rg Tryz.f18
@[simp] def AL4:bq:=(lp (UG 267) 31 0 1 (.seq (UG 1099) (.cond (.tmp 40) (.seq (UG 4683) .ret) .skip)) (UG 459))
def YK:=AL4
@[simp] def AL5:bq:=(lp (UG 535) 45 2 3 (.seq (UG 2199) (.cond (.tmp 54) (.seq (UG 9367) .ret) .skip)) (UG 919))
def YL:=AL5
def c18:bq:=(.seq (UG 2) (.seq (.seq (UG 9) (.cond (.tmp 26) (.seq (UG 37) .ret) .skip)) (.seq (.seq (UG 19) (.block 0 (.loop YK))) (.seq (.seq (UG 39) (.block 2 (.loop YL))) (.seq (UG 47) .ret)))))
theorem b18:Tryz.f18.body=some c18:=by kernel_rfl
@[simp] theorem x18:UX 55 YK AL4/\UX 55 YL AL5/\SX 55 (UG 2) [oq 1 (.box (tq 0)),ot 2 false] [0] [1]/\SX 55 (UG 9) [oz 5 31 1 0,ol 6 27 5,od 7 64 [tq 6],ou 8 7,om 9 8,gz 9 false 10 31 1 1,gl 9 false 11 23 10,ge 9 false 12 11 23,gc 9 false 13 .gtr 3 12 7,oq 14 (.pick (tq 9) (cb true) (tq 13)),om 15 14,gz 15 false 16 31 1 2,gl 15 false 17 28 16,ge 15 false 18 17 28,gc 15 false 19 .gtr 3 18 7,oq 20 (.pick (tq 15) (cb true) (tq 19)),om 21 20,gz 21 false 22 31 1 3,gl 21 false 23 29 22,ge 21 false 24 23 29,gc 21 false 25 .gtr 3 24 5,oq 26 (.pick (tq 21) (cb true) (tq 25))] [1] [1]/\SX 55 (UG 37) [ot 2 false] [] []/\SX 55 (UG 19) [ok 3 0] [1] [1]/\SX 55 (UG 267) [om 27 3,oz 28 31 1 1,ol 29 23 28,oe 30 29 23,ob 31 .lss 3 27 30] [1,3] [1]/\SX 55 (UG 1099) [oz 34 31 1 1,ol 35 23 34,om 36 3,oi 37 23 35 36,ol 38 22 37,oe 39 38 22,oc 40 .gtr 3 39 7] [1,3] [1]/\SX 55 (UG 4683) [ot 2 false] [] []/\SX 55 (UG 459) [om 32 3,oc 33 .add 3 32 1,om 3 33] [1,3] [1]/\SX 55 (UG 39) [ok 4 0] [1] [1]/\SX 55 (UG 535) [om 41 4,oz 42 31 1 2,ol 43 28 42,oe 44 43 28,ob 45 .lss 3 41 44] [1,4] [1]/\SX 55 (UG 2199) [oz 48 31 1 2,ol 49 28 48,om 50 4,oi 51 28 49 50,ol 52 97 51,oe 53 52 97,oc 54 .gtr 3 53 7] [1,4] [1]/\SX 55 (UG 9367) [ot 2 false] [] []/\SX 55 (UG 919) [om 46 4,oc 47 .add 3 46 1,om 4 47] [1,4] [1]/\SX 55 (UG 47) [ot 2 true] [] []/\LX 55 YK [1,3] [1]/\LX 55 YL [1,4] [1]:=by and_intros<;>first|exact rx|exact lx|exact fun _ _=>rfl
def tM:=rg Tryz.f69
@[simp] def AL6:bq:=(lp (tM 267) 8 0 1 (tM 587) (tM 459))
def YM:=AL6
def c69:bq:=(.seq (tM 2) (.seq (tM 5) (.seq (.seq (tM 19) (.block 0 (.loop YM))) (.seq (tM 23) .ret))))
theorem b69:Tryz.f69.body=some c69:=by kernel_rfl
@[simp] theorem BDO(n:Nat)(st:XS):AF bk ann kn (n+1) 20 (tM 459) st=TS (J9 bk (BH bk ann kn n) (.str [om 9 4,oc 10 .add 3 9 1,om 4 10]) (CL (some ([0,3,4],[18])) (LU [16,2000000000000018] st))) :=
 D3 (by kernel_rfl) (by kernel_rfl) (by kernel_rfl) (by kernel_rfl) (by kernel_rfl)
@[simp] theorem x69:UX 20 YM AL6/\SX 20 (tM 2) [oq 2 (.mv (.const (.slice none 0 0)))] [0] []/\SX 20 (tM 5) [oq 3 (.mv (.const (.slice none 0 0)))] [0] []/\SX 20 (tM 19) [ok 4 0] [0,3] [18]/\SX 20 (tM 267) [om 5 4,om 6 0,oe 7 6 23,ob 8 .lss 3 5 7] [0,3,4] [18]/\SX 20 (tM 587) [om 11 3,om 12 0,om 13 4,oi 14 23 12 13,ol 15 22 14,oq 16 (.app [.const (.slice none 0 0),tq 15] [22,22]),oq 17 (.buildS 23 1 [(0,tq 16)]),oq 18 (.app [tq 11,tq 17] [23,23]),om 3 18] [0,3,4] [18]/\SX 20 (tM 23) [om 19 3,om 2 19] [3] [18]/\LX 20 YM [0,3,4] [18]:=⟨fun _ _=>rfl,rx,rx,rx,rx,rx,rx,lx⟩
def XD:=rg Tryz.f21
@[simp] def AL7:bq:=(lp (XD 267) 18 0 1 (XD 587) (XD 459))
def YN:=AL7
@[simp] def AL8:bq:=(lp (XD 535) 36 2 3 (.seq (XD 2199) (XD 3223)) (XD 919))
def YO:=AL8
def c21:bq:=(.seq (XD 2) (.seq (XD 5) (.seq (.seq (XD 19) (.block 0 (.loop YN))) (.seq (.seq (XD 39) (.block 2 (.loop YO))) (.seq (XD 47) .ret)))))
theorem b21:Tryz.f21.body=some c21:=by kernel_rfl
@[simp] theorem BDP(n:Nat)(st:XS):AF bk ann kn (n+1) 59 (XD 459) st=TS (J9 bk (BH bk ann kn n) (.str [om 19 4,oc 20 .add 3 19 1,om 4 20]) (CL (some ([1,2,3,4],[1,2,3,9,12,30,56])) (LU [28,2000000000000030] st))) :=
 D3 (by kernel_rfl) (by kernel_rfl) (by kernel_rfl) (by kernel_rfl) (by kernel_rfl)
@[simp] theorem x21:UX 59 YN AL7/\UX 59 YO AL8/\SX 59 (XD 2) [oq 1 (.box (tq 0)),oq 2 (.alloc 43)] [0] [1,2,3,9,12,30,56]/\RX 59 (XD 5) (.drw [⟨[3],[oz 7 31 1 0,oq 8 (.ldz 27 (tq 7)),od 9 68 [tq 8],oz 10 31 1 1,oq 11 (.ldz 23 (tq 10)),od 12 69 [tq 11],oq 13 (.build 43 [(0,tq 9),(1,tq 12)]),oq 3 (.alloc 43)],[os (.sto 43 (tq 3) (tq 13))]⟩]) (some ([1,2],[1,2,30,56]))/\SX 59 (XD 19) [ok 4 0] [1,2,3] [1,2,3,9,12,30,56]/\SX 59 (XD 267) [om 14 4,oz 15 31 1 2,ol 16 28 15,oe 17 16 28,ob 18 .lss 3 14 17] [1,2,3,4] [1,2,3,9,12,30,56]/\RX 59 (XD 587) (.drw [⟨[],[oz 21 43 3 2,ol 22 28 21,oz 23 31 1 2,ol 24 28 23,om 25 4,oi 26 28 24 25,ol 27 97 26,oq 28 (.app [.const (.slice none 0 0),tq 27] [97,97]),oq 29 (.buildS 28 1 [(0,tq 28)]),oq 30 (.app [tq 22,tq 29] [28,28]),oz 31 43 3 2],[os (.sto 28 (tq 31) (tq 30))]⟩]) (some ([1,2,3,4],[1,2,3,9,12,30,56]))/\SX 59 (XD 39) [ok 5 0] [1,2,3] [1,2,3,9,12,30,56]/\SX 59 (XD 535) [om 32 5,oz 33 31 1 3,ol 34 29 33,oe 35 34 29,ob 36 .lss 3 32 35] [1,2,3,5] [1,2,3,9,12,30,56]/\SX 59 (XD 2199) [oz 39 31 1 3,ol 40 29 39,om 41 5,oi 42 29 40 41,ol 43 57 42,oq 6 (.alloc 57),os (.sto 57 (tq 6) (tq 43))] [1,2,3,5] [1,2,3,9,12,30,56]/\SX 59 (XD 3223) [oz 44 43 3 3,ol 45 41 44,oz 46 57 6 0,ol 47 3 46,oz 48 57 6 1,ol 49 3 48,oz 50 57 6 2,ol 51 4 50,oz 52 57 6 3,ol 53 4 52,oq 54 (.build 94 [(0,tq 47),(1,tq 49),(2,tq 51),(3,tq 53)]),oq 55 (.buildS 41 1 [(0,tq 54)]),oq 56 (.app [tq 45,tq 55] [41,41]),oz 57 43 3 3,os (.sto 41 (tq 57) (tq 56))] [1,2,3,5,6] [1,2,3,6,9,12,30,56]/\SX 59 (XD 919) [om 37 5,oc 38 .add 3 37 1,om 5 38] [1,2,3,5] [1,2,3,9,12,30,56]/\SX 59 (XD 47) [ol 58 43 3,os (.sto 43 (tq 2) (tq 58))] [2,3] [1,2,3,9,12,30,56]/\LX 59 YN [1,2,3,4] [1,2,3,9,12,30,56]/\LX 59 YO [1,2,3,5] [1,2,3,9,12,30,56]:=by and_intros<;>first|exact rx|exact lx|exact fun _ _=>rfl
def oC:=rg Tryz.f92
@[simp] def AL9:bq:=(.seq (oC 69) (.seq (.cond (.tmp 11) .skip (.exit 0)) (.seq (.block 1 (.seq (oC 1125) (.seq (oC 2661) (.cond (.tmp 18) (oC 5733) .skip)))) (oC 485))))
def YP:=AL9
def c92:bq:=(.seq (oC 2) (.seq (.seq (oC 9) (.block 0 (.loop YP))) (.seq (oC 11) .ret)))
theorem b92:Tryz.f92.body=some c92:=by kernel_rfl
@[simp] theorem x92:UX 28 YP AL9/\SX 28 (oC 2) [oq 2 (.box (tq 0)),oq 4 (.mv (.const (.slice none 0 0)))] [0,1] [2]/\SX 28 (oC 9) [oz 7 43 2 3,ol 8 41 7,oe 9 8 41,ok 10 0] [1,2,4] [2,25]/\SX 28 (oC 69) [ob 11 .lss 3 10 9] [1,4,8,9,10] [2,25]/\SX 28 (oC 1125) [om 12 10,oi 13 41 8 10,ol 14 94 13,oq 6 (.alloc 94),om 5 12,os (.sto 94 (tq 6) (tq 14))] [1,4,8,9,10] [2,25]/\SX 28 (oC 2661) [om 15 1,om 16 5,od 17 132 [tq 15,tq 16],ou 18 17] [1,4,5,6,8,9,10] [2,6,25]/\SX 28 (oC 5733) [om 19 4,om 20 5,oz 21 94 6 0,ol 22 3 21,oq 23 (.build 151 [(0,tq 20),(1,tq 22)]),oq 24 (.buildS 170 1 [(0,tq 23)]),oq 25 (.app [tq 19,tq 24] [170,170]),om 4 25] [1,4,5,6,8,9,10] [2,6,25]/\SX 28 (oC 485) [oc 26 .add 3 10 1,om 10 26] [1,4,8,9,10] [2,25]/\SX 28 (oC 11) [om 27 4,om 4 27] [4] [25]/\LX 28 YP [1,4,8,9,10] [2,25]:=⟨fun _ _=>rfl,rx,rx,rx,rx,rx,rx,rx,rx,lx⟩
def SH:=rg Tryz.f116
@[simp] def AB6:bq:=(lp (SH 133) 9 0 1 (.seq (SH 549) (.cond (.tmp 27) (.seq (SH 2341) .ret) .skip)) (SH 229))
def SI:=AB6
def AZ4:bq:=(.seq (SH 2) (.seq (.seq (SH 9) (.block 0 (.loop SI))) (.seq (SH 11) .ret)))
theorem A96:Tryz.f116.body=some AZ4:=by kernel_rfl
@[simp] theorem BH5:UX 34 SI AB6/\SX 34 (SH 2) [oq 2 (.box (tq 0)),ot 4 false] [0,1] [2]/\SX 34 (SH 9) [ok 5 0] [1,2] [2]/\SX 34 (SH 133) [om 6 5,om 7 1,oe 8 7 23,ob 9 .lss 3 6 8] [1,2,5] [2]/\RX 34 (SH 549) (.drw [⟨[],[om 12 1,om 13 5,oi 14 23 12 13,ol 15 22 14,oe 16 15 22,oz 17 27 2 1,ol 18 3 17,ob 19 .neq 3 16 18,om 20 19,gm 20 false 21 1,gm 20 false 22 5,gi 20 false 23 23 21 22,gl 20 false 24 22 23],[gd 20 false 25 134 [tq 24,ci 0]]⟩,⟨[],[og 20 false 26 (.oth (.unOp .not 4 (tq 25))),oq 27 (.pick (tq 20) (cb true) (tq 26))],[]⟩]) (some ([1,2,5],[2]))/\SX 34 (SH 2341) [ot 4 false] [] []/\SX 34 (SH 229) [om 10 5,oc 11 .add 3 10 1,om 5 11] [1,2,5] [2]/\SX 34 (SH 11) [om 28 1,oe 29 28 23,oz 30 27 2 0,ol 31 3 30,oc 32 .add 3 31 1,ob 33 .eql 3 29 32,om 4 33] [1,2] [2]/\LX 34 SI [1,2,5] [2]:=⟨fun _ _=>rfl,rx,rx,rx,rx,rx,rx,rx,lx⟩
def iU:=rg Tryz.f27
@[simp] def AMA:bq:=(lp (iU 267) 15 0 1 (.seq (iU 1099) (.cond (.tmp 28) (.seq (iU 4683) .ret) .skip)) (iU 459))
def YQ:=AMA
def c27:bq:=(.seq (iU 2) (.seq (.seq (iU 9) (.cond (.tmp 11) (.seq (iU 37) .ret) .skip)) (.seq (.seq (iU 19) (.block 0 (.loop YQ))) (.seq (iU 23) .ret))))
theorem b27:Tryz.f27.body=some c27:=by kernel_rfl
@[simp] theorem x27:UX 29 YQ AMA/\SX 29 (iU 2) [oq 2 (.box (tq 0)),ot 4 false] [0,1] [2]/\SX 29 (iU 9) [om 6 1,oe 7 6 22,oz 8 27 2 6,ol 9 23 8,oe 10 9 23,ob 11 .neq 3 7 10] [1,2] [2]/\SX 29 (iU 37) [ot 4 false] [] []/\SX 29 (iU 19) [ok 5 0] [1,2] [2]/\SX 29 (iU 267) [om 12 5,om 13 1,oe 14 13 22,ob 15 .lss 3 12 14] [1,2,5] [2]/\RX 29 (iU 1099) (.drw [⟨[],[oz 18 27 2 6,ol 19 23 18,om 20 5,oi 21 23 19 20,ol 22 22 21,om 23 1,om 24 5,oi 25 22 23 24,ol 26 3 25],[od 27 75 [tq 22,tq 26]]⟩,⟨[],[ou 28 27],[]⟩]) (some ([1,2,5],[2]))/\SX 29 (iU 4683) [ot 4 false] [] []/\SX 29 (iU 459) [om 16 5,oc 17 .add 3 16 1,om 5 17] [1,2,5] [2]/\SX 29 (iU 23) [ot 4 true] [] []/\LX 29 YQ [1,2,5] [2]:=⟨fun _ _=>rfl,rx,rx,rx,rx,rx,rx,rx,rx,rx,lx⟩
def NJ:=rg Tryz.f102
@[simp] def AB7:bq:=(lp (NJ 267) 14 0 1 (.seq (NJ 1099) (.cond (.tmp 32) (.seq (NJ 4683) .ret) .skip)) (NJ 459))
def SJ:=AB7
def AO5:bq:=(.seq (NJ 2) (.seq (.seq (NJ 9) (.cond (.tmp 9) (.seq (NJ 37) .ret) .skip)) (.seq (.seq (NJ 19) (.block 0 (.loop SJ))) (.seq (NJ 23) .ret))))
theorem A98:Tryz.f102.body=some AO5:=by kernel_rfl
@[simp] theorem BH7:UX 33 SJ AB7/\SX 33 (NJ 2) [oq 2 (.box (tq 0)),ot 4 false] [0,1] [2,4,5,30]/\SX 33 (NJ 9) [ol 6 27 2,om 7 1,od 8 27 [tq 6,tq 7],ou 9 8] [1,2] [2]/\SX 33 (NJ 37) [ot 4 false] [] []/\SX 33 (NJ 19) [ok 5 0] [1,2] [2]/\SX 33 (NJ 267) [om 10 5,oz 11 27 2 8,ol 12 25 11,oe 13 12 25,ob 14 .lss 3 10 13] [1,2,5] [2]/\RX 33 (NJ 1099) (.drw [⟨[],[om 17 1,oz 18 27 2 8,ol 19 25 18,om 20 5,oi 21 25 19 20,oz 22 188 21 0,ol 23 3 22,oi 24 22 17 23,ol 25 3 24,oz 26 27 2 8,ol 27 25 26,om 28 5,oi 29 25 27 28,oz 30 188 29 1,ol 31 3 30,ob 32 .neq 3 25 31],[]⟩]) (some ([1,2,5],[2]))/\SX 33 (NJ 4683) [ot 4 false] [] []/\SX 33 (NJ 459) [om 15 5,oc 16 .add 3 15 1,om 5 16] [1,2,5] [2]/\SX 33 (NJ 23) [ot 4 true] [] []/\LX 33 SJ [1,2,5] [2]:=⟨fun _ _=>rfl,rx,rx,rx,rx,rx,rx,rx,rx,rx,lx⟩
def iV:=rg Tryz.f55
@[simp] def AMB:bq:=(lp (iV 267) 9 0 1 (.seq (iV 1099) (.seq (iV 2635) (.cond (.tmp 17) (iV 5707) .skip))) (iV 459))
def YR:=AMB
def c55:bq:=(.seq (iV 2) (.seq (iV 5) (.seq (.seq (iV 19) (.block 0 (.loop YR))) (.seq (iV 23) .ret))))
theorem b55:Tryz.f55.body=some c55:=by kernel_rfl
@[simp] theorem x55:UX 23 YR AMB/\SX 23 (iV 2) [oq 1 (.box (tq 0)),oq 2 (.mv (.const (.slice none 0 0)))] [0] [1,14]/\SX 23 (iV 5) [oq 3 (.mv (.const (.slice none 0 0)))] [0,1] [1,14]/\SX 23 (iV 19) [ok 4 0] [0,1,3] [1,14,21]/\SX 23 (iV 267) [om 6 4,ol 7 27 1,od 8 100 [tq 7],ob 9 .lss 3 6 8] [1,3,4] [1,14,21]/\SX 23 (iV 1099) [ol 12 27 1,om 13 4,od 14 101 [tq 12,tq 13],om 5 14] [1,3,4] [1,14,21]/\SX 23 (iV 2635) [ol 15 27 1,om 16 5,od 17 102 [tq 15,tq 16]] [1,3,4,5] [1,14,21]/\SX 23 (iV 5707) [om 18 3,om 19 5,oq 20 (.buildS 23 1 [(0,tq 19)]),oq 21 (.app [tq 18,tq 20] [23,23]),om 3 21] [1,3,4,5] [1,14,21]/\SX 23 (iV 459) [om 10 4,oc 11 .add 3 10 1,om 4 11] [0,1,3,4] [1,14,21]/\SX 23 (iV 23) [om 22 3,om 2 22] [3] [21]/\LX 23 YR [1,3,4] [1,14,21]:=⟨fun _ _=>rfl,rx,rx,rx,rx,rx,rx,rx,rx,rx,lx⟩
def KC:=rg Tryz.f70
@[simp] def AB8:bq:=(lp (KC 4287) 38 0 1 (.seq (KC 17599) (.cond (.tmp 50) (.seq (KC 74943) .ret) .skip)) (KC 7359))
def SK:=AB8
@[simp] def AB9:bq:=(lp (KC 8575) 55 2 3 (.seq (KC 35199) (.cond (.tmp 75) (.seq (KC 149887) .ret) .skip)) (KC 14719))
def SL:=AB9
def c70:bq:=(.seq (KC 2) (.seq (.seq (KC 9) (.cond (.tmp 9) (.seq (KC 37) .ret) .skip)) (.seq (.seq (KC 19) (.seq (KC 43) (.cond (.tmp 14) (.seq (KC 155) .ret) .skip))) (.seq (.seq (KC 39) (.cond (.tmp 21) (.seq (KC 151) .ret) .skip)) (.seq (.seq (KC 79) (.cond (.tmp 26) (.seq (KC 303) .ret) .skip)) (.seq (.seq (KC 159) (.cond (.tmp 33) (.seq (KC 607) .ret) .skip)) (.seq (.seq (KC 319) (.block 0 (.loop SK))) (.seq (.seq (KC 639) (.block 2 (.loop SL))) (.seq (KC 767) .ret)))))))))
theorem b70:Tryz.f70.body=some c70:=by kernel_rfl
@[simp] theorem x70:UX 76 SK AB8/\UX 76 SL AB9/\SX 76 (KC 2) [oq 1 (.box (tq 0)),ok 2 0] [0] [1,24]/\SX 76 (KC 9) [oz 6 31 1 3,ol 7 29 6,oe 8 7 29,oc 9 .gtr 3 8 3] [1] [1,24]/\SX 76 (KC 37) [ok 2 3] [] []/\SX 76 (KC 19) [oz 10 31 1 0,ol 11 27 10,od 12 108 [tq 11],om 3 12] [1] [1,24]/\SX 76 (KC 43) [om 13 3,oc 14 .neq 3 13 0] [1,3] [1,24]/\SX 76 (KC 155) [om 15 3,om 2 15] [3] []/\SX 76 (KC 39) [oz 16 31 1 0,ol 17 27 16,oz 18 31 1 1,ol 19 23 18,od 20 116 [tq 17,tq 19],ou 21 20] [1] [1,24]/\SX 76 (KC 151) [ok 2 2] [] []/\SX 76 (KC 79) [oz 22 31 1 0,ol 23 27 22,od 24 55 [tq 23],oe 25 24 23,oc 26 .eql 3 25 0] [1] [1,24]/\SX 76 (KC 303) [ok 2 11] [] []/\SX 76 (KC 159) [oz 27 31 1 2,ol 28 28 27,oe 29 28 28,oz 30 31 1 0,oz 31 27 30 1,ol 32 3 31,ob 33 .neq 3 29 32] [1] [1,24]/\SX 76 (KC 607) [ok 2 1] [] []/\SX 76 (KC 319) [ok 4 0] [1] [1,24]/\SX 76 (KC 4287) [om 34 4,oz 35 31 1 2,ol 36 28 35,oe 37 36 28,ob 38 .lss 3 34 37] [1,4] [1,24]/\RX 76 (KC 17599) (.drw [⟨[],[oz 41 31 1 2,ol 42 28 41,om 43 4,oi 44 28 42 43,ol 45 97 44,oe 46 45 97,oz 47 31 1 0,oz 48 27 47 2,ol 49 3 48,ob 50 .neq 3 46 49],[]⟩]) (some ([1,4],[1,24]))/\SX 76 (KC 74943) [ok 2 1] [] []/\SX 76 (KC 7359) [om 39 4,oc 40 .add 3 39 1,om 4 40] [1,4] [1,24]/\SX 76 (KC 639) [ok 5 0] [1] [1,24]/\SX 76 (KC 8575) [om 51 5,oz 52 31 1 3,ol 53 29 52,oe 54 53 29,ob 55 .lss 3 51 54] [1,5] [1,24]/\SX 76 (KC 35199) [oz 58 31 1 3,ol 59 29 58,om 60 5,oi 61 29 59 60,oz 62 57 61 0,ol 63 3 62,od 64 57 [tq 63,ci 1,ci 4],ou 65 64,om 66 65,gz 66 false 67 31 1 3,gl 66 false 68 29 67,gm 66 false 69 5,gi 66 false 70 29 68 69,gz 66 false 71 57 70 1,gl 66 false 72 3 71,gd 66 false 73 57 [tq 72,ci 0,ci 5],og 66 false 74 (.oth (.unOp .not 4 (tq 73))),oq 75 (.pick (tq 66) (cb true) (tq 74))] [1,5] [1,24]/\SX 76 (KC 149887) [ok 2 1] [] []/\SX 76 (KC 14719) [om 56 5,oc 57 .add 3 56 1,om 5 57] [1,5] [1,24]/\SX 76 (KC 767) [ok 2 0] [] []/\LX 76 SK [1,4] [1,24]/\LX 76 SL [1,5] [1,24]:=by and_intros<;>first|exact rx|exact lx|exact fun _ _=>rfl
def g3:=rg Tryz.f3
@[simp] def AMC:bq:=(lp (g3 34303) 93 0 1 (.seq (g3 140799) (.seq (g3 337407) (.cond (.tmp 116) (.seq (g3 1254911) .ret) .skip))) (g3 58879))
def oR:=AMC
def c3:bq:=(.seq (g3 2) (.seq (.seq (g3 9) (.cond (.tmp 26) (.seq (g3 37) .ret) .skip)) (.seq (g3 11) (.seq (g3 23) (.seq (.seq (g3 79) (.cond (.tmp 44) (.seq (g3 303) .ret) .skip)) (.seq (.seq (g3 159) (.cond (.tmp 61) (g3 351) .skip)) (.seq (.seq (g3 319) (.cond (.tmp 63) (.seq (g3 1215) .ret) .skip)) (.seq (g3 383) (.seq (.seq (g3 1279) (.cond (.tmp 89) (.seq (g3 4863) .ret) .skip)) (.seq (.seq (g3 2559) (.block 0 (.loop oR))) (.seq (g3 3071) .ret)))))))))))
theorem b3:Tryz.f3.body=some c3:=by kernel_rfl
@[simp] theorem x3:UX 118 oR AMC/\LX 118 oR [1,3,7,10,11] [3,30,32,34,35,41,50,80]:=⟨fun _ _=>rfl,lx⟩
def g54:=rg Tryz.f54
def c54:bq:=(.seq (g54 2) (.seq (g54 5) .ret))
theorem b54:Tryz.f54.body=some c54:=by kernel_rfl
@[simp] theorem x54:SX 10 (g54 2) [oq 1 (.box (tq 0)),ot 2 false] [0] [1]/\SX 10 (g54 5) [ol 3 31 1,od 4 18 [tq 3],om 5 4,gl 5 true 6 31 1,gd 5 true 7 70 [tq 6],gc 5 true 8 .eql 3 7 0,oq 9 (.pick (tq 5) (tq 8) (cb false)),om 2 9] [0,1,2] [1,2,3,4]:=⟨rx,rx⟩
def HV:=rg Tryz.f129
@[simp] def ACA:bq:=(lp (HV 4267) 32 0 1 (.seq (HV 17579) (.seq (HV 42155) (.seq (HV 91307) (.seq (HV 189611) (.cond (.tmp 82) (HV 386219) .skip))))) (HV 7339))
def SM:=ACA
def AO7:bq:=(.seq (HV 2) (.seq (HV 5) (.seq (.seq (HV 19) (.cond (.tmp 19) (.seq (HV 75) (.seq (.seq (HV 299) (.block 0 (.loop SM))) (HV 235))) .skip)) (.seq (HV 23) .ret))))
theorem b129:Tryz.f129.body=some AO7:=by kernel_rfl
@[simp] theorem BIB:UX 94 SM ACA/\SX 94 (HV 2) [oq 3 (.box (tq 1)),oq 4 (.alloc 158)] [0,1] []/\RX 94 (HV 5) (.drw [⟨[5],[om 10 0,oq 11 (.oth (.nilCheck (tq 10))),oz 12 175 11 2,oq 13 (.ldz 173 (tq 12)),oq 14 (.ldz 153 (tq 3)),oq 15 (.oth (.lookup 173 (tq 13) (tq 14) true)),om 9 15,oq 16 (.oth (.extract (tq 9) 0)),oq 17 (.oth (.extract (tq 9) 1)),oq 5 (.alloc 158),os (.sto 158 (tq 5) (tq 16)),om 6 17],[]⟩]) (some ([0,3,4],[3,4]))/\SX 94 (HV 19) [om 18 6,ou 19 18] [0,3,4,5,6] [3,4,5]/\SX 94 (HV 75) [oz 20 158 5 2,os (.sto 4 (tq 20) (cb true))] [0,3,4,5] [3,4,5]/\SX 94 (HV 299) [oz 21 153 3 1,oz 22 86 21 1,ol 23 3 22,om 7 23] [0,3,4,5] [3,4,5]/\SX 94 (HV 4267) [om 24 7,oz 25 153 3 1,oz 26 86 25 1,ol 27 3 26,oz 28 153 3 0,oz 29 151 28 1,ol 30 3 29,ob 31 .add 3 27 30,ob 32 .lss 3 24 31] [0,3,4,5,7] [3,4,5]/\RX 94 (HV 17579) (.drw [⟨[],[om 35 0,oq 36 (.oth (.nilCheck (tq 35))),oz 37 175 36 1,ol 38 172 37,oz 39 153 3 1,oz 40 86 39 0,ol 41 3 40,om 42 7,oi 43 172 38 41,oi 44 206 43 42,ol 45 3 44,om 8 45],[]⟩]) (some ([0,3,4,5,7],[3,4,5]))/\SX 94 (HV 42155) [oz 46 158 5 0,ol 47 3 46,om 48 8,ob 49 .add 3 47 48,oz 50 158 5 0,os (.sto 3 (tq 50) (tq 49))] [0,3,4,5,7,8] [3,4,5]/\RX 94 (HV 91307) (.drw [⟨[],[oz 51 158 5 2,oq 52 (.ldz 4 (tq 51)),om 53 52,gm 53 true 54 8,gm 53 true 55 0,og 53 true 56 (.oth (.nilCheck (tq 55))),gz 53 true 57 175 56 0,gz 53 true 58 43 57 3,og 53 true 59 (.ldz 41 (tq 58)),gz 53 true 60 153 3 0,gz 53 true 61 151 60 0,og 53 true 62 (.ldz 3 (tq 61)),gi 53 true 63 41 59 62,gz 53 true 64 94 63 1,og 53 true 65 (.ldz 3 (tq 64)),gb 53 true 66 .geq 3 54 65,oq 67 (.pick (tq 53) (tq 66) (cb false)),oz 68 158 5 2],[os (.sto 4 (tq 68) (tq 67))]⟩]) (some ([0,3,4,5,7,8],[3,4,5]))/\RX 94 (HV 189611) (.drw [⟨[],[om 69 0,oq 70 (.oth (.nilCheck (tq 69))),oz 71 175 70 0,oz 72 43 71 2,ol 73 28 72,oz 74 153 3 1,oz 75 86 74 0,ol 76 3 75,oi 77 28 73 76,ol 78 97 77,om 79 7,oi 80 97 78 79,ol 81 4 80,ou 82 81],[]⟩]) (some ([0,3,4,5,7],[3,4,5]))/\SX 94 (HV 386219) [oz 83 158 5 1,ol 84 3 83,oc 85 .add 3 84 1,oz 86 158 5 1,os (.sto 3 (tq 86) (tq 85))] [0,3,4,5,7] [3,4,5]/\SX 94 (HV 7339) [om 33 7,oc 34 .add 3 33 1,om 7 34] [0,3,4,5,7] [3,4,5]/\RX 94 (HV 235) (.drw [⟨[],[om 87 0,oq 88 (.oth (.nilCheck (tq 87))),oz 89 175 88 2,ol 90 173 89,ol 91 153 3,ol 92 158 5],[os (.upd 173 (tq 90) (tq 91) (tq 92))]⟩]) (some ([0,3,4,5],[3,4,5]))/\SX 94 (HV 23) [ol 93 158 5,os (.sto 158 (tq 4) (tq 93))] [4,5] [4,5]/\LX 94 SM [0,3,4,5,7] [3,4,5]:=by and_intros<;>first|exact rx|exact lx|exact fun _ _=>rfl
def iW:=rg Tryz.f86
@[simp] def AMD:bq:=(.seq (iW 139) (.seq (.cond (.tmp 13) .skip (.exit 0)) (.seq (.block 1 (.seq (iW 2251) (.seq (iW 5323) (iW 7371)))) (iW 971))))
def YS:=AMD
def c86:bq:=(.seq (iW 2) (.seq (iW 5) (.seq (.seq (iW 19) (.block 0 (.loop YS))) (.seq (iW 23) .ret))))
theorem b86:Tryz.f86.body=some c86:=by kernel_rfl
@[simp] theorem x86:UX 38 YS AMD/\SX 38 (iW 2) [oq 4 (.alloc 158)] [0,1] []/\SX 38 (iW 5) [oq 9 (.build 158 [(2,cb true)]),oq 5 (.alloc 158),os (.sto 158 (tq 5) (tq 9))] [0,1,4] [4]/\SX 38 (iW 19) [om 10 1,oe 11 10 120,ok 12 0] [0,1,4,5] [4,5]/\SX 38 (iW 139) [ob 13 .lss 3 12 11] [0,4,5,10,11,12] [4,5]/\SX 38 (iW 2251) [oi 14 120 10 12,ol 15 153 14,oq 7 (.alloc 153),os (.sto 153 (tq 7) (tq 15))] [0,4,5,10,11,12] [4,5]/\SX 38 (iW 5323) [om 16 0,ol 17 153 7,oq 18 (.call true none (.func 129) [tq 16,tq 17]),oq 8 (.alloc 158),os (.sto 158 (tq 8) (tq 18))] [0,4,5,7,10,11,12] [4,5,7]/\SX 38 (iW 7371) [oz 19 158 5 0,ol 20 3 19,oz 21 158 8 0,ol 22 3 21,ob 23 .add 3 20 22,oz 24 158 5 1,ol 25 3 24,oz 26 158 8 1,ol 27 3 26,ob 28 .add 3 25 27,oz 29 158 5 2,ol 30 4 29,om 31 30,gz 31 true 32 158 8 2,gl 31 true 33 4 32,oq 34 (.pick (tq 31) (tq 33) (cb false)),oq 35 (.build 158 [(0,tq 23),(1,tq 28),(2,tq 34)]),os (.sto 158 (tq 5) (tq 35))] [0,4,5,8,10,11,12] [4,5,8]/\SX 38 (iW 971) [oc 36 .add 3 12 1,om 12 36] [0,4,5,10,11,12] [4,5]/\SX 38 (iW 23) [ol 37 158 5,os (.sto 158 (tq 4) (tq 37))] [4,5] [4,5]/\LX 38 YS [0,4,5,10,11,12] [4,5]:=⟨fun _ _=>rfl,rx,rx,rx,rx,rx,rx,rx,rx,rx,lx⟩
def FA:=rg Tryz.f168
@[simp] def ACB:bq:=(.seq (FA 36043) (.seq (.cond (.tmp 41) .skip (.exit 2)) (.seq (.block 3 (.seq (FA 576715) (.seq (FA 1363147) (.seq (.seq (FA 5033163) (.cond (.tmp 61) (.exit 3) .skip)) (.seq (FA 6081739) (.seq (.seq (FA 20761803) (.cond (.tmp 70) (.seq (FA 79482059) .ret) .skip)) (FA 16567499))))))) (FA 249035))))
def SN:=ACB
@[simp] def ACC:bq:=(.seq (FA 139) (.seq (.cond (.tmp 25) .skip (.exit 0)) (.seq (.block 1 (.seq (FA 2251) (.seq (FA 5323) (.block 2 (.loop SN))))) (FA 971))))
def SO:=ACC
def oS:bq:=(.seq (FA 2) (.seq (.seq (FA 9) (.cond (.tmp 14) (.seq (FA 37) .ret) .skip)) (.seq (.seq (FA 19) (.block 0 (.loop SO))) (.seq (FA 23) .ret))))
theorem b168:Tryz.f168.body=some oS:=by kernel_rfl
@[simp] theorem A6C(n:Nat)(st:XS):AF bk ann kn (n+1) 76 (FA 20761803) st=TS (J9 bk (BH bk ann kn n) (.str [ol 66 177 5,om 67 0,oc 68 .add 3 67 1,oq 69 (.call false none (tq 66) [tq 68]),ou 70 69]) (CL (some ([0,1,3,4,5,8,23,24,39,40],[10,65])) (LU [8004000922065] st))) :=
 D3 (by kernel_rfl) (by kernel_rfl) (by kernel_rfl) (by kernel_rfl) (by kernel_rfl)
@[simp] theorem BIC:UX 76 SN ACB/\UX 76 SO ACC/\SX 76 (FA 2) [ot 7 false] [0,1,2,3,4,5] [10,65]/\SX 76 (FA 9) [om 11 0,ol 12 170 1,oe 13 12 170,ob 14 .eql 3 11 13] [0,1,2,3,4,5] [10,65]/\SX 76 (FA 37) [ol 15 191 2,ol 16 120 3,oq 17 (.call false none (tq 15) [tq 16]),om 7 17] [2,3] [65]/\SX 76 (FA 19) [ol 18 130 4,oq 19 (.oth (.nilCheck (tq 18))),oz 20 175 19 0,oz 21 43 20 0,oz 22 40 21 1,ol 23 3 22,ok 24 0] [0,1,3,4,5] [10,65]/\SX 76 (FA 139) [ob 25 .lss 3 24 23] [0,1,3,4,5,23,24] [10,65]/\SX 76 (FA 2251) [om 26 24,om 8 26] [0,1,3,4,5,23,24] [10,65]/\RX 76 (FA 5323) (.drw [⟨[],[ol 27 130 4,oq 28 (.oth (.nilCheck (tq 27))),oz 29 175 28 0,oz 30 43 29 0,oz 31 40 30 2,ol 32 3 31,ol 33 170 1,om 34 0,oi 35 170 33 34,oz 36 151 35 1,ol 37 3 36,ob 38 .sub 3 32 37,oc 39 .add 3 38 1,ok 40 0],[]⟩]) (some ([0,1,3,4,5,8,23,24],[10,65]))/\SX 76 (FA 36043) [ob 41 .lss 3 40 39] [0,1,3,4,5,8,23,24,39,40] [10,65]/\SX 76 (FA 576715) [om 42 40,om 9 42] [0,1,3,4,5,8,23,24,39,40] [10,65]/\SX 76 (FA 1363147) [ol 43 170 1,om 44 0,oi 45 170 43 44,ol 46 151 45,om 47 8,om 48 9,oq 49 (.build 86 [(0,tq 47),(1,tq 48)]),oq 50 (.build 153 [(0,tq 46),(1,tq 49)]),oq 10 (.alloc 153),os (.sto 153 (tq 10) (tq 50))] [0,1,3,4,5,8,9,23,24,39,40] [10,65]/\SX 76 (FA 5033163) [ol 51 130 4,ol 52 153 10,od 53 129 [tq 51,tq 52],oq 54 (.oth (.field 158 (tq 53) 2)),ou 55 54,om 56 55,gl 56 false 57 120 3,og 56 false 58 (.oth (.makeFunc (.func 169) #[] #[tq 4,tq 10])),gd 56 false 59 137 [tq 57,tq 58],og 56 false 60 (.oth (.unOp .not 4 (tq 59))),oq 61 (.pick (tq 56) (cb true) (tq 60))] [0,1,3,4,5,8,10,23,24,39,40] [10,65]/\SX 76 (FA 6081739) [ol 62 120 3,ol 63 153 10,oq 64 (.buildS 120 1 [(0,tq 63)]),oq 65 (.app [tq 62,tq 64] [120,120]),os (.sto 120 (tq 3) (tq 65))] [0,1,3,4,5,8,10,23,24,39,40] [10,65]/\SX 76 (FA 79482059) [ot 7 false] [] []/\SX 76 (FA 16567499) [ol 71 120 3,om 72 0,oq 73 (.oth (.slice 120 (tq 71) none (some (tq 72)) none)),os (.sto 120 (tq 3) (tq 73))] [0,1,3,4,5,8,23,24,39,40] [10,65]/\SX 76 (FA 249035) [oc 74 .add 3 40 1,om 40 74] [0,1,3,4,5,8,23,24,39,40] [10,65]/\SX 76 (FA 971) [oc 75 .add 3 24 1,om 24 75] [0,1,3,4,5,23,24] [10,65]/\SX 76 (FA 23) [ot 7 true] [] []/\LX 76 SO [0,1,3,4,5,23,24] [10,65]/\LX 76 SN [0,1,3,4,5,8,23,24,39,40] [10,65]:=by and_intros<;>first|exact rx|exact lx|exact fun _ _=>rfl
def AIS:=rg Tryz.f169
def AZ6:bq:=(.seq (AIS 2) (.seq (AIS 5) .ret))
theorem b169:Tryz.f169.body=some AZ6:=by kernel_rfl
@[simp] theorem BID:SX 12 (AIS 2) [oq 3 (.box (tq 0)),ot 4 false] [0,1,2] []/\RX 12 (AIS 5) (.drw [⟨[],[ol 5 130 1,oq 6 (.oth (.nilCheck (tq 5))),oz 7 175 6 0,ol 8 43 7,ol 9 153 2,ol 10 153 3],[od 11 139 [tq 8,tq 9,tq 10]]⟩,⟨[],[om 4 11],[]⟩]) (some ([1,2,3],[3])):=⟨rx,rx⟩
def AIT:=rg Tryz.f128
def AIU:bq:=(.seq (AIT 2) (.seq (AIT 5) .ret))
theorem b128:Tryz.f128.body=some AIU:=by kernel_rfl
@[simp] theorem BIE:SX 6 (AIT 2) [oq 2 (.box (tq 0)),oq 3 (.box (tq 1)),oq 4 (.mv (.const .nilFunc))] [0,1] [2,3]/\SX 6 (AIT 5) [oq 5 (.oth (.makeFunc (.func 167) #[] #[tq 3,tq 2])),om 4 5] [2,3] [2,3]:=⟨rx,rx⟩
def JG:=rg Tryz.f167
@[simp] def ACD:bq:=(.seq (JG 139) (.seq (.cond (.tmp 12) .skip (.exit 0)) (.seq (.block 1 (.seq (JG 2251) (JG 3275))) (JG 971))))
def SP:=ACD
def wY:bq:=(.seq (JG 2) (.seq (JG 5) (.seq (.seq (JG 19) (.block 0 (.loop SP))) (.seq (.seq (JG 39) (.cond (.tmp 26) .ret .skip)) (.seq (JG 47) (.seq (JG 95) (.seq (JG 191) (JG 255))))))))
theorem b167:Tryz.f167.body=some wY:=by kernel_rfl
@[simp] theorem BIF:UX 30 SP ACD/\SX 30 (JG 2) [oq 3 (.box (tq 0))] [0,1,2] [3,7,8]/\SX 30 (JG 5) [ok 4 0] [1,2,3] [3,7,8]/\SX 30 (JG 19) [ol 9 170 1,oe 10 9 170,ok 11 0] [1,2,3,4] [3,7,8]/\SX 30 (JG 139) [ob 12 .lss 3 11 10] [1,2,3,4,9,10,11] [3,7,8]/\SX 30 (JG 2251) [oi 13 170 9 11,ol 14 151 13,oq 6 (.alloc 151),os (.sto 151 (tq 6) (tq 14))] [1,2,3,4,9,10,11] [3,7,8]/\SX 30 (JG 3275) [om 15 4,oz 16 151 6 1,ol 17 3 16,ob 18 .add 3 15 17,om 4 18] [1,2,3,4,6,9,10,11] [3,6,7,8]/\SX 30 (JG 971) [oc 19 .add 3 11 1,om 11 19] [1,2,3,4,9,10,11] [3,7,8]/\SX 30 (JG 39) [om 20 4,ol 21 130 2,oq 22 (.oth (.nilCheck (tq 21))),oz 23 175 22 0,ol 24 43 23,od 25 140 [tq 24],ob 26 .gtr 3 20 25] [1,2,3,4] [3,7,8]/\SX 30 (JG 47) [oq 7 (.alloc 120)] [1,2,3] [3,7,8]/\SX 30 (JG 95) [oq 8 (.alloc 177)] [1,2,3,7] [3,7,8]/\SX 30 (JG 191) [oq 27 (.oth (.makeFunc (.func 168) #[] #[tq 1,tq 3,tq 7,tq 2,tq 8])),os (.sto 177 (tq 8) (tq 27))] [1,2,3,7,8] [3,7,8]/\SX 30 (JG 255) [ol 28 177 8,oq 29 (.call false none (tq 28) [ci 0])] [6,7,8,21,22] [1,3,4,6,7,8,11,910,911]/\LX 30 SP [1,2,3,4,9,10,11] [3,7,8]:=⟨fun _ _=>rfl,rx,rx,rx,rx,rx,rx,rx,rx,rx,rx,rx,rx,lx⟩
def g91:=rg Tryz.f91
def c91:bq:=(.seq (g91 2) (.seq (.seq (g91 9) (.block 0 (.rangeFunc (.tmp 7) #[8] .skip (.block 1 (.seq (g91 149) .ret))))) (.seq (g91 11) .ret)))
theorem b91:Tryz.f91.body=some c91:=by kernel_rfl
@[simp] theorem x91:SX 9 (g91 2) [oq 4 (.alloc 4)] [0,1] [7]/\SX 9 (g91 9) [om 5 0,om 6 1,od 7 128 [tq 5,tq 6]] [0,1,4] [4,7]/\SX 9 (g91 149) [os (.sto 4 (tq 4) (cb true))] [4] [4]/\SX 9 (g91 11) [os (.sto 4 (tq 4) (cb false))] [4] [4]:=⟨rx,rx,rx,rx⟩
def g93:=rg Tryz.f93
def c93:bq:=(.seq (g93 2) (.seq (.seq (g93 9) (.cond (.tmp 4) (.seq (g93 37) .ret) .skip)) (.seq (g93 11) .ret)))
theorem b93:Tryz.f93.body=some c93:=by kernel_rfl
@[simp] theorem x93:SX 8 (g93 2) [oq 2 (.mv (.const (.slice none 0 0)))] [0] []/\SX 8 (g93 9) [om 3 0,oq 4 (.bin .eql 22 (tq 3) (.const (.slice none 0 0)))] [0] []/\SX 8 (g93 37) [oq 2 (.mv (.const (.slice none 0 0)))] [] []/\SX 8 (g93 11) [oq 5 (.buildS 22 0 []),om 6 0,oq 7 (.app [tq 5,tq 6] [22,22]),om 2 7] [0] []:=⟨rx,rx,rx,rx⟩
def dE:=rg Tryz.f90
@[simp] def AMF:bq:=(lp (dE 267) 30 0 1 (.seq (dE 1099) (.cond (.tmp 43) (.seq (dE 4683) .ret) .skip)) (dE 459))
def YT:=AMF
def c90:bq:=(.seq (dE 2) (.seq (.seq (dE 9) (.cond (.tmp 13) (.seq (dE 37) (.seq (dE 85) .ret)) .skip)) (.seq (.seq (dE 19) (.block 0 (.loop YT))) (.seq (dE 23) .ret))))
theorem b90:Tryz.f90.body=some c90:=by kernel_rfl
@[simp] theorem x90:UX 44 YT AMF/\SX 44 (dE 2) [ot 10 false] [0,1,2,3,4,5,6] [21,35,38]/\SX 44 (dE 9) [om 12 2,oc 13 .eql 3 12 0] [0,1,2,3,4,5,6] [21,35,38]/\SX 44 (dE 37) [om 14 0,os (.sto 22 (tq 3) (tq 14))] [0,3,4] [21,35,38]/\RX 44 (dE 85) (.drw [⟨[],[ol 15 130 4,ol 16 130 4,oq 17 (.oth (.nilCheck (tq 16))),oz 18 175 17 0,ol 19 43 18,om 20 0,od 21 92 [tq 19,tq 20]],[od 22 91 [tq 15,tq 21]]⟩,⟨[],[om 10 22],[]⟩]) (some ([0,4],[35,38]))/\SX 44 (dE 19) [om 23 1,om 11 23] [0,1,2,5,6] [21,35,38]/\SX 44 (dE 267) [om 24 11,oz 25 43 5 3,ol 26 41 25,oe 27 26 41,om 28 2,ob 29 .sub 3 27 28,ob 30 .leq 3 24 29] [0,2,5,6,11] [21,35,38]/\RX 44 (dE 1099) (.drw [⟨[35],[ol 33 168 6,om 34 0,om 36 11,oq 37 (.buildS 22 1 [(0,tq 36)]),om 39 11,oc 40 .add 3 39 1,om 41 2,oc 42 .sub 3 41 1,oq 35 (.call true none (.func 93) [tq 34]),oq 38 (.app [tq 35,tq 37] [22,22])],[oq 43 (.call false (some 38) (tq 33) [tq 38,tq 40,tq 42])]⟩,⟨[],[],[]⟩]) (some ([0,2,5,6,11],[21,38]))/\SX 44 (dE 4683) [ot 10 true] [] []/\SX 44 (dE 459) [om 31 11,oc 32 .add 3 31 1,om 11 32] [0,2,5,6,11] [21,35,38]/\SX 44 (dE 23) [ot 10 false] [] []/\LX 44 YT [0,2,5,6,11] [21,35,38]:=⟨fun _ _=>rfl,rx,rx,rx,rx,rx,rx,rx,rx,rx,rx,lx⟩
def IC:=rg Tryz.f85
@[simp] def AMG:bq:=(.seq (IC 17877) (.seq (.cond (.tmp 45) .skip (.exit 2)) (.seq (.block 3 (.seq (IC 288213) (IC 419285))) (IC 124373))))
def NV:=AMG
def c85:bq:=(.seq (IC 2) (.seq (.seq (IC 9) (.block 0 (.rangeFunc (.tmp 15) #[16] (IC 37) (.block 1 (.seq (IC 149) (.seq (.seq (IC 597) (.cond (.tmp 41) (.exit 1) .skip)) (.seq (IC 725) (.seq (.seq (IC 2517) (.block 2 (.loop NV))) (IC 2005))))))))) (.seq (IC 11) .ret)))
theorem b85:Tryz.f85.body=some c85:=by kernel_rfl
@[simp] theorem BAD(n:Nat)(st:XS):AF bk ann kn (n+1) 58 (IC 124373) st=TS (J9 bk (BH bk ann kn n) (.str [oc 53 .add 3 44 1,om 44 53]) (CL (some ([2,3,4,6,42,43,44],[2,3,4,6,52,922])) (LU [3003000923052] st))) :=
 D3 (by kernel_rfl) (by kernel_rfl) (by kernel_rfl) (by kernel_rfl) (by kernel_rfl)
@[simp] theorem BAE(n:Nat)(st:XS):AF bk ann kn (n+1) 58 (IC 11) st=TS (J9 bk (BH bk ann kn n) (.cls [(37,(2,55)),(158,(3,56)),(4,(4,57))]) (CL (some ([2,3,4],[2,3,4,52,922])) (LU [922] st))) :=
 D3 (by kernel_rfl) (by kernel_rfl) (by kernel_rfl) (by kernel_rfl) (by kernel_rfl)
@[simp] theorem x85:UX 58 NV AMG/\SX 58 (IC 2) [oq 1 (.box (tq 0)),oq 2 (.alloc 37),oq 3 (.alloc 158),oq 4 (.alloc 4)] [0] [1,10,14,15,32,36]/\RX 58 (IC 9) (.drw [⟨[],[ol 9 130 1,ol 10 130 1,oq 11 (.oth (.nilCheck (tq 10))),oz 12 175 11 0,ol 13 43 12,od 14 92 [tq 13,.const (.slice none 0 0)]],[od 15 128 [tq 9,tq 14]]⟩,⟨[],[],[]⟩]) (some ([1,2,3,4],[1,2,3,4,52,922]))/\SX 58 (IC 37) [om 5 16] [1,2,3,4,16] [1,2,3,4,14,15,52,922]/\SX 58 (IC 149) [ol 17 130 1,om 18 5,oq 19 (.call true none (.func 86) [tq 17,tq 18]),oq 6 (.alloc 158),os (.sto 158 (tq 6) (tq 19))] [1,2,3,4,5] [1,2,3,4,14,15,52,922]/\SX 58 (IC 597) [ol 20 4 4,om 21 20,gz 21 true 22 158 6 0,gl 21 true 23 3 22,gz 21 true 24 158 3 0,gl 21 true 25 3 24,gb 21 true 26 .lss 3 23 25,gm 21 true 27 26,gz 27 false 28 158 6 0,gl 27 false 29 3 28,gz 27 false 30 158 3 0,gl 27 false 31 3 30,gb 27 false 32 .eql 3 29 31,gm 27 false 33 32,gz 33 true 34 158 6 1,gl 33 true 35 3 34,gz 33 true 36 158 3 1,gl 33 true 37 3 36,gb 33 true 38 .geq 3 35 37,og 27 false 39 (.pick (tq 33) (tq 38) (cb false)),og 21 true 40 (.pick (tq 27) (cb true) (tq 39)),oq 41 (.pick (tq 21) (tq 40) (cb false))] [2,3,4,5,6] [2,3,4,6,52,922]/\SX 58 (IC 725) [os (.sto 37 (tq 2) (.const (.slice none 0 0)))] [2,3,4,5,6] [2,3,4,6,52,922]/\SX 58 (IC 2517) [om 42 5,oe 43 42 120,ok 44 0] [2,3,4,5,6] [2,3,4,6,52,922]/\SX 58 (IC 17877) [ob 45 .lss 3 44 43] [2,3,4,6,42,43,44] [2,3,4,6,52,922]/\SX 58 (IC 288213) [oi 46 120 42 44,ol 47 153 46,oq 8 (.alloc 153),os (.sto 153 (tq 8) (tq 47))] [2,3,4,6,42,43,44] [2,3,4,6,52,922]/\SX 58 (IC 419285) [ol 48 37 2,oz 49 153 8 1,ol 50 86 49,oq 51 (.buildS 37 1 [(0,tq 50)]),oq 52 (.app [tq 48,tq 51] [37,37]),os (.sto 37 (tq 2) (tq 52))] [2,3,4,6,8,42,43,44] [2,3,4,6,8,52,922]/\SX 58 (IC 2005) [ol 54 158 6,os (.sto 158 (tq 3) (tq 54)),os (.sto 4 (tq 4) (cb true))] [3,4,6] [3,4,6]/\LX 58 NV [2,3,4,6,42,43,44] [2,3,4,6,52,922]:=⟨fun _ _=>rfl,rx,rx,rx,rx,rx,rx,rx,rx,rx,rx,rx,lx⟩
def oD:=rg Tryz.f33
def c33:bq:=(.seq (oD 2) (.seq (oD 5) (.seq (.seq (oD 19) (.cond (.tmp 15) (.seq (oD 75) .ret) .skip)) (.seq (oD 23) (.seq (.seq (oD 79) (.cond (.tmp 24) (.seq (oD 303) .ret) .skip)) (.seq (oD 95) .ret))))))
theorem b33:Tryz.f33.body=some c33:=by kernel_rfl
@[simp] theorem x33:SX 30 (oD 2) [oq 1 (.box (tq 0)),oq 2 (.mv (.const (.slice none 0 0))),ok 3 0,ok 4 0,ok 5 0] [0] [1,11,19,910,911]/\SX 30 (oD 5) [ol 10 43 1,od 11 71 [tq 10],om 9 11,oq 12 (.oth (.extract (tq 9) 0)),oq 13 (.oth (.extract (tq 9) 1)),om 6 12,om 5 13] [1] [1,11,19,910,911]/\SX 30 (oD 19) [om 14 5,oc 15 .neq 34 14 0] [1,4,5,6] [1,4,6,7,11,19,910,911]/\SX 30 (oD 75) [om 16 5,oq 2 (.mv (.const (.slice none 0 0))),ok 3 0,ok 4 0,om 5 16] [5] []/\SX 30 (oD 23) [om 18 6,od 19 85 [tq 18],om 17 19,oq 20 (.oth (.extract (tq 17) 0)),oq 21 (.oth (.extract (tq 17) 1)),oq 22 (.oth (.extract (tq 17) 2)),oq 7 (.alloc 158),om 2 20,os (.sto 158 (tq 7) (tq 21)),om 8 22] [6] [1,11,19,910,911]/\SX 30 (oD 79) [om 23 8,ou 24 23] [2,7,8] [1,7,11,19,910,911]/\SX 30 (oD 303) [oq 2 (.mv (.const (.slice none 0 0))),ok 3 0,ok 4 0,ok 5 10] [] []/\RX 30 (oD 95) (.drw [⟨[],[om 25 2,oz 26 158 7 0,ol 27 3 26,oz 28 158 7 1,ol 29 3 28,om 2 25,om 3 27,om 4 29,ok 5 0],[]⟩]) (some ([2,7],[1,7,11,19,910,911])):=by and_intros<;>exact rx
def V4:=rg Tryz.f41
@[simp] def AMH:bq:=(.seq (V4 8957) (.seq (.cond (.tmp 23) .skip (.exit 0)) (.seq (.block 1 (.seq (V4 144125) (.seq (V4 340733) (.cond (.tmp 27) (.exit 0) .skip)))) (V4 62205))))
def YU:=AMH
def c41:bq:=(.seq (V4 2) (.scope (.seq (V4 9) (.seq (.seq (V4 37) (.cond (.tmp 15) (.seq (V4 149) .ret) .skip)) (.seq (V4 45) (.seq (V4 93) (.seq (V4 189) (.seq (.label 0) (.seq (.seq (V4 1277) (.block 0 (.loop YU))) (.seq (V4 1533) .ret))))))))))
theorem b41:Tryz.f41.body=some c41:=by kernel_rfl
@[simp] theorem x41:UX 30 YU AMH/\SX 30 (V4 2) [oq 1 (.box (tq 0)),oq 2 (.mv (.const (.slice none 0 0))),ok 3 0] [0] [1,4,6,7,11,910,911]/\SX 30 (V4 9) [ol 10 43 1,od 11 71 [tq 10],om 9 11,oq 12 (.oth (.extract (tq 9) 0)),oq 13 (.oth (.extract (tq 9) 1)),oq 4 (.alloc 130),os (.sto 130 (tq 4) (tq 12)),om 5 13] [1] [1,4,6,7,11,910,911]/\SX 30 (V4 37) [om 14 5,oc 15 .neq 34 14 0] [1,4,5,6] [1,4,6,7,11,19,910,911]/\SX 30 (V4 149) [om 16 5,oq 2 (.mv (.const (.slice none 0 0))),om 3 16] [5] []/\SX 30 (V4 45) [oq 6 (.alloc 22)] [1,4] [1,4,6,7,11,910,911]/\SX 30 (V4 93) [oq 7 (.alloc 168)] [1,4,6] [1,4,6,7,11,910,911]/\SX 30 (V4 189) [oq 17 (.oth (.makeFunc (.func 90) #[] #[tq 6,tq 4,tq 1,tq 7])),os (.sto 168 (tq 7) (tq 17))] [1,4,6,7] [1,4,6,7,11,910,911]/\SX 30 (V4 1277) [oz 18 43 1 3,ol 19 41 18,oe 20 19 41,oc 21 .add 3 20 1,ok 22 0] [1,6,7] [1,4,6,7,11,910,911]/\SX 30 (V4 8957) [ob 23 .lss 3 22 21] [6,7,21,22] [1,4,6,7,11,910,911]/\SX 30 (V4 144125) [om 24 22,om 8 24] [6,7,21,22] [1,4,6,7,11,910,911]/\SX 30 (V4 340733) [ol 25 168 7,om 26 8,oq 27 (.call false none (tq 25) [.const (.slice none 0 0),ci 0,tq 26])] [6,7,8,21,22] [1,4,6,7,11,910,911]/\SX 30 (V4 62205) [oc 28 .add 3 22 1,om 22 28] [6,7,8,21,22] [1,3,4,6,7,8,11,910,911]/\SX 30 (V4 1533) [ol 29 22 6,om 2 29,ok 3 0] [6] [1,4,6,7,11,910,911]/\LX 30 YU [6,7,21,22] [1,4,6,7,11,910,911]:=⟨fun _ _=>rfl,rx,rx,rx,rx,rx,rx,rx,rx,rx,rx,rx,rx,rx,lx⟩
def iX:=rg Tryz.f16
@[simp] def ACF:bq:=(lp (iX 4287) 48 0 1 (.seq (.seq (iX 33983) (.cond (.tmp 93) (.seq (iX 148671) .ret) .skip)) (.seq (iX 42175) (.seq (iX 91327) (.cond (.tmp 110) (.seq (iX 320703) .ret) .skip)))) (iX 7359))
def fO:=ACF
def c16:bq:=(.seq (iX 2) (.seq (.seq (iX 9) (.cond (.tmp 16) (.seq (iX 37) .ret) .skip)) (.seq (iX 11) (.seq (iX 23) (.seq (.seq (iX 79) (.cond (.tmp 33) (.seq (iX 303) .ret) .skip)) (.seq (.seq (iX 159) (.cond (.tmp 44) (.seq (iX 607) .ret) .skip)) (.seq (.seq (iX 319) (.block 0 (.loop fO))) (.seq (iX 383) .ret))))))))
@[simp] theorem x16:UX 112 fO ACF/\LX 112 fO [1,3,9] [1,20,21,26,27,102,103,104]:=⟨fun _ _=>rfl,lx⟩
def g58:=rg Tryz.f58
def c58:bq:=(.seq (g58 2) (.seq (g58 5) (.seq (g58 11) (.seq (g58 23) (.seq (g58 47) (.seq (g58 95) .ret))))))
theorem b58:Tryz.f58.body=some c58:=by kernel_rfl
@[simp] theorem x58:SX 87 (g58 2) [oq 2 (.box (tq 0)),oq 3 (.box (tq 1)),ot 4 false] [0,1] [2,3,19,20,27,28,35,36,41,42]/\SX 87 (g58 5) [ol 18 31 3,od 19 21 [tq 18],od 20 33 [tq 19],om 17 20,oq 21 (.oth (.extract (tq 17) 0)),oq 22 (.oth (.extract (tq 17) 1)),oq 23 (.oth (.extract (tq 17) 2)),oq 24 (.oth (.extract (tq 17) 3)),om 5 21,om 6 22,om 7 23,om 8 24] [2,3] [2,3,19,20,27,28,35,36,41,42]/\SX 87 (g58 11) [ol 26 31 2,od 27 21 [tq 26],od 28 33 [tq 27],om 25 28,oq 29 (.oth (.extract (tq 25) 0)),oq 30 (.oth (.extract (tq 25) 1)),oq 31 (.oth (.extract (tq 25) 2)),oq 32 (.oth (.extract (tq 25) 3)),om 9 29,om 10 30,om 11 31,om 12 32] [2,3,6,8] [2,3,19,20,27,28,35,36,41,42]/\SX 87 (g58 23) [ol 34 31 3,od 35 21 [tq 34],od 36 41 [tq 35],om 33 36,oq 37 (.oth (.extract (tq 33) 0)),oq 38 (.oth (.extract (tq 33) 1)),om 13 37,om 14 38] [2,3,6,8,10,12] [2,3,19,20,27,28,35,36,41,42]/\SX 87 (g58 47) [ol 40 31 2,od 41 21 [tq 40],od 42 41 [tq 41],om 39 42,oq 43 (.oth (.extract (tq 39) 0)),oq 44 (.oth (.extract (tq 39) 1)),om 15 43,om 16 44] [2,6,8,10,12,13,14] [2,3,19,20,27,28,35,36,41,42]/\SX 87 (g58 95) [om 45 8,oc 46 .eql 34 45 0,om 47 46,gm 47 false 48 8,gc 47 false 49 .eql 34 48 10,oq 50 (.pick (tq 47) (cb true) (tq 49)),om 51 50,gm 51 true 52 12,gc 51 true 53 .eql 34 52 0,gm 51 true 54 53,gm 54 false 55 12,gc 54 false 56 .eql 34 55 10,og 51 true 57 (.pick (tq 54) (cb true) (tq 56)),oq 58 (.pick (tq 51) (tq 57) (cb false)),om 59 58,gm 59 true 60 8,gc 59 true 61 .neq 34 60 0,gm 59 true 62 61,gm 62 false 63 12,gc 62 false 64 .eql 34 63 0,gm 62 false 65 64,gm 65 true 66 10,gm 65 true 67 6,gb 65 true 68 .geq 3 66 67,og 62 false 69 (.pick (tq 65) (tq 68) (cb false)),og 59 true 70 (.pick (tq 62) (cb true) (tq 69)),oq 71 (.pick (tq 59) (tq 70) (cb false)),om 72 71,gm 72 true 73 14,gc 72 true 74 .eql 34 73 0,oq 75 (.pick (tq 72) (tq 74) (cb false)),om 76 75,gm 76 true 77 16,gc 76 true 78 .eql 34 77 0,oq 79 (.pick (tq 76) (tq 78) (cb false)),om 80 79,gm 80 true 81 15,ge 80 true 82 81 22,gm 80 true 83 13,ge 80 true 84 83 22,gb 80 true 85 .leq 3 82 84,oq 86 (.pick (tq 80) (tq 85) (cb false)),om 4 86] [6,8,10,12,13,14,15,16] [2,3,19,20,27,28,35,36,41,42]:=⟨rx,rx,rx,rx,rx,rx⟩
def g59:=rg Tryz.f59
def c59:bq:=(.seq (g59 2) (.seq (g59 5) (.seq (g59 11) (.seq (g59 23) .ret))))
theorem b59:Tryz.f59.body=some c59:=by kernel_rfl
@[simp] theorem x59:SX 18 (g59 2) [oq 2 (.box (tq 0)),oq 3 (.box (tq 1)),oq 4 (.alloc 31)] [0,1] [2,4,5,11,14]/\SX 18 (g59 5) [ol 6 31 2,oq 5 (.alloc 31),os (.sto 31 (tq 5) (tq 6))] [2,3,4] [2,3,4,5,11,14]/\RX 18 (g59 11) (.drw [⟨[],[oq 7 (.buildS 24 0 []),oz 8 31 2 0,oz 9 27 8 7,ol 10 24 9,ol 12 59 3,oq 13 (.buildS 24 1 [(0,tq 12)]),oq 11 (.app [tq 7,tq 10] [24,24]),oq 14 (.app [tq 11,tq 13] [24,24]),oz 15 31 5 0,oz 16 27 15 7,os (.sto 24 (tq 16) (tq 14))],[]⟩]) (some ([2,3,4,5],[2,3,4,5,11,14])):=⟨rx,rx,rx⟩
@[simp] theorem BDT(n:Nat)(st:XS):AF bk ann kn (n+1) 18 (g59 23) st=TS (J9 bk (BH bk ann kn n) (.str [ol 17 31 5,os (.sto 31 (tq 4) (tq 17))]) (CL (some ([4,5],[2,4,5,11,14])) (LU [11,14] st))) :=
 D3 (by kernel_rfl) (by kernel_rfl) (by kernel_rfl) (by kernel_rfl) (by kernel_rfl)
def oE:=rg Tryz.f97
@[simp] def AMJ:bq:=(.seq (oE 69) (.seq (.cond (.tmp 9) .skip (.exit 0)) (.seq (.block 1 (.seq (oE 1125) (.seq (oE 2661) (.cond (.tmp 19) (.seq (oE 9829) .ret) .skip)))) (oE 485))))
def YV:=AMJ
def c97:bq:=(.seq (oE 2) (.seq (.seq (oE 9) (.block 0 (.loop YV))) (.seq (oE 11) .ret)))
theorem b97:Tryz.f97.body=some c97:=by kernel_rfl
@[simp] theorem x97:UX 21 YV AMJ/\SX 21 (oE 2) [ot 4 false] [0,1] []/\SX 21 (oE 9) [om 6 0,oe 7 6 172,ok 8 0] [0,1] []/\SX 21 (oE 69) [ob 9 .lss 3 8 7] [0,1,7,8] []/\SX 21 (oE 1125) [om 10 8,om 5 10] [0,1,7,8] []/\RX 21 (oE 2661) (.drw [⟨[],[om 11 0,om 12 5,oi 13 172 11 12,ol 14 206 13,om 15 1,om 16 5,oi 17 172 15 16,ol 18 206 17,ob 19 .neq 206 14 18],[]⟩]) (some ([0,1,5,7,8],[]))/\SX 21 (oE 9829) [ot 4 false] [] []/\SX 21 (oE 485) [oc 20 .add 3 8 1,om 8 20] [0,1,3,7,8] [19]/\SX 21 (oE 11) [ot 4 true] [] []/\LX 21 YV [0,1,7,8] []:=⟨fun _ _=>rfl,rx,rx,rx,rx,rx,rx,rx,rx,lx⟩
def g96:=rg Tryz.f96
def c96:bq:=(.seq (g96 2) (.seq (.seq (g96 9) (.cond (.tmp 4) (.seq (g96 37) .ret) .skip)) (.seq (g96 11) .ret)))
theorem b96:Tryz.f96.body=some c96:=by kernel_rfl
@[simp] theorem x96:SX 8 (g96 2) [oq 2 (.mv (.const (.slice none 0 0)))] [0] []/\SX 8 (g96 9) [om 3 0,oq 4 (.bin .eql 37 (tq 3) (.const (.slice none 0 0)))] [0] []/\SX 8 (g96 11) [oq 5 (.buildS 37 0 []),om 6 0,oq 7 (.app [tq 5,tq 6] [37,37]),om 2 7] [0] []:=⟨rx,rx,rx⟩
def HU:=rg Tryz.f46
@[simp] def ACG:bq:=(.seq (HU 576703) (.seq (.cond (.tmp 49) .skip (.exit 3)) (.seq (.block 4 (.seq (HU 9227455) (.seq (HU 21810367) (.seq (HU 46976191) (.seq (HU 97307839) (.seq (HU 197971135) (.seq (.seq (HU 667733183) (.cond (.tmp 77) (.exit 4) .skip)) (.seq (HU 801950911) (.seq (HU 1607257279) (.seq (HU 3217870015) (.cond (.tmp 99) (HU 6439095487) .skip))))))))))) (HU 3984575))))
def SQ:=ACG
@[simp] def ACH:bq:=(.seq (HU 2239) (.seq (.cond (.tmp 43) .skip (.exit 1)) (.seq (.block 2 (.seq (HU 36031) (.seq (HU 85183) (.block 3 (.loop SQ))))) (HU 15551))))
def SR:=ACH
def c46:bq:=(.seq (HU 2) (.seq (HU 5) (.seq (.block 0 (.seq (HU 35) (.cond (.tmp 23) (.seq (HU 147) .ret) (.seq (HU 179) (.cond (.tmp 28) (.seq (HU 627) .ret) .skip))))) (.seq (HU 23) (.seq (HU 47) (.seq (HU 95) (.seq (.seq (HU 319) (.block 1 (.loop SR))) (.seq (.seq (HU 639) (.cond (.tmp 105) (.seq (HU 2431) .ret) .skip)) (.seq (HU 767) .ret)))))))))
theorem b46:Tryz.f46.body=some c46:=by kernel_rfl
@[simp] theorem BAI(n:Nat)(st:XS):AF bk ann kn (n+1) 110 (HU 197971135) st=TS (J9 bk (BH bk ann kn n) (.str [ol 65 43 11,od 66 71 [tq 65],om 64 66,oq 67 (.oth (.extract (tq 64) 0)),oq 68 (.oth (.extract (tq 64) 1)),om 13 67,om 14 68]) (CL (some ([1,2,6,7,8,9,11,12,41,42,47,48],[1,2,7,11,12,58,910,911])) (LU [58] st))) :=
 D3 (by kernel_rfl) (by kernel_rfl) (by kernel_rfl) (by kernel_rfl) (by kernel_rfl)
@[simp] theorem x46:UX 110 SQ ACG/\UX 110 SR ACH/\SX 110 (HU 2) [oq 1 (.box (tq 0)),oq 2 (.alloc 86),ok 3 0,ok 4 0] [0] [1,910,911]/\SX 110 (HU 5) [ol 19 43 1,od 20 71 [tq 19],om 18 20,oq 21 (.oth (.extract (tq 18) 0)),oq 22 (.oth (.extract (tq 18) 1)),om 5 21,om 4 22] [1,2] [1,2,910,911]/\SX 110 (HU 35) [om 24 4,oc 25 .neq 34 24 0,om 23 25] [1,2,4,5] [1,2,910,911]/\SX 110 (HU 147) [oq 26 (.build 86 []),om 27 4,os (.sto 86 (tq 2) (tq 26)),ok 3 0,om 4 27] [2,4] [2]/\SX 110 (HU 179) [oz 29 43 1 0,oz 30 40 29 7,ol 31 37 30,oe 32 31 37,oc 33 .geq 3 32 4,om 28 33] [1,2,5] [1,2,910,911]/\SX 110 (HU 627) [oq 34 (.build 86 []),os (.sto 86 (tq 2) (tq 34)),ok 3 0,ok 4 9] [2] [2]/\SX 110 (HU 23) [ot 6 false] [1,2,5] [1,2,910,911]/\SX 110 (HU 47) [oq 7 (.alloc 158)] [1,2,5,6] [1,2,910,911]/\SX 110 (HU 95) [om 35 5,oq 36 (.oth (.nilCheck (tq 35))),oz 37 175 36 1,ol 38 172 37,om 8 38] [1,2,5,6,7] [1,2,7,910,911]/\SX 110 (HU 319) [oz 39 43 1 0,oz 40 40 39 1,ol 41 3 40,ok 42 0] [1,2,6,7,8] [1,2,7,910,911]/\SX 110 (HU 2239) [ob 43 .lss 3 42 41] [1,2,6,7,8,41,42] [1,2,7,910,911]/\SX 110 (HU 36031) [om 44 42,om 9 44] [1,2,6,7,8,41,42] [1,2,7,910,911]/\SX 110 (HU 85183) [oz 45 43 1 0,oz 46 40 45 2,ol 47 3 46,ok 48 0] [1,2,6,7,8,9,41,42] [1,2,7,910,911]/\SX 110 (HU 576703) [ob 49 .lss 3 48 47] [1,2,6,7,8,9,41,42,47,48] [1,2,7,910,911]/\SX 110 (HU 9227455) [om 50 48,om 10 50] [1,2,6,7,8,9,41,42,47,48] [1,2,7,910,911]/\SX 110 (HU 21810367) [ol 51 43 1,oq 11 (.alloc 43),os (.sto 43 (tq 11) (tq 51))] [1,2,6,7,8,9,10,41,42,47,48] [1,2,7,910,911]/\SX 110 (HU 46976191) [om 52 9,om 53 10,oq 54 (.build 86 [(0,tq 52),(1,tq 53)]),oq 12 (.alloc 86),os (.sto 86 (tq 12) (tq 54))] [1,2,6,7,8,9,10,11,41,42,47,48] [1,2,7,11,910,911]/\RX 110 (HU 97307839) (.drw [⟨[58],[oz 55 43 1 0,oz 56 40 55 7,ol 57 37 56,ol 59 86 12,oq 60 (.buildS 37 1 [(0,tq 59)]),oq 58 (.call true none (.func 96) [tq 57]),oq 61 (.app [tq 58,tq 60] [37,37]),oz 62 43 11 0,oz 63 40 62 7,os (.sto 37 (tq 63) (tq 61))],[]⟩]) (some ([1,2,6,7,8,9,11,12,41,42,47,48],[1,2,7,11,12,910,911]))/\SX 110 (HU 667733183) [om 69 6,om 70 69,gm 70 true 71 13,og 70 true 72 (.oth (.nilCheck (tq 71))),gz 70 true 73 175 72 1,gl 70 true 74 172 73,gm 70 true 75 8,gd 70 true 76 97 [tq 74,tq 75],oq 77 (.pick (tq 70) (tq 76) (cb false))] [1,2,6,7,8,9,12,13,41,42,47,48] [1,2,7,12,910,911]/\SX 110 (HU 801950911) [om 78 13,oq 79 (.oth (.nilCheck (tq 78))),oz 80 175 79 1,ol 81 172 80,om 8 81] [1,2,6,7,9,12,13,41,42,47,48] [1,2,7,12,910,911]/\SX 110 (HU 1607257279) [om 83 13,od 84 85 [tq 83],om 82 84,oq 85 (.oth (.extract (tq 82) 0)),oq 86 (.oth (.extract (tq 82) 1)),oq 87 (.oth (.extract (tq 82) 2)),oq 16 (.alloc 158),om 15 85,os (.sto 158 (tq 16) (tq 86)),om 17 87] [1,2,6,7,8,9,12,13,41,42,47,48] [1,2,7,12,910,911]/\SX 110 (HU 3217870015) [om 88 17,om 89 88,gm 89 true 90 6,og 89 true 91 (.oth (.unOp .not 4 (tq 90))),gm 89 true 92 91,gz 92 false 93 158 16 0,gl 92 false 94 3 93,gz 92 false 95 158 7 0,gl 92 false 96 3 95,gb 92 false 97 .gtr 3 94 96,og 89 true 98 (.pick (tq 92) (cb true) (tq 97)),oq 99 (.pick (tq 89) (tq 98) (cb false))] [1,2,6,7,8,9,12,16,17,41,42,47,48] [1,2,7,12,16,910,911]/\RX 110 (HU 6439095487) (.drw [⟨[],[oq 100 (.ldz 86 (tq 12)),ol 101 158 16,os (.sto 86 (tq 2) (tq 100)),os (.sto 158 (tq 7) (tq 101)),ot 6 true],[]⟩]) (some ([1,2,7,8,9,12,16,41,42,47,48],[1,2,7,12,16,910,911]))/\SX 110 (HU 3984575) [oc 102 .add 3 48 1,om 48 102] [1,2,6,7,8,9,41,42,47,48] [1,2,7,910,911]/\SX 110 (HU 15551) [oc 103 .add 3 42 1,om 42 103] [1,2,6,7,8,41,42] [1,2,7,910,911]/\SX 110 (HU 639) [om 104 6,ou 105 104] [2,6,7] [2,7]/\SX 110 (HU 2431) [oq 106 (.build 86 []),os (.sto 86 (tq 2) (tq 106)),ok 3 0,ok 4 10] [2] [2]/\RX 110 (HU 767) (.drw [⟨[],[oq 107 (.ldz 86 (tq 2)),oz 108 158 7 0,ol 109 3 108,os (.sto 86 (tq 2) (tq 107)),om 3 109,ok 4 0],[]⟩]) (some ([2,7],[2,7]))/\LX 110 SR [1,2,6,7,8,41,42] [1,2,7,910,911]/\LX 110 SQ [1,2,6,7,8,9,41,42,47,48] [1,2,7,910,911]:=by and_intros<;>first|exact rx|exact lx|exact fun _ _=>rfl
def g7:=rg Tryz.f7
def c7:bq:=(.seq (g7 2) (.seq (.seq (g7 9) (.cond (.tmp 12) (.seq (g7 37) .ret) .skip)) (.seq (g7 11) (.seq (g7 23) (.seq (.seq (g7 79) (.cond (.tmp 31) (g7 175) .skip)) (.seq (.seq (g7 159) (.cond (.tmp 33) (.seq (g7 607) .ret) .skip)) (.seq (g7 191) (.seq (.seq (g7 639) (.cond (.tmp 56) (.seq (g7 2431) .ret) .skip)) (.seq (g7 767) .ret)))))))))
theorem b7:Tryz.f7.body=some c7:=by kernel_rfl
def fP:=rg Tryz.f14
def c14:bq:=(.seq (fP 2) (.seq (.seq (fP 9) (.cond (.tmp 23) (.seq (fP 37) .ret) .skip)) (.seq (fP 11) (.seq (fP 23) (.seq (fP 47) (.seq (fP 95) (.seq (.seq (fP 319) (.cond (.tmp 74) (.seq (fP 1215) .ret) .skip)) (.seq (fP 383) .ret))))))))
theorem b14:Tryz.f14.body=some c14:=by kernel_rfl
@[simp] theorem x14:SX 89 (fP 2) [oq 2 (.box (tq 0)),ot 4 false] [0,1] [2,6,47,50,57,58]/\SX 89 (fP 9) [ol 14 31 2,od 15 54 [tq 14],ou 16 15,om 17 16,gz 17 false 18 31 2 0,gz 17 false 19 27 18 7,gl 17 false 20 24 19,ge 17 false 21 20 24,gc 17 false 22 .gtr 3 21 3,oq 23 (.pick (tq 17) (cb true) (tq 22))] [1,2] [2,6,47,50,57,58]/\SX 89 (fP 37) [od 24 19 [],om 4 24] [] []/\SX 89 (fP 11) [om 25 1,oq 26 (.oth (.convert 5 3 (tq 25))),oz 27 31 2 0,oz 28 27 27 1,ol 29 3 28,oz 30 31 2 0,oz 31 27 30 2,ol 32 3 31,ob 33 .mul 3 29 32,ob 34 .rem 3 26 33,om 5 34] [1,2] [2,6,47,50,57,58]/\RX 89 (fP 23) (.drw [⟨[47,6],[oq 35 (.ldz 31 (tq 2)),om 36 5,oz 37 31 2 0,oz 38 27 37 2,oq 39 (.ldz 3 (tq 38)),ob 40 .quo 3 36 39,om 41 5,oz 42 31 2 0,oz 43 27 42 2,oq 44 (.ldz 3 (tq 43)),ob 45 .rem 3 41 44,oq 46 (.build 59 [(0,tq 40),(1,tq 45)]),oq 47 (.call true none (.func 59) [tq 35,tq 46]),oq 6 (.alloc 31)],[os (.sto 31 (tq 6) (tq 47))]⟩]) (some ([2,5],[2,50,57,58]))/\SX 89 (fP 47) [ol 49 31 2,od 50 21 [tq 49],od 51 46 [tq 50],om 48 51,oq 52 (.oth (.extract (tq 48) 0)),oq 53 (.oth (.extract (tq 48) 1)),oq 54 (.oth (.extract (tq 48) 2)),oq 7 (.alloc 86),os (.sto 86 (tq 7) (tq 52)),om 8 53,om 9 54] [2,6] [2,6,47,50,57,58]/\SX 89 (fP 95) [ol 56 31 6,od 57 21 [tq 56],od 58 33 [tq 57],om 55 58,oq 59 (.oth (.extract (tq 55) 0)),oq 60 (.oth (.extract (tq 55) 1)),oq 61 (.oth (.extract (tq 55) 2)),oq 62 (.oth (.extract (tq 55) 3)),om 10 59,om 11 60,om 12 61,om 13 62] [2,6,8,9] [2,6,47,50,57,58]/\SX 89 (fP 319) [ol 63 31 6,ol 64 31 2,od 65 58 [tq 63,tq 64],ou 66 65,om 67 66,gm 67 false 68 9,gc 67 false 69 .neq 34 68 0,gm 67 false 70 69,gm 70 true 71 9,gc 70 true 72 .neq 34 71 10,og 67 false 73 (.pick (tq 70) (tq 72) (cb false)),oq 74 (.pick (tq 67) (cb true) (tq 73))] [2,6,8,9,11,13] [2,6,47,50,57,58]/\SX 89 (fP 383) [om 75 13,oc 76 .neq 34 75 0,om 77 76,gm 77 false 78 9,gc 77 false 79 .eql 34 78 0,gm 77 false 80 79,gm 80 true 81 11,gm 80 true 82 8,gb 80 true 83 .leq 3 81 82,og 77 false 84 (.pick (tq 80) (tq 83) (cb false)),oq 85 (.pick (tq 77) (cb true) (tq 84)),om 86 85,gd 86 true 87 19 [],oq 88 (.pick (tq 86) (tq 87) (cb false)),om 4 88] [8,9,11,13] []:=by and_intros<;>exact rx
end
end Go.Proofs.Tryz.Op
