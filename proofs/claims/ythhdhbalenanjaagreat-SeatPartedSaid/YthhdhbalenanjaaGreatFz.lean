/- The walk's ground of function 57: its regions worked out. No condition. -/
import Derived.Test.YthhdhbalenanjaaGreatGa
open Go renaming Code->bq
open Go.Proofs.Tryz renaming prog->bk
open Int renaming negSucc->bj
set_option maxRecDepth 100000
namespace Go.Proofs.Tryz.Op
open Go Go.Pg
noncomputable section
def g57:=rg Tryz.f57
def c57:bq:=(.seq (g57 2) (.seq (g57 5) .ret))
theorem b57:Tryz.f57.body=some c57:=by kernel_rfl
@[simp] theorem x57:SX 15 (g57 2) [ot 6 false] [0,1,2] []/\SX 15 (g57 5) [om 7 0,om 8 1,ob 9 .geq 3 7 8,om 10 9,gm 10 true 11 0,gm 10 true 12 2,gb 10 true 13 .leq 3 11 12,oq 14 (.pick (tq 10) (tq 13) (cb false)),om 6 14] [0,1,2] []:=⟨rx,rx⟩
def Q6:=rg Tryz.f134
@[simp] def AAA:bq:=(lp (Q6 133) 9 0 1 (.seq (Q6 549) (.cond (.tmp 18) (.seq (Q6 2341) .ret) .skip)) (Q6 229))
def Q7:=AAA
def AYZ:bq:=(.seq (Q6 2) (.seq (.seq (Q6 9) (.block 0 (.loop Q7))) (.seq (Q6 11) .ret)))
theorem A9Q:Tryz.f134.body=some AYZ:=by kernel_rfl
@[simp] theorem BGQ:UX 19 Q7 AAA/\SX 19 (Q6 2) [ot 4 false] [0,1] []/\SX 19 (Q6 9) [ok 5 0] [0,1] []/\SX 19 (Q6 133) [om 6 5,om 7 0,oe 8 7 22,ob 9 .lss 3 6 8] [0,1,5] []/\SX 19 (Q6 549) [om 12 0,om 13 5,oi 14 22 12 13,ol 15 3 14,om 16 1,od 17 57 [tq 15,tq 16,ci 3],ou 18 17] [0,1,5] []/\SX 19 (Q6 2341) [ot 4 false] [] []/\SX 19 (Q6 229) [om 10 5,oc 11 .add 3 10 1,om 5 11] [0,1,5] []/\SX 19 (Q6 11) [ot 4 true] [] []/\LX 19 Q7 [0,1,5] []:=⟨fun _ _=>rfl,rx,rx,rx,rx,rx,rx,rx,lx⟩
def AF3:=rg Tryz.f135
def AY0:bq:=(.seq (AF3 2) (.seq (AF3 5) .ret))
theorem A9R:Tryz.f135.body=some AY0:=by kernel_rfl
@[simp] theorem BGR:SX 19 (AF3 2) [oq 2 (.box (tq 0)),oq 3 (.box (tq 1)),ot 4 false] [0,1] [2]/\SX 19 (AF3 5) [oz 5 59 3 0,ol 6 3 5,oz 7 27 2 1,ol 8 3 7,oc 9 .sub 3 8 1,od 10 57 [tq 6,ci 0,tq 9],om 11 10,gz 11 true 12 59 3 1,gl 11 true 13 3 12,gz 11 true 14 27 2 2,gl 11 true 15 3 14,gc 11 true 16 .sub 3 15 1,gd 11 true 17 57 [tq 13,ci 0,tq 16],oq 18 (.pick (tq 11) (tq 17) (cb false)),om 4 18] [2,3] [2,3]:=⟨rx,rx⟩
def rQ:=rg Tryz.f75
@[simp] def AKS:bq:=(lp (rQ 133) 9 0 1 (.seq (rQ 549) (.cond (.tmp 17) (.seq (rQ 2341) .ret) .skip)) (rQ 229))
def XC:=AKS
def c75:bq:=(.seq (rQ 2) (.seq (.seq (rQ 9) (.block 0 (.loop XC))) (.seq (rQ 11) .ret)))
theorem b75:Tryz.f75.body=some c75:=by kernel_rfl
@[simp] theorem x75:UX 18 XC AKS/\SX 18 (rQ 2) [ot 4 false] [0,1] []/\SX 18 (rQ 9) [ok 5 0] [0,1] []/\SX 18 (rQ 133) [om 6 5,om 7 0,oe 8 7 22,ob 9 .lss 3 6 8] [0,1,5] []/\SX 18 (rQ 549) [om 12 0,om 13 5,oi 14 22 12 13,ol 15 3 14,om 16 1,ob 17 .eql 3 15 16] [0,1,5] []/\SX 18 (rQ 2341) [ot 4 true] [] []/\SX 18 (rQ 229) [om 10 5,oc 11 .add 3 10 1,om 5 11] [0,1,5] []/\SX 18 (rQ 11) [ot 4 false] [] []/\LX 18 XC [0,1,5] []:=⟨fun _ _=>rfl,rx,rx,rx,rx,rx,rx,rx,lx⟩
def AF4:=rg Tryz.f114
def AY1:bq:=(.seq (AF4 2) (.seq (AF4 5) .ret))
theorem A9T:Tryz.f114.body=some AY1:=by kernel_rfl
@[simp] theorem BGT:SX 6 (AF4 2) [oq 2 (.mv (.const (.slice none 0 0)))] [0,1] []/\SX 6 (AF4 5) [oq 3 (.buildS 22 0 []),om 4 0,oq 5 (.app [tq 3,tq 4] [22,22]),om 2 5] [0,1] []:=⟨rx,rx⟩
def Q8:=rg Tryz.f115
@[simp] def AAB:bq:=(lp (Q8 267) 9 0 1 (Q8 587) (Q8 459))
def Q9:=AAB
def AY2:bq:=(.seq (Q8 2) (.seq (Q8 5) (.seq (.seq (Q8 19) (.block 0 (.loop Q9))) (.seq (Q8 23) .ret))))
theorem A9U:Tryz.f115.body=some AY2:=by kernel_rfl
@[simp] theorem BGU:UX 21 Q9 AAB/\SX 21 (Q8 2) [oq 2 (.mv (.const (.slice none 0 0)))] [0] [17]/\SX 21 (Q8 5) [oq 5 (.buildS 23 0 []),om 3 5] [0] [17]/\SX 21 (Q8 19) [ok 4 0] [0,1,3] [1,17,19]/\SX 21 (Q8 267) [om 6 4,om 7 0,oe 8 7 23,ob 9 .lss 3 6 8] [0,3,4] [17,19]/\SX 21 (Q8 587) [om 12 3,om 13 0,om 14 4,oi 15 23 13 14,ol 16 22 15,od 17 114 [tq 16],oq 18 (.buildS 23 1 [(0,tq 17)]),oq 19 (.app [tq 12,tq 18] [23,23]),om 3 19] [0,1,3,4] [1,17,19]/\SX 21 (Q8 459) [om 10 4,oc 11 .add 3 10 1,om 4 11] [0,1,3,4] [1,17,19]/\SX 21 (Q8 23) [om 20 3,om 2 20] [0,1,3,7,8] [19]/\LX 21 Q9 [0,3,4] [17,19]:=⟨fun _ _=>rfl,rx,rx,rx,rx,rx,rx,rx,lx⟩
def g48:=rg Tryz.f48
def c48:bq:=(.seq (g48 2) (.seq (g48 5) .ret))
theorem b48:Tryz.f48.body=some c48:=by kernel_rfl
@[simp] theorem x48:SX 8 (g48 2) [oq 1 (.box (tq 0)),oq 2 (.alloc 86)] [0] []/\SX 8 (g48 5) [oz 3 59 1 0,ol 4 3 3,oz 5 59 1 1,ol 6 3 5,oq 7 (.build 86 [(0,tq 4),(1,tq 6)]),os (.sto 86 (tq 2) (tq 7))] [1,2] [1,2]:=⟨rx,rx⟩
def RA:=rg Tryz.f107
@[simp] def AAC:bq:=(lp (RA 133) 11 0 1 (.seq (RA 549) (.cond (.tmp 19) (.seq (RA 2341) .ret) .skip)) (RA 229))
def RB:=AAC
def AY3:bq:=(.seq (RA 2) (.seq (.seq (RA 9) (.block 0 (.loop RB))) (.seq (RA 11) .ret)))
theorem A9V:Tryz.f107.body=some AY3:=by kernel_rfl
@[simp] theorem BGW:UX 23 RB AAC/\SX 23 (RA 2) [ot 2 false] [0] []/\SX 23 (RA 9) [ok 3 0] [0,1] [1,14]/\SX 23 (RA 133) [om 4 3,om 5 0,oe 6 5 23,ob 7 .lss 3 4 6,om 8 7,gm 8 true 9 3,gc 8 true 10 .lss 3 9 8,oq 11 (.pick (tq 8) (tq 10) (cb false))] [0,3] []/\SX 23 (RA 549) [om 14 0,om 15 3,oi 16 23 14 15,ol 17 22 16,oe 18 17 22,oc 19 .gtr 3 18 5] [0,3] []/\SX 23 (RA 2341) [ot 2 false] [] []/\SX 23 (RA 229) [om 12 3,oc 13 .add 3 12 1,om 3 13] [0,3] []/\SX 23 (RA 11) [om 20 0,oe 21 20 23,oc 22 .leq 3 21 7,om 2 22] [0] []/\LX 23 RB [0,3] []:=⟨fun _ _=>rfl,rx,rx,rx,rx,rx,rx,rx,lx⟩
def RC:=rg Tryz.f100
@[simp] def AAD:bq:=(lp (RC 267) 9 0 1 (RC 587) (RC 459))
def RD:=AAD
def AY4:bq:=(.seq (RC 2) (.seq (RC 5) (.seq (.seq (RC 19) (.block 0 (.loop RD))) (.seq (RC 23) .ret))))
theorem A9W:Tryz.f100.body=some AY4:=by kernel_rfl
@[simp] theorem BGX:UX 21 RD AAD/\SX 21 (RC 2) [oq 1 (.box (tq 0)),ok 2 0] [0] [1]/\SX 21 (RC 5) [ok 3 1] [1] [1]/\SX 21 (RC 19) [ok 4 0] [0,1,3] [1,17,19]/\SX 21 (RC 267) [om 5 4,oz 6 27 1 6,ol 7 23 6,oe 8 7 23,ob 9 .lss 3 5 8] [1,3,4] [1]/\SX 21 (RC 587) [om 12 3,oz 13 27 1 6,ol 14 23 13,om 15 4,oi 16 23 14 15,ol 17 22 16,oe 18 17 22,ob 19 .mul 3 12 18,om 3 19] [0,1,3,4] [1,17,19]/\SX 21 (RC 459) [om 10 4,oc 11 .add 3 10 1,om 4 11] [0,1,3,4] [1,17,19]/\SX 21 (RC 23) [om 20 3,om 2 20] [0,1,3,7,8] [19]/\LX 21 RD [1,3,4] [1]:=⟨fun _ _=>rfl,rx,rx,rx,rx,rx,rx,rx,lx⟩
def DN:=rg Tryz.f108
@[simp] def rR:bq:=(lp (DN 68759) 118 2 3 (.seq (DN 281751) (.cond (.tmp 138) (.seq (DN 1199255) .ret) .skip)) (DN 117911))
def NL:=rR
@[simp] def AAE:bq:=(lp (DN 535) 92 0 1 (.seq (.seq (DN 4247) (.cond (.tmp 110) (.seq (DN 18583) .ret) .skip)) (.seq (DN 5271) (.block 2 (.loop NL)))) (DN 919))
def RE:=AAE
@[simp] def rS:bq:=(lp (DN 1071) 143 4 5 (.seq (DN 4399) (.cond (.tmp 153) (.seq (DN 18735) .ret) .skip)) (DN 1839))
def NM:=rS
@[simp] def rT:bq:=(lp (DN 2143) 158 6 7 (.seq (DN 8799) (.cond (.tmp 180) (.seq (DN 37471) .ret) .skip)) (DN 3679))
def NN:=rT
def NC:bq:=(.seq (DN 2) (.seq (.seq (DN 9) (.cond (.tmp 31) (.seq (DN 37) .ret) .skip)) (.seq (.seq (DN 19) (.cond (.tmp 88) (.seq (DN 75) .ret) .skip)) (.seq (.seq (DN 39) (.block 0 (.loop RE))) (.seq (.seq (DN 79) (.block 4 (.loop NM))) (.seq (.seq (DN 159) (.block 6 (.loop NN))) (.seq (DN 191) .ret)))))))
theorem A9X:Tryz.f108.body=some NC:=by kernel_rfl
@[simp] theorem BGY:UX 181 NL rR/\UX 181 RE AAE/\UX 181 NM rS/\UX 181 NN rT/\SX 181 (DN 2) [oq 1 (.box (tq 0)),ok 2 0] [0] [1]/\SX 181 (DN 9) [oz 7 27 1 0,ol 8 3 7,oc 9 .gtr 3 8 4,om 10 9,gz 10 false 11 27 1 1,gl 10 false 12 3 11,gc 10 false 13 .gtr 3 12 3,oq 14 (.pick (tq 10) (cb true) (tq 13)),om 15 14,gz 15 false 16 27 1 2,gl 15 false 17 3 16,gc 15 false 18 .gtr 3 17 5,oq 19 (.pick (tq 15) (cb true) (tq 18)),om 20 19,gz 20 false 21 27 1 7,gl 20 false 22 24 21,ge 20 false 23 22 24,gc 20 false 24 .gtr 3 23 4,oq 25 (.pick (tq 20) (cb true) (tq 24)),om 26 25,gz 26 false 27 27 1 8,gl 26 false 28 25 27,ge 26 false 29 28 25,gc 26 false 30 .gtr 3 29 5,oq 31 (.pick (tq 26) (cb true) (tq 30))] [1] [1]/\SX 181 (DN 37) [ok 2 3] [] []/\SX 181 (DN 19) [oz 32 27 1 0,ol 33 3 32,oc 34 .lss 3 33 0,om 35 34,gz 35 false 36 27 1 1,gl 35 false 37 3 36,gc 35 false 38 .lss 3 37 1,oq 39 (.pick (tq 35) (cb true) (tq 38)),om 40 39,gz 40 false 41 27 1 2,gl 40 false 42 3 41,gc 40 false 43 .lss 3 42 1,oq 44 (.pick (tq 40) (cb true) (tq 43)),om 45 44,gz 45 false 46 27 1 3,gl 45 false 47 3 46,gd 45 false 48 57 [tq 47,ci 0,ci 4],og 45 false 49 (.oth (.unOp .not 4 (tq 48))),oq 50 (.pick (tq 45) (cb true) (tq 49)),om 51 50,gz 51 false 52 27 1 4,gl 51 false 53 22 52,ge 51 false 54 53 22,gz 51 false 55 27 1 1,gl 51 false 56 3 55,gb 51 false 57 .neq 3 54 56,oq 58 (.pick (tq 51) (cb true) (tq 57)),om 59 58,gz 59 false 60 27 1 5,gl 59 false 61 22 60,ge 59 false 62 61 22,gz 59 false 63 27 1 0,gl 59 false 64 3 63,gc 59 false 65 .add 3 64 1,gb 59 false 66 .neq 3 62 65,oq 67 (.pick (tq 59) (cb true) (tq 66)),om 68 67,gz 68 false 69 27 1 6,gl 68 false 70 23 69,ge 68 false 71 70 23,gz 68 false 72 27 1 0,gl 68 false 73 3 72,gc 68 false 74 .add 3 73 1,gb 68 false 75 .neq 3 71 74,oq 76 (.pick (tq 68) (cb true) (tq 75)),om 77 76,gz 77 false 78 27 1 4,gl 77 false 79 22 78,gd 77 false 80 134 [tq 79,ci 0],og 77 false 81 (.oth (.unOp .not 4 (tq 80))),oq 82 (.pick (tq 77) (cb true) (tq 81)),om 83 82,gz 83 false 84 27 1 5,gl 83 false 85 22 84,gd 83 false 86 134 [tq 85,.const (.int .i64 (bj 0))],og 83 false 87 (.oth (.unOp .not 4 (tq 86))),oq 88 (.pick (tq 83) (cb true) (tq 87))] [1] [1]/\SX 181 (DN 75) [ok 2 1] [] []/\SX 181 (DN 39) [ok 3 0] [1] [1]/\SX 181 (DN 535) [om 89 3,oz 90 27 1 0,ol 91 3 90,ob 92 .leq 3 89 91] [1,3] [1]/\SX 181 (DN 4247) [oz 95 27 1 6,ol 96 23 95,om 97 3,oi 98 23 96 97,ol 99 22 98,oe 100 99 22,oc 101 .eql 3 100 0,om 102 101,gz 102 false 103 27 1 6,gl 102 false 104 23 103,gm 102 false 105 3,gi 102 false 106 23 104 105,gl 102 false 107 22 106,gd 102 false 108 134 [tq 107,ci 0],og 102 false 109 (.oth (.unOp .not 4 (tq 108))),oq 110 (.pick (tq 102) (cb true) (tq 109))] [1,3] [1]/\SX 181 (DN 18583) [ok 2 1] [] []/\SX 181 (DN 5271) [ok 4 1] [1,3] [1]/\SX 181 (DN 68759) [om 111 4,oz 112 27 1 6,ol 113 23 112,om 114 3,oi 115 23 113 114,ol 116 22 115,oe 117 116 22,ob 118 .lss 3 111 117] [1,3,4] [1]/\RX 181 (DN 281751) (.drw [⟨[],[oz 121 27 1 6,ol 122 23 121,om 123 3,oi 124 23 122 123,ol 125 22 124,om 126 4,oi 127 22 125 126,ol 128 3 127,oz 129 27 1 6,ol 130 23 129,om 131 3,oi 132 23 130 131,ol 133 22 132,om 134 4,oc 135 .sub 3 134 1,oi 136 22 133 135,ol 137 3 136,ob 138 .leq 3 128 137],[]⟩]) (some ([1,3,4],[1]))/\SX 181 (DN 1199255) [ok 2 1] [] []/\SX 181 (DN 117911) [om 119 4,oc 120 .add 3 119 1,om 4 120] [1,3,4] [1]/\SX 181 (DN 919) [om 93 3,oc 94 .add 3 93 1,om 3 94] [1,3] [1]/\SX 181 (DN 79) [ok 5 0] [1] [1]/\SX 181 (DN 1071) [om 139 5,oz 140 27 1 7,ol 141 24 140,oe 142 141 24,ob 143 .lss 3 139 142] [1,5] [1]/\RX 181 (DN 4399) (.drw [⟨[],[ol 146 27 1,oz 147 27 1 7,ol 148 24 147,om 149 5,oi 150 24 148 149,ol 151 59 150],[od 152 135 [tq 146,tq 151]]⟩,⟨[],[ou 153 152],[]⟩]) (some ([1,5],[1]))/\SX 181 (DN 18735) [ok 2 1] [] []/\SX 181 (DN 1839) [om 144 5,oc 145 .add 3 144 1,om 5 145] [1,5] [1]/\SX 181 (DN 159) [ok 6 0] [1] [1]/\SX 181 (DN 2143) [om 154 6,oz 155 27 1 8,ol 156 25 155,oe 157 156 25,ob 158 .lss 3 154 157] [1,6] [1]/\RX 181 (DN 8799) (.drw [⟨[],[oz 161 27 1 8,ol 162 25 161,om 163 6,oi 164 25 162 163,oz 165 188 164 0,ol 166 3 165,oz 167 27 1 0,ol 168 3 167],[od 169 57 [tq 166,ci 0,tq 168]]⟩,⟨[],[ou 170 169,om 171 170,gz 171 false 172 27 1 8,gl 171 false 173 25 172,gm 171 false 174 6,gi 171 false 175 25 173 174,gz 171 false 176 188 175 1,gl 171 false 177 3 176],[gd 171 false 178 57 [tq 177,ci 0,ci 3]]⟩,⟨[],[og 171 false 179 (.oth (.unOp .not 4 (tq 178))),oq 180 (.pick (tq 171) (cb true) (tq 179))],[]⟩]) (some ([1,6],[1]))/\SX 181 (DN 37471) [ok 2 1] [] []/\SX 181 (DN 3679) [om 159 6,oc 160 .add 3 159 1,om 6 160] [1,6] [1]/\SX 181 (DN 191) [ok 2 0] [] []/\LX 181 RE [1,3] [1]/\LX 181 NL [1,3,4] [1]/\LX 181 NM [1,5] [1]/\LX 181 NN [1,6] [1]:=by and_intros<;>first|exact rx|exact lx|exact fun _ _=>rfl
def g64:=rg Tryz.f64
def c64:bq:=(.seq (g64 2) (.seq (.seq (g64 9) (.cond (.tmp 30) (.seq (g64 37) .ret) .skip)) (.seq (g64 11) .ret)))
theorem b64:Tryz.f64.body=some c64:=by kernel_rfl
@[simp] theorem x64:SX 39 (g64 2) [oq 1 (.box (tq 0)),ot 2 false] [0] [1]/\SX 39 (g64 9) [oz 3 27 1 4,ol 4 22 3,oe 5 4 22,oc 6 .gtr 3 5 5,om 7 6,gz 7 false 8 27 1 5,gl 7 false 9 22 8,ge 7 false 10 9 22,gc 7 false 11 .gtr 3 10 7,oq 12 (.pick (tq 7) (cb true) (tq 11)),om 13 12,gz 13 false 14 27 1 6,gl 13 false 15 23 14,gd 13 false 16 107 [tq 15],og 13 false 17 (.oth (.unOp .not 4 (tq 16))),oq 18 (.pick (tq 13) (cb true) (tq 17)),om 19 18,gz 19 false 20 27 1 7,gl 19 false 21 24 20,ge 19 false 22 21 24,gc 19 false 23 .gtr 3 22 6,oq 24 (.pick (tq 19) (cb true) (tq 23)),om 25 24,gz 25 false 26 27 1 8,gl 25 false 27 25 26,ge 25 false 28 27 25,gc 25 false 29 .gtr 3 28 7,oq 30 (.pick (tq 25) (cb true) (tq 29))] [1] [1]/\SX 39 (g64 37) [ot 2 false] [] []/\SX 39 (g64 11) [ol 31 27 1,od 32 108 [tq 31],oc 33 .neq 3 32 0,om 34 33,gl 34 false 35 27 1,gd 34 false 36 100 [tq 35],gc 34 false 37 .leq 3 36 80,oq 38 (.pick (tq 34) (cb true) (tq 37)),om 2 38] [1] [1]:=⟨rx,rx,rx,rx⟩
def PH:=rg Tryz.f190
@[simp] def AAF:bq:=(.seq (PH 69) (.seq (.cond (.tmp 9) .skip (.exit 0)) (.seq (.block 1 (.seq (PH 1125) (.seq (PH 2661) (.cond (.tmp 16) (.seq (PH 9829) .ret) .skip)))) (PH 485))))
def RF:=AAF
def ANT:bq:=(.seq (PH 2) (.seq (.seq (PH 9) (.block 0 (.loop RF))) (.seq (PH 11) .ret)))
theorem b190:Tryz.f190.body=some ANT:=by kernel_rfl
@[simp] theorem BG0:UX 19 RF AAF/\SX 19 (PH 2) [ok 4 0] [0,1] []/\SX 19 (PH 9) [om 6 0,oe 7 6 22,ok 8 0] [0,1] []/\SX 19 (PH 69) [ob 9 .lss 3 8 7] [0,1,7,8] []/\SX 19 (PH 1125) [om 10 8,om 5 10] [0,1,7,8] []/\SX 19 (PH 2661) [om 11 1,om 12 0,om 13 5,oi 14 22 12 13,ol 15 3 14,oq 16 (.call false none (tq 11) [tq 15])] [0,1,5,7,8] []/\SX 19 (PH 9829) [om 17 5,om 4 17] [5] []/\SX 19 (PH 485) [oc 18 .add 3 8 1,om 8 18] [0,1,3,7,8] []/\SX 19 (PH 11) [oq 4 (.mv (.const (.int .i64 (bj 0))))] [] []/\LX 19 RF [0,1,7,8] []:=⟨fun _ _=>rfl,rx,rx,rx,rx,rx,rx,rx,rx,lx⟩
def AF5:=rg Tryz.f175
def AY5:bq:=(.seq (AF5 2) (.seq (AF5 5) .ret))
theorem b175:Tryz.f175.body=some AY5:=by kernel_rfl
@[simp] theorem BG1:SX 9 (AF5 2) [ot 4 false] [0,1] [7]/\SX 9 (AF5 5) [om 5 0,om 6 1,od 7 190 [tq 5,tq 6],oc 8 .geq 3 7 0,om 4 8] [0,1,2,3] [2,3]:=⟨rx,rx⟩
def AF6:=rg Tryz.f144
def ANU:bq:=(.seq (AF6 2) (.seq (AF6 5) .ret))
theorem b144:Tryz.f144.body=some ANU:=by kernel_rfl
@[simp] theorem BG2:SX 9 (AF6 2) [oq 3 (.box (tq 1)),ot 4 false] [0,1,2] [3]/\SX 9 (AF6 5) [om 5 0,oq 6 (.oth (.makeFunc (.func 176) #[] #[tq 3])),od 7 175 [tq 5,tq 6],ou 8 7,om 4 8] [0,1,2,3] [2,3]:=⟨rx,rx⟩
def AF7:=rg Tryz.f176
def ANV:bq:=(.seq (AF7 2) (.seq (AF7 5) .ret))
theorem b176:Tryz.f176.body=some ANV:=by kernel_rfl
@[simp] theorem BG3:SX 8 (AF7 2) [ot 3 false] [0,1] []/\SX 8 (AF7 5) [ol 4 177 1,om 5 0,oq 6 (.call false none (tq 4) [tq 5]),ou 7 6,om 3 7] [0,1,2] [2]:=⟨rx,rx⟩
def PI:=rg Tryz.f191
@[simp] def AAG:bq:=(.seq (PI 69) (.seq (.cond (.tmp 9) .skip (.exit 0)) (.seq (.block 1 (.seq (PI 1125) (.seq (PI 2661) (.cond (.tmp 16) (.seq (PI 9829) .ret) .skip)))) (PI 485))))
def RG:=AAG
def ANW:bq:=(.seq (PI 2) (.seq (.seq (PI 9) (.block 0 (.loop RG))) (.seq (PI 11) .ret)))
theorem b191:Tryz.f191.body=some ANW:=by kernel_rfl
@[simp] theorem BG4:UX 19 RG AAG/\SX 19 (PI 2) [ok 4 0] [0,1] []/\SX 19 (PI 9) [om 6 0,oe 7 6 23,ok 8 0] [0,1] []/\SX 19 (PI 69) [ob 9 .lss 3 8 7] [0,1,7,8] []/\SX 19 (PI 1125) [om 10 8,om 5 10] [0,1,7,8] []/\SX 19 (PI 2661) [om 11 1,om 12 0,om 13 5,oi 14 23 12 13,ol 15 22 14,oq 16 (.call false none (tq 11) [tq 15])] [0,1,5,7,8] []/\SX 19 (PI 9829) [om 17 5,om 4 17] [5] []/\SX 19 (PI 485) [oc 18 .add 3 8 1,om 8 18] [0,1,3,7,8] []/\SX 19 (PI 11) [oq 4 (.mv (.const (.int .i64 (bj 0))))] [] []/\LX 19 RG [0,1,7,8] []:=⟨fun _ _=>rfl,rx,rx,rx,rx,rx,rx,rx,rx,lx⟩
def AF8:=rg Tryz.f177
def AY6:bq:=(.seq (AF8 2) (.seq (AF8 5) .ret))
theorem b177:Tryz.f177.body=some AY6:=by kernel_rfl
@[simp] theorem BG5:SX 9 (AF8 2) [ot 4 false] [0,1] [7]/\SX 9 (AF8 5) [om 5 0,om 6 1,od 7 191 [tq 5,tq 6],oc 8 .geq 3 7 0,om 4 8] [0,1,2,3] [2,3]:=⟨rx,rx⟩
def AF9:=rg Tryz.f147
def ANX:bq:=(.seq (AF9 2) (.seq (AF9 5) .ret))
theorem b147:Tryz.f147.body=some ANX:=by kernel_rfl
@[simp] theorem BG6:SX 9 (AF9 2) [oq 3 (.box (tq 1)),ot 4 false] [0,1,2] [3]/\SX 9 (AF9 5) [om 5 0,oq 6 (.oth (.makeFunc (.func 178) #[] #[tq 3])),od 7 177 [tq 5,tq 6],ou 8 7,om 4 8] [0,1,2,3] [2,3]:=⟨rx,rx⟩
def AGA:=rg Tryz.f178
def ANY:bq:=(.seq (AGA 2) (.seq (AGA 5) .ret))
theorem b178:Tryz.f178.body=some ANY:=by kernel_rfl
@[simp] theorem BG7:SX 8 (AGA 2) [ot 3 false] [0,1] []/\SX 8 (AGA 5) [ol 4 193 1,om 5 0,oq 6 (.call false none (tq 4) [tq 5]),ou 7 6,om 3 7] [0,1,2] [2]:=⟨rx,rx⟩
def AGB:=rg Tryz.f143
def AY7:bq:=(.seq (AGB 2) (.seq (AGB 5) .ret))
theorem A9Y:Tryz.f143.body=some AY7:=by kernel_rfl
@[simp] theorem BG8:SX 15 (AGB 2) [ot 6 false] [0,1,2] []/\SX 15 (AGB 5) [om 7 1,om 8 0,ob 9 .leq 3 7 8,om 10 9,gm 10 true 11 0,gm 10 true 12 2,gb 10 true 13 .leq 3 11 12,oq 14 (.pick (tq 10) (tq 13) (cb false)),om 6 14] [0,1,2] []:=⟨rx,rx⟩
def AGC:=rg Tryz.f145
def AY8:bq:=(.seq (AGC 2) (.seq (AGC 5) .ret))
theorem A9Z:Tryz.f145.body=some AY8:=by kernel_rfl
@[simp] theorem BG9:SX 5 (AGC 2) [ot 2 false] [0] []/\SX 5 (AGC 5) [om 3 0,od 4 143 [tq 3,ci 0,ci 3],om 2 4] [0,1,2] [1,2]:=⟨rx,rx⟩
def AGD:=rg Tryz.f146
def AY9:bq:=(.seq (AGD 2) (.seq (AGD 5) .ret))
theorem A90:Tryz.f146.body=some AY9:=by kernel_rfl
@[simp] theorem BHA:SX 5 (AGD 2) [ot 2 false] [0] []/\SX 5 (AGD 5) [om 3 0,od 4 143 [tq 3,.const (.int .i64 (bj 0)),ci 3],om 2 4] [0,1,2] [1,2]:=⟨rx,rx⟩
def vH:=rg Tryz.f148
def ANZ:bq:=(.seq (vH 2) (.seq (vH 5) (.seq (vH 11) .ret)))
theorem A91:Tryz.f148.body=some ANZ:=by kernel_rfl
@[simp] theorem BHB:SX 12 (vH 2) [ot 2 false] [0] []/\SX 12 (vH 5) [oq 3 (.alloc 3),os (.sto 3 (tq 3) (.const (.int .i64 (bj 0))))] [0] []/\SX 12 (vH 11) [om 4 0,oe 5 4 22,oc 6 .gtr 3 5 0,om 7 6,gm 7 true 8 0,og 7 true 9 (.oth (.makeFunc (.func 179) #[] #[tq 3])),gd 7 true 10 144 [tq 8,tq 9],oq 11 (.pick (tq 7) (tq 10) (cb false)),om 2 11] [0,3] [3]:=⟨rx,rx,rx⟩
def iD:=rg Tryz.f179
def AZA:bq:=(.seq (iD 2) (.seq (iD 5) (.seq (iD 11) (.seq (iD 23) .ret))))
theorem b179:Tryz.f179.body=some AZA:=by kernel_rfl
@[simp] theorem BHC:SX 11 (iD 2) [ot 3 false] [0,1] []/\SX 11 (iD 5) [om 5 0,ol 6 3 1,oc 7 .add 3 6 1,od 8 143 [tq 5,tq 7,ci 3],om 4 8] [0,1] []/\SX 11 (iD 11) [om 9 0,os (.sto 3 (tq 1) (tq 9))] [0,1,4] []/\SX 11 (iD 23) [om 10 4,om 3 10] [4] []:=⟨rx,rx,rx,rx⟩
def AGE:=rg Tryz.f174
def AZB:bq:=(.seq (AGE 2) (.seq (AGE 5) .ret))
theorem A92:Tryz.f174.body=some AZB:=by kernel_rfl
@[simp] theorem BHD:SX 9 (AGE 2) [oq 2 (.box (tq 0)),ot 4 false] [0,1] [2]/\SX 9 (AGE 5) [om 5 1,oz 6 40 2 0,ol 7 3 6,od 8 143 [tq 5,ci 0,tq 7],om 4 8] [0,1,2,3] [2,3]:=⟨rx,rx⟩
def AGF:=rg Tryz.f141
def AZC:bq:=(.seq (AGF 2) (.seq (AGF 5) .ret))
theorem A93:Tryz.f141.body=some AZC:=by kernel_rfl
@[simp] theorem BHE:SX 19 (AGF 2) [oq 2 (.box (tq 0)),oq 3 (.box (tq 1)),ot 4 false] [0,1] [2]/\SX 19 (AGF 5) [oz 5 86 3 0,ol 6 3 5,oz 7 40 2 1,ol 8 3 7,oc 9 .sub 3 8 1,od 10 143 [tq 6,ci 0,tq 9],om 11 10,gz 11 true 12 86 3 1,gl 11 true 13 3 12,gz 11 true 14 40 2 2,gl 11 true 15 3 14,gc 11 true 16 .sub 3 15 1,gd 11 true 17 143 [tq 13,ci 0,tq 16],oq 18 (.pick (tq 11) (tq 17) (cb false)),om 4 18] [2,3] [2,3]:=⟨rx,rx⟩
def AGG:=rg Tryz.f142
def AZD:bq:=(.seq (AGG 2) (.seq (AGG 5) .ret))
theorem A94:Tryz.f142.body=some AZD:=by kernel_rfl
@[simp] theorem BHF:SX 14 (AGG 2) [oq 2 (.box (tq 0)),oq 3 (.box (tq 1)),ot 4 false] [0,1] [2]/\SX 14 (AGG 5) [ol 5 40 2,oz 6 99 3 0,ol 7 3 6,od 8 174 [tq 5,tq 7],om 9 8,gz 9 true 10 99 3 1,gl 9 true 11 3 10,gd 9 true 12 145 [tq 11],oq 13 (.pick (tq 9) (tq 12) (cb false)),om 4 13] [1,2,3,4] [2,3,4]:=⟨rx,rx⟩
def PJ:=rg Tryz.f192
@[simp] def AAH:bq:=(.seq (PJ 69) (.seq (.cond (.tmp 9) .skip (.exit 0)) (.seq (.block 1 (.seq (PJ 1125) (.seq (PJ 2661) (.cond (.tmp 16) (.seq (PJ 9829) .ret) .skip)))) (PJ 485))))
def RH:=AAH
def AN0:bq:=(.seq (PJ 2) (.seq (.seq (PJ 9) (.block 0 (.loop RH))) (.seq (PJ 11) .ret)))
theorem b192:Tryz.f192.body=some AN0:=by kernel_rfl
@[simp] theorem BHG:UX 19 RH AAH/\SX 19 (PJ 2) [ok 4 0] [0,1] []/\SX 19 (PJ 9) [om 6 0,oe 7 6 37,ok 8 0] [0,1] []/\SX 19 (PJ 69) [ob 9 .lss 3 8 7] [0,1,7,8] []/\SX 19 (PJ 1125) [om 10 8,om 5 10] [0,1,7,8] []/\SX 19 (PJ 2661) [om 11 1,om 12 0,om 13 5,oi 14 37 12 13,ol 15 86 14,oq 16 (.call false none (tq 11) [tq 15])] [0,1,5,7,8] []/\SX 19 (PJ 9829) [om 17 5,om 4 17] [5] []/\SX 19 (PJ 485) [oc 18 .add 3 8 1,om 8 18] [0,1,3,7,8] []/\SX 19 (PJ 11) [oq 4 (.mv (.const (.int .i64 (bj 0))))] [] []/\LX 19 RH [0,1,7,8] []:=⟨fun _ _=>rfl,rx,rx,rx,rx,rx,rx,rx,rx,lx⟩
def AGH:=rg Tryz.f180
def AZE:bq:=(.seq (AGH 2) (.seq (AGH 5) .ret))
theorem b180:Tryz.f180.body=some AZE:=by kernel_rfl
@[simp] theorem BHH:SX 9 (AGH 2) [ot 4 false] [0,1] [7]/\SX 9 (AGH 5) [om 5 0,om 6 1,od 7 192 [tq 5,tq 6],oc 8 .geq 3 7 0,om 4 8] [0,1,2,3] [2,3]:=⟨rx,rx⟩
def AGI:=rg Tryz.f149
def AZF:bq:=(.seq (AGI 2) (.seq (AGI 5) .ret))
theorem A95:Tryz.f149.body=some AZF:=by kernel_rfl
@[simp] theorem BHI:SX 9 (AGI 2) [oq 3 (.box (tq 1)),ot 4 false] [0,1,2] [3]/\SX 9 (AGI 5) [om 5 0,oq 6 (.oth (.makeFunc (.func 181) #[] #[tq 3])),od 7 180 [tq 5,tq 6],ou 8 7,om 4 8] [0,1,2,3] [2,3]:=⟨rx,rx⟩
def AGJ:=rg Tryz.f181
def AZG:bq:=(.seq (AGJ 2) (.seq (AGJ 5) .ret))
theorem b181:Tryz.f181.body=some AZG:=by kernel_rfl
@[simp] theorem BHJ:SX 8 (AGJ 2) [oq 2 (.box (tq 0)),ot 3 false] [0,1] []/\SX 8 (AGJ 5) [ol 4 225 1,ol 5 86 2,oq 6 (.call false none (tq 4) [tq 5]),ou 7 6,om 3 7] [0,1,2] [2]:=⟨rx,rx⟩
def PK:=rg Tryz.f193
@[simp] def AAI:bq:=(.seq (PK 69) (.seq (.cond (.tmp 9) .skip (.exit 0)) (.seq (.block 1 (.seq (PK 1125) (.seq (PK 2661) (.cond (.tmp 16) (.seq (PK 9829) .ret) .skip)))) (PK 485))))
def RI:=AAI
def AN1:bq:=(.seq (PK 2) (.seq (.seq (PK 9) (.block 0 (.loop RI))) (.seq (PK 11) .ret)))
theorem b193:Tryz.f193.body=some AN1:=by kernel_rfl
@[simp] theorem BHK:UX 19 RI AAI/\SX 19 (PK 2) [ok 4 0] [0,1] []/\SX 19 (PK 9) [om 6 0,oe 7 6 38,ok 8 0] [0,1] []/\SX 19 (PK 69) [ob 9 .lss 3 8 7] [0,1,7,8] []/\SX 19 (PK 1125) [om 10 8,om 5 10] [0,1,7,8] []/\SX 19 (PK 2661) [om 11 1,om 12 0,om 13 5,oi 14 38 12 13,ol 15 99 14,oq 16 (.call false none (tq 11) [tq 15])] [0,1,5,7,8] []/\SX 19 (PK 9829) [om 17 5,om 4 17] [5] []/\SX 19 (PK 485) [oc 18 .add 3 8 1,om 8 18] [0,1,3,7,8] []/\SX 19 (PK 11) [oq 4 (.mv (.const (.int .i64 (bj 0))))] [] []/\LX 19 RI [0,1,7,8] []:=⟨fun _ _=>rfl,rx,rx,rx,rx,rx,rx,rx,rx,lx⟩
def AGK:=rg Tryz.f182
def AZH:bq:=(.seq (AGK 2) (.seq (AGK 5) .ret))
theorem b182:Tryz.f182.body=some AZH:=by kernel_rfl
@[simp] theorem BHL:SX 9 (AGK 2) [ot 4 false] [0,1] [7]/\SX 9 (AGK 5) [om 5 0,om 6 1,od 7 193 [tq 5,tq 6],oc 8 .geq 3 7 0,om 4 8] [0,1,2,3] [2,3]:=⟨rx,rx⟩
def AGL:=rg Tryz.f150
def AZI:bq:=(.seq (AGL 2) (.seq (AGL 5) .ret))
theorem A96:Tryz.f150.body=some AZI:=by kernel_rfl
@[simp] theorem BHM:SX 9 (AGL 2) [oq 3 (.box (tq 1)),ot 4 false] [0,1,2] [3]/\SX 9 (AGL 5) [om 5 0,oq 6 (.oth (.makeFunc (.func 183) #[] #[tq 3])),od 7 182 [tq 5,tq 6],ou 8 7,om 4 8] [0,1,2,3] [2,3]:=⟨rx,rx⟩
def AGM:=rg Tryz.f183
def AZJ:bq:=(.seq (AGM 2) (.seq (AGM 5) .ret))
theorem b183:Tryz.f183.body=some AZJ:=by kernel_rfl
@[simp] theorem BHN:SX 8 (AGM 2) [oq 2 (.box (tq 0)),ot 3 false] [0,1] []/\SX 8 (AGM 5) [ol 4 226 1,ol 5 99 2,oq 6 (.call false none (tq 4) [tq 5]),ou 7 6,om 3 7] [0,1,2] [2]:=⟨rx,rx⟩
def ND:=rg Tryz.f110
def NE:bq:=(.seq (ND 2) (.seq (ND 5) (.seq (.block 0 (.seq (ND 35) (.cond (.tmp 9) (.seq (ND 147) .ret) (.seq (ND 179) (.cond (.tmp 35) (.seq (ND 627) .ret) (.seq (ND 755) (.cond (.tmp 81) (.seq (ND 2547) .ret) .skip))))))) (.seq (ND 23) .ret))))
theorem A97:Tryz.f110.body=some NE:=by kernel_rfl
@[simp] theorem BHO:SX 112 (ND 2) [oq 1 (.box (tq 0)),ok 2 0] [0] [1,20,21,26,27,102,103,104]/\RX 112 (ND 5) (.drw [⟨[],[ol 5 40 1,oq 6 (.oth (.makeFunc (.func 141) #[tq 5] #[])),ol 7 40 1,oq 8 (.oth (.makeFunc (.func 142) #[tq 7] #[])),om 3 6,om 4 8],[]⟩]) (some ([1],[1]))/\SX 112 (ND 35) [oz 10 40 1 0,ol 11 3 10,oc 12 .gtr 3 11 4,om 13 12,gz 13 false 14 40 1 1,gl 13 false 15 3 14,gc 13 false 16 .gtr 3 15 3,oq 17 (.pick (tq 13) (cb true) (tq 16)),om 18 17,gz 18 false 19 40 1 2,gl 18 false 20 3 19,gc 18 false 21 .gtr 3 20 5,oq 22 (.pick (tq 18) (cb true) (tq 21)),om 23 22,gz 23 false 24 40 1 7,gl 23 false 25 37 24,ge 23 false 26 25 37,gc 23 false 27 .gtr 3 26 4,oq 28 (.pick (tq 23) (cb true) (tq 27)),om 29 28,gz 29 false 30 40 1 8,gl 29 false 31 38 30,ge 29 false 32 31 38,gc 29 false 33 .gtr 3 32 5,oq 34 (.pick (tq 29) (cb true) (tq 33)),om 9 34] [1,3,4] [1]/\SX 112 (ND 147) [ok 2 3] [] []/\SX 112 (ND 179) [oz 36 40 1 0,ol 37 3 36,oc 38 .lss 3 37 0,om 39 38,gz 39 false 40 40 1 1,gl 39 false 41 3 40,gc 39 false 42 .lss 3 41 1,oq 43 (.pick (tq 39) (cb true) (tq 42)),om 44 43,gz 44 false 45 40 1 2,gl 44 false 46 3 45,gc 44 false 47 .lss 3 46 1,oq 48 (.pick (tq 44) (cb true) (tq 47)),om 49 48,gz 49 false 50 40 1 3,gl 49 false 51 3 50,gd 49 false 52 143 [tq 51,ci 0,ci 4],og 49 false 53 (.oth (.unOp .not 4 (tq 52))),oq 54 (.pick (tq 49) (cb true) (tq 53)),om 55 54,gz 55 false 56 40 1 4,gl 55 false 57 22 56,ge 55 false 58 57 22,gz 55 false 59 40 1 1,gl 55 false 60 3 59,gb 55 false 61 .neq 3 58 60,oq 62 (.pick (tq 55) (cb true) (tq 61)),om 63 62,gz 63 false 64 40 1 5,gl 63 false 65 22 64,ge 63 false 66 65 22,gz 63 false 67 40 1 0,gl 63 false 68 3 67,gc 63 false 69 .add 3 68 1,gb 63 false 70 .neq 3 66 69,oq 71 (.pick (tq 63) (cb true) (tq 70)),om 72 71,gz 72 false 73 40 1 6,gl 72 false 74 23 73,ge 72 false 75 74 23,gz 72 false 76 40 1 0,gl 72 false 77 3 76,gc 72 false 78 .add 3 77 1,gb 72 false 79 .neq 3 75 78,oq 80 (.pick (tq 72) (cb true) (tq 79)),om 35 80] [1,3,4] [1]/\SX 112 (ND 627) [ok 2 1] [] []/\SX 112 (ND 755) [oz 82 40 1 4,ol 83 22 82,od 84 144 [tq 83,.func 145],ou 85 84,om 86 85,gz 86 false 87 40 1 5,gl 86 false 88 22 87,gd 86 false 89 144 [tq 88,.func 146],og 86 false 90 (.oth (.unOp .not 4 (tq 89))),oq 91 (.pick (tq 86) (cb true) (tq 90)),om 92 91,gz 92 false 93 40 1 6,gl 92 false 94 23 93,gd 92 false 95 147 [tq 94,.func 148],og 92 false 96 (.oth (.unOp .not 4 (tq 95))),oq 97 (.pick (tq 92) (cb true) (tq 96)),om 98 97,gz 98 false 99 40 1 7,gl 98 false 100 37 99,gm 98 false 101 3,gd 98 false 102 149 [tq 100,tq 101],og 98 false 103 (.oth (.unOp .not 4 (tq 102))),oq 104 (.pick (tq 98) (cb true) (tq 103)),om 105 104,gz 105 false 106 40 1 8,gl 105 false 107 38 106,gm 105 false 108 4,gd 105 false 109 150 [tq 107,tq 108],og 105 false 110 (.oth (.unOp .not 4 (tq 109))),oq 111 (.pick (tq 105) (cb true) (tq 110)),om 81 111] [1,3,4] [1]/\SX 112 (ND 2547) [ok 2 1] [] []/\SX 112 (ND 23) [ok 2 0] [] []:=by and_intros<;>exact rx
def AGN:=rg Tryz.f111
def AN2:bq:=(.seq (AGN 2) (.seq (AGN 5) .ret))
theorem A98:Tryz.f111.body=some AN2:=by kernel_rfl
@[simp] theorem BHP:SX 16 (AGN 2) [oq 2 (.box (tq 0)),ot 4 false] [0,1] [2]/\SX 16 (AGN 5) [om 5 1,oe 6 5 23,oz 7 40 2 0,ol 8 3 7,oc 9 .add 3 8 1,ob 10 .eql 3 6 9,om 11 10,gm 11 true 12 1,og 11 true 13 (.oth (.makeFunc (.func 151) #[] #[tq 2])),gd 11 true 14 147 [tq 12,tq 13],oq 15 (.pick (tq 11) (tq 14) (cb false)),om 4 15] [1,2] [2]:=⟨rx,rx⟩
def AGO:=rg Tryz.f151
def AN3:bq:=(.seq (AGO 2) (.seq (AGO 5) .ret))
theorem b151:Tryz.f151.body=some AN3:=by kernel_rfl
@[simp] theorem BHQ:SX 13 (AGO 2) [ot 3 false] [0,1,2] [3,4,5,9]/\SX 13 (AGO 5) [om 4 0,oe 5 4 22,oz 6 40 1 1,ol 7 3 6,ob 8 .eql 3 5 7,om 9 8,gm 9 true 10 0,gd 9 true 11 144 [tq 10,.func 145],oq 12 (.pick (tq 9) (tq 11) (cb false)),om 3 12] [0,1] []:=⟨rx,rx⟩
def AGP:=rg Tryz.f194
def AZK:bq:=(.seq (AGP 2) (.seq (AGP 5) .ret))
theorem A99:Tryz.f194.body=some AZK:=by kernel_rfl
@[simp] theorem BHR:SX 6 (AGP 2) [ok 2 0] [0,1] []/\SX 6 (AGP 5) [om 3 0,oc 4 .add 3 3 2,oc 5 .rem 3 4 4,om 2 5] [0,1] []:=⟨rx,rx⟩
def AGQ:=rg Tryz.f195
def AZL:bq:=(.seq (AGQ 2) (.seq (AGQ 5) .ret))
theorem BAA:Tryz.f195.body=some AZL:=by kernel_rfl
@[simp] theorem BHS:SX 11 (AGQ 2) [oq 3 (.box (tq 0)),oq 4 (.box (tq 1)),oq 5 (.box (tq 2)),ot 6 false] [0,1,2] [3,4,5]/\SX 11 (AGQ 5) [oz 7 40 3 7,ol 8 37 7,oq 9 (.oth (.makeFunc (.func 199) #[] #[tq 5,tq 4,tq 3])),od 10 180 [tq 8,tq 9],om 6 10] [3,4,5] [3,4,5]:=⟨rx,rx⟩
def J7:=rg Tryz.f199
def AAJ:bq:=(.seq (J7 2) (.seq (J7 5) (.seq (.block 0 (.seq (J7 35) (.cond (.tmp 7) (J7 83) (.seq (J7 179) (.cond (.tmp 22) (J7 371) (.seq (J7 755) (.cond (.tmp 37) (J7 1523) (.seq (J7 3059) (.cond (.tmp 52) (J7 6131) .skip))))))))) (.seq (J7 23) .ret))))
theorem b199:Tryz.f199.body=some AAJ:=by kernel_rfl
@[simp] theorem BHT:SX 71 (J7 2) [oq 4 (.box (tq 0)),ot 5 false] [0,1,2,3] []/\SX 71 (J7 5) [ok 6 0] [1,2,3,4] [4]/\SX 71 (J7 35) [ol 8 3 1,oc 9 .eql 3 8 0,om 10 9,gz 10 true 11 86 4 1,gl 10 true 12 3 11,gz 10 true 13 86 2 1,gl 10 true 14 3 13,gb 10 true 15 .eql 3 12 14,oq 16 (.pick (tq 10) (tq 15) (cb false)),om 7 16] [1,2,3,4,6] [4]/\SX 71 (J7 83) [oz 17 86 2 0,ol 18 3 17,oz 19 86 4 0,ol 20 3 19,ob 21 .sub 3 18 20,om 6 21] [2,3,4] [4]/\SX 71 (J7 179) [ol 23 3 1,oc 24 .eql 3 23 2,om 25 24,gz 25 true 26 86 4 1,gl 25 true 27 3 26,gz 25 true 28 86 2 1,gl 25 true 29 3 28,gb 25 true 30 .eql 3 27 29,oq 31 (.pick (tq 25) (tq 30) (cb false)),om 22 31] [1,2,3,4,6] [4]/\SX 71 (J7 371) [oz 32 86 4 0,ol 33 3 32,oz 34 86 2 0,ol 35 3 34,ob 36 .sub 3 33 35,om 6 36] [2,3,4] [4]/\SX 71 (J7 755) [ol 38 3 1,oc 39 .eql 3 38 3,om 40 39,gz 40 true 41 86 4 0,gl 40 true 42 3 41,gz 40 true 43 86 2 0,gl 40 true 44 3 43,gb 40 true 45 .eql 3 42 44,oq 46 (.pick (tq 40) (tq 45) (cb false)),om 37 46] [1,2,3,4,6] [4]/\SX 71 (J7 1523) [oz 47 86 2 1,ol 48 3 47,oz 49 86 4 1,ol 50 3 49,ob 51 .sub 3 48 50,om 6 51] [2,3,4] [4]/\SX 71 (J7 3059) [ol 53 3 1,oc 54 .eql 3 53 1,om 55 54,gz 55 true 56 86 4 0,gl 55 true 57 3 56,gz 55 true 58 86 2 0,gl 55 true 59 3 58,gb 55 true 60 .eql 3 57 59,oq 61 (.pick (tq 55) (tq 60) (cb false)),om 52 61] [1,2,3,4,6] [4]/\SX 71 (J7 6131) [oz 62 86 4 1,ol 63 3 62,oz 64 86 2 1,ol 65 3 64,ob 66 .sub 3 63 65,om 6 66] [2,3,4] [4]/\SX 71 (J7 23) [om 67 6,oz 68 40 3 3,ol 69 3 68,od 70 143 [tq 67,ci 1,tq 69],om 5 70] [3,6] []:=by and_intros<;>exact rx
def AGR:=rg Tryz.f184
def AZM:bq:=(.seq (AGR 2) (.seq (AGR 5) .ret))
theorem BAB:Tryz.f184.body=some AZM:=by kernel_rfl
@[simp] theorem BHU:SX 19 (AGR 2) [oq 4 (.box (tq 0)),oq 5 (.box (tq 1)),ot 8 false] [0,1,2,3] [4]/\SX 19 (AGR 5) [om 9 2,om 10 3,od 11 194 [tq 10],ob 12 .eql 3 9 11,om 13 12,gl 13 false 14 40 4,gl 13 false 15 86 5,gm 13 false 16 3,gd 13 false 17 195 [tq 14,tq 15,tq 16],oq 18 (.pick (tq 13) (cb true) (tq 17)),om 8 18] [2,3,4,5] [4,5]:=⟨rx,rx⟩
def PL:=rg Tryz.f153
def AZN:bq:=(.seq (PL 2) (.seq (PL 5) (.seq (.seq (PL 19) (.cond (.tmp 25) (PL 43) .skip)) (.seq (.seq (PL 39) (.cond (.tmp 27) (PL 87) .skip)) (.seq (PL 47) (.seq (PL 95) .ret))))))
theorem BAC:Tryz.f153.body=some AZN:=by kernel_rfl
@[simp] theorem BHV:SX 36 (PL 2) [oq 5 (.box (tq 0)),oq 6 (.box (tq 1)),oq 10 (.alloc 155)] [0,1,2,3,4] [5]/\RX 36 (PL 5) (.drw [⟨[],[oz 13 40 5 5,ol 14 22 13,om 15 2,oi 16 22 14 15,ol 17 3 16,om 18 3,ob 19 .eql 3 17 18,ol 20 40 5,ol 21 86 6,om 22 3,om 23 4,od 24 184 [tq 20,tq 21,tq 22,tq 23],om 11 19,om 12 24],[]⟩]) (some ([2,3,4,5,6,10],[5,6,10]))/\SX 36 (PL 19) [om 25 11] [10,11,12] [10]/\SX 36 (PL 43) [oz 26 155 10 0,os (.sto 3 (tq 26) (ci 1))] [10,12] [10]/\SX 36 (PL 39) [om 27 12] [10,12] [10]/\SX 36 (PL 87) [oz 28 155 10 1,os (.sto 3 (tq 28) (ci 1))] [10] [10]/\SX 36 (PL 47) [oz 29 155 10 0,ol 30 3 29,oz 31 155 10 1,ol 32 3 31,ob 33 .mul 3 30 32,oz 34 155 10 2,os (.sto 3 (tq 34) (tq 33))] [10] [10]/\SX 36 (PL 95) [ol 35 155 10,os (.sto 155 (tq 10) (tq 35))] [10] [10]:=by and_intros<;>exact rx
def PM:=rg Tryz.f101
@[simp] def AAK:bq:=(lp (PM 267) 12 0 1 (.seq (PM 1099) (PM 1611)) (PM 459))
def RJ:=AAK
def AZO:bq:=(.seq (PM 2) (.seq (PM 5) (.seq (.seq (PM 19) (.block 0 (.loop RJ))) (.seq (PM 23) .ret))))
theorem BAD:Tryz.f101.body=some AZO:=by kernel_rfl
@[simp] theorem BHW:UX 35 RJ AAK/\SX 35 (PM 2) [oq 2 (.box (tq 0)),oq 4 (.mv (.const (.slice none 0 0)))] [0,1] [2]/\SX 35 (PM 5) [oq 5 (.mv (.const (.slice none 0 0)))] [1,2] [2]/\SX 35 (PM 19) [ok 6 0] [1,2,5] [2,29]/\SX 35 (PM 267) [om 8 6,oz 9 27 2 6,ol 10 23 9,oe 11 10 23,ob 12 .lss 3 8 11] [1,2,5,6] [2,29]/\SX 35 (PM 1099) [oz 15 27 2 6,ol 16 23 15,om 17 6,oi 18 23 16 17,ol 19 22 18,om 7 19] [1,2,5,6] [2,29]/\RX 35 (PM 1611) (.drw [⟨[],[om 20 5,om 21 7,om 22 1,om 23 7,oe 24 23 22,ob 25 .rem 3 22 24,oi 26 22 21 25,ol 27 3 26,oq 28 (.buildS 22 1 [(0,tq 27)]),om 30 1,om 31 7,oe 32 31 22,ob 33 .quo 3 30 32,oq 29 (.app [tq 20,tq 28] [22,22]),om 5 29,om 1 33],[]⟩]) (some ([1,2,5,6,7],[2,29]))/\SX 35 (PM 459) [om 13 6,oc 14 .add 3 13 1,om 6 14] [1,2,5,6] [2,29]/\SX 35 (PM 23) [om 34 5,om 4 34] [5] [29]/\LX 35 RJ [1,2,5,6] [2,29]:=⟨fun _ _=>rfl,rx,rx,rx,rx,rx,rx,rx,rx,lx⟩
def PN:=rg Tryz.f170
@[simp] def AAL:bq:=(.seq (PN 69) (.seq (.cond (.tmp 9) .skip (.exit 0)) (.seq (.block 1 (.seq (PN 1125) (.seq (PN 2661) (.cond (.tmp 16) (.seq (PN 9829) .ret) .skip)))) (PN 485))))
def RK:=AAL
def AN4:bq:=(.seq (PN 2) (.seq (.seq (PN 9) (.block 0 (.loop RK))) (.seq (PN 11) .ret)))
theorem AZP:Tryz.f170.body=some AN4:=by kernel_rfl
@[simp] theorem BHX:UX 19 RK AAL/\SX 19 (PN 2) [ok 4 0] [0,1] []/\SX 19 (PN 9) [om 6 0,oe 7 6 22,ok 8 0] [0,1] []/\SX 19 (PN 69) [ob 9 .lss 3 8 7] [0,1,7,8] []/\SX 19 (PN 1125) [om 10 8,om 5 10] [0,1,7,8] []/\SX 19 (PN 2661) [om 11 1,om 12 0,om 13 5,oi 14 22 12 13,ol 15 3 14,ob 16 .eql 3 11 15] [0,1,5,7,8] []/\SX 19 (PN 9829) [om 17 5,om 4 17] [5] []/\SX 19 (PN 485) [oc 18 .add 3 8 1,om 8 18] [0,1,3,7,8] []/\SX 19 (PN 11) [oq 4 (.mv (.const (.int .i64 (bj 0))))] [] []/\LX 19 RK [0,1,7,8] []:=⟨fun _ _=>rfl,rx,rx,rx,rx,rx,rx,rx,rx,lx⟩
def AGS:=rg Tryz.f132
def AZQ:bq:=(.seq (AGS 2) (.seq (AGS 5) .ret))
theorem BAE:Tryz.f132.body=some AZQ:=by kernel_rfl
@[simp] theorem BHY:SX 9 (AGS 2) [ot 4 false] [0,1] [7]/\SX 9 (AGS 5) [om 5 0,om 6 1,od 7 170 [tq 5,tq 6],oc 8 .geq 3 7 0,om 4 8] [0,1,2,3] [2,3]:=⟨rx,rx⟩
def PO:=rg Tryz.f164
@[simp] def AAM:bq:=(.seq (PO 69) (.seq (.cond (.tmp 13) .skip (.exit 0)) (.seq (.block 1 (.seq (PO 1125) (.seq (PO 2661) (.cond (.tmp 30) (.seq (PO 9829) .ret) .skip)))) (PO 485))))
def RL:=AAM
def AZR:bq:=(.seq (PO 2) (.seq (.seq (PO 9) (.block 0 (.loop RL))) (.seq (PO 11) .ret)))
theorem BAF:Tryz.f164.body=some AZR:=by kernel_rfl
@[simp] theorem BHZ:UX 32 RL AAM/\SX 32 (PO 2) [oq 3 (.box (tq 0)),ot 6 false] [0,1,2] [3]/\SX 32 (PO 9) [oz 9 40 3 8,ol 10 38 9,oe 11 10 38,ok 12 0] [1,2,3] [3]/\SX 32 (PO 69) [ob 13 .lss 3 12 11] [1,2,10,11,12] [3]/\SX 32 (PO 1125) [om 14 12,oi 15 38 10 12,ol 16 99 15,oq 8 (.alloc 99),om 7 14,os (.sto 99 (tq 8) (tq 16))] [1,2,10,11,12] [3]/\RX 32 (PO 2661) (.drw [⟨[],[om 17 2,om 18 7],[od 19 132 [tq 17,tq 18]]⟩,⟨[],[ou 20 19,om 21 20,gm 21 true 22 1,gz 21 true 23 99 8 0,gl 21 true 24 3 23,gi 21 true 25 22 22 24,gl 21 true 26 3 25,gz 21 true 27 99 8 1,gl 21 true 28 3 27,gb 21 true 29 .neq 3 26 28,oq 30 (.pick (tq 21) (tq 29) (cb false))],[]⟩]) (some ([1,2,7,8,10,11,12],[3,8]))/\SX 32 (PO 9829) [ot 6 false] [] []/\SX 32 (PO 485) [oc 31 .add 3 12 1,om 12 31] [1,2,10,11,12] [3]/\SX 32 (PO 11) [ot 6 true] [] []/\LX 32 RL [1,2,10,11,12] [3]:=⟨fun _ _=>rfl,rx,rx,rx,rx,rx,rx,rx,rx,lx⟩
def NO:=rg Tryz.f165
@[simp] def AAN:bq:=(lp (NO 535) 15 0 1 (NO 1175) (NO 919))
def eD:=AAN
def AZS:bq:=(.seq (NO 2) (.seq (.seq (NO 9) (.cond (.tmp 7) (NO 21) .skip)) (.seq (NO 11) (.seq (.seq (NO 39) (.block 0 (.loop eD))) (.seq (NO 47) .ret)))))
theorem BAG:Tryz.f165.body=some AZS:=by kernel_rfl
@[simp] theorem BH0:UX 25 eD AAN/\SX 25 (NO 2) [ok 2 0] [0] []/\SX 25 (NO 9) [om 5 0,oe 6 5 22,oc 7 .lss 3 6 1] [0] []/\SX 25 (NO 11) [om 9 0,oq 10 (.oth (.indexAddr 22 (tq 9) (ci 0))),ol 11 3 10,om 3 11] [0] []/\SX 25 (NO 39) [ok 4 1] [0,3] []/\SX 25 (NO 535) [om 12 4,om 13 0,oe 14 13 22,ob 15 .lss 3 12 14] [0,3,4] []/\SX 25 (NO 1175) [om 18 3,om 19 0,om 20 4,oi 21 22 19 20,ol 22 3 21,oq 23 (.oth (.call ⟨.builtin .min,#[tq 18,tq 22],#[3,3]⟩)),om 3 23] [0,3,4] []/\SX 25 (NO 919) [om 16 4,oc 17 .add 3 16 1,om 4 17] [0,3,4] []/\SX 25 (NO 47) [om 24 3,om 2 24] [3] []/\LX 25 eD [0,3,4] []:=⟨fun _ _=>rfl,rx,rx,rx,rx,rx,rx,rx,rx,lx⟩
def AGT:=rg Tryz.f198
def AZT:bq:=(.seq (AGT 2) (.seq (AGT 5) .ret))
theorem BAH:Tryz.f198.body=some AZT:=by kernel_rfl
@[simp] theorem BH1:SX 5 (AGT 2) [ok 2 0] [0] []/\SX 5 (AGT 5) [om 3 0,od 4 165 [tq 3],om 2 4] [0,1,2] [1,2]:=⟨rx,rx⟩
def AGU:=rg Tryz.f186
def AZU:bq:=(.seq (AGU 2) (.seq (AGU 5) .ret))
theorem BAI:Tryz.f186.body=some AZU:=by kernel_rfl
@[simp] theorem BH2:SX 15 (AGU 2) [oq 2 (.box (tq 0)),oq 4 (.alloc 207)] [0,1] []/\RX 15 (AGU 5) (.drw [⟨[],[oz 5 207 2 0,oq 6 (.ldz 3 (tq 5)),om 7 1,oq 8 (.buildS 22 2 [(0,tq 6),(1,tq 7)]),od 9 198 [tq 8],oz 10 207 2 1,oq 11 (.ldz 3 (tq 10)),om 12 1,oq 13 (.oth (.call ⟨.builtin .max,#[tq 11,tq 12],#[3,3]⟩)),oq 14 (.build 207 [(0,tq 9),(1,tq 13)])],[os (.sto 207 (tq 4) (tq 14))]⟩]) (some ([1,2,4],[2,4])):=⟨rx,rx⟩
def aR:=rg Tryz.f196
def AZV:bq:=(.seq (aR 2) (.seq (aR 5) (.seq (aR 11) (.seq (aR 23) (aR 31)))))
theorem b196:Tryz.f196.body=some AZV:=by kernel_rfl
@[simp] theorem BH3:SX 13 (aR 2) [oq 3 (.box (tq 0))] [0,1,2] [3,4,5,9]/\SX 13 (aR 5) [oz 6 40 1 0,ol 7 3 6,oc 8 .add 3 7 1,oq 9 (.mkS 22 (tq 8) (tq 8)),oq 4 (.alloc 22),os (.sto 22 (tq 4) (tq 9))] [1,2,3] [3,4,5,9]/\SX 13 (aR 11) [oq 5 (.alloc 177)] [1,2,3,4] [3,4,5,9]/\SX 13 (aR 23) [oq 10 (.oth (.makeFunc (.func 197) #[] #[tq 4,tq 1,tq 2,tq 3,tq 5])),os (.sto 177 (tq 5) (tq 10))] [1,2,3,4,5] [3,4,5,9]/\SX 13 (aR 31) [ol 11 177 5,oq 12 (.call false none (tq 11) [ci 0])] [5] [3,4,5,9]:=⟨rx,rx,rx,rx,rx⟩
def J8:=rg Tryz.f197
@[simp] def AAO:bq:=(.seq (J8 139) (.seq (.cond (.tmp 31) .skip (.exit 0)) (.seq (.block 1 (.seq (J8 2251) (.seq (J8 5323) (.seq (J8 11467) (.cond (.tmp 42) (.seq (J8 40139) .ret) .skip))))) (J8 971))))
def RM:=AAO
def AAP:bq:=(.seq (J8 2) (.seq (.seq (J8 9) (.cond (.tmp 13) (.seq (J8 37) .ret) .skip)) (.seq (.seq (J8 19) (.block 0 (.loop RM))) (.seq (J8 23) .ret))))
theorem b197:Tryz.f197.body=some AAP:=by kernel_rfl
@[simp] theorem BAJ(n:Nat)(st:XS):AF bk ann kn (n+1) 44 (J8 37) st=QP (KW bk (cfU [20009,30009] (BI bk ann kn n)) (.str [ol 14 40 2,ol 15 22 1,ol 16 22 3,od 17 164 [tq 14,tq 15,tq 16],ou 18 17,om 19 18,gl 19 false 20 193 4,gl 19 false 21 22 1,og 19 false 22 (.call false none (tq 20) [tq 21]),oq 23 (.pick (tq 19) (cb true) (tq 22)),om 7 23]) (CL (some ([1,2,3,4],[])) (MV [] st))) :=
 VC (by kernel_rfl) (by kernel_rfl) (by kernel_rfl) (by kernel_rfl) (by kernel_rfl) (by kernel_rfl)
@[simp] theorem BH4:UX 44 RM AAO/\SX 44 (J8 2) [ot 7 false] [0,1,2,3,4,5] []/\SX 44 (J8 9) [om 10 0,ol 11 22 1,oe 12 11 22,ob 13 .eql 3 10 12] [0,1,2,3,4,5] []/\SX 44 (J8 19) [oz 24 40 2 6,ol 25 23 24,om 26 0,oi 27 23 25 26,ol 28 22 27,oe 29 28 22,ok 30 0] [0,1,2,5] []/\SX 44 (J8 139) [ob 31 .lss 3 30 29] [0,1,5,28,29,30] []/\SX 44 (J8 2251) [oi 32 22 28 30,ol 33 3 32,om 9 33] [0,1,5,28,29,30] []/\SX 44 (J8 5323) [ol 34 22 1,om 35 0,om 36 9,oi 37 22 34 35,os (.sto 3 (tq 37) (tq 36))] [0,1,5,9,28,29,30] []/\SX 44 (J8 11467) [ol 38 177 5,om 39 0,oc 40 .add 3 39 1,oq 41 (.call false none (tq 38) [tq 40]),ou 42 41] [0,1,5,28,29,30] []/\SX 44 (J8 40139) [ot 7 false] [] []/\SX 44 (J8 971) [oc 43 .add 3 30 1,om 30 43] [0,1,5,28,29,30] []/\SX 44 (J8 23) [ot 7 true] [] []/\LX 44 RM [0,1,5,28,29,30] []:=⟨fun _ _=>rfl,rx,rx,rx,rx,rx,rx,rx,rx,rx,rx,lx⟩
def AGV:=rg Tryz.f185
def AZW:bq:=(.seq (AGV 2) (.seq (AGV 5) .ret))
theorem BAK:Tryz.f185.body=some AZW:=by kernel_rfl
@[simp] theorem BH5:SX 6 (AGV 2) [oq 2 (.box (tq 0)),oq 3 (.box (tq 1)),oq 4 (.mv (.const .nilFunc))] [0,1] [2,3]/\SX 6 (AGV 5) [oq 5 (.oth (.makeFunc (.func 196) #[] #[tq 2,tq 3])),om 4 5] [2,3] [2,3]:=⟨rx,rx⟩
def DU:=rg Tryz.f154
@[simp] def rU:bq:=(.seq (DU 36191) (.seq (.cond (.tmp 35) .skip (.exit 2)) (.seq (.block 3 (.seq (DU 576863) (.seq (DU 1363295) (.cond (.tmp 48) (DU 2936159) .skip)))) (DU 249183))))
def JN:=rU
def AAQ:bq:=(.seq (DU 2) (.seq (.seq (DU 9) (.seq (DU 21) (.cond (.tmp 15) (.seq (DU 77) .ret) .skip))) (.seq (.seq (DU 19) (.cond (.tmp 19) (.seq (DU 75) .ret) .skip)) (.seq (DU 23) (.seq (DU 47) (.seq (.seq (DU 159) (.block 0 (.rangeFunc (.tmp 30) #[31] (DU 607) (.block 1 (.seq (DU 2399) (.seq (DU 5471) (.block 2 (.loop JN)))))))) (.seq (.seq (DU 319) (.cond (.tmp 67) (.seq (DU 1215) .ret) .skip)) (.seq (DU 383) .ret))))))))
theorem b154:Tryz.f154.body=some AAQ:=by kernel_rfl
@[simp] theorem A6R(n:Nat)(st:XS):AF bk ann kn (n+1) 69 (DU 1363295) st=QP (KW bk (cfU [20800,20801,20802,20803,20804] (BI bk ann kn n)) (.str [ol 39 233 7,oq 40 (.oth (.nilCheck (tq 39))),oz 41 250 40 1,ol 42 23 41,om 43 10,oi 44 23 42 43,ol 45 22 44,om 46 11,od 47 132 [tq 45,tq 46],ou 48 47]) (CL (some ([7,10,11,32,33,34],[2,7,24,25,26,28,30,63,800,801,802,803,804])) (MV [] st))) :=
 VC (by kernel_rfl) (by kernel_rfl) (by kernel_rfl) (by kernel_rfl) (by kernel_rfl) (by kernel_rfl)
@[simp] theorem A6S(n:Nat)(st:XS):AF bk ann kn (n+1) 69 (DU 249183) st=QP (KW bk (BI bk ann kn n) (.str [oc 65 .add 3 34 1,om 34 65]) (CL (some ([7,32,33,34],[2,7,24,25,26,28,30,63,800,801,802,803,804])) (MV [25008011801063] st))) :=
 EN (by kernel_rfl) (by kernel_rfl) (by kernel_rfl) (by kernel_rfl) (by kernel_rfl)
@[simp] theorem A6T(n:Nat)(st:XS):AF bk ann kn (n+1) 69 (DU 383) st=QP (KW bk (BI bk ann kn n) (.str [ol 68 233 7,om 4 68,ok 5 0]) (CL (some ([7],[2,7,24,25,26,28,30,63,800,801,802,803,804])) (MV [1000000000000024,24,901025,902026,903028] st))) :=
 EN (by kernel_rfl) (by kernel_rfl) (by kernel_rfl) (by kernel_rfl) (by kernel_rfl)
@[simp] theorem BH6:UX 69 JN rU/\SX 69 (DU 2) [oq 2 (.box (tq 0)),oq 4 (.mv (.const (.pointer none))),ok 5 0] [0,1] [2,7,24,25,26,28,30,63,800,801,802,803,804]/\SX 69 (DU 9) [ol 12 40 2,od 13 110 [tq 12],om 6 13] [1,2] [2,7,24,25,26,28,30,63,800,801,802,803,804]/\SX 69 (DU 21) [om 14 6,oc 15 .neq 34 14 0] [1,2,6] [2,7,24,25,26,28,30,63,800,801,802,803,804]/\SX 69 (DU 77) [om 16 6,oq 4 (.mv (.const (.pointer none))),om 5 16] [6] []/\SX 69 (DU 19) [om 17 1,oq 18 (.call false none (tq 17) []),ou 19 18] [1,2] [2,7,24,25,26,28,30,63,800,801,802,803,804]/\SX 69 (DU 75) [oq 4 (.mv (.const (.pointer none))),ok 5 2] [] []/\RX 69 (DU 23) (.drw [⟨[24,25,26,28,7],[oq 20 (.ldz 40 (tq 2)),oz 21 40 2 0,oq 22 (.ldz 3 (tq 21)),oc 23 .add 3 22 1,oq 24 (.mkS 23 (tq 23) (tq 23)),oq 25 (.mkM none),oq 26 (.mkM none),oq 27 (.build 250 [(0,tq 20),(1,tq 24),(2,tq 25),(3,tq 26)]),oq 28 (.box (tq 27)),oq 7 (.alloc 233)],[os (.sto 233 (tq 7) (tq 28))]⟩]) (some ([2],[2,30,63]))/\SX 69 (DU 47) [oq 8 (.alloc 4),os (.sto 4 (tq 8) (cb false))] [2,7] [2,7,24,25,26,28,30,63,800,801,802,803,804]/\SX 69 (DU 159) [ol 29 40 2,od 30 185 [tq 29,.const (.slice none 0 0)]] [2,7,8] [2,7,8,24,25,26,28,30,63,800,801,802,803,804]/\SX 69 (DU 607) [om 9 31] [7,8,31] [2,7,8,24,25,26,28,30,63,800,801,802,803,804]/\SX 69 (DU 2399) [os (.sto 4 (tq 8) (cb true))] [7,8,9] [2,7,8,24,25,26,28,30,63,800,801,802,803,804]/\SX 69 (DU 5471) [om 32 9,oe 33 32 22,ok 34 0] [7,9] [2,7,24,25,26,28,30,63,800,801,802,803,804]/\SX 69 (DU 36191) [ob 35 .lss 3 34 33] [7,32,33,34] [2,7,24,25,26,28,30,63,800,801,802,803,804]/\SX 69 (DU 576863) [om 36 34,oi 37 22 32 34,ol 38 3 37,om 10 36,om 11 38] [7,32,33,34] [2,7,24,25,26,28,30,63,800,801,802,803,804]/\RX 69 (DU 2936159) (.drw [⟨[],[ol 49 233 7,oq 50 (.oth (.nilCheck (tq 49))),oz 51 250 50 1,ol 52 23 51,om 53 10,ol 54 233 7,oq 55 (.oth (.nilCheck (tq 54))),oz 56 250 55 1,ol 57 23 56,om 58 10,oi 59 23 57 58,oq 60 (.ldz 22 (tq 59)),om 61 11,oq 62 (.buildS 22 1 [(0,tq 61)]),oq 63 (.app [tq 60,tq 62] [22,22]),oi 64 23 52 53],[os (.sto 22 (tq 64) (tq 63))]⟩]) (some ([7,10,11,32,33,34],[2,7,24,25,26,28,30,63,800,801,802,803,804]))/\SX 69 (DU 319) [ol 66 4 8,ou 67 66] [7,8] [2,7,8,24,25,26,28,30,63,800,801,802,803,804]/\SX 69 (DU 1215) [oq 4 (.mv (.const (.pointer none))),ok 5 11] [] []/\LX 69 JN [7,32,33,34] [2,7,24,25,26,28,30,63,800,801,802,803,804]:=by and_intros<;>first|exact rx|exact lx|exact fun _ _=>rfl
def aM:=rg Tryz.f68
@[simp] def AKV:bq:=(lp (aM 267) 28 0 1 (aM 587) (aM 459))
def XD:=AKV
@[simp] def AKW:bq:=(lp (aM 535) 46 2 3 (aM 1175) (aM 919))
def XF:=AKW
def c68:bq:=(.seq (aM 2) (.seq (aM 5) (.seq (.seq (aM 19) (.block 0 (.loop XD))) (.seq (.seq (aM 39) (.block 2 (.loop XF))) (.seq (aM 47) .ret)))))
theorem b68:Tryz.f68.body=some c68:=by kernel_rfl
@[simp] theorem x68:UX 68 XD AKV/\UX 68 XF AKW/\SX 68 (aM 2) [oq 1 (.box (tq 0)),oq 2 (.alloc 40)] [0] [1,2,3,16,19,22,40,65]/\RX 68 (aM 5) (.drw [⟨[3],[oz 6 27 1 0,oq 7 (.ldz 3 (tq 6)),oz 8 27 1 1,oq 9 (.ldz 3 (tq 8)),oz 10 27 1 2,oq 11 (.ldz 3 (tq 10)),oz 12 27 1 3,oq 13 (.ldz 3 (tq 12)),oz 14 27 1 4,oq 15 (.ldz 22 (tq 14)),od 16 114 [tq 15],oz 17 27 1 5,oq 18 (.ldz 22 (tq 17)),od 19 114 [tq 18],oz 20 27 1 6,oq 21 (.ldz 23 (tq 20)),od 22 115 [tq 21],oq 23 (.build 40 [(0,tq 7),(1,tq 9),(2,tq 11),(3,tq 13),(4,tq 16),(5,tq 19),(6,tq 22)]),oq 3 (.alloc 40)],[os (.sto 40 (tq 3) (tq 23))]⟩]) (some ([1,2],[1,2,40,65]))/\SX 68 (aM 19) [ok 4 0] [1,2,3] [1,2,3,16,19,22,40,65]/\SX 68 (aM 267) [om 24 4,oz 25 27 1 7,ol 26 24 25,oe 27 26 24,ob 28 .lss 3 24 27] [1,2,3,4] [1,2,3,16,19,22,40,65]/\RX 68 (aM 587) (.drw [⟨[],[oz 31 40 3 7,oq 32 (.ldz 37 (tq 31)),oz 33 27 1 7,ol 34 24 33,om 35 4,oi 36 24 34 35,ol 37 59 36,od 38 48 [tq 37],oq 39 (.buildS 37 1 [(0,tq 38)]),oq 40 (.app [tq 32,tq 39] [37,37]),oz 41 40 3 7],[os (.sto 37 (tq 41) (tq 40))]⟩]) (some ([1,2,3,4],[1,2,3,16,19,22,40,65]))/\SX 68 (aM 459) [om 29 4,oc 30 .add 3 29 1,om 4 30] [1,2,3,4] [1,2,3,16,19,22,40,65]/\SX 68 (aM 39) [ok 5 0] [1,2,3] [1,2,3,16,19,22,40,65]/\SX 68 (aM 535) [om 42 5,oz 43 27 1 8,ol 44 25 43,oe 45 44 25,ob 46 .lss 3 42 45] [1,2,3,5] [1,2,3,16,19,22,40,65]/\RX 68 (aM 1175) (.drw [⟨[],[oz 49 40 3 8,oq 50 (.ldz 38 (tq 49)),oz 51 27 1 8,ol 52 25 51,om 53 5,oi 54 25 52 53,oz 55 188 54 0,ol 56 3 55,oz 57 27 1 8,ol 58 25 57,om 59 5,oi 60 25 58 59,oz 61 188 60 1,ol 62 3 61,oq 63 (.build 99 [(0,tq 56),(1,tq 62)]),oq 64 (.buildS 38 1 [(0,tq 63)]),oq 65 (.app [tq 50,tq 64] [38,38]),oz 66 40 3 8],[os (.sto 38 (tq 66) (tq 65))]⟩]) (some ([1,2,3,5],[1,2,3,16,19,22,40,65]))/\SX 68 (aM 919) [om 47 5,oc 48 .add 3 47 1,om 5 48] [1,2,3,5] [1,2,3,16,19,22,40,65]/\SX 68 (aM 47) [ol 67 40 3,os (.sto 40 (tq 2) (tq 67))] [2,3] [1,2,3,16,19,22,40,65]/\LX 68 XD [1,2,3,4] [1,2,3,16,19,22,40,65]/\LX 68 XF [1,2,3,5] [1,2,3,16,19,22,40,65]:=by and_intros<;>first|exact rx|exact lx|exact fun _ _=>rfl
def IB:=rg Tryz.f157
@[simp] def AAR:bq:=(.seq (IB 71269) (.seq (.cond (.tmp 28) .skip (.exit 2)) (.seq (.block 3 (.seq (IB 1152613) (IB 1676901))) (IB 497253))))
def RN:=AAR
@[simp] def AAS:bq:=(.seq (IB 69) (.seq (.cond (.tmp 20) .skip (.exit 0)) (.seq (.block 1 (.seq (IB 1125) (.seq (IB 2661) (.seq (.seq (IB 9829) (.block 2 (.loop RN))) (IB 7781))))) (IB 485))))
def RO:=AAS
def AZX:bq:=(.seq (IB 2) (.seq (.seq (IB 9) (.block 0 (.loop RO))) (.seq (IB 11) .ret)))
theorem BAL:Tryz.f157.body=some AZX:=by kernel_rfl
@[simp] theorem BH8:UX 66 RN AAR/\UX 66 RO AAS/\SX 66 (IB 2) [oq 4 (.box (tq 0)),oq 7 (.box (tq 3)),oq 8 (.alloc 207)] [0,1,2,3] [4]/\SX 66 (IB 9) [om 14 1,oq 15 (.oth (.nilCheck (tq 14))),oz 16 250 15 1,ol 17 23 16,oe 18 17 23,ok 19 0] [1,2,4,7,8] [4,7,8]/\SX 66 (IB 69) [ob 20 .lss 3 19 18] [1,2,4,7,8,17,18,19] [4,7,8]/\SX 66 (IB 1125) [om 21 19,oi 22 23 17 19,ol 23 22 22,om 9 21,om 10 23] [1,2,4,7,8,17,18,19] [4,7,8]/\SX 66 (IB 2661) [oq 24 (.build 207 [(0,ci 1),(1,ci 0)]),oq 11 (.alloc 207),os (.sto 207 (tq 11) (tq 24))] [1,2,4,7,8,9,10,17,18,19] [4,7,8]/\SX 66 (IB 9829) [om 25 10,oe 26 25 22,ok 27 0] [1,2,4,7,8,9,10,11,17,18,19] [4,7,8,11]/\SX 66 (IB 71269) [ob 28 .lss 3 27 26] [1,2,4,7,8,9,11,17,18,19,25,26,27] [4,7,8,11]/\SX 66 (IB 1152613) [oi 29 22 25 27,ol 30 3 29,om 13 30] [1,2,4,7,8,9,11,17,18,19,25,26,27] [4,7,8,11]/\RX 66 (IB 1676901) (.drw [⟨[],[oq 31 (.ldz 207 (tq 11)),oz 32 238 4 0,oq 33 (.ldz 236 (tq 32)),om 34 1,oq 35 (.oth (.nilCheck (tq 34))),oz 36 250 35 0,oq 37 (.ldz 40 (tq 36)),oq 38 (.ldz 86 (tq 7)),om 39 9,om 40 2,om 41 9,oi 42 23 40 41,oq 43 (.ldz 22 (tq 42)),oz 44 86 7 0,oq 45 (.ldz 3 (tq 44)),oi 46 22 43 45,oq 47 (.ldz 3 (tq 46)),om 48 13,od 49 153 [tq 37,tq 38,tq 39,tq 47,tq 48],oq 50 (.call false none (tq 33) [tq 49])],[oq 51 (.call true none (.func 186) [tq 31,tq 50])]⟩,⟨[],[],[os (.sto 207 (tq 11) (tq 51))]⟩]) (some ([1,2,4,7,8,9,11,13,17,18,19,25,26,27],[4,7,8,11]))/\SX 66 (IB 497253) [oc 52 .add 3 27 1,om 27 52] [1,2,4,7,8,9,11,17,18,19,25,26,27] [4,7,8,11]/\SX 66 (IB 7781) [oz 53 207 8 0,ol 54 3 53,oz 55 207 11 0,ol 56 3 55,ob 57 .add 3 54 56,oz 58 207 8 1,ol 59 3 58,oz 60 207 11 1,ol 61 3 60,ob 62 .add 3 59 61,oq 63 (.build 207 [(0,tq 57),(1,tq 62)]),os (.sto 207 (tq 8) (tq 63))] [1,2,4,7,8,11,17,18,19] [4,7,8,11]/\SX 66 (IB 485) [oc 64 .add 3 19 1,om 19 64] [1,2,4,7,8,17,18,19] [4,7,8]/\SX 66 (IB 11) [ol 65 207 8,os (.sto 207 (tq 8) (tq 65))] [8] [8]/\LX 66 RO [1,2,4,7,8,17,18,19] [4,7,8]/\LX 66 RN [1,2,4,7,8,9,11,17,18,19,25,26,27] [4,7,8,11]:=by and_intros<;>first|exact rx|exact lx|exact fun _ _=>rfl
def AGW:=rg Tryz.f156
def AZY:bq:=(.seq (AGW 2) (.seq (AGW 5) .ret))
theorem BAM:Tryz.f156.body=some AZY:=by kernel_rfl
@[simp] theorem BH9:SX 5 (AGW 2) [oq 1 (.box (tq 0)),ok 2 0] [0] [1]/\SX 5 (AGW 5) [oz 3 155 1 1,ol 4 3 3,om 2 4] [0,1,2] [1,2]:=⟨rx,rx⟩
def AGX:=rg Tryz.f158
def AZZ:bq:=(.seq (AGX 2) (.seq (AGX 5) .ret))
theorem BAN:Tryz.f158.body=some AZZ:=by kernel_rfl
@[simp] theorem BIA:SX 5 (AGX 2) [oq 1 (.box (tq 0)),ok 2 0] [0] [1]/\SX 5 (AGX 5) [oz 3 155 1 2,ol 4 3 3,om 2 4] [0,1,2] [1,2]:=⟨rx,rx⟩
def D4:=rg Tryz.f117
@[simp] def rV:bq:=(.seq (D4 583840559) (.seq (.cond (.tmp 42) .skip (.exit 4)) (.seq (.block 5 (.seq (D4 9442210607) (D4 13737177903))) (D4 4073501487))))
def NP:=rV
@[simp] def rW:bq:=(.seq (D4 570159) (.seq (.cond (.tmp 34) .skip (.exit 2)) (.seq (.block 3 (.seq (D4 9220911) (.seq (D4 21803823) (.seq (.seq (D4 80524079) (.block 4 (.loop NP))) (D4 63746863))))) (D4 3978031))))
def NQ:=rW
@[simp] def AAT:bq:=(.seq (D4 559) (.seq (.cond (.tmp 26) .skip (.exit 0)) (.seq (.block 1 (.seq (D4 9007) (.seq (D4 21295) (.seq (.seq (D4 78639) (.block 2 (.loop NQ))) (D4 62255))))) (D4 3887))))
def RP:=AAT
def AAU:bq:=(.seq (D4 2) (.seq (D4 5) (.seq (.seq (D4 19) (.cond (.tmp 21) (.seq (D4 75) .ret) .skip)) (.seq (D4 23) (.seq (.seq (D4 79) (.block 0 (.loop RP))) (.seq (D4 95) .ret))))))
theorem BAO:Tryz.f117.body=some AAU:=by kernel_rfl
@[simp] theorem BAP(n:Nat)(st:XS):AF bk ann kn (n+1) 90 (D4 23) st=QP (KW bk (BI bk ann kn n) (.str [oq 8 (.mv (.const (.slice none 0 0)))]) (CL (some ([2,3,6],[2,3,17,900,901,902])) (MV [902] st))) :=
 EN (by kernel_rfl) (by kernel_rfl) (by kernel_rfl) (by kernel_rfl) (by kernel_rfl)
@[simp] theorem A6U(n:Nat)(st:XS):AF bk ann kn (n+1) 90 (D4 62255) st=QP (KW bk (BI bk ann kn n) (.str [om 84 8,om 85 10,oq 86 (.buildS 197 1 [(0,tq 85)]),oq 87 (.app [tq 84,tq 86] [197,197]),om 8 87]) (CL (some ([2,3,6,8,10,24,25],[2,3,17,30,87])) (MV [30] st))) :=
 EN (by kernel_rfl) (by kernel_rfl) (by kernel_rfl) (by kernel_rfl) (by kernel_rfl)
@[simp] theorem BIB:UX 90 NP rV/\UX 90 NQ rW/\UX 90 RP AAT/\SX 90 (D4 2) [oq 2 (.box (tq 0)),oq 3 (.box (tq 1)),oq 4 (.mv (.const (.slice none 0 0))),ok 5 0] [0,1] [2,3,17,900,901,902]/\SX 90 (D4 5) [ol 15 40 2,oq 16 (.oth (.makeFunc (.func 155) #[] #[tq 2,tq 3])),od 17 154 [tq 15,tq 16],om 14 17,oq 18 (.oth (.extract (tq 14) 0)),oq 19 (.oth (.extract (tq 14) 1)),om 6 18,om 7 19] [2,3] [2,3,17,900,901,902]/\SX 90 (D4 19) [om 20 7,oc 21 .neq 34 20 0] [2,3,6,7] [2,3,17,900,901,902]/\SX 90 (D4 75) [om 22 7,oq 4 (.mv (.const (.slice none 0 0))),om 5 22] [7] []/\SX 90 (D4 79) [oz 23 40 2 1,ol 24 3 23,ok 25 0] [2,3,6,8] [2,3,17,87]/\SX 90 (D4 559) [ob 26 .lss 3 25 24] [2,3,6,8,24,25] [2,3,17,87]/\SX 90 (D4 9007) [om 27 25,om 9 27] [2,3,6,8,24,25] [2,3,17,87]/\SX 90 (D4 21295) [oz 28 40 2 2,ol 29 3 28,oq 30 (.mkS 204 (tq 29) (tq 29)),om 10 30] [2,3,6,8,9,24,25] [2,3,17,87]/\SX 90 (D4 78639) [om 31 10,oe 32 31 204,ok 33 0] [2,3,6,8,9,10,24,25] [2,3,17,30,87]/\SX 90 (D4 570159) [ob 34 .lss 3 33 32] [2,3,6,8,9,10,24,25,32,33] [2,3,17,30,87]/\SX 90 (D4 9220911) [om 35 33,om 11 35] [2,3,6,8,9,10,24,25,32,33] [2,3,17,30,87]/\SX 90 (D4 21803823) [om 36 9,om 37 11,oq 38 (.build 86 [(0,tq 36),(1,tq 37)]),oq 12 (.alloc 86),os (.sto 86 (tq 12) (tq 38))] [2,3,6,8,9,10,11,24,25,32,33] [2,3,17,30,87]/\SX 90 (D4 80524079) [ol 39 23 3,oe 40 39 23,ok 41 0] [2,3,6,8,9,10,11,12,24,25,32,33] [2,3,12,17,30,87]/\SX 90 (D4 583840559) [ob 42 .lss 3 41 40] [2,3,6,8,9,10,11,12,24,25,32,33,40,41] [2,3,12,17,30,87]/\SX 90 (D4 9442210607) [om 43 41,om 13 43] [2,3,6,8,9,10,11,12,24,25,32,33,40,41] [2,3,12,17,30,87]/\RX 90 (D4 13737177903) (.drw [⟨[],[om 44 10,om 45 11,oi 46 204 44 45,oz 47 209 46 0,oq 48 (.ldz 3 (tq 47)),oq 49 (.ldz 40 (tq 2)),oq 50 (.ldz 86 (tq 12)),om 51 13,oq 52 (.ldz 23 (tq 3)),om 53 13,oi 54 23 52 53,oq 55 (.ldz 22 (tq 54)),om 56 9,oi 57 22 55 56,oq 58 (.ldz 3 (tq 57)),od 59 153 [tq 49,tq 50,tq 51,tq 58,ci 0],oq 60 (.oth (.field 155 (tq 59) 0)),ob 61 .add 3 48 60,oi 62 204 44 45,oz 63 209 62 0,os (.sto 3 (tq 63) (tq 61))],[]⟩]) (some ([2,3,6,8,9,10,11,12,13,24,25,32,33,40,41],[2,3,12,17,30,87]))/\SX 90 (D4 4073501487) [oc 64 .add 3 41 1,om 41 64] [2,3,6,8,9,10,11,12,24,25,32,33,40,41] [2,3,12,17,30,87]/\RX 90 (D4 63746863) (.drw [⟨[73,78],[om 65 10,om 66 11,om 67 10,om 68 11,oq 69 (.build 238 [(0,.func 156)]),om 70 6,oq 71 (.ldz 23 (tq 3)),oq 72 (.ldz 86 (tq 12)),oq 74 (.build 238 [(0,.func 158)]),om 75 6,ol 76 23 3,ol 77 86 12,oq 73 (.call true none (.func 157) [tq 69,tq 70,tq 71,tq 72]),oq 78 (.call true none (.func 157) [tq 74,tq 75,tq 76,tq 77]),oi 79 204 65 66,oz 80 209 79 1,os (.sto 207 (tq 80) (tq 73)),oi 81 204 67 68,oz 82 209 81 2,os (.sto 207 (tq 82) (tq 78))],[]⟩]) (some ([2,3,6,8,9,10,11,12,24,25,32,33],[2,3,12,17,30,87]))/\SX 90 (D4 3978031) [oc 83 .add 3 33 1,om 33 83] [2,3,6,8,9,10,24,25,32,33] [2,3,17,30,87]/\SX 90 (D4 3887) [oc 88 .add 3 25 1,om 25 88] [2,3,6,8,24,25] [2,3,17,87]/\SX 90 (D4 95) [om 89 8,om 4 89,ok 5 0] [8] [87]/\LX 90 RP [2,3,6,8,24,25] [2,3,17,87]/\LX 90 NQ [2,3,6,8,9,10,24,25,32,33] [2,3,17,30,87]/\LX 90 NP [2,3,6,8,9,10,11,12,24,25,32,33,40,41] [2,3,12,17,30,87]:=by and_intros<;>first|exact rx|exact lx|exact fun _ _=>rfl
def AGY:=rg Tryz.f155
def AZ0:bq:=(.seq (AGY 2) (.seq (AGY 5) .ret))
theorem b155:Tryz.f155.body=some AZ0:=by kernel_rfl
@[simp] theorem BIC:SX 6 (AGY 2) [ot 2 false] [0,1] []/\SX 6 (AGY 5) [ol 3 40 0,ol 4 23 1,od 5 111 [tq 3,tq 4],om 2 5] [0,1] []:=⟨rx,rx⟩
def PQ:=rg Tryz.f187
@[simp] def AAV:bq:=(.seq (PQ 69) (.seq (.cond (.tmp 9) .skip (.exit 0)) (.seq (.block 1 (.seq (PQ 1125) (.seq (PQ 2661) (.cond (.tmp 16) (.seq (PQ 9829) .ret) .skip)))) (PQ 485))))
def RQ:=AAV
def AN5:bq:=(.seq (PQ 2) (.seq (.seq (PQ 9) (.block 0 (.loop RQ))) (.seq (PQ 11) .ret)))
theorem b187:Tryz.f187.body=some AN5:=by kernel_rfl
@[simp] theorem BID:UX 19 RQ AAV/\SX 19 (PQ 2) [ok 4 0] [0,1] []/\SX 19 (PQ 9) [om 6 0,oe 7 6 28,ok 8 0] [0,1] []/\SX 19 (PQ 69) [ob 9 .lss 3 8 7] [0,1,7,8] []/\SX 19 (PQ 1125) [om 10 8,om 5 10] [0,1,7,8] []/\SX 19 (PQ 2661) [om 11 1,om 12 0,om 13 5,oi 14 28 12 13,ol 15 97 14,oq 16 (.call false none (tq 11) [tq 15])] [0,1,5,7,8] []/\SX 19 (PQ 9829) [om 17 5,om 4 17] [5] []/\SX 19 (PQ 485) [oc 18 .add 3 8 1,om 8 18] [0,1,3,7,8] []/\SX 19 (PQ 11) [oq 4 (.mv (.const (.int .i64 (bj 0))))] [] []/\LX 19 RQ [0,1,7,8] []:=⟨fun _ _=>rfl,rx,rx,rx,rx,rx,rx,rx,rx,lx⟩
def AGZ:=rg Tryz.f159
def AZ1:bq:=(.seq (AGZ 2) (.seq (AGZ 5) .ret))
theorem b159:Tryz.f159.body=some AZ1:=by kernel_rfl
@[simp] theorem BIE:SX 9 (AGZ 2) [ot 4 false] [0,1] [7]/\SX 9 (AGZ 5) [om 5 0,om 6 1,od 7 187 [tq 5,tq 6],oc 8 .geq 3 7 0,om 4 8] [0,1,2,3] [2,3]:=⟨rx,rx⟩
def AG0:=rg Tryz.f119
def AZ2:bq:=(.seq (AG0 2) (.seq (AG0 5) .ret))
theorem BAQ:Tryz.f119.body=some AZ2:=by kernel_rfl
@[simp] theorem BIF:SX 9 (AG0 2) [oq 3 (.box (tq 1)),ot 4 false] [0,1,2] [3]/\SX 9 (AG0 5) [om 5 0,oq 6 (.oth (.makeFunc (.func 160) #[] #[tq 3])),od 7 159 [tq 5,tq 6],ou 8 7,om 4 8] [0,1,2,3] [2,3]:=⟨rx,rx⟩
def AG1:=rg Tryz.f160
def AZ3:bq:=(.seq (AG1 2) (.seq (AG1 5) .ret))
theorem b160:Tryz.f160.body=some AZ3:=by kernel_rfl
@[simp] theorem BIG:SX 8 (AG1 2) [ot 3 false] [0,1] []/\SX 8 (AG1 5) [ol 4 200 1,om 5 0,oq 6 (.call false none (tq 4) [tq 5]),ou 7 6,om 3 7] [0,1,2] [2]:=⟨rx,rx⟩
def PR:=rg Tryz.f188
@[simp] def AAW:bq:=(.seq (PR 69) (.seq (.cond (.tmp 9) .skip (.exit 0)) (.seq (.block 1 (.seq (PR 1125) (.seq (PR 2661) (.cond (.tmp 16) (.seq (PR 9829) .ret) .skip)))) (PR 485))))
def RT:=AAW
def AN6:bq:=(.seq (PR 2) (.seq (.seq (PR 9) (.block 0 (.loop RT))) (.seq (PR 11) .ret)))
theorem b188:Tryz.f188.body=some AN6:=by kernel_rfl
@[simp] theorem BIH:UX 19 RT AAW/\SX 19 (PR 2) [ok 4 0] [0,1] []/\SX 19 (PR 9) [om 6 0,oe 7 6 41,ok 8 0] [0,1] []/\SX 19 (PR 69) [ob 9 .lss 3 8 7] [0,1,7,8] []/\SX 19 (PR 1125) [om 10 8,om 5 10] [0,1,7,8] []/\SX 19 (PR 2661) [om 11 1,om 12 0,om 13 5,oi 14 41 12 13,ol 15 94 14,oq 16 (.call false none (tq 11) [tq 15])] [0,1,5,7,8] []/\SX 19 (PR 9829) [om 17 5,om 4 17] [5] []/\SX 19 (PR 485) [oc 18 .add 3 8 1,om 8 18] [0,1,3,7,8] []/\SX 19 (PR 11) [oq 4 (.mv (.const (.int .i64 (bj 0))))] [] []/\LX 19 RT [0,1,7,8] []:=⟨fun _ _=>rfl,rx,rx,rx,rx,rx,rx,rx,rx,lx⟩
def AG2:=rg Tryz.f161
def AZ4:bq:=(.seq (AG2 2) (.seq (AG2 5) .ret))
theorem b161:Tryz.f161.body=some AZ4:=by kernel_rfl
@[simp] theorem BII:SX 9 (AG2 2) [ot 4 false] [0,1] [7]/\SX 9 (AG2 5) [om 5 0,om 6 1,od 7 188 [tq 5,tq 6],oc 8 .geq 3 7 0,om 4 8] [0,1,2,3] [2,3]:=⟨rx,rx⟩
def AG3:=rg Tryz.f120
def AZ5:bq:=(.seq (AG3 2) (.seq (AG3 5) .ret))
theorem BAR:Tryz.f120.body=some AZ5:=by kernel_rfl
@[simp] theorem BIJ:SX 9 (AG3 2) [oq 3 (.box (tq 1)),ot 4 false] [0,1,2] [3]/\SX 9 (AG3 5) [om 5 0,oq 6 (.oth (.makeFunc (.func 162) #[] #[tq 3])),od 7 161 [tq 5,tq 6],ou 8 7,om 4 8] [0,1,2,3] [2,3]:=⟨rx,rx⟩
def AG4:=rg Tryz.f162
def AZ6:bq:=(.seq (AG4 2) (.seq (AG4 5) .ret))
theorem b162:Tryz.f162.body=some AZ6:=by kernel_rfl
@[simp] theorem BIK:SX 8 (AG4 2) [oq 2 (.box (tq 0)),ot 3 false] [0,1] []/\SX 8 (AG4 5) [ol 4 203 1,ol 5 94 2,oq 6 (.call false none (tq 4) [tq 5]),ou 7 6,om 3 7] [0,1,2] [2]:=⟨rx,rx⟩
def AG5:=rg Tryz.f163
def AZ7:bq:=(.seq (AG5 2) (.seq (AG5 5) .ret))
theorem BAS:Tryz.f163.body=some AZ7:=by kernel_rfl
@[simp] theorem BIL:SX 15 (AG5 2) [ot 6 false] [0,1,2] []/\SX 15 (AG5 5) [om 7 1,om 8 0,ob 9 .leq 3 7 8,om 10 9,gm 10 true 11 0,gm 10 true 12 2,gb 10 true 13 .leq 3 11 12,oq 14 (.pick (tq 10) (tq 13) (cb false)),om 6 14] [0,1,2] []:=⟨rx,rx⟩
def AG6:=rg Tryz.f121
def AZ8:bq:=(.seq (AG6 2) (.seq (AG6 5) .ret))
theorem BAT:Tryz.f121.body=some AZ8:=by kernel_rfl
@[simp] theorem BIM:SX 11 (AG6 2) [oq 1 (.box (tq 0)),ot 2 false] [0] [1,7,910,911]/\SX 11 (AG6 5) [oz 3 94 1 0,ol 4 3 3,od 5 163 [tq 4,ci 1,ci 4],om 6 5,gz 6 true 7 94 1 1,gl 6 true 8 3 7,gd 6 true 9 163 [tq 8,ci 0,ci 5],oq 10 (.pick (tq 6) (tq 9) (cb false)),om 2 10] [1] [1]:=⟨rx,rx⟩
def AG7:=rg Tryz.f118
def AZ9:bq:=(.seq (AG7 2) (.seq (AG7 5) .ret))
theorem BAU:Tryz.f118.body=some AZ9:=by kernel_rfl
@[simp] theorem BIN:SX 11 (AG7 2) [oq 2 (.box (tq 0)),ot 4 false] [0,1] [2]/\SX 11 (AG7 5) [om 5 1,oe 6 5 97,oz 7 43 2 0,oz 8 40 7 2,ol 9 3 8,ob 10 .eql 3 6 9,om 4 10] [1,2] [2]:=⟨rx,rx⟩
def KC:=rg Tryz.f71
@[simp] def AAX:bq:=(.seq (KC 4561279) (.seq (.cond (.tmp 63) .skip (.exit 2)) (.seq (.block 3 (.seq (KC 73767295) (KC 107321727))) (KC 31824255))))
def RU:=AAX
@[simp] def AAY:bq:=(.seq (KC 4479) (.seq (.cond (.tmp 57) .skip (.exit 0)) (.seq (.block 1 (.seq (KC 72063) (.seq (KC 170367) (.seq (.seq (KC 629119) (.block 2 (.loop RU))) (KC 498047))))) (KC 31103))))
def RV:=AAY
def c71:bq:=(.seq (KC 2) (.seq (.seq (KC 9) (.cond (.tmp 16) (.seq (KC 37) .ret) .skip)) (.seq (KC 11) (.seq (.seq (KC 39) (.cond (.tmp 26) (.seq (KC 151) .ret) .skip)) (.seq (KC 47) (.seq (.seq (KC 159) (.cond (.tmp 49) (.seq (KC 607) .ret) .skip)) (.seq (KC 191) (.seq (.seq (KC 639) (.block 0 (.loop RV))) (.seq (KC 767) .ret)))))))))
theorem b71:Tryz.f71.body=some c71:=by kernel_rfl
@[simp] theorem BAV(n:Nat)(st:XS):AF bk ann kn (n+1) 85 (KC 767) st=QP (KW bk (BI bk ann kn n) (.str [om 84 7,om 2 84,ok 3 0]) (CL (some ([7],[1,22,51,53,80])) (MV [80,911051,912053] st))) :=
 EN (by kernel_rfl) (by kernel_rfl) (by kernel_rfl) (by kernel_rfl) (by kernel_rfl)
@[simp] theorem x71:UX 85 RU AAX/\UX 85 RV AAY/\SX 85 (KC 2) [oq 1 (.box (tq 0)),oq 2 (.mv (.const (.pointer none))),ok 3 0] [0] [1,22,51,53,80]/\SX 85 (KC 9) [oz 13 43 1 3,ol 14 41 13,oe 15 14 41,oc 16 .gtr 3 15 3] [1] [1,22,51,53,80]/\SX 85 (KC 37) [oq 2 (.mv (.const (.pointer none))),ok 3 3] [] []/\SX 85 (KC 11) [oz 18 43 1 0,ol 19 40 18,oz 20 43 1 1,ol 21 23 20,od 22 117 [tq 19,tq 21],om 17 22,oq 23 (.oth (.extract (tq 17) 0)),oq 24 (.oth (.extract (tq 17) 1)),om 4 23,om 5 24] [1] [1,22,51,53,80]/\SX 85 (KC 39) [om 25 5,oc 26 .neq 34 25 0] [1,4,5] [1,22,51,53,80]/\SX 85 (KC 151) [om 27 5,oq 2 (.mv (.const (.pointer none))),om 3 27] [5] []/\SX 85 (KC 47) [ol 28 43 1,oq 29 (.oth (.makeFunc (.func 118) #[tq 28] #[])),om 6 29] [1,4] [1,22,51,53,80]/\SX 85 (KC 159) [oz 30 43 1 2,ol 31 28 30,oe 32 31 28,oz 33 43 1 0,oz 34 40 33 1,ol 35 3 34,ob 36 .neq 3 32 35,om 37 36,gz 37 false 38 43 1 2,gl 37 false 39 28 38,gm 37 false 40 6,gd 37 false 41 119 [tq 39,tq 40],og 37 false 42 (.oth (.unOp .not 4 (tq 41))),oq 43 (.pick (tq 37) (cb true) (tq 42)),om 44 43,gz 44 false 45 43 1 3,gl 44 false 46 41 45,gd 44 false 47 120 [tq 46,.func 121],og 44 false 48 (.oth (.unOp .not 4 (tq 47))),oq 49 (.pick (tq 44) (cb true) (tq 48))] [1,4,6] [1,22,51,53,80]/\SX 85 (KC 607) [oq 2 (.mv (.const (.pointer none))),ok 3 1] [] []/\SX 85 (KC 191) [ol 50 43 1,oq 51 (.mkM none),oq 52 (.build 175 [(0,tq 50),(1,.const (.slice none 0 0)),(2,tq 51)]),oq 53 (.box (tq 52)),om 7 53] [1,4] [1,22,51,53,80]/\SX 85 (KC 639) [om 54 4,oe 55 54 197,ok 56 0] [4,7] [1,22,51,53,80]/\SX 85 (KC 4479) [ob 57 .lss 3 56 55] [7,54,55,56] [1,22,51,53,80]/\SX 85 (KC 72063) [oi 58 197 54 56,ol 59 204 58,om 9 59] [7,54,55,56] [1,22,51,53,80]/\SX 85 (KC 170367) [oq 10 (.alloc 206)] [7,9,54,55,56] [1,22,51,53,80]/\SX 85 (KC 629119) [om 60 9,oe 61 60 204,ok 62 0] [7,9,10,54,55,56] [1,10,22,51,53,80]/\SX 85 (KC 4561279) [ob 63 .lss 3 62 61] [7,10,54,55,56,60,61,62] [1,10,22,51,53,80]/\SX 85 (KC 73767295) [om 64 62,oi 65 204 60 62,ol 66 209 65,oq 12 (.alloc 209),om 11 64,os (.sto 209 (tq 12) (tq 66))] [7,10,54,55,56,60,61,62] [1,10,22,51,53,80]/\SX 85 (KC 107321727) [om 67 11,oz 68 209 12 2,oz 69 207 68 0,ol 70 3 69,oi 71 206 10 67,os (.sto 3 (tq 71) (tq 70))] [7,10,11,12,54,55,56,60,61,62] [1,10,12,22,51,53,80]/\SX 85 (KC 31824255) [oc 72 .add 3 62 1,om 62 72] [7,10,54,55,56,60,61,62] [1,10,22,51,53,80]/\RX 85 (KC 498047) (.drw [⟨[],[om 73 7,om 74 7,oq 75 (.oth (.nilCheck (tq 74))),oz 76 175 75 1,oq 77 (.ldz 172 (tq 76)),ol 78 206 10,oq 79 (.buildS 172 1 [(0,tq 78)]),oq 80 (.app [tq 77,tq 79] [172,172]),oq 81 (.oth (.nilCheck (tq 73))),oz 82 175 81 1,os (.sto 172 (tq 82) (tq 80))],[]⟩]) (some ([7,10,54,55,56],[1,10,22,51,53,80]))/\SX 85 (KC 31103) [oc 83 .add 3 56 1,om 56 83] [7,54,55,56] [1,22,51,53,80]/\LX 85 RV [7,54,55,56] [1,22,51,53,80]/\LX 85 RU [7,10,54,55,56,60,61,62] [1,10,22,51,53,80]:=by and_intros<;>first|exact rx|exact lx|exact fun _ _=>rfl
def g24:=rg Tryz.f24
def c24:bq:=(.seq (g24 2) (.seq (g24 5) (.seq (g24 11) .ret)))
def PS:=rg Tryz.f189
@[simp] def AAZ:bq:=(.seq (PS 69) (.seq (.cond (.tmp 9) .skip (.exit 0)) (.seq (.block 1 (.seq (PS 1125) (.seq (PS 2661) (.cond (.tmp 16) (.seq (PS 9829) .ret) .skip)))) (PS 485))))
def RW:=AAZ
def AG9:bq:=(.seq (PS 2) (.seq (.seq (PS 9) (.block 0 (.loop RW))) (.seq (PS 11) .ret)))
theorem b189:Tryz.f189.body=some AG9:=by kernel_rfl
@[simp] theorem BIO:UX 19 RW AAZ/\SX 19 (PS 2) [ok 4 0] [0,1] []/\SX 19 (PS 9) [om 6 0,oe 7 6 120,ok 8 0] [0,1] []/\SX 19 (PS 69) [ob 9 .lss 3 8 7] [0,1,7,8] []/\SX 19 (PS 1125) [om 10 8,om 5 10] [0,1,7,8] []/\SX 19 (PS 2661) [om 11 1,om 12 0,om 13 5,oi 14 120 12 13,ol 15 153 14,oq 16 (.call false none (tq 11) [tq 15])] [0,1,5,7,8] []/\SX 19 (PS 9829) [om 17 5,om 4 17] [5] []/\SX 19 (PS 485) [oc 18 .add 3 8 1,om 8 18] [0,1,3,7,8] []/\SX 19 (PS 11) [oq 4 (.mv (.const (.int .i64 (bj 0))))] [] []/\LX 19 RW [0,1,7,8] []:=⟨fun _ _=>rfl,rx,rx,rx,rx,rx,rx,rx,rx,lx⟩
def AHA:=rg Tryz.f171
def AN7:bq:=(.seq (AHA 2) (.seq (AHA 5) .ret))
theorem b171:Tryz.f171.body=some AN7:=by kernel_rfl
@[simp] theorem BIP:SX 9 (AHA 2) [ot 4 false] [0,1] [7]/\SX 9 (AHA 5) [om 5 0,om 6 1,od 7 189 [tq 5,tq 6],oc 8 .geq 3 7 0,om 4 8] [0,1,2,3] [2,3]:=⟨rx,rx⟩
def AHB:=rg Tryz.f137
def AN8:bq:=(.seq (AHB 2) (.seq (AHB 5) .ret))
theorem b137:Tryz.f137.body=some AN8:=by kernel_rfl
@[simp] theorem BIQ:SX 9 (AHB 2) [oq 3 (.box (tq 1)),ot 4 false] [0,1,2] [3]/\SX 9 (AHB 5) [om 5 0,oq 6 (.oth (.makeFunc (.func 172) #[] #[tq 3])),od 7 171 [tq 5,tq 6],ou 8 7,om 4 8] [0,1,2,3] [2,3]:=⟨rx,rx⟩
def AHC:=rg Tryz.f172
def A0A:bq:=(.seq (AHC 2) (.seq (AHC 5) .ret))
theorem b172:Tryz.f172.body=some A0A:=by kernel_rfl
@[simp] theorem BIR:SX 8 (AHC 2) [oq 2 (.box (tq 0)),ot 3 false] [0,1] []/\SX 8 (AHC 5) [ol 4 221 1,ol 5 153 2,oq 6 (.call false none (tq 4) [tq 5]),ou 7 6,om 3 7] [0,1,2] [2]:=⟨rx,rx⟩
def vI:=rg Tryz.f173
def A0B:bq:=(.seq (vI 2) (.seq (vI 5) (.seq (vI 11) .ret)))
theorem BAW:Tryz.f173.body=some A0B:=by kernel_rfl
@[simp] theorem BIS:SX 38 (vI 2) [oq 3 (.box (tq 0)),ot 6 false] [0,1,2] [3]/\RX 38 (vI 5) (.drw [⟨[7,8],[oz 9 43 3 3,oq 10 (.ldz 41 (tq 9)),om 11 1,oi 12 41 10 11,oq 13 (.ldz 94 (tq 12)),oz 14 43 3 3,ol 15 41 14,om 16 2,oi 17 41 15 16,ol 18 94 17,oq 7 (.alloc 94),oq 8 (.alloc 94),os (.sto 94 (tq 7) (tq 13))],[os (.sto 94 (tq 8) (tq 18))]⟩]) (some ([1,2,3],[3]))/\SX 38 (vI 11) [om 19 1,om 20 2,ob 21 .neq 3 19 20,om 22 21,gz 22 true 23 94 7 3,gl 22 true 24 4 23,gm 22 true 25 24,gz 25 true 26 94 8 2,gl 25 true 27 4 26,og 22 true 28 (.pick (tq 25) (tq 27) (cb false)),gm 22 true 29 28,gz 29 false 30 94 7 2,gl 29 false 31 4 30,gm 29 false 32 31,gz 32 true 33 94 8 3,gl 32 true 34 4 33,og 29 false 35 (.pick (tq 32) (tq 34) (cb false)),og 22 true 36 (.pick (tq 29) (cb true) (tq 35)),oq 37 (.pick (tq 22) (tq 36) (cb false)),om 6 37] [1,2,7,8] [7,8]:=⟨rx,rx,rx⟩
def aS:=rg Tryz.f139
def AA0:bq:=(.seq (aS 2) (.seq (.seq (aS 9) (.cond (.tmp 14) (.seq (aS 37) .ret) .skip)) (.seq (aS 11) (.seq (aS 23) .ret))))
theorem BAX:Tryz.f139.body=some AA0:=by kernel_rfl
@[simp] theorem BIT:SX 55 (aS 2) [oq 3 (.box (tq 0)),oq 4 (.box (tq 1)),oq 5 (.box (tq 2)),ot 6 false] [0,1,2] [3]/\SX 55 (aS 9) [oz 8 153 4 1,oz 9 86 8 0,ol 10 3 9,oz 11 153 5 1,oz 12 86 11 0,ol 13 3 12,ob 14 .neq 3 10 13] [3,4,5] [3,4,5]/\SX 55 (aS 37) [ot 6 true] [] []/\SX 55 (aS 11) [oz 15 153 4 1,oz 16 86 15 1,ol 17 3 16,oz 18 153 5 1,oz 19 86 18 1,ol 20 3 19,ob 21 .sub 3 17 20,oz 22 153 5 0,oz 23 151 22 1,ol 24 3 23,ob 25 .sub 3 21 24,oz 26 153 5 1,oz 27 86 26 1,ol 28 3 27,oz 29 153 4 1,oz 30 86 29 1,ol 31 3 30,ob 32 .sub 3 28 31,oz 33 153 4 0,oz 34 151 33 1,ol 35 3 34,ob 36 .sub 3 32 35,oq 37 (.oth (.call ⟨.builtin .max,#[tq 25,tq 36],#[3,3]⟩)),om 7 37] [3,4,5] [3,4,5]/\SX 55 (aS 23) [om 38 7,oc 39 .gtr 3 38 0,om 40 39,gm 40 false 41 7,gc 40 false 42 .eql 3 41 0,gm 40 false 43 42,gl 43 true 44 43 3,gz 43 true 45 153 4 0,gz 43 true 46 151 45 0,gl 43 true 47 3 46,gz 43 true 48 153 5 0,gz 43 true 49 151 48 0,gl 43 true 50 3 49,gd 43 true 51 173 [tq 44,tq 47,tq 50],og 43 true 52 (.oth (.unOp .not 4 (tq 51))),og 40 false 53 (.pick (tq 43) (tq 52) (cb false)),oq 54 (.pick (tq 40) (cb true) (tq 53)),om 6 54] [3,4,5,7] [3,4,5]:=⟨rx,rx,rx,rx,rx⟩
def JB:=rg Tryz.f140
@[simp] def AA1:bq:=(.seq (JB 18021) (.seq (.cond (.tmp 17) .skip (.exit 2)) (.seq (.block 3 (.seq (JB 288357) (.seq (JB 681573) (.cond (.tmp 20) (JB 1468005) .skip)))) (JB 124517))))
def RY:=AA1
@[simp] def AA2:bq:=(.seq (JB 69) (.seq (.cond (.tmp 11) .skip (.exit 0)) (.seq (.block 1 (.seq (JB 1125) (.seq (JB 2661) (.block 2 (.loop RY))))) (JB 485))))
def RZ:=AA2
def A0C:bq:=(.seq (JB 2) (.seq (.seq (JB 9) (.block 0 (.loop RZ))) (.seq (JB 11) .ret)))
theorem BAY:Tryz.f140.body=some A0C:=by kernel_rfl
@[simp] theorem BIU:UX 26 RY AA1/\UX 26 RZ AA2/\SX 26 (JB 2) [oq 1 (.box (tq 0)),ok 2 0] [0] [1]/\SX 26 (JB 9) [oz 7 43 1 2,ol 8 28 7,oe 9 8 28,ok 10 0] [1,2] [1]/\SX 26 (JB 69) [ob 11 .lss 3 10 9] [2,8,9,10] [1]/\SX 26 (JB 1125) [oi 12 28 8 10,ol 13 97 12,om 4 13] [2,8,9,10] [1]/\SX 26 (JB 2661) [om 14 4,oe 15 14 97,ok 16 0] [2,4,8,9,10] [1]/\SX 26 (JB 18021) [ob 17 .lss 3 16 15] [2,8,9,10,14,15,16] [1]/\SX 26 (JB 288357) [oi 18 97 14 16,ol 19 4 18,om 6 19] [2,8,9,10,14,15,16] [1]/\SX 26 (JB 681573) [om 20 6] [2,6,8,9,10,14,15,16] [1]/\SX 26 (JB 1468005) [om 21 2,oc 22 .add 3 21 1,om 2 22] [2,8,9,10,14,15,16] [1]/\SX 26 (JB 124517) [oc 23 .add 3 16 1,om 16 23] [2,8,9,10,14,15,16] [1]/\SX 26 (JB 485) [oc 24 .add 3 10 1,om 10 24] [2,8,9,10] [1]/\SX 26 (JB 11) [om 25 2,om 2 25] [2] []/\LX 26 RZ [2,8,9,10] [1]/\LX 26 RY [2,8,9,10,14,15,16] [1]:=by and_intros<;>first|exact rx|exact lx|exact fun _ _=>rfl
def mU:=rg Tryz.f92
@[simp] def AKX:bq:=(.seq (mU 69) (.seq (.cond (.tmp 11) .skip (.exit 0)) (.seq (.block 1 (.seq (mU 1125) (.seq (mU 2661) (.cond (.tmp 18) (mU 5733) .skip)))) (mU 485))))
def XG:=AKX
def c92:bq:=(.seq (mU 2) (.seq (.seq (mU 9) (.block 0 (.loop XG))) (.seq (mU 11) .ret)))
theorem b92:Tryz.f92.body=some c92:=by kernel_rfl
@[simp] theorem x92:UX 28 XG AKX/\SX 28 (mU 2) [oq 2 (.box (tq 0)),oq 4 (.mv (.const (.slice none 0 0)))] [0,1] [2]/\SX 28 (mU 9) [oz 7 43 2 3,ol 8 41 7,oe 9 8 41,ok 10 0] [1,2,4] [2,25]/\SX 28 (mU 69) [ob 11 .lss 3 10 9] [1,4,8,9,10] [2,25]/\SX 28 (mU 1125) [om 12 10,oi 13 41 8 10,ol 14 94 13,oq 6 (.alloc 94),om 5 12,os (.sto 94 (tq 6) (tq 14))] [1,4,8,9,10] [2,25]/\SX 28 (mU 2661) [om 15 1,om 16 5,od 17 132 [tq 15,tq 16],ou 18 17] [1,4,5,6,8,9,10] [2,6,25]/\SX 28 (mU 5733) [om 19 4,om 20 5,oz 21 94 6 0,ol 22 3 21,oq 23 (.build 151 [(0,tq 20),(1,tq 22)]),oq 24 (.buildS 170 1 [(0,tq 23)]),oq 25 (.app [tq 19,tq 24] [170,170]),om 4 25] [1,4,5,6,8,9,10] [2,6,25]/\SX 28 (mU 485) [oc 26 .add 3 10 1,om 10 26] [1,4,8,9,10] [2,25]/\SX 28 (mU 11) [om 27 4,om 4 27] [4] [25]/\LX 28 XG [1,4,8,9,10] [2,25]:=⟨fun _ _=>rfl,rx,rx,rx,rx,rx,rx,rx,rx,lx⟩
def TV:=rg Tryz.f18
@[simp] def AKY:bq:=(lp (TV 267) 31 0 1 (.seq (TV 1099) (.cond (.tmp 40) (.seq (TV 4683) .ret) .skip)) (TV 459))
def XH:=AKY
@[simp] def AKZ:bq:=(lp (TV 535) 45 2 3 (.seq (TV 2199) (.cond (.tmp 54) (.seq (TV 9367) .ret) .skip)) (TV 919))
def XI:=AKZ
def c18:bq:=(.seq (TV 2) (.seq (.seq (TV 9) (.cond (.tmp 26) (.seq (TV 37) .ret) .skip)) (.seq (.seq (TV 19) (.block 0 (.loop XH))) (.seq (.seq (TV 39) (.block 2 (.loop XI))) (.seq (TV 47) .ret)))))
theorem b18:Tryz.f18.body=some c18:=by kernel_rfl
@[simp] theorem x18:UX 55 XH AKY/\UX 55 XI AKZ/\SX 55 (TV 2) [oq 1 (.box (tq 0)),ot 2 false] [0] [1]/\SX 55 (TV 9) [oz 5 31 1 0,ol 6 27 5,od 7 64 [tq 6],ou 8 7,om 9 8,gz 9 false 10 31 1 1,gl 9 false 11 23 10,ge 9 false 12 11 23,gc 9 false 13 .gtr 3 12 7,oq 14 (.pick (tq 9) (cb true) (tq 13)),om 15 14,gz 15 false 16 31 1 2,gl 15 false 17 28 16,ge 15 false 18 17 28,gc 15 false 19 .gtr 3 18 7,oq 20 (.pick (tq 15) (cb true) (tq 19)),om 21 20,gz 21 false 22 31 1 3,gl 21 false 23 29 22,ge 21 false 24 23 29,gc 21 false 25 .gtr 3 24 5,oq 26 (.pick (tq 21) (cb true) (tq 25))] [1] [1]/\SX 55 (TV 37) [ot 2 false] [] []/\SX 55 (TV 19) [ok 3 0] [1] [1]/\SX 55 (TV 267) [om 27 3,oz 28 31 1 1,ol 29 23 28,oe 30 29 23,ob 31 .lss 3 27 30] [1,3] [1]/\SX 55 (TV 1099) [oz 34 31 1 1,ol 35 23 34,om 36 3,oi 37 23 35 36,ol 38 22 37,oe 39 38 22,oc 40 .gtr 3 39 7] [1,3] [1]/\SX 55 (TV 4683) [ot 2 false] [] []/\SX 55 (TV 459) [om 32 3,oc 33 .add 3 32 1,om 3 33] [1,3] [1]/\SX 55 (TV 39) [ok 4 0] [1] [1]/\SX 55 (TV 535) [om 41 4,oz 42 31 1 2,ol 43 28 42,oe 44 43 28,ob 45 .lss 3 41 44] [1,4] [1]/\SX 55 (TV 2199) [oz 48 31 1 2,ol 49 28 48,om 50 4,oi 51 28 49 50,ol 52 97 51,oe 53 52 97,oc 54 .gtr 3 53 7] [1,4] [1]/\SX 55 (TV 9367) [ot 2 false] [] []/\SX 55 (TV 919) [om 46 4,oc 47 .add 3 46 1,om 4 47] [1,4] [1]/\SX 55 (TV 47) [ot 2 true] [] []/\LX 55 XH [1,3] [1]/\LX 55 XI [1,4] [1]:=by and_intros<;>first|exact rx|exact lx|exact fun _ _=>rfl
def rX:=rg Tryz.f69
@[simp] def AK0:bq:=(lp (rX 267) 8 0 1 (rX 587) (rX 459))
def XJ:=AK0
def c69:bq:=(.seq (rX 2) (.seq (rX 5) (.seq (.seq (rX 19) (.block 0 (.loop XJ))) (.seq (rX 23) .ret))))
theorem b69:Tryz.f69.body=some c69:=by kernel_rfl
@[simp] theorem BEO(n:Nat)(st:XS):AF bk ann kn (n+1) 20 (rX 459) st=QP (KW bk (BI bk ann kn n) (.str [om 9 4,oc 10 .add 3 9 1,om 4 10]) (CL (some ([0,3,4],[18])) (MV [16,2000000000000018] st))) :=
 EN (by kernel_rfl) (by kernel_rfl) (by kernel_rfl) (by kernel_rfl) (by kernel_rfl)
@[simp] theorem x69:UX 20 XJ AK0/\SX 20 (rX 2) [oq 2 (.mv (.const (.slice none 0 0)))] [0] []/\SX 20 (rX 5) [oq 3 (.mv (.const (.slice none 0 0)))] [0] []/\SX 20 (rX 19) [ok 4 0] [0,3] [18]/\SX 20 (rX 267) [om 5 4,om 6 0,oe 7 6 23,ob 8 .lss 3 5 7] [0,3,4] [18]/\SX 20 (rX 587) [om 11 3,om 12 0,om 13 4,oi 14 23 12 13,ol 15 22 14,oq 16 (.app [.const (.slice none 0 0),tq 15] [22,22]),oq 17 (.buildS 23 1 [(0,tq 16)]),oq 18 (.app [tq 11,tq 17] [23,23]),om 3 18] [0,3,4] [18]/\SX 20 (rX 23) [om 19 3,om 2 19] [3] [18]/\LX 20 XJ [0,3,4] [18]:=⟨fun _ _=>rfl,rx,rx,rx,rx,rx,rx,lx⟩
def gO:=rg Tryz.f60
@[simp] def AK1:bq:=(lp (gO 535) 13 0 1 (.seq (gO 2199) (.cond (.tmp 21) (gO 5271) .skip)) (gO 919))
def XK:=AK1
def c60:bq:=(.seq (gO 2) (.seq (gO 5) (.seq (gO 11) (.seq (.seq (gO 39) (.block 0 (.loop XK))) (.seq (gO 47) .ret)))))
theorem b60:Tryz.f60.body=some c60:=by kernel_rfl
@[simp] theorem x60:UX 33 XK AK1/\SX 33 (gO 2) [oq 2 (.box (tq 0)),oq 4 (.alloc 31)] [0,1] [2,4,5,30]/\SX 33 (gO 5) [ol 7 31 2,oq 5 (.alloc 31),os (.sto 31 (tq 5) (tq 7))] [1,2,4] [2,4,5,30]/\SX 33 (gO 11) [oz 8 31 5 3,os (.sto 29 (tq 8) (.const (.slice none 0 0)))] [1,2,4,5] [2,4,5,30]/\SX 33 (gO 39) [ok 6 0] [1,2,4,5] [2,4,5,30]/\SX 33 (gO 535) [om 9 6,oz 10 31 2 3,ol 11 29 10,oe 12 11 29,ob 13 .lss 3 9 12] [1,2,4,5,6] [2,4,5,30]/\SX 33 (gO 2199) [om 16 1,om 17 6,oq 18 (.oth (.convert 3 115 (tq 17))),ob 19 .shr 3 16 18,oc 20 .rem 3 19 2,oc 21 .eql 3 20 0] [1,2,4,5,6] [2,4,5,30]/\RX 33 (gO 5271) (.drw [⟨[],[oz 22 31 5 3,oq 23 (.ldz 29 (tq 22)),oz 24 31 2 3,ol 25 29 24,om 26 6,oi 27 29 25 26,ol 28 57 27,oq 29 (.buildS 29 1 [(0,tq 28)]),oq 30 (.app [tq 23,tq 29] [29,29]),oz 31 31 5 3],[os (.sto 29 (tq 31) (tq 30))]⟩]) (some ([1,2,4,5,6],[2,4,5,30]))/\SX 33 (gO 919) [om 14 6,oc 15 .add 3 14 1,om 6 15] [1,2,4,5,6] [2,4,5,30]/\SX 33 (gO 47) [ol 32 31 5,os (.sto 31 (tq 4) (tq 32))] [4,5] [2,4,5,30]/\LX 33 XK [1,2,4,5,6] [2,4,5,30]:=⟨fun _ _=>rfl,rx,rx,rx,rx,rx,rx,rx,rx,rx,lx⟩
def R3:=rg Tryz.f116
@[simp] def AA3:bq:=(lp (R3 133) 9 0 1 (.seq (R3 549) (.cond (.tmp 27) (.seq (R3 2341) .ret) .skip)) (R3 229))
def R4:=AA3
def A0D:bq:=(.seq (R3 2) (.seq (.seq (R3 9) (.block 0 (.loop R4))) (.seq (R3 11) .ret)))
theorem BA1:Tryz.f116.body=some A0D:=by kernel_rfl
@[simp] theorem BIY:UX 34 R4 AA3/\SX 34 (R3 2) [oq 2 (.box (tq 0)),ot 4 false] [0,1] [2]/\SX 34 (R3 9) [ok 5 0] [1,2] [2]/\SX 34 (R3 133) [om 6 5,om 7 1,oe 8 7 23,ob 9 .lss 3 6 8] [1,2,5] [2]/\RX 34 (R3 549) (.drw [⟨[],[om 12 1,om 13 5,oi 14 23 12 13,ol 15 22 14,oe 16 15 22,oz 17 27 2 1,ol 18 3 17,ob 19 .neq 3 16 18,om 20 19,gm 20 false 21 1,gm 20 false 22 5,gi 20 false 23 23 21 22,gl 20 false 24 22 23],[gd 20 false 25 134 [tq 24,ci 0]]⟩,⟨[],[og 20 false 26 (.oth (.unOp .not 4 (tq 25))),oq 27 (.pick (tq 20) (cb true) (tq 26))],[]⟩]) (some ([1,2,5],[2]))/\SX 34 (R3 2341) [ot 4 false] [] []/\SX 34 (R3 229) [om 10 5,oc 11 .add 3 10 1,om 5 11] [1,2,5] [2]/\SX 34 (R3 11) [om 28 1,oe 29 28 23,oz 30 27 2 0,ol 31 3 30,oc 32 .add 3 31 1,ob 33 .eql 3 29 32,om 4 33] [1,2] [2]/\LX 34 R4 [1,2,5] [2]:=⟨fun _ _=>rfl,rx,rx,rx,rx,rx,rx,rx,lx⟩
def gP:=rg Tryz.f27
@[simp] def AK2:bq:=(lp (gP 267) 15 0 1 (.seq (gP 1099) (.cond (.tmp 28) (.seq (gP 4683) .ret) .skip)) (gP 459))
def XL:=AK2
def c27:bq:=(.seq (gP 2) (.seq (.seq (gP 9) (.cond (.tmp 11) (.seq (gP 37) .ret) .skip)) (.seq (.seq (gP 19) (.block 0 (.loop XL))) (.seq (gP 23) .ret))))
theorem b27:Tryz.f27.body=some c27:=by kernel_rfl
@[simp] theorem x27:UX 29 XL AK2/\SX 29 (gP 2) [oq 2 (.box (tq 0)),ot 4 false] [0,1] [2]/\SX 29 (gP 9) [om 6 1,oe 7 6 22,oz 8 27 2 6,ol 9 23 8,oe 10 9 23,ob 11 .neq 3 7 10] [1,2] [2]/\SX 29 (gP 37) [ot 4 false] [] []/\SX 29 (gP 19) [ok 5 0] [1,2] [2]/\SX 29 (gP 267) [om 12 5,om 13 1,oe 14 13 22,ob 15 .lss 3 12 14] [1,2,5] [2]/\RX 29 (gP 1099) (.drw [⟨[],[oz 18 27 2 6,ol 19 23 18,om 20 5,oi 21 23 19 20,ol 22 22 21,om 23 1,om 24 5,oi 25 22 23 24,ol 26 3 25],[od 27 75 [tq 22,tq 26]]⟩,⟨[],[ou 28 27],[]⟩]) (some ([1,2,5],[2]))/\SX 29 (gP 4683) [ot 4 false] [] []/\SX 29 (gP 459) [om 16 5,oc 17 .add 3 16 1,om 5 17] [1,2,5] [2]/\SX 29 (gP 23) [ot 4 true] [] []/\LX 29 XL [1,2,5] [2]:=⟨fun _ _=>rfl,rx,rx,rx,rx,rx,rx,rx,rx,rx,lx⟩
def NF:=rg Tryz.f102
@[simp] def AA4:bq:=(lp (NF 267) 14 0 1 (.seq (NF 1099) (.cond (.tmp 32) (.seq (NF 4683) .ret) .skip)) (NF 459))
def R5:=AA4
def AN9:bq:=(.seq (NF 2) (.seq (.seq (NF 9) (.cond (.tmp 9) (.seq (NF 37) .ret) .skip)) (.seq (.seq (NF 19) (.block 0 (.loop R5))) (.seq (NF 23) .ret))))
theorem BA3:Tryz.f102.body=some AN9:=by kernel_rfl
@[simp] theorem BI0:UX 33 R5 AA4/\SX 33 (NF 2) [oq 2 (.box (tq 0)),ot 4 false] [0,1] [2,4,5,30]/\SX 33 (NF 9) [ol 6 27 2,om 7 1,od 8 27 [tq 6,tq 7],ou 9 8] [1,2] [2]/\SX 33 (NF 37) [ot 4 false] [] []/\SX 33 (NF 19) [ok 5 0] [1,2] [2]/\SX 33 (NF 267) [om 10 5,oz 11 27 2 8,ol 12 25 11,oe 13 12 25,ob 14 .lss 3 10 13] [1,2,5] [2]/\RX 33 (NF 1099) (.drw [⟨[],[om 17 1,oz 18 27 2 8,ol 19 25 18,om 20 5,oi 21 25 19 20,oz 22 188 21 0,ol 23 3 22,oi 24 22 17 23,ol 25 3 24,oz 26 27 2 8,ol 27 25 26,om 28 5,oi 29 25 27 28,oz 30 188 29 1,ol 31 3 30,ob 32 .neq 3 25 31],[]⟩]) (some ([1,2,5],[2]))/\SX 33 (NF 4683) [ot 4 false] [] []/\SX 33 (NF 459) [om 15 5,oc 16 .add 3 15 1,om 5 16] [1,2,5] [2]/\SX 33 (NF 23) [ot 4 true] [] []/\LX 33 R5 [1,2,5] [2]:=⟨fun _ _=>rfl,rx,rx,rx,rx,rx,rx,rx,rx,rx,lx⟩
def gQ:=rg Tryz.f55
@[simp] def AK3:bq:=(lp (gQ 267) 9 0 1 (.seq (gQ 1099) (.seq (gQ 2635) (.cond (.tmp 17) (gQ 5707) .skip))) (gQ 459))
def XM:=AK3
def c55:bq:=(.seq (gQ 2) (.seq (gQ 5) (.seq (.seq (gQ 19) (.block 0 (.loop XM))) (.seq (gQ 23) .ret))))
theorem b55:Tryz.f55.body=some c55:=by kernel_rfl
@[simp] theorem x55:UX 23 XM AK3/\SX 23 (gQ 2) [oq 1 (.box (tq 0)),oq 2 (.mv (.const (.slice none 0 0)))] [0] [1,14]/\SX 23 (gQ 5) [oq 3 (.mv (.const (.slice none 0 0)))] [0,1] [1,14]/\SX 23 (gQ 19) [ok 4 0] [0,1,3] [1,14,21]/\SX 23 (gQ 267) [om 6 4,ol 7 27 1,od 8 100 [tq 7],ob 9 .lss 3 6 8] [1,3,4] [1,14,21]/\SX 23 (gQ 1099) [ol 12 27 1,om 13 4,od 14 101 [tq 12,tq 13],om 5 14] [1,3,4] [1,14,21]/\SX 23 (gQ 2635) [ol 15 27 1,om 16 5,od 17 102 [tq 15,tq 16]] [1,3,4,5] [1,14,21]/\SX 23 (gQ 5707) [om 18 3,om 19 5,oq 20 (.buildS 23 1 [(0,tq 19)]),oq 21 (.app [tq 18,tq 20] [23,23]),om 3 21] [1,3,4,5] [1,14,21]/\SX 23 (gQ 459) [om 10 4,oc 11 .add 3 10 1,om 4 11] [0,1,3,4] [1,14,21]/\SX 23 (gQ 23) [om 22 3,om 2 22] [3] [21]/\LX 23 XM [1,3,4] [1,14,21]:=⟨fun _ _=>rfl,rx,rx,rx,rx,rx,rx,rx,rx,rx,lx⟩
def J6:=rg Tryz.f70
@[simp] def AA5:bq:=(lp (J6 4287) 38 0 1 (.seq (J6 17599) (.cond (.tmp 50) (.seq (J6 74943) .ret) .skip)) (J6 7359))
def R6:=AA5
@[simp] def AA6:bq:=(lp (J6 8575) 55 2 3 (.seq (J6 35199) (.cond (.tmp 75) (.seq (J6 149887) .ret) .skip)) (J6 14719))
def R7:=AA6
def c70:bq:=(.seq (J6 2) (.seq (.seq (J6 9) (.cond (.tmp 9) (.seq (J6 37) .ret) .skip)) (.seq (.seq (J6 19) (.seq (J6 43) (.cond (.tmp 14) (.seq (J6 155) .ret) .skip))) (.seq (.seq (J6 39) (.cond (.tmp 21) (.seq (J6 151) .ret) .skip)) (.seq (.seq (J6 79) (.cond (.tmp 26) (.seq (J6 303) .ret) .skip)) (.seq (.seq (J6 159) (.cond (.tmp 33) (.seq (J6 607) .ret) .skip)) (.seq (.seq (J6 319) (.block 0 (.loop R6))) (.seq (.seq (J6 639) (.block 2 (.loop R7))) (.seq (J6 767) .ret)))))))))
theorem b70:Tryz.f70.body=some c70:=by kernel_rfl
@[simp] theorem x70:UX 76 R6 AA5/\UX 76 R7 AA6/\SX 76 (J6 2) [oq 1 (.box (tq 0)),ok 2 0] [0] [1,24]/\SX 76 (J6 9) [oz 6 31 1 3,ol 7 29 6,oe 8 7 29,oc 9 .gtr 3 8 3] [1] [1,24]/\SX 76 (J6 37) [ok 2 3] [] []/\SX 76 (J6 19) [oz 10 31 1 0,ol 11 27 10,od 12 108 [tq 11],om 3 12] [1] [1,24]/\SX 76 (J6 43) [om 13 3,oc 14 .neq 3 13 0] [1,3] [1,24]/\SX 76 (J6 155) [om 15 3,om 2 15] [3] []/\SX 76 (J6 39) [oz 16 31 1 0,ol 17 27 16,oz 18 31 1 1,ol 19 23 18,od 20 116 [tq 17,tq 19],ou 21 20] [1] [1,24]/\SX 76 (J6 151) [ok 2 2] [] []/\SX 76 (J6 79) [oz 22 31 1 0,ol 23 27 22,od 24 55 [tq 23],oe 25 24 23,oc 26 .eql 3 25 0] [1] [1,24]/\SX 76 (J6 303) [ok 2 11] [] []/\SX 76 (J6 159) [oz 27 31 1 2,ol 28 28 27,oe 29 28 28,oz 30 31 1 0,oz 31 27 30 1,ol 32 3 31,ob 33 .neq 3 29 32] [1] [1,24]/\SX 76 (J6 607) [ok 2 1] [] []/\SX 76 (J6 319) [ok 4 0] [1] [1,24]/\SX 76 (J6 4287) [om 34 4,oz 35 31 1 2,ol 36 28 35,oe 37 36 28,ob 38 .lss 3 34 37] [1,4] [1,24]/\RX 76 (J6 17599) (.drw [⟨[],[oz 41 31 1 2,ol 42 28 41,om 43 4,oi 44 28 42 43,ol 45 97 44,oe 46 45 97,oz 47 31 1 0,oz 48 27 47 2,ol 49 3 48,ob 50 .neq 3 46 49],[]⟩]) (some ([1,4],[1,24]))/\SX 76 (J6 74943) [ok 2 1] [] []/\SX 76 (J6 7359) [om 39 4,oc 40 .add 3 39 1,om 4 40] [1,4] [1,24]/\SX 76 (J6 639) [ok 5 0] [1] [1,24]/\SX 76 (J6 8575) [om 51 5,oz 52 31 1 3,ol 53 29 52,oe 54 53 29,ob 55 .lss 3 51 54] [1,5] [1,24]/\SX 76 (J6 35199) [oz 58 31 1 3,ol 59 29 58,om 60 5,oi 61 29 59 60,oz 62 57 61 0,ol 63 3 62,od 64 57 [tq 63,ci 1,ci 4],ou 65 64,om 66 65,gz 66 false 67 31 1 3,gl 66 false 68 29 67,gm 66 false 69 5,gi 66 false 70 29 68 69,gz 66 false 71 57 70 1,gl 66 false 72 3 71,gd 66 false 73 57 [tq 72,ci 0,ci 5],og 66 false 74 (.oth (.unOp .not 4 (tq 73))),oq 75 (.pick (tq 66) (cb true) (tq 74))] [1,5] [1,24]/\SX 76 (J6 149887) [ok 2 1] [] []/\SX 76 (J6 14719) [om 56 5,oc 57 .add 3 56 1,om 5 57] [1,5] [1,24]/\SX 76 (J6 767) [ok 2 0] [] []/\LX 76 R6 [1,4] [1,24]/\LX 76 R7 [1,5] [1,24]:=by and_intros<;>first|exact rx|exact lx|exact fun _ _=>rfl
def WQ:=rg Tryz.f21
@[simp] def AK4:bq:=(lp (WQ 267) 18 0 1 (WQ 587) (WQ 459))
def XN:=AK4
@[simp] def AK5:bq:=(lp (WQ 535) 36 2 3 (.seq (WQ 2199) (WQ 3223)) (WQ 919))
def XO:=AK5
def c21:bq:=(.seq (WQ 2) (.seq (WQ 5) (.seq (.seq (WQ 19) (.block 0 (.loop XN))) (.seq (.seq (WQ 39) (.block 2 (.loop XO))) (.seq (WQ 47) .ret)))))
theorem b21:Tryz.f21.body=some c21:=by kernel_rfl
@[simp] theorem BER(n:Nat)(st:XS):AF bk ann kn (n+1) 59 (WQ 459) st=QP (KW bk (BI bk ann kn n) (.str [om 19 4,oc 20 .add 3 19 1,om 4 20]) (CL (some ([1,2,3,4],[1,2,3,9,12,30,56])) (MV [28,2000000000000030] st))) :=
 EN (by kernel_rfl) (by kernel_rfl) (by kernel_rfl) (by kernel_rfl) (by kernel_rfl)
@[simp] theorem x21:UX 59 XN AK4/\UX 59 XO AK5/\SX 59 (WQ 2) [oq 1 (.box (tq 0)),oq 2 (.alloc 43)] [0] [1,2,3,9,12,30,56]/\RX 59 (WQ 5) (.drw [⟨[3],[oz 7 31 1 0,oq 8 (.ldz 27 (tq 7)),od 9 68 [tq 8],oz 10 31 1 1,oq 11 (.ldz 23 (tq 10)),od 12 69 [tq 11],oq 13 (.build 43 [(0,tq 9),(1,tq 12)]),oq 3 (.alloc 43)],[os (.sto 43 (tq 3) (tq 13))]⟩]) (some ([1,2],[1,2,30,56]))/\SX 59 (WQ 19) [ok 4 0] [1,2,3] [1,2,3,9,12,30,56]/\SX 59 (WQ 267) [om 14 4,oz 15 31 1 2,ol 16 28 15,oe 17 16 28,ob 18 .lss 3 14 17] [1,2,3,4] [1,2,3,9,12,30,56]/\RX 59 (WQ 587) (.drw [⟨[],[oz 21 43 3 2,ol 22 28 21,oz 23 31 1 2,ol 24 28 23,om 25 4,oi 26 28 24 25,ol 27 97 26,oq 28 (.app [.const (.slice none 0 0),tq 27] [97,97]),oq 29 (.buildS 28 1 [(0,tq 28)]),oq 30 (.app [tq 22,tq 29] [28,28]),oz 31 43 3 2],[os (.sto 28 (tq 31) (tq 30))]⟩]) (some ([1,2,3,4],[1,2,3,9,12,30,56]))/\SX 59 (WQ 39) [ok 5 0] [1,2,3] [1,2,3,9,12,30,56]/\SX 59 (WQ 535) [om 32 5,oz 33 31 1 3,ol 34 29 33,oe 35 34 29,ob 36 .lss 3 32 35] [1,2,3,5] [1,2,3,9,12,30,56]/\SX 59 (WQ 2199) [oz 39 31 1 3,ol 40 29 39,om 41 5,oi 42 29 40 41,ol 43 57 42,oq 6 (.alloc 57),os (.sto 57 (tq 6) (tq 43))] [1,2,3,5] [1,2,3,9,12,30,56]/\SX 59 (WQ 3223) [oz 44 43 3 3,ol 45 41 44,oz 46 57 6 0,ol 47 3 46,oz 48 57 6 1,ol 49 3 48,oz 50 57 6 2,ol 51 4 50,oz 52 57 6 3,ol 53 4 52,oq 54 (.build 94 [(0,tq 47),(1,tq 49),(2,tq 51),(3,tq 53)]),oq 55 (.buildS 41 1 [(0,tq 54)]),oq 56 (.app [tq 45,tq 55] [41,41]),oz 57 43 3 3,os (.sto 41 (tq 57) (tq 56))] [1,2,3,5,6] [1,2,3,6,9,12,30,56]/\SX 59 (WQ 919) [om 37 5,oc 38 .add 3 37 1,om 5 38] [1,2,3,5] [1,2,3,9,12,30,56]/\SX 59 (WQ 47) [ol 58 43 3,os (.sto 43 (tq 2) (tq 58))] [2,3] [1,2,3,9,12,30,56]/\LX 59 XN [1,2,3,4] [1,2,3,9,12,30,56]/\LX 59 XO [1,2,3,5] [1,2,3,9,12,30,56]:=by and_intros<;>first|exact rx|exact lx|exact fun _ _=>rfl
def g3:=rg Tryz.f3
@[simp] def AK6:bq:=(lp (g3 34303) 93 0 1 (.seq (g3 140799) (.seq (g3 337407) (.cond (.tmp 116) (.seq (g3 1254911) .ret) .skip))) (g3 58879))
def nK:=AK6
def c3:bq:=(.seq (g3 2) (.seq (.seq (g3 9) (.cond (.tmp 26) (.seq (g3 37) .ret) .skip)) (.seq (g3 11) (.seq (g3 23) (.seq (.seq (g3 79) (.cond (.tmp 44) (.seq (g3 303) .ret) .skip)) (.seq (.seq (g3 159) (.cond (.tmp 61) (g3 351) .skip)) (.seq (.seq (g3 319) (.cond (.tmp 63) (.seq (g3 1215) .ret) .skip)) (.seq (g3 383) (.seq (.seq (g3 1279) (.cond (.tmp 89) (.seq (g3 4863) .ret) .skip)) (.seq (.seq (g3 2559) (.block 0 (.loop nK))) (.seq (g3 3071) .ret)))))))))))
theorem b3:Tryz.f3.body=some c3:=by kernel_rfl
@[simp] theorem x3:UX 118 nK AK6/\LX 118 nK [1,3,7,10,11] [3,30,32,34,35,41,50,80]:=⟨fun _ _=>rfl,lx⟩
def g54:=rg Tryz.f54
def c54:bq:=(.seq (g54 2) (.seq (g54 5) .ret))
theorem b54:Tryz.f54.body=some c54:=by kernel_rfl
@[simp] theorem x54:SX 10 (g54 2) [oq 1 (.box (tq 0)),ot 2 false] [0] [1]/\SX 10 (g54 5) [ol 3 31 1,od 4 18 [tq 3],om 5 4,gl 5 true 6 31 1,gd 5 true 7 70 [tq 6],gc 5 true 8 .eql 3 7 0,oq 9 (.pick (tq 5) (tq 8) (cb false)),om 2 9] [0,1,2] [1,2,3,4]:=⟨rx,rx⟩
def HP:=rg Tryz.f129
@[simp] def AA7:bq:=(lp (HP 4267) 32 0 1 (.seq (HP 17579) (.seq (HP 42155) (.seq (HP 91307) (.seq (HP 189611) (.cond (.tmp 82) (HP 386219) .skip))))) (HP 7339))
def R8:=AA7
def AOB:bq:=(.seq (HP 2) (.seq (HP 5) (.seq (.seq (HP 19) (.cond (.tmp 19) (.seq (HP 75) (.seq (.seq (HP 299) (.block 0 (.loop R8))) (HP 235))) .skip)) (.seq (HP 23) .ret))))
theorem b129:Tryz.f129.body=some AOB:=by kernel_rfl
@[simp] theorem BI5:UX 94 R8 AA7/\SX 94 (HP 2) [oq 3 (.box (tq 1)),oq 4 (.alloc 158)] [0,1] []/\RX 94 (HP 5) (.drw [⟨[5],[om 10 0,oq 11 (.oth (.nilCheck (tq 10))),oz 12 175 11 2,oq 13 (.ldz 173 (tq 12)),oq 14 (.ldz 153 (tq 3)),oq 15 (.oth (.lookup 173 (tq 13) (tq 14) true)),om 9 15,oq 16 (.oth (.extract (tq 9) 0)),oq 17 (.oth (.extract (tq 9) 1)),oq 5 (.alloc 158),os (.sto 158 (tq 5) (tq 16)),om 6 17],[]⟩]) (some ([0,3,4],[3,4]))/\SX 94 (HP 19) [om 18 6,ou 19 18] [0,3,4,5,6] [3,4,5]/\SX 94 (HP 75) [oz 20 158 5 2,os (.sto 4 (tq 20) (cb true))] [0,3,4,5] [3,4,5]/\SX 94 (HP 299) [oz 21 153 3 1,oz 22 86 21 1,ol 23 3 22,om 7 23] [0,3,4,5] [3,4,5]/\SX 94 (HP 4267) [om 24 7,oz 25 153 3 1,oz 26 86 25 1,ol 27 3 26,oz 28 153 3 0,oz 29 151 28 1,ol 30 3 29,ob 31 .add 3 27 30,ob 32 .lss 3 24 31] [0,3,4,5,7] [3,4,5]/\RX 94 (HP 17579) (.drw [⟨[],[om 35 0,oq 36 (.oth (.nilCheck (tq 35))),oz 37 175 36 1,ol 38 172 37,oz 39 153 3 1,oz 40 86 39 0,ol 41 3 40,om 42 7,oi 43 172 38 41,oi 44 206 43 42,ol 45 3 44,om 8 45],[]⟩]) (some ([0,3,4,5,7],[3,4,5]))/\SX 94 (HP 42155) [oz 46 158 5 0,ol 47 3 46,om 48 8,ob 49 .add 3 47 48,oz 50 158 5 0,os (.sto 3 (tq 50) (tq 49))] [0,3,4,5,7,8] [3,4,5]/\RX 94 (HP 91307) (.drw [⟨[],[oz 51 158 5 2,oq 52 (.ldz 4 (tq 51)),om 53 52,gm 53 true 54 8,gm 53 true 55 0,og 53 true 56 (.oth (.nilCheck (tq 55))),gz 53 true 57 175 56 0,gz 53 true 58 43 57 3,og 53 true 59 (.ldz 41 (tq 58)),gz 53 true 60 153 3 0,gz 53 true 61 151 60 0,og 53 true 62 (.ldz 3 (tq 61)),gi 53 true 63 41 59 62,gz 53 true 64 94 63 1,og 53 true 65 (.ldz 3 (tq 64)),gb 53 true 66 .geq 3 54 65,oq 67 (.pick (tq 53) (tq 66) (cb false)),oz 68 158 5 2],[os (.sto 4 (tq 68) (tq 67))]⟩]) (some ([0,3,4,5,7,8],[3,4,5]))/\RX 94 (HP 189611) (.drw [⟨[],[om 69 0,oq 70 (.oth (.nilCheck (tq 69))),oz 71 175 70 0,oz 72 43 71 2,ol 73 28 72,oz 74 153 3 1,oz 75 86 74 0,ol 76 3 75,oi 77 28 73 76,ol 78 97 77,om 79 7,oi 80 97 78 79,ol 81 4 80,ou 82 81],[]⟩]) (some ([0,3,4,5,7],[3,4,5]))/\SX 94 (HP 386219) [oz 83 158 5 1,ol 84 3 83,oc 85 .add 3 84 1,oz 86 158 5 1,os (.sto 3 (tq 86) (tq 85))] [0,3,4,5,7] [3,4,5]/\SX 94 (HP 7339) [om 33 7,oc 34 .add 3 33 1,om 7 34] [0,3,4,5,7] [3,4,5]/\RX 94 (HP 235) (.drw [⟨[],[om 87 0,oq 88 (.oth (.nilCheck (tq 87))),oz 89 175 88 2,ol 90 173 89,ol 91 153 3,ol 92 158 5],[os (.upd 173 (tq 90) (tq 91) (tq 92))]⟩]) (some ([0,3,4,5],[3,4,5]))/\SX 94 (HP 23) [ol 93 158 5,os (.sto 158 (tq 4) (tq 93))] [4,5] [4,5]/\LX 94 R8 [0,3,4,5,7] [3,4,5]:=by and_intros<;>first|exact rx|exact lx|exact fun _ _=>rfl
def gR:=rg Tryz.f86
@[simp] def AK7:bq:=(.seq (gR 139) (.seq (.cond (.tmp 13) .skip (.exit 0)) (.seq (.block 1 (.seq (gR 2251) (.seq (gR 5323) (gR 7371)))) (gR 971))))
def XP:=AK7
def c86:bq:=(.seq (gR 2) (.seq (gR 5) (.seq (.seq (gR 19) (.block 0 (.loop XP))) (.seq (gR 23) .ret))))
theorem b86:Tryz.f86.body=some c86:=by kernel_rfl
@[simp] theorem x86:UX 38 XP AK7/\SX 38 (gR 2) [oq 4 (.alloc 158)] [0,1] []/\SX 38 (gR 5) [oq 9 (.build 158 [(2,cb true)]),oq 5 (.alloc 158),os (.sto 158 (tq 5) (tq 9))] [0,1,4] [4]/\SX 38 (gR 19) [om 10 1,oe 11 10 120,ok 12 0] [0,1,4,5] [4,5]/\SX 38 (gR 139) [ob 13 .lss 3 12 11] [0,4,5,10,11,12] [4,5]/\SX 38 (gR 2251) [oi 14 120 10 12,ol 15 153 14,oq 7 (.alloc 153),os (.sto 153 (tq 7) (tq 15))] [0,4,5,10,11,12] [4,5]/\SX 38 (gR 5323) [om 16 0,ol 17 153 7,oq 18 (.call true none (.func 129) [tq 16,tq 17]),oq 8 (.alloc 158),os (.sto 158 (tq 8) (tq 18))] [0,4,5,7,10,11,12] [4,5,7]/\SX 38 (gR 7371) [oz 19 158 5 0,ol 20 3 19,oz 21 158 8 0,ol 22 3 21,ob 23 .add 3 20 22,oz 24 158 5 1,ol 25 3 24,oz 26 158 8 1,ol 27 3 26,ob 28 .add 3 25 27,oz 29 158 5 2,ol 30 4 29,om 31 30,gz 31 true 32 158 8 2,gl 31 true 33 4 32,oq 34 (.pick (tq 31) (tq 33) (cb false)),oq 35 (.build 158 [(0,tq 23),(1,tq 28),(2,tq 34)]),os (.sto 158 (tq 5) (tq 35))] [0,4,5,8,10,11,12] [4,5,8]/\SX 38 (gR 971) [oc 36 .add 3 12 1,om 12 36] [0,4,5,10,11,12] [4,5]/\SX 38 (gR 23) [ol 37 158 5,os (.sto 158 (tq 4) (tq 37))] [4,5] [4,5]/\LX 38 XP [0,4,5,10,11,12] [4,5]:=⟨fun _ _=>rfl,rx,rx,rx,rx,rx,rx,rx,rx,rx,lx⟩
def E4:=rg Tryz.f168
@[simp] def AA8:bq:=(.seq (E4 36043) (.seq (.cond (.tmp 41) .skip (.exit 2)) (.seq (.block 3 (.seq (E4 576715) (.seq (E4 1363147) (.seq (.seq (E4 5033163) (.cond (.tmp 61) (.exit 3) .skip)) (.seq (E4 6081739) (.seq (.seq (E4 20761803) (.cond (.tmp 70) (.seq (E4 79482059) .ret) .skip)) (E4 16567499))))))) (E4 249035))))
def R9:=AA8
@[simp] def AA9:bq:=(.seq (E4 139) (.seq (.cond (.tmp 25) .skip (.exit 0)) (.seq (.block 1 (.seq (E4 2251) (.seq (E4 5323) (.block 2 (.loop R9))))) (E4 971))))
def SA:=AA9
def nL:bq:=(.seq (E4 2) (.seq (.seq (E4 9) (.cond (.tmp 14) (.seq (E4 37) .ret) .skip)) (.seq (.seq (E4 19) (.block 0 (.loop SA))) (.seq (E4 23) .ret))))
theorem b168:Tryz.f168.body=some nL:=by kernel_rfl
@[simp] theorem A6W(n:Nat)(st:XS):AF bk ann kn (n+1) 76 (E4 20761803) st=QP (KW bk (BI bk ann kn n) (.str [ol 66 177 5,om 67 0,oc 68 .add 3 67 1,oq 69 (.call false none (tq 66) [tq 68]),ou 70 69]) (CL (some ([0,1,3,4,5,8,23,24,39,40],[10,65])) (MV [8004000922065] st))) :=
 EN (by kernel_rfl) (by kernel_rfl) (by kernel_rfl) (by kernel_rfl) (by kernel_rfl)
@[simp] theorem BI6:UX 76 R9 AA8/\UX 76 SA AA9/\SX 76 (E4 2) [ot 7 false] [0,1,2,3,4,5] [10,65]/\SX 76 (E4 9) [om 11 0,ol 12 170 1,oe 13 12 170,ob 14 .eql 3 11 13] [0,1,2,3,4,5] [10,65]/\SX 76 (E4 37) [ol 15 191 2,ol 16 120 3,oq 17 (.call false none (tq 15) [tq 16]),om 7 17] [2,3] [65]/\SX 76 (E4 19) [ol 18 130 4,oq 19 (.oth (.nilCheck (tq 18))),oz 20 175 19 0,oz 21 43 20 0,oz 22 40 21 1,ol 23 3 22,ok 24 0] [0,1,3,4,5] [10,65]/\SX 76 (E4 139) [ob 25 .lss 3 24 23] [0,1,3,4,5,23,24] [10,65]/\SX 76 (E4 2251) [om 26 24,om 8 26] [0,1,3,4,5,23,24] [10,65]/\RX 76 (E4 5323) (.drw [⟨[],[ol 27 130 4,oq 28 (.oth (.nilCheck (tq 27))),oz 29 175 28 0,oz 30 43 29 0,oz 31 40 30 2,ol 32 3 31,ol 33 170 1,om 34 0,oi 35 170 33 34,oz 36 151 35 1,ol 37 3 36,ob 38 .sub 3 32 37,oc 39 .add 3 38 1,ok 40 0],[]⟩]) (some ([0,1,3,4,5,8,23,24],[10,65]))/\SX 76 (E4 36043) [ob 41 .lss 3 40 39] [0,1,3,4,5,8,23,24,39,40] [10,65]/\SX 76 (E4 576715) [om 42 40,om 9 42] [0,1,3,4,5,8,23,24,39,40] [10,65]/\SX 76 (E4 1363147) [ol 43 170 1,om 44 0,oi 45 170 43 44,ol 46 151 45,om 47 8,om 48 9,oq 49 (.build 86 [(0,tq 47),(1,tq 48)]),oq 50 (.build 153 [(0,tq 46),(1,tq 49)]),oq 10 (.alloc 153),os (.sto 153 (tq 10) (tq 50))] [0,1,3,4,5,8,9,23,24,39,40] [10,65]/\SX 76 (E4 5033163) [ol 51 130 4,ol 52 153 10,od 53 129 [tq 51,tq 52],oq 54 (.oth (.field 158 (tq 53) 2)),ou 55 54,om 56 55,gl 56 false 57 120 3,og 56 false 58 (.oth (.makeFunc (.func 169) #[] #[tq 4,tq 10])),gd 56 false 59 137 [tq 57,tq 58],og 56 false 60 (.oth (.unOp .not 4 (tq 59))),oq 61 (.pick (tq 56) (cb true) (tq 60))] [0,1,3,4,5,8,10,23,24,39,40] [10,65]/\SX 76 (E4 6081739) [ol 62 120 3,ol 63 153 10,oq 64 (.buildS 120 1 [(0,tq 63)]),oq 65 (.app [tq 62,tq 64] [120,120]),os (.sto 120 (tq 3) (tq 65))] [0,1,3,4,5,8,10,23,24,39,40] [10,65]/\SX 76 (E4 79482059) [ot 7 false] [] []/\SX 76 (E4 16567499) [ol 71 120 3,om 72 0,oq 73 (.oth (.slice 120 (tq 71) none (some (tq 72)) none)),os (.sto 120 (tq 3) (tq 73))] [0,1,3,4,5,8,23,24,39,40] [10,65]/\SX 76 (E4 249035) [oc 74 .add 3 40 1,om 40 74] [0,1,3,4,5,8,23,24,39,40] [10,65]/\SX 76 (E4 971) [oc 75 .add 3 24 1,om 24 75] [0,1,3,4,5,23,24] [10,65]/\SX 76 (E4 23) [ot 7 true] [] []/\LX 76 SA [0,1,3,4,5,23,24] [10,65]/\LX 76 R9 [0,1,3,4,5,8,23,24,39,40] [10,65]:=by and_intros<;>first|exact rx|exact lx|exact fun _ _=>rfl
def AHD:=rg Tryz.f169
def A0G:bq:=(.seq (AHD 2) (.seq (AHD 5) .ret))
theorem b169:Tryz.f169.body=some A0G:=by kernel_rfl
@[simp] theorem BI7:SX 12 (AHD 2) [oq 3 (.box (tq 0)),ot 4 false] [0,1,2] []/\RX 12 (AHD 5) (.drw [⟨[],[ol 5 130 1,oq 6 (.oth (.nilCheck (tq 5))),oz 7 175 6 0,ol 8 43 7,ol 9 153 2,ol 10 153 3],[od 11 139 [tq 8,tq 9,tq 10]]⟩,⟨[],[om 4 11],[]⟩]) (some ([1,2,3],[3])):=⟨rx,rx⟩
def AHE:=rg Tryz.f128
def AHF:bq:=(.seq (AHE 2) (.seq (AHE 5) .ret))
theorem b128:Tryz.f128.body=some AHF:=by kernel_rfl
@[simp] theorem BI8:SX 6 (AHE 2) [oq 2 (.box (tq 0)),oq 3 (.box (tq 1)),oq 4 (.mv (.const .nilFunc))] [0,1] [2,3]/\SX 6 (AHE 5) [oq 5 (.oth (.makeFunc (.func 167) #[] #[tq 3,tq 2])),om 4 5] [2,3] [2,3]:=⟨rx,rx⟩
def JC:=rg Tryz.f167
@[simp] def ABA:bq:=(.seq (JC 139) (.seq (.cond (.tmp 12) .skip (.exit 0)) (.seq (.block 1 (.seq (JC 2251) (JC 3275))) (JC 971))))
def SB:=ABA
def vJ:bq:=(.seq (JC 2) (.seq (JC 5) (.seq (.seq (JC 19) (.block 0 (.loop SB))) (.seq (.seq (JC 39) (.cond (.tmp 26) .ret .skip)) (.seq (JC 47) (.seq (JC 95) (.seq (JC 191) (JC 255))))))))
theorem b167:Tryz.f167.body=some vJ:=by kernel_rfl
@[simp] theorem BI9:UX 30 SB ABA/\SX 30 (JC 2) [oq 3 (.box (tq 0))] [0,1,2] [3,7,8]/\SX 30 (JC 5) [ok 4 0] [1,2,3] [3,7,8]/\SX 30 (JC 19) [ol 9 170 1,oe 10 9 170,ok 11 0] [1,2,3,4] [3,7,8]/\SX 30 (JC 139) [ob 12 .lss 3 11 10] [1,2,3,4,9,10,11] [3,7,8]/\SX 30 (JC 2251) [oi 13 170 9 11,ol 14 151 13,oq 6 (.alloc 151),os (.sto 151 (tq 6) (tq 14))] [1,2,3,4,9,10,11] [3,7,8]/\SX 30 (JC 3275) [om 15 4,oz 16 151 6 1,ol 17 3 16,ob 18 .add 3 15 17,om 4 18] [1,2,3,4,6,9,10,11] [3,6,7,8]/\SX 30 (JC 971) [oc 19 .add 3 11 1,om 11 19] [1,2,3,4,9,10,11] [3,7,8]/\SX 30 (JC 39) [om 20 4,ol 21 130 2,oq 22 (.oth (.nilCheck (tq 21))),oz 23 175 22 0,ol 24 43 23,od 25 140 [tq 24],ob 26 .gtr 3 20 25] [1,2,3,4] [3,7,8]/\SX 30 (JC 47) [oq 7 (.alloc 120)] [1,2,3] [3,7,8]/\SX 30 (JC 95) [oq 8 (.alloc 177)] [1,2,3,7] [3,7,8]/\SX 30 (JC 191) [oq 27 (.oth (.makeFunc (.func 168) #[] #[tq 1,tq 3,tq 7,tq 2,tq 8])),os (.sto 177 (tq 8) (tq 27))] [1,2,3,7,8] [3,7,8]/\SX 30 (JC 255) [ol 28 177 8,oq 29 (.call false none (tq 28) [ci 0])] [6,7,8,21,22] [1,3,4,6,7,8,11,910,911]/\LX 30 SB [1,2,3,4,9,10,11] [3,7,8]:=⟨fun _ _=>rfl,rx,rx,rx,rx,rx,rx,rx,rx,rx,rx,rx,rx,lx⟩
def g91:=rg Tryz.f91
def c91:bq:=(.seq (g91 2) (.seq (.seq (g91 9) (.block 0 (.rangeFunc (.tmp 7) #[8] .skip (.block 1 (.seq (g91 149) .ret))))) (.seq (g91 11) .ret)))
theorem b91:Tryz.f91.body=some c91:=by kernel_rfl
@[simp] theorem x91:SX 9 (g91 2) [oq 4 (.alloc 4)] [0,1] [7]/\SX 9 (g91 9) [om 5 0,om 6 1,od 7 128 [tq 5,tq 6]] [0,1,4] [4,7]/\SX 9 (g91 149) [os (.sto 4 (tq 4) (cb true))] [4] [4]/\SX 9 (g91 11) [os (.sto 4 (tq 4) (cb false))] [4] [4]:=⟨rx,rx,rx,rx⟩
def mV:=rg Tryz.f94
@[simp] def AK8:bq:=(lp (mV 267) 19 0 1 (.seq (mV 1099) (.cond (.tmp 40) (.seq (mV 4683) .ret) .skip)) (mV 459))
def XQ:=AK8
def c94:bq:=(.seq (mV 2) (.seq (mV 5) (.seq (.seq (mV 19) (.block 0 (.loop XQ))) (.seq (mV 23) .ret))))
theorem b94:Tryz.f94.body=some c94:=by kernel_rfl
@[simp] theorem x94:UX 41 XQ AK8/\SX 41 (mV 2) [ot 4 false] [0,1] [29,39]/\SX 41 (mV 5) [om 7 0,oq 8 (.oth (.nilCheck (tq 7))),oz 9 175 8 0,oz 10 43 9 3,ol 11 41 10,om 12 1,oi 13 41 11 12,oz 14 94 13 0,ol 15 3 14,om 5 15] [0,1] [29,39]/\SX 41 (mV 19) [ok 6 1] [0,1,5] [29,39]/\SX 41 (mV 267) [om 16 6,om 17 5,oc 18 .quo 3 17 2,ob 19 .leq 3 16 18] [0,1,5,6] [29,39]/\SX 41 (mV 1099) [om 22 0,om 23 0,oq 24 (.oth (.nilCheck (tq 23))),oz 25 175 24 0,ol 26 43 25,om 27 1,oq 28 (.buildS 22 1 [(0,tq 27)]),oq 29 (.call true none (.func 92) [tq 26,tq 28]),om 30 1,om 31 6,oq 32 (.build 151 [(0,tq 30),(1,tq 31)]),om 33 1,om 34 5,om 35 6,ob 36 .sub 3 34 35,oq 37 (.build 151 [(0,tq 33),(1,tq 36)]),oq 38 (.buildS 170 2 [(0,tq 32),(1,tq 37)]),oq 39 (.app [tq 29,tq 38] [170,170]),oq 40 (.call false (some 39) (.func 91) [tq 22,tq 39])] [0,1,5,6] [29,39]/\SX 41 (mV 4683) [ot 4 true] [] []/\SX 41 (mV 459) [om 20 6,oc 21 .add 3 20 1,om 6 21] [0,1,5,6] [29,39]/\SX 41 (mV 23) [ot 4 false] [] []/\LX 41 XQ [0,1,5,6] [29,39]:=⟨fun _ _=>rfl,rx,rx,rx,rx,rx,rx,rx,rx,lx⟩
def H6:=rg Tryz.f85
@[simp] def AK9:bq:=(.seq (H6 17877) (.seq (.cond (.tmp 45) .skip (.exit 2)) (.seq (.block 3 (.seq (H6 288213) (H6 419285))) (H6 124373))))
def NR:=AK9
def c85:bq:=(.seq (H6 2) (.seq (.seq (H6 9) (.block 0 (.rangeFunc (.tmp 15) #[16] (H6 37) (.block 1 (.seq (H6 149) (.seq (.seq (H6 597) (.cond (.tmp 41) (.exit 1) .skip)) (.seq (H6 725) (.seq (.seq (H6 2517) (.block 2 (.loop NR))) (H6 2005))))))))) (.seq (H6 11) .ret)))
theorem b85:Tryz.f85.body=some c85:=by kernel_rfl
@[simp] theorem BA7(n:Nat)(st:XS):AF bk ann kn (n+1) 58 (H6 124373) st=QP (KW bk (BI bk ann kn n) (.str [oc 53 .add 3 44 1,om 44 53]) (CL (some ([2,3,4,6,42,43,44],[2,3,4,6,52,922])) (MV [3003000923052] st))) :=
 EN (by kernel_rfl) (by kernel_rfl) (by kernel_rfl) (by kernel_rfl) (by kernel_rfl)
@[simp] theorem BA8(n:Nat)(st:XS):AF bk ann kn (n+1) 58 (H6 11) st=QP (KW bk (BI bk ann kn n) (.cls [(37,(2,55)),(158,(3,56)),(4,(4,57))]) (CL (some ([2,3,4],[2,3,4,52,922])) (MV [922] st))) :=
 EN (by kernel_rfl) (by kernel_rfl) (by kernel_rfl) (by kernel_rfl) (by kernel_rfl)
@[simp] theorem x85:UX 58 NR AK9/\SX 58 (H6 2) [oq 1 (.box (tq 0)),oq 2 (.alloc 37),oq 3 (.alloc 158),oq 4 (.alloc 4)] [0] [1,10,14,15,32,36]/\RX 58 (H6 9) (.drw [⟨[],[ol 9 130 1,ol 10 130 1,oq 11 (.oth (.nilCheck (tq 10))),oz 12 175 11 0,ol 13 43 12,od 14 92 [tq 13,.const (.slice none 0 0)]],[od 15 128 [tq 9,tq 14]]⟩,⟨[],[],[]⟩]) (some ([1,2,3,4],[1,2,3,4,52,922]))/\SX 58 (H6 37) [om 5 16] [1,2,3,4,16] [1,2,3,4,14,15,52,922]/\SX 58 (H6 149) [ol 17 130 1,om 18 5,oq 19 (.call true none (.func 86) [tq 17,tq 18]),oq 6 (.alloc 158),os (.sto 158 (tq 6) (tq 19))] [1,2,3,4,5] [1,2,3,4,14,15,52,922]/\SX 58 (H6 597) [ol 20 4 4,om 21 20,gz 21 true 22 158 6 0,gl 21 true 23 3 22,gz 21 true 24 158 3 0,gl 21 true 25 3 24,gb 21 true 26 .lss 3 23 25,gm 21 true 27 26,gz 27 false 28 158 6 0,gl 27 false 29 3 28,gz 27 false 30 158 3 0,gl 27 false 31 3 30,gb 27 false 32 .eql 3 29 31,gm 27 false 33 32,gz 33 true 34 158 6 1,gl 33 true 35 3 34,gz 33 true 36 158 3 1,gl 33 true 37 3 36,gb 33 true 38 .geq 3 35 37,og 27 false 39 (.pick (tq 33) (tq 38) (cb false)),og 21 true 40 (.pick (tq 27) (cb true) (tq 39)),oq 41 (.pick (tq 21) (tq 40) (cb false))] [2,3,4,5,6] [2,3,4,6,52,922]/\SX 58 (H6 725) [os (.sto 37 (tq 2) (.const (.slice none 0 0)))] [2,3,4,5,6] [2,3,4,6,52,922]/\SX 58 (H6 2517) [om 42 5,oe 43 42 120,ok 44 0] [2,3,4,5,6] [2,3,4,6,52,922]/\SX 58 (H6 17877) [ob 45 .lss 3 44 43] [2,3,4,6,42,43,44] [2,3,4,6,52,922]/\SX 58 (H6 288213) [oi 46 120 42 44,ol 47 153 46,oq 8 (.alloc 153),os (.sto 153 (tq 8) (tq 47))] [2,3,4,6,42,43,44] [2,3,4,6,52,922]/\SX 58 (H6 419285) [ol 48 37 2,oz 49 153 8 1,ol 50 86 49,oq 51 (.buildS 37 1 [(0,tq 50)]),oq 52 (.app [tq 48,tq 51] [37,37]),os (.sto 37 (tq 2) (tq 52))] [2,3,4,6,8,42,43,44] [2,3,4,6,8,52,922]/\SX 58 (H6 2005) [ol 54 158 6,os (.sto 158 (tq 3) (tq 54)),os (.sto 4 (tq 4) (cb true))] [3,4,6] [3,4,6]/\LX 58 NR [2,3,4,6,42,43,44] [2,3,4,6,52,922]:=⟨fun _ _=>rfl,rx,rx,rx,rx,rx,rx,rx,rx,rx,rx,rx,lx⟩
def mW:=rg Tryz.f33
def c33:bq:=(.seq (mW 2) (.seq (mW 5) (.seq (.seq (mW 19) (.cond (.tmp 15) (.seq (mW 75) .ret) .skip)) (.seq (mW 23) (.seq (.seq (mW 79) (.cond (.tmp 24) (.seq (mW 303) .ret) .skip)) (.seq (mW 95) .ret))))))
theorem b33:Tryz.f33.body=some c33:=by kernel_rfl
@[simp] theorem x33:SX 30 (mW 2) [oq 1 (.box (tq 0)),oq 2 (.mv (.const (.slice none 0 0))),ok 3 0,ok 4 0,ok 5 0] [0] [1,11,19,910,911]/\SX 30 (mW 5) [ol 10 43 1,od 11 71 [tq 10],om 9 11,oq 12 (.oth (.extract (tq 9) 0)),oq 13 (.oth (.extract (tq 9) 1)),om 6 12,om 5 13] [1] [1,11,19,910,911]/\SX 30 (mW 19) [om 14 5,oc 15 .neq 34 14 0] [1,4,5,6] [1,4,6,7,11,19,910,911]/\SX 30 (mW 75) [om 16 5,oq 2 (.mv (.const (.slice none 0 0))),ok 3 0,ok 4 0,om 5 16] [5] []/\SX 30 (mW 23) [om 18 6,od 19 85 [tq 18],om 17 19,oq 20 (.oth (.extract (tq 17) 0)),oq 21 (.oth (.extract (tq 17) 1)),oq 22 (.oth (.extract (tq 17) 2)),oq 7 (.alloc 158),om 2 20,os (.sto 158 (tq 7) (tq 21)),om 8 22] [6] [1,11,19,910,911]/\SX 30 (mW 79) [om 23 8,ou 24 23] [2,7,8] [1,7,11,19,910,911]/\SX 30 (mW 303) [oq 2 (.mv (.const (.slice none 0 0))),ok 3 0,ok 4 0,ok 5 10] [] []/\RX 30 (mW 95) (.drw [⟨[],[om 25 2,oz 26 158 7 0,ol 27 3 26,oz 28 158 7 1,ol 29 3 28,om 2 25,om 3 27,om 4 29,ok 5 0],[]⟩]) (some ([2,7],[1,7,11,19,910,911])):=by and_intros<;>exact rx
def TW:=rg Tryz.f42
@[simp] def ALA:bq:=(.seq (TW 1119) (.seq (.cond (.tmp 27) .skip (.exit 0)) (.seq (.block 1 (.seq (TW 18015) (.seq (TW 42591) (.cond (.tmp 31) (TW 91743) .skip)))) (TW 7775))))
def XR:=ALA
def c42:bq:=(.seq (TW 2) (.seq (TW 5) (.seq (.seq (TW 19) (.cond (.tmp 14) (.seq (TW 75) .ret) .skip)) (.seq (.seq (TW 39) (.cond (.tmp 22) (.seq (TW 151) .ret) .skip)) (.seq (TW 47) (.seq (.seq (TW 159) (.block 0 (.loop XR))) (.seq (TW 191) .ret)))))))
theorem b42:Tryz.f42.body=some c42:=by kernel_rfl
@[simp] theorem x42:UX 38 XR ALA/\SX 38 (TW 2) [oq 1 (.box (tq 0)),oq 2 (.mv (.const (.slice none 0 0))),ok 3 0] [0] [1,10,21,910,911]/\SX 38 (TW 5) [ol 9 43 1,od 10 71 [tq 9],om 8 10,oq 11 (.oth (.extract (tq 8) 0)),oq 12 (.oth (.extract (tq 8) 1)),om 4 11,om 5 12] [1] [1,10,21,910,911]/\SX 38 (TW 19) [om 13 5,oc 14 .neq 34 13 0] [1,4,5] [1,10,21,910,911]/\SX 38 (TW 75) [om 15 5,oq 2 (.mv (.const (.slice none 0 0))),om 3 15] [5] []/\SX 38 (TW 39) [om 16 4,om 17 4,oq 18 (.oth (.nilCheck (tq 17))),oz 19 175 18 0,ol 20 43 19,od 21 92 [tq 20,.const (.slice none 0 0)],od 22 91 [tq 16,tq 21]] [1,4] [1,10,21,910,911]/\SX 38 (TW 151) [oq 2 (.mv (.const (.slice none 0 0))),ok 3 7] [] []/\SX 38 (TW 47) [oq 6 (.mv (.const (.slice none 0 0)))] [1,4] [1,10,21,910,911]/\SX 38 (TW 159) [oz 23 43 1 3,ol 24 41 23,oe 25 24 41,ok 26 0] [1,4,6] [1,10,21,35,910,911]/\SX 38 (TW 1119) [ob 27 .lss 3 26 25] [4,6,25,26] [1,10,21,35,910,911]/\SX 38 (TW 18015) [om 28 26,om 7 28] [4,6,25,26] [1,10,21,35,910,911]/\SX 38 (TW 42591) [om 29 4,om 30 7,od 31 94 [tq 29,tq 30]] [4,6,7,25,26] [1,10,21,35,910,911]/\SX 38 (TW 91743) [om 32 6,om 33 7,oq 34 (.buildS 22 1 [(0,tq 33)]),oq 35 (.app [tq 32,tq 34] [22,22]),om 6 35] [4,6,7,25,26] [1,10,21,35,910,911]/\SX 38 (TW 7775) [oc 36 .add 3 26 1,om 26 36] [4,6,25,26] [1,10,21,35,910,911]/\SX 38 (TW 191) [om 37 6,om 2 37,ok 3 0] [6] [35]/\LX 38 XR [4,6,25,26] [1,10,21,35,910,911]:=by and_intros<;>first|exact rx|exact lx|exact fun _ _=>rfl
def PT:=rg Tryz.f16
@[simp] def ABC:bq:=(lp (PT 4287) 48 0 1 (.seq (.seq (PT 33983) (.cond (.tmp 93) (.seq (PT 148671) .ret) .skip)) (.seq (PT 42175) (.seq (PT 91327) (.cond (.tmp 110) (.seq (PT 320703) .ret) .skip)))) (PT 7359))
def L5:=ABC
def c16:bq:=(.seq (PT 2) (.seq (.seq (PT 9) (.cond (.tmp 16) (.seq (PT 37) .ret) .skip)) (.seq (PT 11) (.seq (PT 23) (.seq (.seq (PT 79) (.cond (.tmp 33) (.seq (PT 303) .ret) .skip)) (.seq (.seq (PT 159) (.cond (.tmp 44) (.seq (PT 607) .ret) .skip)) (.seq (.seq (PT 319) (.block 0 (.loop L5))) (.seq (PT 383) .ret))))))))
theorem b16:Tryz.f16.body=some c16:=by kernel_rfl
@[simp] theorem x16:UX 112 L5 ABC/\SX 112 (PT 2) [oq 1 (.box (tq 0)),ot 2 false] [0] [1,20,21,26,27,102,103,104]/\SX 112 (PT 9) [ol 14 31 1,od 15 54 [tq 14],ou 16 15] [1] [1,20,21,26,27,102,103,104]/\SX 112 (PT 37) [od 17 19 [],om 2 17] [] []/\SX 112 (PT 11) [ol 19 31 1,od 20 21 [tq 19],od 21 42 [tq 20],om 18 21,oq 22 (.oth (.extract (tq 18) 0)),oq 23 (.oth (.extract (tq 18) 1)),om 3 22,om 4 23] [1] [1,20,21,26,27,102,103,104]/\SX 112 (PT 23) [ol 25 31 1,od 26 21 [tq 25],od 27 33 [tq 26],om 24 27,oq 28 (.oth (.extract (tq 24) 0)),oq 29 (.oth (.extract (tq 24) 1)),oq 30 (.oth (.extract (tq 24) 2)),oq 31 (.oth (.extract (tq 24) 3)),om 5 28,om 6 29,om 7 30,om 8 31] [1,3,4] [1,20,21,26,27,102,103,104]/\SX 112 (PT 79) [om 32 4,oc 33 .neq 34 32 0] [1,3,4,8] [1,20,21,26,27,102,103,104]/\SX 112 (PT 303) [om 34 4,oc 35 .eql 34 34 7,om 36 35,gm 36 true 37 8,gc 36 true 38 .eql 34 37 0,oq 39 (.pick (tq 36) (tq 38) (cb false)),om 40 39,gd 40 true 41 19 [],oq 42 (.pick (tq 40) (tq 41) (cb false)),om 2 42] [4,8] []/\SX 112 (PT 159) [om 43 8,oc 44 .neq 34 43 10] [1,3,8] [1,20,21,26,27,102,103,104]/\SX 112 (PT 319) [ok 9 0] [1,3] [1,20,21,26,27,102,103,104]/\SX 112 (PT 4287) [om 45 9,om 46 3,oe 47 46 22,ob 48 .lss 3 45 47] [1,3,9] [1,20,21,26,27,102,103,104]/\RX 112 (PT 33983) (.drw [⟨[],[om 51 3,om 52 9,oi 53 22 51 52,ol 54 3 53,oc 55 .lss 3 54 0,om 56 55,gm 56 false 57 3,gm 56 false 58 9,gi 56 false 59 22 57 58,gl 56 false 60 3 59,gz 56 false 61 31 1 3,gl 56 false 62 29 61,ge 56 false 63 62 29,gb 56 false 64 .geq 3 60 63,oq 65 (.pick (tq 56) (cb true) (tq 64)),om 66 65,gm 66 false 67 9,gc 66 false 68 .gtr 3 67 0,gm 66 false 69 68,gm 69 true 70 3,gm 69 true 71 9,gi 69 true 72 22 70 71,gl 69 true 73 3 72,gm 69 true 74 3,gm 69 true 75 9,gc 69 true 76 .sub 3 75 1,gi 69 true 77 22 74 76,gl 69 true 78 3 77,gb 69 true 79 .leq 3 73 78,og 66 false 80 (.pick (tq 69) (tq 79) (cb false)),oq 81 (.pick (tq 66) (cb true) (tq 80)),om 82 81,gz 82 false 83 31 1 3,gl 82 false 84 29 83,gm 82 false 85 3,gm 82 false 86 9,gi 82 false 87 22 85 86,gl 82 false 88 3 87,gi 82 false 89 29 84 88,gz 82 false 90 57 89 0,gl 82 false 91 3 90,gc 82 false 92 .lss 3 91 2,oq 93 (.pick (tq 82) (cb true) (tq 92))],[]⟩]) (some ([1,3,9],[1,20,21,26,27,102,103,104]))/\RX 112 (PT 42175) (.drw [⟨[],[ol 95 31 1,om 96 3,om 97 9,oi 98 22 96 97,ol 99 3 98,oq 100 (.oth (.convert 3 115 (tq 99))),oq 101 (.bin .shl 3 (ci 1) (tq 100))],[od 102 60 [tq 95,tq 101]]⟩,⟨[],[],[od 103 21 [tq 102]]⟩,⟨[],[],[od 104 33 [tq 103]]⟩,⟨[],[om 94 104,oq 105 (.oth (.extract (tq 94) 0)),oq 106 (.oth (.extract (tq 94) 1)),oq 107 (.oth (.extract (tq 94) 2)),oq 108 (.oth (.extract (tq 94) 3)),om 10 105,om 11 106,om 12 107,om 13 108],[]⟩]) (some ([1,3,9],[1,20,21,26,27]))/\SX 112 (PT 91327) [om 109 13,oc 110 .neq 34 109 0] [1,3,9,13] [1,20,21,26,27,102,103,104]/\SX 112 (PT 7359) [om 49 9,oc 50 .add 3 49 1,om 9 50] [1,3,9] [1,20,21,26,27,102,103,104]/\SX 112 (PT 383) [od 111 19 [],om 2 111] [] []/\LX 112 L5 [1,3,9] [1,20,21,26,27,102,103,104]:=by and_intros<;>first|exact rx|exact lx|exact fun _ _=>rfl
end
end Go.Proofs.Tryz.Op
