/- The walk's ground of function 57: its regions worked out. No condition. -/
import Derived.Test.YthhdhbalenanjaaGreatGa
open Go renaming Code->bq
open Go.Proofs.Tryz renaming prog->bk
open Int renaming negSucc->bj
set_option maxRecDepth 100000
namespace Go.Proofs.Tryz.Op
open Go Go.Pg
noncomputable section
def g57:=rg Tryz.f57
def c57:bq:=(.seq (g57 2) (.seq (g57 5) .ret))
theorem b57:Tryz.f57.body=some c57:=by kernel_rfl
@[simp] theorem x57:SX 15 (g57 2) [ot 6 false] [0,1,2] []/\SX 15 (g57 5) [om 7 0,om 8 1,ob 9 .geq 3 7 8,om 10 9,gm 10 true 11 0,gm 10 true 12 2,gb 10 true 13 .leq 3 11 12,oq 14 (.pick (tq 10) (tq 13) (cb false)),om 6 14] [0,1,2] []:=⟨rx,rx⟩
def TN:=rg Tryz.f134
@[simp] def AFJ:bq:=(lp (TN 133) 9 0 1 (.seq (TN 549) (.cond (.tmp 18) (.seq (TN 2341) .ret) .skip)) (TN 229))
def TO:=AFJ
def A56:bq:=(.seq (TN 2) (.seq (.seq (TN 9) (.block 0 (.loop TO))) (.seq (TN 11) .ret)))
theorem BHF:Tryz.f134.body=some A56:=by kernel_rfl
@[simp] theorem BO2:UX 19 TO AFJ/\SX 19 (TN 2) [ot 4 false] [0,1] []/\SX 19 (TN 9) [ok 5 0] [0,1] []/\SX 19 (TN 133) [om 6 5,om 7 0,oe 8 7 22,ob 9 .lss 3 6 8] [0,1,5] []/\SX 19 (TN 549) [om 12 0,om 13 5,oi 14 22 12 13,ol 15 3 14,om 16 1,od 17 57 [tq 15,tq 16,ci 3],ou 18 17] [0,1,5] []/\SX 19 (TN 2341) [ot 4 false] [] []/\SX 19 (TN 229) [om 10 5,oc 11 .add 3 10 1,om 5 11] [0,1,5] []/\SX 19 (TN 11) [ot 4 true] [] []/\LX 19 TO [0,1,5] []:=⟨fun _ _=>rfl,rx,rx,rx,rx,rx,rx,rx,lx⟩
def ALO:=rg Tryz.f135
def A57:bq:=(.seq (ALO 2) (.seq (ALO 5) .ret))
theorem BHG:Tryz.f135.body=some A57:=by kernel_rfl
@[simp] theorem BO3:SX 19 (ALO 2) [oq 2 (.box (tq 0)),oq 3 (.box (tq 1)),ot 4 false] [0,1] [2]/\SX 19 (ALO 5) [oz 5 59 3 0,ol 6 3 5,oz 7 27 2 1,ol 8 3 7,oc 9 .sub 3 8 1,od 10 57 [tq 6,ci 0,tq 9],om 11 10,gz 11 true 12 59 3 1,gl 11 true 13 3 12,gz 11 true 14 27 2 2,gl 11 true 15 3 14,gc 11 true 16 .sub 3 15 1,gd 11 true 17 57 [tq 13,ci 0,tq 16],oq 18 (.pick (tq 11) (tq 17) (cb false)),om 4 18] [2,3] [2,3]:=⟨rx,rx⟩
def xP:=rg Tryz.f75
@[simp] def AQH:bq:=(lp (xP 133) 9 0 1 (.seq (xP 549) (.cond (.tmp 17) (.seq (xP 2341) .ret) .skip)) (xP 229))
def Z9:=AQH
def c75:bq:=(.seq (xP 2) (.seq (.seq (xP 9) (.block 0 (.loop Z9))) (.seq (xP 11) .ret)))
theorem b75:Tryz.f75.body=some c75:=by kernel_rfl
@[simp] theorem x75:UX 18 Z9 AQH/\SX 18 (xP 2) [ot 4 false] [0,1] []/\SX 18 (xP 9) [ok 5 0] [0,1] []/\SX 18 (xP 133) [om 6 5,om 7 0,oe 8 7 22,ob 9 .lss 3 6 8] [0,1,5] []/\SX 18 (xP 549) [om 12 0,om 13 5,oi 14 22 12 13,ol 15 3 14,om 16 1,ob 17 .eql 3 15 16] [0,1,5] []/\SX 18 (xP 2341) [ot 4 true] [] []/\SX 18 (xP 229) [om 10 5,oc 11 .add 3 10 1,om 5 11] [0,1,5] []/\SX 18 (xP 11) [ot 4 false] [] []/\LX 18 Z9 [0,1,5] []:=⟨fun _ _=>rfl,rx,rx,rx,rx,rx,rx,rx,lx⟩
def ALP:=rg Tryz.f114
def A58:bq:=(.seq (ALP 2) (.seq (ALP 5) .ret))
theorem BHI:Tryz.f114.body=some A58:=by kernel_rfl
@[simp] theorem BO5:SX 6 (ALP 2) [oq 2 (.mv (.const (.slice none 0 0)))] [0,1] []/\SX 6 (ALP 5) [oq 3 (.buildS 22 0 []),om 4 0,oq 5 (.app [tq 3,tq 4] [22,22]),om 2 5] [0,1] []:=⟨rx,rx⟩
def TP:=rg Tryz.f115
@[simp] def AFK:bq:=(lp (TP 267) 9 0 1 (TP 587) (TP 459))
def TQ:=AFK
def A59:bq:=(.seq (TP 2) (.seq (TP 5) (.seq (.seq (TP 19) (.block 0 (.loop TQ))) (.seq (TP 23) .ret))))
theorem BHJ:Tryz.f115.body=some A59:=by kernel_rfl
@[simp] theorem BO6:UX 21 TQ AFK/\SX 21 (TP 2) [oq 2 (.mv (.const (.slice none 0 0)))] [0] [17]/\SX 21 (TP 5) [oq 5 (.buildS 23 0 []),om 3 5] [0] [17]/\SX 21 (TP 19) [ok 4 0] [0,1,3] [1,17,19]/\SX 21 (TP 267) [om 6 4,om 7 0,oe 8 7 23,ob 9 .lss 3 6 8] [0,3,4] [17,19]/\SX 21 (TP 587) [om 12 3,om 13 0,om 14 4,oi 15 23 13 14,ol 16 22 15,od 17 114 [tq 16],oq 18 (.buildS 23 1 [(0,tq 17)]),oq 19 (.app [tq 12,tq 18] [23,23]),om 3 19] [0,1,3,4] [1,17,19]/\SX 21 (TP 459) [om 10 4,oc 11 .add 3 10 1,om 4 11] [0,1,3,4] [1,17,19]/\SX 21 (TP 23) [om 20 3,om 2 20] [0,1,3,7,8] [19]/\LX 21 TQ [0,3,4] [17,19]:=⟨fun _ _=>rfl,rx,rx,rx,rx,rx,rx,rx,lx⟩
def g48:=rg Tryz.f48
def c48:bq:=(.seq (g48 2) (.seq (g48 5) .ret))
theorem b48:Tryz.f48.body=some c48:=by kernel_rfl
@[simp] theorem x48:SX 8 (g48 2) [oq 1 (.box (tq 0)),oq 2 (.alloc 86)] [0] []/\SX 8 (g48 5) [oz 3 59 1 0,ol 4 3 3,oz 5 59 1 1,ol 6 3 5,oq 7 (.build 86 [(0,tq 4),(1,tq 6)]),os (.sto 86 (tq 2) (tq 7))] [1,2] [1,2]:=⟨rx,rx⟩
def TR:=rg Tryz.f107
@[simp] def AFL:bq:=(lp (TR 133) 11 0 1 (.seq (TR 549) (.cond (.tmp 19) (.seq (TR 2341) .ret) .skip)) (TR 229))
def TS:=AFL
def A6A:bq:=(.seq (TR 2) (.seq (.seq (TR 9) (.block 0 (.loop TS))) (.seq (TR 11) .ret)))
theorem BHK:Tryz.f107.body=some A6A:=by kernel_rfl
@[simp] theorem BO8:UX 23 TS AFL/\SX 23 (TR 2) [ot 2 false] [0] []/\SX 23 (TR 9) [ok 3 0] [0,1] [1,14]/\SX 23 (TR 133) [om 4 3,om 5 0,oe 6 5 23,ob 7 .lss 3 4 6,om 8 7,gm 8 true 9 3,gc 8 true 10 .lss 3 9 8,oq 11 (.pick (tq 8) (tq 10) (cb false))] [0,3] []/\SX 23 (TR 549) [om 14 0,om 15 3,oi 16 23 14 15,ol 17 22 16,oe 18 17 22,oc 19 .gtr 3 18 5] [0,3] []/\SX 23 (TR 2341) [ot 2 false] [] []/\SX 23 (TR 229) [om 12 3,oc 13 .add 3 12 1,om 3 13] [0,3] []/\SX 23 (TR 11) [om 20 0,oe 21 20 23,oc 22 .leq 3 21 7,om 2 22] [0] []/\LX 23 TS [0,3] []:=⟨fun _ _=>rfl,rx,rx,rx,rx,rx,rx,rx,lx⟩
def TU:=rg Tryz.f100
@[simp] def AFM:bq:=(lp (TU 267) 9 0 1 (TU 587) (TU 459))
def TV:=AFM
def A6B:bq:=(.seq (TU 2) (.seq (TU 5) (.seq (.seq (TU 19) (.block 0 (.loop TV))) (.seq (TU 23) .ret))))
theorem BHL:Tryz.f100.body=some A6B:=by kernel_rfl
@[simp] theorem BO9:UX 21 TV AFM/\SX 21 (TU 2) [oq 1 (.box (tq 0)),ok 2 0] [0] [1]/\SX 21 (TU 5) [ok 3 1] [1] [1]/\SX 21 (TU 19) [ok 4 0] [0,1,3] [1,17,19]/\SX 21 (TU 267) [om 5 4,oz 6 27 1 6,ol 7 23 6,oe 8 7 23,ob 9 .lss 3 5 8] [1,3,4] [1]/\SX 21 (TU 587) [om 12 3,oz 13 27 1 6,ol 14 23 13,om 15 4,oi 16 23 14 15,ol 17 22 16,oe 18 17 22,ob 19 .mul 3 12 18,om 3 19] [0,1,3,4] [1,17,19]/\SX 21 (TU 459) [om 10 4,oc 11 .add 3 10 1,om 4 11] [0,1,3,4] [1,17,19]/\SX 21 (TU 23) [om 20 3,om 2 20] [0,1,3,7,8] [19]/\LX 21 TV [1,3,4] [1]:=⟨fun _ _=>rfl,rx,rx,rx,rx,rx,rx,rx,lx⟩
def D3:=rg Tryz.f108
@[simp] def xQ:bq:=(lp (D3 68759) 118 2 3 (.seq (D3 281751) (.cond (.tmp 138) (.seq (D3 1199255) .ret) .skip)) (D3 117911))
def O2:=xQ
@[simp] def AFN:bq:=(lp (D3 535) 92 0 1 (.seq (.seq (D3 4247) (.cond (.tmp 110) (.seq (D3 18583) .ret) .skip)) (.seq (D3 5271) (.block 2 (.loop O2)))) (D3 919))
def TW:=AFN
@[simp] def xR:bq:=(lp (D3 1071) 143 4 5 (.seq (D3 4399) (.cond (.tmp 153) (.seq (D3 18735) .ret) .skip)) (D3 1839))
def O3:=xR
@[simp] def xS:bq:=(lp (D3 2143) 158 6 7 (.seq (D3 8799) (.cond (.tmp 180) (.seq (D3 37471) .ret) .skip)) (D3 3679))
def O4:=xS
def ON:bq:=(.seq (D3 2) (.seq (.seq (D3 9) (.cond (.tmp 31) (.seq (D3 37) .ret) .skip)) (.seq (.seq (D3 19) (.cond (.tmp 88) (.seq (D3 75) .ret) .skip)) (.seq (.seq (D3 39) (.block 0 (.loop TW))) (.seq (.seq (D3 79) (.block 4 (.loop O3))) (.seq (.seq (D3 159) (.block 6 (.loop O4))) (.seq (D3 191) .ret)))))))
theorem BHM:Tryz.f108.body=some ON:=by kernel_rfl
@[simp] theorem BPA:UX 181 O2 xQ/\UX 181 TW AFN/\UX 181 O3 xR/\UX 181 O4 xS/\SX 181 (D3 2) [oq 1 (.box (tq 0)),ok 2 0] [0] [1]/\SX 181 (D3 9) [oz 7 27 1 0,ol 8 3 7,oc 9 .gtr 3 8 4,om 10 9,gz 10 false 11 27 1 1,gl 10 false 12 3 11,gc 10 false 13 .gtr 3 12 3,oq 14 (.pick (tq 10) (cb true) (tq 13)),om 15 14,gz 15 false 16 27 1 2,gl 15 false 17 3 16,gc 15 false 18 .gtr 3 17 5,oq 19 (.pick (tq 15) (cb true) (tq 18)),om 20 19,gz 20 false 21 27 1 7,gl 20 false 22 24 21,ge 20 false 23 22 24,gc 20 false 24 .gtr 3 23 4,oq 25 (.pick (tq 20) (cb true) (tq 24)),om 26 25,gz 26 false 27 27 1 8,gl 26 false 28 25 27,ge 26 false 29 28 25,gc 26 false 30 .gtr 3 29 5,oq 31 (.pick (tq 26) (cb true) (tq 30))] [1] [1]/\SX 181 (D3 37) [ok 2 3] [] []/\SX 181 (D3 19) [oz 32 27 1 0,ol 33 3 32,oc 34 .lss 3 33 0,om 35 34,gz 35 false 36 27 1 1,gl 35 false 37 3 36,gc 35 false 38 .lss 3 37 1,oq 39 (.pick (tq 35) (cb true) (tq 38)),om 40 39,gz 40 false 41 27 1 2,gl 40 false 42 3 41,gc 40 false 43 .lss 3 42 1,oq 44 (.pick (tq 40) (cb true) (tq 43)),om 45 44,gz 45 false 46 27 1 3,gl 45 false 47 3 46,gd 45 false 48 57 [tq 47,ci 0,ci 4],og 45 false 49 (.oth (.unOp .not 4 (tq 48))),oq 50 (.pick (tq 45) (cb true) (tq 49)),om 51 50,gz 51 false 52 27 1 4,gl 51 false 53 22 52,ge 51 false 54 53 22,gz 51 false 55 27 1 1,gl 51 false 56 3 55,gb 51 false 57 .neq 3 54 56,oq 58 (.pick (tq 51) (cb true) (tq 57)),om 59 58,gz 59 false 60 27 1 5,gl 59 false 61 22 60,ge 59 false 62 61 22,gz 59 false 63 27 1 0,gl 59 false 64 3 63,gc 59 false 65 .add 3 64 1,gb 59 false 66 .neq 3 62 65,oq 67 (.pick (tq 59) (cb true) (tq 66)),om 68 67,gz 68 false 69 27 1 6,gl 68 false 70 23 69,ge 68 false 71 70 23,gz 68 false 72 27 1 0,gl 68 false 73 3 72,gc 68 false 74 .add 3 73 1,gb 68 false 75 .neq 3 71 74,oq 76 (.pick (tq 68) (cb true) (tq 75)),om 77 76,gz 77 false 78 27 1 4,gl 77 false 79 22 78,gd 77 false 80 134 [tq 79,ci 0],og 77 false 81 (.oth (.unOp .not 4 (tq 80))),oq 82 (.pick (tq 77) (cb true) (tq 81)),om 83 82,gz 83 false 84 27 1 5,gl 83 false 85 22 84,gd 83 false 86 134 [tq 85,.const (.int .i64 (bj 0))],og 83 false 87 (.oth (.unOp .not 4 (tq 86))),oq 88 (.pick (tq 83) (cb true) (tq 87))] [1] [1]/\SX 181 (D3 75) [ok 2 1] [] []/\SX 181 (D3 39) [ok 3 0] [1] [1]/\SX 181 (D3 535) [om 89 3,oz 90 27 1 0,ol 91 3 90,ob 92 .leq 3 89 91] [1,3] [1]/\SX 181 (D3 4247) [oz 95 27 1 6,ol 96 23 95,om 97 3,oi 98 23 96 97,ol 99 22 98,oe 100 99 22,oc 101 .eql 3 100 0,om 102 101,gz 102 false 103 27 1 6,gl 102 false 104 23 103,gm 102 false 105 3,gi 102 false 106 23 104 105,gl 102 false 107 22 106,gd 102 false 108 134 [tq 107,ci 0],og 102 false 109 (.oth (.unOp .not 4 (tq 108))),oq 110 (.pick (tq 102) (cb true) (tq 109))] [1,3] [1]/\SX 181 (D3 18583) [ok 2 1] [] []/\SX 181 (D3 5271) [ok 4 1] [1,3] [1]/\SX 181 (D3 68759) [om 111 4,oz 112 27 1 6,ol 113 23 112,om 114 3,oi 115 23 113 114,ol 116 22 115,oe 117 116 22,ob 118 .lss 3 111 117] [1,3,4] [1]/\RX 181 (D3 281751) (.drw [⟨[],[oz 121 27 1 6,ol 122 23 121,om 123 3,oi 124 23 122 123,ol 125 22 124,om 126 4,oi 127 22 125 126,ol 128 3 127,oz 129 27 1 6,ol 130 23 129,om 131 3,oi 132 23 130 131,ol 133 22 132,om 134 4,oc 135 .sub 3 134 1,oi 136 22 133 135,ol 137 3 136,ob 138 .leq 3 128 137],[]⟩]) (some ([1,3,4],[1]))/\SX 181 (D3 1199255) [ok 2 1] [] []/\SX 181 (D3 117911) [om 119 4,oc 120 .add 3 119 1,om 4 120] [1,3,4] [1]/\SX 181 (D3 919) [om 93 3,oc 94 .add 3 93 1,om 3 94] [1,3] [1]/\SX 181 (D3 79) [ok 5 0] [1] [1]/\SX 181 (D3 1071) [om 139 5,oz 140 27 1 7,ol 141 24 140,oe 142 141 24,ob 143 .lss 3 139 142] [1,5] [1]/\RX 181 (D3 4399) (.drw [⟨[],[ol 146 27 1,oz 147 27 1 7,ol 148 24 147,om 149 5,oi 150 24 148 149,ol 151 59 150],[od 152 135 [tq 146,tq 151]]⟩,⟨[],[ou 153 152],[]⟩]) (some ([1,5],[1]))/\SX 181 (D3 18735) [ok 2 1] [] []/\SX 181 (D3 1839) [om 144 5,oc 145 .add 3 144 1,om 5 145] [1,5] [1]/\SX 181 (D3 159) [ok 6 0] [1] [1]/\SX 181 (D3 2143) [om 154 6,oz 155 27 1 8,ol 156 25 155,oe 157 156 25,ob 158 .lss 3 154 157] [1,6] [1]/\RX 181 (D3 8799) (.drw [⟨[],[oz 161 27 1 8,ol 162 25 161,om 163 6,oi 164 25 162 163,oz 165 188 164 0,ol 166 3 165,oz 167 27 1 0,ol 168 3 167],[od 169 57 [tq 166,ci 0,tq 168]]⟩,⟨[],[ou 170 169,om 171 170,gz 171 false 172 27 1 8,gl 171 false 173 25 172,gm 171 false 174 6,gi 171 false 175 25 173 174,gz 171 false 176 188 175 1,gl 171 false 177 3 176],[gd 171 false 178 57 [tq 177,ci 0,ci 3]]⟩,⟨[],[og 171 false 179 (.oth (.unOp .not 4 (tq 178))),oq 180 (.pick (tq 171) (cb true) (tq 179))],[]⟩]) (some ([1,6],[1]))/\SX 181 (D3 37471) [ok 2 1] [] []/\SX 181 (D3 3679) [om 159 6,oc 160 .add 3 159 1,om 6 160] [1,6] [1]/\SX 181 (D3 191) [ok 2 0] [] []/\LX 181 TW [1,3] [1]/\LX 181 O2 [1,3,4] [1]/\LX 181 O3 [1,5] [1]/\LX 181 O4 [1,6] [1]:=by and_intros<;>first|exact rx|exact lx|exact fun _ _=>rfl
def g64:=rg Tryz.f64
def c64:bq:=(.seq (g64 2) (.seq (.seq (g64 9) (.cond (.tmp 30) (.seq (g64 37) .ret) .skip)) (.seq (g64 11) .ret)))
theorem b64:Tryz.f64.body=some c64:=by kernel_rfl
@[simp] theorem x64:SX 39 (g64 2) [oq 1 (.box (tq 0)),ot 2 false] [0] [1]/\SX 39 (g64 9) [oz 3 27 1 4,ol 4 22 3,oe 5 4 22,oc 6 .gtr 3 5 5,om 7 6,gz 7 false 8 27 1 5,gl 7 false 9 22 8,ge 7 false 10 9 22,gc 7 false 11 .gtr 3 10 7,oq 12 (.pick (tq 7) (cb true) (tq 11)),om 13 12,gz 13 false 14 27 1 6,gl 13 false 15 23 14,gd 13 false 16 107 [tq 15],og 13 false 17 (.oth (.unOp .not 4 (tq 16))),oq 18 (.pick (tq 13) (cb true) (tq 17)),om 19 18,gz 19 false 20 27 1 7,gl 19 false 21 24 20,ge 19 false 22 21 24,gc 19 false 23 .gtr 3 22 6,oq 24 (.pick (tq 19) (cb true) (tq 23)),om 25 24,gz 25 false 26 27 1 8,gl 25 false 27 25 26,ge 25 false 28 27 25,gc 25 false 29 .gtr 3 28 7,oq 30 (.pick (tq 25) (cb true) (tq 29))] [1] [1]/\SX 39 (g64 37) [ot 2 false] [] []/\SX 39 (g64 11) [ol 31 27 1,od 32 108 [tq 31],oc 33 .neq 3 32 0,om 34 33,gl 34 false 35 27 1,gd 34 false 36 100 [tq 35],gc 34 false 37 .leq 3 36 80,oq 38 (.pick (tq 34) (cb true) (tq 37)),om 2 38] [1] [1]:=⟨rx,rx,rx,rx⟩
def Q4:=rg Tryz.f190
@[simp] def AFO:bq:=(.seq (Q4 69) (.seq (.cond (.tmp 9) .skip (.exit 0)) (.seq (.block 1 (.seq (Q4 1125) (.seq (Q4 2661) (.cond (.tmp 16) (.seq (Q4 9829) .ret) .skip)))) (Q4 485))))
def TX:=AFO
def AT6:bq:=(.seq (Q4 2) (.seq (.seq (Q4 9) (.block 0 (.loop TX))) (.seq (Q4 11) .ret)))
theorem b190:Tryz.f190.body=some AT6:=by kernel_rfl
@[simp] theorem BPC:UX 19 TX AFO/\SX 19 (Q4 2) [ok 4 0] [0,1] []/\SX 19 (Q4 9) [om 6 0,oe 7 6 22,ok 8 0] [0,1] []/\SX 19 (Q4 69) [ob 9 .lss 3 8 7] [0,1,7,8] []/\SX 19 (Q4 1125) [om 10 8,om 5 10] [0,1,7,8] []/\SX 19 (Q4 2661) [om 11 1,om 12 0,om 13 5,oi 14 22 12 13,ol 15 3 14,oq 16 (.call false none (tq 11) [tq 15])] [0,1,5,7,8] []/\SX 19 (Q4 9829) [om 17 5,om 4 17] [5] []/\SX 19 (Q4 485) [oc 18 .add 3 8 1,om 8 18] [0,1,3,7,8] []/\SX 19 (Q4 11) [oq 4 (.mv (.const (.int .i64 (bj 0))))] [] []/\LX 19 TX [0,1,7,8] []:=⟨fun _ _=>rfl,rx,rx,rx,rx,rx,rx,rx,rx,lx⟩
def ALQ:=rg Tryz.f175
def A6C:bq:=(.seq (ALQ 2) (.seq (ALQ 5) .ret))
theorem b175:Tryz.f175.body=some A6C:=by kernel_rfl
@[simp] theorem BPD:SX 9 (ALQ 2) [ot 4 false] [0,1] [7]/\SX 9 (ALQ 5) [om 5 0,om 6 1,od 7 190 [tq 5,tq 6],oc 8 .geq 3 7 0,om 4 8] [0,1,2,3] [2,3]:=⟨rx,rx⟩
def ALR:=rg Tryz.f144
def AT7:bq:=(.seq (ALR 2) (.seq (ALR 5) .ret))
theorem b144:Tryz.f144.body=some AT7:=by kernel_rfl
@[simp] theorem BPE:SX 9 (ALR 2) [oq 3 (.box (tq 1)),ot 4 false] [0,1,2] [3]/\SX 9 (ALR 5) [om 5 0,oq 6 (.oth (.makeFunc (.func 176) #[] #[tq 3])),od 7 175 [tq 5,tq 6],ou 8 7,om 4 8] [0,1,2,3] [2,3]:=⟨rx,rx⟩
def ALS:=rg Tryz.f176
def AT8:bq:=(.seq (ALS 2) (.seq (ALS 5) .ret))
theorem b176:Tryz.f176.body=some AT8:=by kernel_rfl
@[simp] theorem BPF:SX 8 (ALS 2) [ot 3 false] [0,1] []/\SX 8 (ALS 5) [ol 4 177 1,om 5 0,oq 6 (.call false none (tq 4) [tq 5]),ou 7 6,om 3 7] [0,1,2] [2]:=⟨rx,rx⟩
def Q5:=rg Tryz.f191
@[simp] def AFP:bq:=(.seq (Q5 69) (.seq (.cond (.tmp 9) .skip (.exit 0)) (.seq (.block 1 (.seq (Q5 1125) (.seq (Q5 2661) (.cond (.tmp 16) (.seq (Q5 9829) .ret) .skip)))) (Q5 485))))
def TY:=AFP
def AT9:bq:=(.seq (Q5 2) (.seq (.seq (Q5 9) (.block 0 (.loop TY))) (.seq (Q5 11) .ret)))
theorem b191:Tryz.f191.body=some AT9:=by kernel_rfl
@[simp] theorem BPG:UX 19 TY AFP/\SX 19 (Q5 2) [ok 4 0] [0,1] []/\SX 19 (Q5 9) [om 6 0,oe 7 6 23,ok 8 0] [0,1] []/\SX 19 (Q5 69) [ob 9 .lss 3 8 7] [0,1,7,8] []/\SX 19 (Q5 1125) [om 10 8,om 5 10] [0,1,7,8] []/\SX 19 (Q5 2661) [om 11 1,om 12 0,om 13 5,oi 14 23 12 13,ol 15 22 14,oq 16 (.call false none (tq 11) [tq 15])] [0,1,5,7,8] []/\SX 19 (Q5 9829) [om 17 5,om 4 17] [5] []/\SX 19 (Q5 485) [oc 18 .add 3 8 1,om 8 18] [0,1,3,7,8] []/\SX 19 (Q5 11) [oq 4 (.mv (.const (.int .i64 (bj 0))))] [] []/\LX 19 TY [0,1,7,8] []:=⟨fun _ _=>rfl,rx,rx,rx,rx,rx,rx,rx,rx,lx⟩
def ALT:=rg Tryz.f177
def A6D:bq:=(.seq (ALT 2) (.seq (ALT 5) .ret))
theorem b177:Tryz.f177.body=some A6D:=by kernel_rfl
@[simp] theorem BPH:SX 9 (ALT 2) [ot 4 false] [0,1] [7]/\SX 9 (ALT 5) [om 5 0,om 6 1,od 7 191 [tq 5,tq 6],oc 8 .geq 3 7 0,om 4 8] [0,1,2,3] [2,3]:=⟨rx,rx⟩
def ALU:=rg Tryz.f147
def AUA:bq:=(.seq (ALU 2) (.seq (ALU 5) .ret))
theorem b147:Tryz.f147.body=some AUA:=by kernel_rfl
@[simp] theorem BPI:SX 9 (ALU 2) [oq 3 (.box (tq 1)),ot 4 false] [0,1,2] [3]/\SX 9 (ALU 5) [om 5 0,oq 6 (.oth (.makeFunc (.func 178) #[] #[tq 3])),od 7 177 [tq 5,tq 6],ou 8 7,om 4 8] [0,1,2,3] [2,3]:=⟨rx,rx⟩
def ALV:=rg Tryz.f178
def AUB:bq:=(.seq (ALV 2) (.seq (ALV 5) .ret))
theorem b178:Tryz.f178.body=some AUB:=by kernel_rfl
@[simp] theorem BPJ:SX 8 (ALV 2) [ot 3 false] [0,1] []/\SX 8 (ALV 5) [ol 4 193 1,om 5 0,oq 6 (.call false none (tq 4) [tq 5]),ou 7 6,om 3 7] [0,1,2] [2]:=⟨rx,rx⟩
def ALW:=rg Tryz.f143
def A6E:bq:=(.seq (ALW 2) (.seq (ALW 5) .ret))
theorem BHN:Tryz.f143.body=some A6E:=by kernel_rfl
@[simp] theorem BPK:SX 15 (ALW 2) [ot 6 false] [0,1,2] []/\SX 15 (ALW 5) [om 7 1,om 8 0,ob 9 .leq 3 7 8,om 10 9,gm 10 true 11 0,gm 10 true 12 2,gb 10 true 13 .leq 3 11 12,oq 14 (.pick (tq 10) (tq 13) (cb false)),om 6 14] [0,1,2] []:=⟨rx,rx⟩
def ALX:=rg Tryz.f145
def A6F:bq:=(.seq (ALX 2) (.seq (ALX 5) .ret))
theorem BHO:Tryz.f145.body=some A6F:=by kernel_rfl
@[simp] theorem BPL:SX 5 (ALX 2) [ot 2 false] [0] []/\SX 5 (ALX 5) [om 3 0,od 4 143 [tq 3,ci 0,ci 3],om 2 4] [0,1,2] [1,2]:=⟨rx,rx⟩
def ALY:=rg Tryz.f146
def A6G:bq:=(.seq (ALY 2) (.seq (ALY 5) .ret))
theorem BHP:Tryz.f146.body=some A6G:=by kernel_rfl
@[simp] theorem BPM:SX 5 (ALY 2) [ot 2 false] [0] []/\SX 5 (ALY 5) [om 3 0,od 4 143 [tq 3,.const (.int .i64 (bj 0)),ci 3],om 2 4] [0,1,2] [1,2]:=⟨rx,rx⟩
def ABT:=rg Tryz.f148
def AUC:bq:=(.seq (ABT 2) (.seq (ABT 5) (.seq (ABT 11) .ret)))
theorem BHQ:Tryz.f148.body=some AUC:=by kernel_rfl
@[simp] theorem BPN:SX 12 (ABT 2) [ot 2 false] [0] []/\SX 12 (ABT 5) [oq 3 (.alloc 3),os (.sto 3 (tq 3) (.const (.int .i64 (bj 0))))] [0] []/\SX 12 (ABT 11) [om 4 0,oe 5 4 22,oc 6 .gtr 3 5 0,om 7 6,gm 7 true 8 0,og 7 true 9 (.oth (.makeFunc (.func 179) #[] #[tq 3])),gd 7 true 10 144 [tq 8,tq 9],oq 11 (.pick (tq 7) (tq 10) (cb false)),om 2 11] [0,3] [3]:=⟨rx,rx,rx⟩
def nK:=rg Tryz.f179
def A6H:bq:=(.seq (nK 2) (.seq (nK 5) (.seq (nK 11) (.seq (nK 23) .ret))))
theorem b179:Tryz.f179.body=some A6H:=by kernel_rfl
@[simp] theorem BPO:SX 11 (nK 2) [ot 3 false] [0,1] []/\SX 11 (nK 5) [om 5 0,ol 6 3 1,oc 7 .add 3 6 1,od 8 143 [tq 5,tq 7,ci 3],om 4 8] [0,1] []/\SX 11 (nK 11) [om 9 0,os (.sto 3 (tq 1) (tq 9))] [0,1,4] []/\SX 11 (nK 23) [om 10 4,om 3 10] [4] []:=⟨rx,rx,rx,rx⟩
def ALZ:=rg Tryz.f174
def A6I:bq:=(.seq (ALZ 2) (.seq (ALZ 5) .ret))
theorem BHR:Tryz.f174.body=some A6I:=by kernel_rfl
@[simp] theorem BPP:SX 9 (ALZ 2) [oq 2 (.box (tq 0)),ot 4 false] [0,1] [2]/\SX 9 (ALZ 5) [om 5 1,oz 6 40 2 0,ol 7 3 6,od 8 143 [tq 5,ci 0,tq 7],om 4 8] [0,1,2,3] [2,3]:=⟨rx,rx⟩
def AL0:=rg Tryz.f141
def A6J:bq:=(.seq (AL0 2) (.seq (AL0 5) .ret))
theorem BHS:Tryz.f141.body=some A6J:=by kernel_rfl
@[simp] theorem BPQ:SX 19 (AL0 2) [oq 2 (.box (tq 0)),oq 3 (.box (tq 1)),ot 4 false] [0,1] [2]/\SX 19 (AL0 5) [oz 5 86 3 0,ol 6 3 5,oz 7 40 2 1,ol 8 3 7,oc 9 .sub 3 8 1,od 10 143 [tq 6,ci 0,tq 9],om 11 10,gz 11 true 12 86 3 1,gl 11 true 13 3 12,gz 11 true 14 40 2 2,gl 11 true 15 3 14,gc 11 true 16 .sub 3 15 1,gd 11 true 17 143 [tq 13,ci 0,tq 16],oq 18 (.pick (tq 11) (tq 17) (cb false)),om 4 18] [2,3] [2,3]:=⟨rx,rx⟩
def AL1:=rg Tryz.f142
def A6K:bq:=(.seq (AL1 2) (.seq (AL1 5) .ret))
theorem BHT:Tryz.f142.body=some A6K:=by kernel_rfl
@[simp] theorem BPR:SX 14 (AL1 2) [oq 2 (.box (tq 0)),oq 3 (.box (tq 1)),ot 4 false] [0,1] [2]/\SX 14 (AL1 5) [ol 5 40 2,oz 6 99 3 0,ol 7 3 6,od 8 174 [tq 5,tq 7],om 9 8,gz 9 true 10 99 3 1,gl 9 true 11 3 10,gd 9 true 12 145 [tq 11],oq 13 (.pick (tq 9) (tq 12) (cb false)),om 4 13] [1,2,3,4] [2,3,4]:=⟨rx,rx⟩
def Q6:=rg Tryz.f192
@[simp] def AFQ:bq:=(.seq (Q6 69) (.seq (.cond (.tmp 9) .skip (.exit 0)) (.seq (.block 1 (.seq (Q6 1125) (.seq (Q6 2661) (.cond (.tmp 16) (.seq (Q6 9829) .ret) .skip)))) (Q6 485))))
def TZ:=AFQ
def AUD:bq:=(.seq (Q6 2) (.seq (.seq (Q6 9) (.block 0 (.loop TZ))) (.seq (Q6 11) .ret)))
theorem b192:Tryz.f192.body=some AUD:=by kernel_rfl
@[simp] theorem BPS:UX 19 TZ AFQ/\SX 19 (Q6 2) [ok 4 0] [0,1] []/\SX 19 (Q6 9) [om 6 0,oe 7 6 37,ok 8 0] [0,1] []/\SX 19 (Q6 69) [ob 9 .lss 3 8 7] [0,1,7,8] []/\SX 19 (Q6 1125) [om 10 8,om 5 10] [0,1,7,8] []/\SX 19 (Q6 2661) [om 11 1,om 12 0,om 13 5,oi 14 37 12 13,ol 15 86 14,oq 16 (.call false none (tq 11) [tq 15])] [0,1,5,7,8] []/\SX 19 (Q6 9829) [om 17 5,om 4 17] [5] []/\SX 19 (Q6 485) [oc 18 .add 3 8 1,om 8 18] [0,1,3,7,8] []/\SX 19 (Q6 11) [oq 4 (.mv (.const (.int .i64 (bj 0))))] [] []/\LX 19 TZ [0,1,7,8] []:=⟨fun _ _=>rfl,rx,rx,rx,rx,rx,rx,rx,rx,lx⟩
def AL2:=rg Tryz.f180
def A6L:bq:=(.seq (AL2 2) (.seq (AL2 5) .ret))
theorem b180:Tryz.f180.body=some A6L:=by kernel_rfl
@[simp] theorem BPT:SX 9 (AL2 2) [ot 4 false] [0,1] [7]/\SX 9 (AL2 5) [om 5 0,om 6 1,od 7 192 [tq 5,tq 6],oc 8 .geq 3 7 0,om 4 8] [0,1,2,3] [2,3]:=⟨rx,rx⟩
def AL3:=rg Tryz.f149
def A6M:bq:=(.seq (AL3 2) (.seq (AL3 5) .ret))
theorem BHU:Tryz.f149.body=some A6M:=by kernel_rfl
@[simp] theorem BPU:SX 9 (AL3 2) [oq 3 (.box (tq 1)),ot 4 false] [0,1,2] [3]/\SX 9 (AL3 5) [om 5 0,oq 6 (.oth (.makeFunc (.func 181) #[] #[tq 3])),od 7 180 [tq 5,tq 6],ou 8 7,om 4 8] [0,1,2,3] [2,3]:=⟨rx,rx⟩
def AL4:=rg Tryz.f181
def A6N:bq:=(.seq (AL4 2) (.seq (AL4 5) .ret))
theorem b181:Tryz.f181.body=some A6N:=by kernel_rfl
@[simp] theorem BPV:SX 8 (AL4 2) [oq 2 (.box (tq 0)),ot 3 false] [0,1] []/\SX 8 (AL4 5) [ol 4 225 1,ol 5 86 2,oq 6 (.call false none (tq 4) [tq 5]),ou 7 6,om 3 7] [0,1,2] [2]:=⟨rx,rx⟩
def Q7:=rg Tryz.f193
@[simp] def AFR:bq:=(.seq (Q7 69) (.seq (.cond (.tmp 9) .skip (.exit 0)) (.seq (.block 1 (.seq (Q7 1125) (.seq (Q7 2661) (.cond (.tmp 16) (.seq (Q7 9829) .ret) .skip)))) (Q7 485))))
def T3:=AFR
def AUE:bq:=(.seq (Q7 2) (.seq (.seq (Q7 9) (.block 0 (.loop T3))) (.seq (Q7 11) .ret)))
theorem b193:Tryz.f193.body=some AUE:=by kernel_rfl
@[simp] theorem BPW:UX 19 T3 AFR/\SX 19 (Q7 2) [ok 4 0] [0,1] []/\SX 19 (Q7 9) [om 6 0,oe 7 6 38,ok 8 0] [0,1] []/\SX 19 (Q7 69) [ob 9 .lss 3 8 7] [0,1,7,8] []/\SX 19 (Q7 1125) [om 10 8,om 5 10] [0,1,7,8] []/\SX 19 (Q7 2661) [om 11 1,om 12 0,om 13 5,oi 14 38 12 13,ol 15 99 14,oq 16 (.call false none (tq 11) [tq 15])] [0,1,5,7,8] []/\SX 19 (Q7 9829) [om 17 5,om 4 17] [5] []/\SX 19 (Q7 485) [oc 18 .add 3 8 1,om 8 18] [0,1,3,7,8] []/\SX 19 (Q7 11) [oq 4 (.mv (.const (.int .i64 (bj 0))))] [] []/\LX 19 T3 [0,1,7,8] []:=⟨fun _ _=>rfl,rx,rx,rx,rx,rx,rx,rx,rx,lx⟩
def AL5:=rg Tryz.f182
def A6O:bq:=(.seq (AL5 2) (.seq (AL5 5) .ret))
theorem b182:Tryz.f182.body=some A6O:=by kernel_rfl
@[simp] theorem BPX:SX 9 (AL5 2) [ot 4 false] [0,1] [7]/\SX 9 (AL5 5) [om 5 0,om 6 1,od 7 193 [tq 5,tq 6],oc 8 .geq 3 7 0,om 4 8] [0,1,2,3] [2,3]:=⟨rx,rx⟩
def AL6:=rg Tryz.f150
def A6P:bq:=(.seq (AL6 2) (.seq (AL6 5) .ret))
theorem BHV:Tryz.f150.body=some A6P:=by kernel_rfl
@[simp] theorem BPY:SX 9 (AL6 2) [oq 3 (.box (tq 1)),ot 4 false] [0,1,2] [3]/\SX 9 (AL6 5) [om 5 0,oq 6 (.oth (.makeFunc (.func 183) #[] #[tq 3])),od 7 182 [tq 5,tq 6],ou 8 7,om 4 8] [0,1,2,3] [2,3]:=⟨rx,rx⟩
def AL7:=rg Tryz.f183
def A6Q:bq:=(.seq (AL7 2) (.seq (AL7 5) .ret))
theorem b183:Tryz.f183.body=some A6Q:=by kernel_rfl
@[simp] theorem BPZ:SX 8 (AL7 2) [oq 2 (.box (tq 0)),ot 3 false] [0,1] []/\SX 8 (AL7 5) [ol 4 226 1,ol 5 99 2,oq 6 (.call false none (tq 4) [tq 5]),ou 7 6,om 3 7] [0,1,2] [2]:=⟨rx,rx⟩
def OP:=rg Tryz.f110
def OQ:bq:=(.seq (OP 2) (.seq (OP 5) (.seq (.block 0 (.seq (OP 35) (.cond (.tmp 9) (.seq (OP 147) .ret) (.seq (OP 179) (.cond (.tmp 35) (.seq (OP 627) .ret) (.seq (OP 755) (.cond (.tmp 81) (.seq (OP 2547) .ret) .skip))))))) (.seq (OP 23) .ret))))
theorem BHW:Tryz.f110.body=some OQ:=by kernel_rfl
@[simp] theorem BP0:SX 112 (OP 2) [oq 1 (.box (tq 0)),ok 2 0] [0] [1,20,21,26,27,102,103,104]/\RX 112 (OP 5) (.drw [⟨[],[ol 5 40 1,oq 6 (.oth (.makeFunc (.func 141) #[tq 5] #[])),ol 7 40 1,oq 8 (.oth (.makeFunc (.func 142) #[tq 7] #[])),om 3 6,om 4 8],[]⟩]) (some ([1],[1]))/\SX 112 (OP 35) [oz 10 40 1 0,ol 11 3 10,oc 12 .gtr 3 11 4,om 13 12,gz 13 false 14 40 1 1,gl 13 false 15 3 14,gc 13 false 16 .gtr 3 15 3,oq 17 (.pick (tq 13) (cb true) (tq 16)),om 18 17,gz 18 false 19 40 1 2,gl 18 false 20 3 19,gc 18 false 21 .gtr 3 20 5,oq 22 (.pick (tq 18) (cb true) (tq 21)),om 23 22,gz 23 false 24 40 1 7,gl 23 false 25 37 24,ge 23 false 26 25 37,gc 23 false 27 .gtr 3 26 4,oq 28 (.pick (tq 23) (cb true) (tq 27)),om 29 28,gz 29 false 30 40 1 8,gl 29 false 31 38 30,ge 29 false 32 31 38,gc 29 false 33 .gtr 3 32 5,oq 34 (.pick (tq 29) (cb true) (tq 33)),om 9 34] [1,3,4] [1]/\SX 112 (OP 147) [ok 2 3] [] []/\SX 112 (OP 179) [oz 36 40 1 0,ol 37 3 36,oc 38 .lss 3 37 0,om 39 38,gz 39 false 40 40 1 1,gl 39 false 41 3 40,gc 39 false 42 .lss 3 41 1,oq 43 (.pick (tq 39) (cb true) (tq 42)),om 44 43,gz 44 false 45 40 1 2,gl 44 false 46 3 45,gc 44 false 47 .lss 3 46 1,oq 48 (.pick (tq 44) (cb true) (tq 47)),om 49 48,gz 49 false 50 40 1 3,gl 49 false 51 3 50,gd 49 false 52 143 [tq 51,ci 0,ci 4],og 49 false 53 (.oth (.unOp .not 4 (tq 52))),oq 54 (.pick (tq 49) (cb true) (tq 53)),om 55 54,gz 55 false 56 40 1 4,gl 55 false 57 22 56,ge 55 false 58 57 22,gz 55 false 59 40 1 1,gl 55 false 60 3 59,gb 55 false 61 .neq 3 58 60,oq 62 (.pick (tq 55) (cb true) (tq 61)),om 63 62,gz 63 false 64 40 1 5,gl 63 false 65 22 64,ge 63 false 66 65 22,gz 63 false 67 40 1 0,gl 63 false 68 3 67,gc 63 false 69 .add 3 68 1,gb 63 false 70 .neq 3 66 69,oq 71 (.pick (tq 63) (cb true) (tq 70)),om 72 71,gz 72 false 73 40 1 6,gl 72 false 74 23 73,ge 72 false 75 74 23,gz 72 false 76 40 1 0,gl 72 false 77 3 76,gc 72 false 78 .add 3 77 1,gb 72 false 79 .neq 3 75 78,oq 80 (.pick (tq 72) (cb true) (tq 79)),om 35 80] [1,3,4] [1]/\SX 112 (OP 627) [ok 2 1] [] []/\SX 112 (OP 755) [oz 82 40 1 4,ol 83 22 82,od 84 144 [tq 83,.func 145],ou 85 84,om 86 85,gz 86 false 87 40 1 5,gl 86 false 88 22 87,gd 86 false 89 144 [tq 88,.func 146],og 86 false 90 (.oth (.unOp .not 4 (tq 89))),oq 91 (.pick (tq 86) (cb true) (tq 90)),om 92 91,gz 92 false 93 40 1 6,gl 92 false 94 23 93,gd 92 false 95 147 [tq 94,.func 148],og 92 false 96 (.oth (.unOp .not 4 (tq 95))),oq 97 (.pick (tq 92) (cb true) (tq 96)),om 98 97,gz 98 false 99 40 1 7,gl 98 false 100 37 99,gm 98 false 101 3,gd 98 false 102 149 [tq 100,tq 101],og 98 false 103 (.oth (.unOp .not 4 (tq 102))),oq 104 (.pick (tq 98) (cb true) (tq 103)),om 105 104,gz 105 false 106 40 1 8,gl 105 false 107 38 106,gm 105 false 108 4,gd 105 false 109 150 [tq 107,tq 108],og 105 false 110 (.oth (.unOp .not 4 (tq 109))),oq 111 (.pick (tq 105) (cb true) (tq 110)),om 81 111] [1,3,4] [1]/\SX 112 (OP 2547) [ok 2 1] [] []/\SX 112 (OP 23) [ok 2 0] [] []:=by and_intros<;>exact rx
def AL8:=rg Tryz.f111
def AUF:bq:=(.seq (AL8 2) (.seq (AL8 5) .ret))
theorem BHX:Tryz.f111.body=some AUF:=by kernel_rfl
@[simp] theorem BP1:SX 16 (AL8 2) [oq 2 (.box (tq 0)),ot 4 false] [0,1] [2]/\SX 16 (AL8 5) [om 5 1,oe 6 5 23,oz 7 40 2 0,ol 8 3 7,oc 9 .add 3 8 1,ob 10 .eql 3 6 9,om 11 10,gm 11 true 12 1,og 11 true 13 (.oth (.makeFunc (.func 151) #[] #[tq 2])),gd 11 true 14 147 [tq 12,tq 13],oq 15 (.pick (tq 11) (tq 14) (cb false)),om 4 15] [1,2] [2]:=⟨rx,rx⟩
def AL9:=rg Tryz.f151
def AUG:bq:=(.seq (AL9 2) (.seq (AL9 5) .ret))
theorem b151:Tryz.f151.body=some AUG:=by kernel_rfl
@[simp] theorem BP2:SX 13 (AL9 2) [ot 3 false] [0,1,2] [3,4,5,9]/\SX 13 (AL9 5) [om 4 0,oe 5 4 22,oz 6 40 1 1,ol 7 3 6,ob 8 .eql 3 5 7,om 9 8,gm 9 true 10 0,gd 9 true 11 144 [tq 10,.func 145],oq 12 (.pick (tq 9) (tq 11) (cb false)),om 3 12] [0,1] []:=⟨rx,rx⟩
def AMA:=rg Tryz.f194
def A6R:bq:=(.seq (AMA 2) (.seq (AMA 5) .ret))
theorem BHY:Tryz.f194.body=some A6R:=by kernel_rfl
@[simp] theorem BP3:SX 6 (AMA 2) [ok 2 0] [0,1] []/\SX 6 (AMA 5) [om 3 0,oc 4 .add 3 3 2,oc 5 .rem 3 4 4,om 2 5] [0,1] []:=⟨rx,rx⟩
def AMB:=rg Tryz.f195
def A6S:bq:=(.seq (AMB 2) (.seq (AMB 5) .ret))
theorem BHZ:Tryz.f195.body=some A6S:=by kernel_rfl
@[simp] theorem BP4:SX 11 (AMB 2) [oq 3 (.box (tq 0)),oq 4 (.box (tq 1)),oq 5 (.box (tq 2)),ot 6 false] [0,1,2] [3,4,5]/\SX 11 (AMB 5) [oz 7 40 3 7,ol 8 37 7,oq 9 (.oth (.makeFunc (.func 199) #[] #[tq 5,tq 4,tq 3])),od 10 180 [tq 8,tq 9],om 6 10] [3,4,5] [3,4,5]:=⟨rx,rx⟩
def LA:=rg Tryz.f199
def AFS:bq:=(.seq (LA 2) (.seq (LA 5) (.seq (.block 0 (.seq (LA 35) (.cond (.tmp 7) (LA 83) (.seq (LA 179) (.cond (.tmp 22) (LA 371) (.seq (LA 755) (.cond (.tmp 37) (LA 1523) (.seq (LA 3059) (.cond (.tmp 52) (LA 6131) .skip))))))))) (.seq (LA 23) .ret))))
theorem b199:Tryz.f199.body=some AFS:=by kernel_rfl
@[simp] theorem BP5:SX 71 (LA 2) [oq 4 (.box (tq 0)),ot 5 false] [0,1,2,3] []/\SX 71 (LA 5) [ok 6 0] [1,2,3,4] [4]/\SX 71 (LA 35) [ol 8 3 1,oc 9 .eql 3 8 0,om 10 9,gz 10 true 11 86 4 1,gl 10 true 12 3 11,gz 10 true 13 86 2 1,gl 10 true 14 3 13,gb 10 true 15 .eql 3 12 14,oq 16 (.pick (tq 10) (tq 15) (cb false)),om 7 16] [1,2,3,4,6] [4]/\SX 71 (LA 83) [oz 17 86 2 0,ol 18 3 17,oz 19 86 4 0,ol 20 3 19,ob 21 .sub 3 18 20,om 6 21] [2,3,4] [4]/\SX 71 (LA 179) [ol 23 3 1,oc 24 .eql 3 23 2,om 25 24,gz 25 true 26 86 4 1,gl 25 true 27 3 26,gz 25 true 28 86 2 1,gl 25 true 29 3 28,gb 25 true 30 .eql 3 27 29,oq 31 (.pick (tq 25) (tq 30) (cb false)),om 22 31] [1,2,3,4,6] [4]/\SX 71 (LA 371) [oz 32 86 4 0,ol 33 3 32,oz 34 86 2 0,ol 35 3 34,ob 36 .sub 3 33 35,om 6 36] [2,3,4] [4]/\SX 71 (LA 755) [ol 38 3 1,oc 39 .eql 3 38 3,om 40 39,gz 40 true 41 86 4 0,gl 40 true 42 3 41,gz 40 true 43 86 2 0,gl 40 true 44 3 43,gb 40 true 45 .eql 3 42 44,oq 46 (.pick (tq 40) (tq 45) (cb false)),om 37 46] [1,2,3,4,6] [4]/\SX 71 (LA 1523) [oz 47 86 2 1,ol 48 3 47,oz 49 86 4 1,ol 50 3 49,ob 51 .sub 3 48 50,om 6 51] [2,3,4] [4]/\SX 71 (LA 3059) [ol 53 3 1,oc 54 .eql 3 53 1,om 55 54,gz 55 true 56 86 4 0,gl 55 true 57 3 56,gz 55 true 58 86 2 0,gl 55 true 59 3 58,gb 55 true 60 .eql 3 57 59,oq 61 (.pick (tq 55) (tq 60) (cb false)),om 52 61] [1,2,3,4,6] [4]/\SX 71 (LA 6131) [oz 62 86 4 1,ol 63 3 62,oz 64 86 2 1,ol 65 3 64,ob 66 .sub 3 63 65,om 6 66] [2,3,4] [4]/\SX 71 (LA 23) [om 67 6,oz 68 40 3 3,ol 69 3 68,od 70 143 [tq 67,ci 1,tq 69],om 5 70] [3,6] []:=by and_intros<;>exact rx
def AMC:=rg Tryz.f184
def A6T:bq:=(.seq (AMC 2) (.seq (AMC 5) .ret))
theorem BH0:Tryz.f184.body=some A6T:=by kernel_rfl
@[simp] theorem BP6:SX 19 (AMC 2) [oq 4 (.box (tq 0)),oq 5 (.box (tq 1)),ot 8 false] [0,1,2,3] [4]/\SX 19 (AMC 5) [om 9 2,om 10 3,od 11 194 [tq 10],ob 12 .eql 3 9 11,om 13 12,gl 13 false 14 40 4,gl 13 false 15 86 5,gm 13 false 16 3,gd 13 false 17 195 [tq 14,tq 15,tq 16],oq 18 (.pick (tq 13) (cb true) (tq 17)),om 8 18] [2,3,4,5] [4,5]:=⟨rx,rx⟩
def Q8:=rg Tryz.f153
def A6U:bq:=(.seq (Q8 2) (.seq (Q8 5) (.seq (.seq (Q8 19) (.cond (.tmp 25) (Q8 43) .skip)) (.seq (.seq (Q8 39) (.cond (.tmp 27) (Q8 87) .skip)) (.seq (Q8 47) (.seq (Q8 95) .ret))))))
theorem BH1:Tryz.f153.body=some A6U:=by kernel_rfl
@[simp] theorem BP7:SX 36 (Q8 2) [oq 5 (.box (tq 0)),oq 6 (.box (tq 1)),oq 10 (.alloc 155)] [0,1,2,3,4] [5]/\RX 36 (Q8 5) (.drw [⟨[],[oz 13 40 5 5,ol 14 22 13,om 15 2,oi 16 22 14 15,ol 17 3 16,om 18 3,ob 19 .eql 3 17 18,ol 20 40 5,ol 21 86 6,om 22 3,om 23 4,od 24 184 [tq 20,tq 21,tq 22,tq 23],om 11 19,om 12 24],[]⟩]) (some ([2,3,4,5,6,10],[5,6,10]))/\SX 36 (Q8 19) [om 25 11] [10,11,12] [10]/\SX 36 (Q8 43) [oz 26 155 10 0,os (.sto 3 (tq 26) (ci 1))] [10,12] [10]/\SX 36 (Q8 39) [om 27 12] [10,12] [10]/\SX 36 (Q8 87) [oz 28 155 10 1,os (.sto 3 (tq 28) (ci 1))] [10] [10]/\SX 36 (Q8 47) [oz 29 155 10 0,ol 30 3 29,oz 31 155 10 1,ol 32 3 31,ob 33 .mul 3 30 32,oz 34 155 10 2,os (.sto 3 (tq 34) (tq 33))] [10] [10]/\SX 36 (Q8 95) [ol 35 155 10,os (.sto 155 (tq 10) (tq 35))] [10] [10]:=by and_intros<;>exact rx
def Q9:=rg Tryz.f101
@[simp] def AFT:bq:=(lp (Q9 267) 12 0 1 (.seq (Q9 1099) (Q9 1611)) (Q9 459))
def T4:=AFT
def A6V:bq:=(.seq (Q9 2) (.seq (Q9 5) (.seq (.seq (Q9 19) (.block 0 (.loop T4))) (.seq (Q9 23) .ret))))
theorem BH2:Tryz.f101.body=some A6V:=by kernel_rfl
@[simp] theorem BP8:UX 35 T4 AFT/\SX 35 (Q9 2) [oq 2 (.box (tq 0)),oq 4 (.mv (.const (.slice none 0 0)))] [0,1] [2]/\SX 35 (Q9 5) [oq 5 (.mv (.const (.slice none 0 0)))] [1,2] [2]/\SX 35 (Q9 19) [ok 6 0] [1,2,5] [2,29]/\SX 35 (Q9 267) [om 8 6,oz 9 27 2 6,ol 10 23 9,oe 11 10 23,ob 12 .lss 3 8 11] [1,2,5,6] [2,29]/\SX 35 (Q9 1099) [oz 15 27 2 6,ol 16 23 15,om 17 6,oi 18 23 16 17,ol 19 22 18,om 7 19] [1,2,5,6] [2,29]/\RX 35 (Q9 1611) (.drw [⟨[],[om 20 5,om 21 7,om 22 1,om 23 7,oe 24 23 22,ob 25 .rem 3 22 24,oi 26 22 21 25,ol 27 3 26,oq 28 (.buildS 22 1 [(0,tq 27)]),om 30 1,om 31 7,oe 32 31 22,ob 33 .quo 3 30 32,oq 29 (.app [tq 20,tq 28] [22,22]),om 5 29,om 1 33],[]⟩]) (some ([1,2,5,6,7],[2,29]))/\SX 35 (Q9 459) [om 13 6,oc 14 .add 3 13 1,om 6 14] [1,2,5,6] [2,29]/\SX 35 (Q9 23) [om 34 5,om 4 34] [5] [29]/\LX 35 T4 [1,2,5,6] [2,29]:=⟨fun _ _=>rfl,rx,rx,rx,rx,rx,rx,rx,rx,lx⟩
def RA:=rg Tryz.f170
@[simp] def AFU:bq:=(.seq (RA 69) (.seq (.cond (.tmp 9) .skip (.exit 0)) (.seq (.block 1 (.seq (RA 1125) (.seq (RA 2661) (.cond (.tmp 16) (.seq (RA 9829) .ret) .skip)))) (RA 485))))
def T5:=AFU
def AUH:bq:=(.seq (RA 2) (.seq (.seq (RA 9) (.block 0 (.loop T5))) (.seq (RA 11) .ret)))
theorem A6W:Tryz.f170.body=some AUH:=by kernel_rfl
@[simp] theorem BP9:UX 19 T5 AFU/\SX 19 (RA 2) [ok 4 0] [0,1] []/\SX 19 (RA 9) [om 6 0,oe 7 6 22,ok 8 0] [0,1] []/\SX 19 (RA 69) [ob 9 .lss 3 8 7] [0,1,7,8] []/\SX 19 (RA 1125) [om 10 8,om 5 10] [0,1,7,8] []/\SX 19 (RA 2661) [om 11 1,om 12 0,om 13 5,oi 14 22 12 13,ol 15 3 14,ob 16 .eql 3 11 15] [0,1,5,7,8] []/\SX 19 (RA 9829) [om 17 5,om 4 17] [5] []/\SX 19 (RA 485) [oc 18 .add 3 8 1,om 8 18] [0,1,3,7,8] []/\SX 19 (RA 11) [oq 4 (.mv (.const (.int .i64 (bj 0))))] [] []/\LX 19 T5 [0,1,7,8] []:=⟨fun _ _=>rfl,rx,rx,rx,rx,rx,rx,rx,rx,lx⟩
def AMD:=rg Tryz.f132
def A6X:bq:=(.seq (AMD 2) (.seq (AMD 5) .ret))
theorem BH3:Tryz.f132.body=some A6X:=by kernel_rfl
@[simp] theorem BQA:SX 9 (AMD 2) [ot 4 false] [0,1] [7]/\SX 9 (AMD 5) [om 5 0,om 6 1,od 7 170 [tq 5,tq 6],oc 8 .geq 3 7 0,om 4 8] [0,1,2,3] [2,3]:=⟨rx,rx⟩
def RB:=rg Tryz.f164
@[simp] def AFV:bq:=(.seq (RB 69) (.seq (.cond (.tmp 13) .skip (.exit 0)) (.seq (.block 1 (.seq (RB 1125) (.seq (RB 2661) (.cond (.tmp 30) (.seq (RB 9829) .ret) .skip)))) (RB 485))))
def T6:=AFV
def A6Y:bq:=(.seq (RB 2) (.seq (.seq (RB 9) (.block 0 (.loop T6))) (.seq (RB 11) .ret)))
theorem BH4:Tryz.f164.body=some A6Y:=by kernel_rfl
@[simp] theorem BQB:UX 32 T6 AFV/\SX 32 (RB 2) [oq 3 (.box (tq 0)),ot 6 false] [0,1,2] [3]/\SX 32 (RB 9) [oz 9 40 3 8,ol 10 38 9,oe 11 10 38,ok 12 0] [1,2,3] [3]/\SX 32 (RB 69) [ob 13 .lss 3 12 11] [1,2,10,11,12] [3]/\SX 32 (RB 1125) [om 14 12,oi 15 38 10 12,ol 16 99 15,oq 8 (.alloc 99),om 7 14,os (.sto 99 (tq 8) (tq 16))] [1,2,10,11,12] [3]/\RX 32 (RB 2661) (.drw [⟨[],[om 17 2,om 18 7],[od 19 132 [tq 17,tq 18]]⟩,⟨[],[ou 20 19,om 21 20,gm 21 true 22 1,gz 21 true 23 99 8 0,gl 21 true 24 3 23,gi 21 true 25 22 22 24,gl 21 true 26 3 25,gz 21 true 27 99 8 1,gl 21 true 28 3 27,gb 21 true 29 .neq 3 26 28,oq 30 (.pick (tq 21) (tq 29) (cb false))],[]⟩]) (some ([1,2,7,8,10,11,12],[3,8]))/\SX 32 (RB 9829) [ot 6 false] [] []/\SX 32 (RB 485) [oc 31 .add 3 12 1,om 12 31] [1,2,10,11,12] [3]/\SX 32 (RB 11) [ot 6 true] [] []/\LX 32 T6 [1,2,10,11,12] [3]:=⟨fun _ _=>rfl,rx,rx,rx,rx,rx,rx,rx,rx,lx⟩
def O5:=rg Tryz.f165
@[simp] def AFW:bq:=(lp (O5 535) 15 0 1 (O5 1175) (O5 919))
def kD:=AFW
def A6Z:bq:=(.seq (O5 2) (.seq (.seq (O5 9) (.cond (.tmp 7) (O5 21) .skip)) (.seq (O5 11) (.seq (.seq (O5 39) (.block 0 (.loop kD))) (.seq (O5 47) .ret)))))
theorem BH5:Tryz.f165.body=some A6Z:=by kernel_rfl
@[simp] theorem BQC:UX 25 kD AFW/\SX 25 (O5 2) [ok 2 0] [0] []/\SX 25 (O5 9) [om 5 0,oe 6 5 22,oc 7 .lss 3 6 1] [0] []/\SX 25 (O5 11) [om 9 0,oq 10 (.oth (.indexAddr 22 (tq 9) (ci 0))),ol 11 3 10,om 3 11] [0] []/\SX 25 (O5 39) [ok 4 1] [0,3] []/\SX 25 (O5 535) [om 12 4,om 13 0,oe 14 13 22,ob 15 .lss 3 12 14] [0,3,4] []/\SX 25 (O5 1175) [om 18 3,om 19 0,om 20 4,oi 21 22 19 20,ol 22 3 21,oq 23 (.oth (.call ⟨.builtin .min,#[tq 18,tq 22],#[3,3]⟩)),om 3 23] [0,3,4] []/\SX 25 (O5 919) [om 16 4,oc 17 .add 3 16 1,om 4 17] [0,3,4] []/\SX 25 (O5 47) [om 24 3,om 2 24] [3] []/\LX 25 kD [0,3,4] []:=⟨fun _ _=>rfl,rx,rx,rx,rx,rx,rx,rx,rx,lx⟩
def AME:=rg Tryz.f198
def A60:bq:=(.seq (AME 2) (.seq (AME 5) .ret))
theorem BH6:Tryz.f198.body=some A60:=by kernel_rfl
@[simp] theorem BQD:SX 5 (AME 2) [ok 2 0] [0] []/\SX 5 (AME 5) [om 3 0,od 4 165 [tq 3],om 2 4] [0,1,2] [1,2]:=⟨rx,rx⟩
def AMF:=rg Tryz.f186
def A61:bq:=(.seq (AMF 2) (.seq (AMF 5) .ret))
theorem BH7:Tryz.f186.body=some A61:=by kernel_rfl
@[simp] theorem BQE:SX 15 (AMF 2) [oq 2 (.box (tq 0)),oq 4 (.alloc 207)] [0,1] []/\RX 15 (AMF 5) (.drw [⟨[],[oz 5 207 2 0,oq 6 (.ldz 3 (tq 5)),om 7 1,oq 8 (.buildS 22 2 [(0,tq 6),(1,tq 7)]),od 9 198 [tq 8],oz 10 207 2 1,oq 11 (.ldz 3 (tq 10)),om 12 1,oq 13 (.oth (.call ⟨.builtin .max,#[tq 11,tq 12],#[3,3]⟩)),oq 14 (.build 207 [(0,tq 9),(1,tq 13)])],[os (.sto 207 (tq 4) (tq 14))]⟩]) (some ([1,2,4],[2,4])):=⟨rx,rx⟩
def fJ:=rg Tryz.f196
def A62:bq:=(.seq (fJ 2) (.seq (fJ 5) (.seq (fJ 11) (.seq (fJ 23) (fJ 31)))))
theorem b196:Tryz.f196.body=some A62:=by kernel_rfl
@[simp] theorem BQF:SX 13 (fJ 2) [oq 3 (.box (tq 0))] [0,1,2] [3,4,5,9]/\SX 13 (fJ 5) [oz 6 40 1 0,ol 7 3 6,oc 8 .add 3 7 1,oq 9 (.mkS 22 (tq 8) (tq 8)),oq 4 (.alloc 22),os (.sto 22 (tq 4) (tq 9))] [1,2,3] [3,4,5,9]/\SX 13 (fJ 11) [oq 5 (.alloc 177)] [1,2,3,4] [3,4,5,9]/\SX 13 (fJ 23) [oq 10 (.oth (.makeFunc (.func 197) #[] #[tq 4,tq 1,tq 2,tq 3,tq 5])),os (.sto 177 (tq 5) (tq 10))] [1,2,3,4,5] [3,4,5,9]/\SX 13 (fJ 31) [ol 11 177 5,oq 12 (.call false none (tq 11) [ci 0])] [5] [3,4,5,9]:=⟨rx,rx,rx,rx,rx⟩
def LB:=rg Tryz.f197
@[simp] def AFX:bq:=(.seq (LB 139) (.seq (.cond (.tmp 31) .skip (.exit 0)) (.seq (.block 1 (.seq (LB 2251) (.seq (LB 5323) (.seq (LB 11467) (.cond (.tmp 42) (.seq (LB 40139) .ret) .skip))))) (LB 971))))
def T7:=AFX
def AFY:bq:=(.seq (LB 2) (.seq (.seq (LB 9) (.cond (.tmp 13) (.seq (LB 37) .ret) .skip)) (.seq (.seq (LB 19) (.block 0 (.loop T7))) (.seq (LB 23) .ret))))
theorem b197:Tryz.f197.body=some AFY:=by kernel_rfl
@[simp] theorem BH8(n:Nat)(st:XS):AE bk ann kn (n+1) 44 (LB 37) st=QW (KA bk (cfU [20009,30009] (BQ bk ann kn n)) (.str [ol 14 40 2,ol 15 22 1,ol 16 22 3,od 17 164 [tq 14,tq 15,tq 16],ou 18 17,om 19 18,gl 19 false 20 193 4,gl 19 false 21 22 1,og 19 false 22 (.call false none (tq 20) [tq 21]),oq 23 (.pick (tq 19) (cb true) (tq 22)),om 7 23]) (CO (some ([1,2,3,4],[])) (MD [] st))) :=
 XQ (by kernel_rfl) (by kernel_rfl) (by kernel_rfl) (by kernel_rfl) (by kernel_rfl) (by kernel_rfl)
@[simp] theorem BQG:UX 44 T7 AFX/\SX 44 (LB 2) [ot 7 false] [0,1,2,3,4,5] []/\SX 44 (LB 9) [om 10 0,ol 11 22 1,oe 12 11 22,ob 13 .eql 3 10 12] [0,1,2,3,4,5] []/\SX 44 (LB 19) [oz 24 40 2 6,ol 25 23 24,om 26 0,oi 27 23 25 26,ol 28 22 27,oe 29 28 22,ok 30 0] [0,1,2,5] []/\SX 44 (LB 139) [ob 31 .lss 3 30 29] [0,1,5,28,29,30] []/\SX 44 (LB 2251) [oi 32 22 28 30,ol 33 3 32,om 9 33] [0,1,5,28,29,30] []/\SX 44 (LB 5323) [ol 34 22 1,om 35 0,om 36 9,oi 37 22 34 35,os (.sto 3 (tq 37) (tq 36))] [0,1,5,9,28,29,30] []/\SX 44 (LB 11467) [ol 38 177 5,om 39 0,oc 40 .add 3 39 1,oq 41 (.call false none (tq 38) [tq 40]),ou 42 41] [0,1,5,28,29,30] []/\SX 44 (LB 40139) [ot 7 false] [] []/\SX 44 (LB 971) [oc 43 .add 3 30 1,om 30 43] [0,1,5,28,29,30] []/\SX 44 (LB 23) [ot 7 true] [] []/\LX 44 T7 [0,1,5,28,29,30] []:=⟨fun _ _=>rfl,rx,rx,rx,rx,rx,rx,rx,rx,rx,rx,lx⟩
def AMG:=rg Tryz.f185
def A63:bq:=(.seq (AMG 2) (.seq (AMG 5) .ret))
theorem BH9:Tryz.f185.body=some A63:=by kernel_rfl
@[simp] theorem BQH:SX 6 (AMG 2) [oq 2 (.box (tq 0)),oq 3 (.box (tq 1)),oq 4 (.mv (.const .nilFunc))] [0,1] [2,3]/\SX 6 (AMG 5) [oq 5 (.oth (.makeFunc (.func 196) #[] #[tq 2,tq 3])),om 4 5] [2,3] [2,3]:=⟨rx,rx⟩
def EG:=rg Tryz.f154
@[simp] def xT:bq:=(.seq (EG 36191) (.seq (.cond (.tmp 35) .skip (.exit 2)) (.seq (.block 3 (.seq (EG 576863) (.seq (EG 1363295) (.cond (.tmp 48) (EG 2936159) .skip)))) (EG 249183))))
def KL:=xT
def AFZ:bq:=(.seq (EG 2) (.seq (.seq (EG 9) (.seq (EG 21) (.cond (.tmp 15) (.seq (EG 77) .ret) .skip))) (.seq (.seq (EG 19) (.cond (.tmp 19) (.seq (EG 75) .ret) .skip)) (.seq (EG 23) (.seq (EG 47) (.seq (.seq (EG 159) (.block 0 (.rangeFunc (.tmp 30) #[31] (EG 607) (.block 1 (.seq (EG 2399) (.seq (EG 5471) (.block 2 (.loop KL)))))))) (.seq (.seq (EG 319) (.cond (.tmp 67) (.seq (EG 1215) .ret) .skip)) (.seq (EG 383) .ret))))))))
theorem b154:Tryz.f154.body=some AFZ:=by kernel_rfl
@[simp] theorem BEC(n:Nat)(st:XS):AE bk ann kn (n+1) 69 (EG 1363295) st=QW (KA bk (cfU [20800,20801,20802,20803,20804] (BQ bk ann kn n)) (.str [ol 39 233 7,oq 40 (.oth (.nilCheck (tq 39))),oz 41 250 40 1,ol 42 23 41,om 43 10,oi 44 23 42 43,ol 45 22 44,om 46 11,od 47 132 [tq 45,tq 46],ou 48 47]) (CO (some ([7,10,11,32,33,34],[2,7,24,25,26,28,30,63,800,801,802,803,804])) (MD [] st))) :=
 XQ (by kernel_rfl) (by kernel_rfl) (by kernel_rfl) (by kernel_rfl) (by kernel_rfl) (by kernel_rfl)
@[simp] theorem BED(n:Nat)(st:XS):AE bk ann kn (n+1) 69 (EG 249183) st=QW (KA bk (BQ bk ann kn n) (.str [oc 65 .add 3 34 1,om 34 65]) (CO (some ([7,32,33,34],[2,7,24,25,26,28,30,63,800,801,802,803,804])) (MD [25008011801063] st))) :=
 D6 (by kernel_rfl) (by kernel_rfl) (by kernel_rfl) (by kernel_rfl) (by kernel_rfl)
@[simp] theorem BEE(n:Nat)(st:XS):AE bk ann kn (n+1) 69 (EG 383) st=QW (KA bk (BQ bk ann kn n) (.str [ol 68 233 7,om 4 68,ok 5 0]) (CO (some ([7],[2,7,24,25,26,28,30,63,800,801,802,803,804])) (MD [1000000000000024,24,901025,902026,903028] st))) :=
 D6 (by kernel_rfl) (by kernel_rfl) (by kernel_rfl) (by kernel_rfl) (by kernel_rfl)
@[simp] theorem BQI:UX 69 KL xT/\SX 69 (EG 2) [oq 2 (.box (tq 0)),oq 4 (.mv (.const (.pointer none))),ok 5 0] [0,1] [2,7,24,25,26,28,30,63,800,801,802,803,804]/\SX 69 (EG 9) [ol 12 40 2,od 13 110 [tq 12],om 6 13] [1,2] [2,7,24,25,26,28,30,63,800,801,802,803,804]/\SX 69 (EG 21) [om 14 6,oc 15 .neq 34 14 0] [1,2,6] [2,7,24,25,26,28,30,63,800,801,802,803,804]/\SX 69 (EG 77) [om 16 6,oq 4 (.mv (.const (.pointer none))),om 5 16] [6] []/\SX 69 (EG 19) [om 17 1,oq 18 (.call false none (tq 17) []),ou 19 18] [1,2] [2,7,24,25,26,28,30,63,800,801,802,803,804]/\SX 69 (EG 75) [oq 4 (.mv (.const (.pointer none))),ok 5 2] [] []/\RX 69 (EG 23) (.drw [⟨[24,25,26,28,7],[oq 20 (.ldz 40 (tq 2)),oz 21 40 2 0,oq 22 (.ldz 3 (tq 21)),oc 23 .add 3 22 1,oq 24 (.mkS 23 (tq 23) (tq 23)),oq 25 (.mkM none),oq 26 (.mkM none),oq 27 (.build 250 [(0,tq 20),(1,tq 24),(2,tq 25),(3,tq 26)]),oq 28 (.box (tq 27)),oq 7 (.alloc 233)],[os (.sto 233 (tq 7) (tq 28))]⟩]) (some ([2],[2,30,63]))/\SX 69 (EG 47) [oq 8 (.alloc 4),os (.sto 4 (tq 8) (cb false))] [2,7] [2,7,24,25,26,28,30,63,800,801,802,803,804]/\SX 69 (EG 159) [ol 29 40 2,od 30 185 [tq 29,.const (.slice none 0 0)]] [2,7,8] [2,7,8,24,25,26,28,30,63,800,801,802,803,804]/\SX 69 (EG 607) [om 9 31] [7,8,31] [2,7,8,24,25,26,28,30,63,800,801,802,803,804]/\SX 69 (EG 2399) [os (.sto 4 (tq 8) (cb true))] [7,8,9] [2,7,8,24,25,26,28,30,63,800,801,802,803,804]/\SX 69 (EG 5471) [om 32 9,oe 33 32 22,ok 34 0] [7,9] [2,7,24,25,26,28,30,63,800,801,802,803,804]/\SX 69 (EG 36191) [ob 35 .lss 3 34 33] [7,32,33,34] [2,7,24,25,26,28,30,63,800,801,802,803,804]/\SX 69 (EG 576863) [om 36 34,oi 37 22 32 34,ol 38 3 37,om 10 36,om 11 38] [7,32,33,34] [2,7,24,25,26,28,30,63,800,801,802,803,804]/\RX 69 (EG 2936159) (.drw [⟨[],[ol 49 233 7,oq 50 (.oth (.nilCheck (tq 49))),oz 51 250 50 1,ol 52 23 51,om 53 10,ol 54 233 7,oq 55 (.oth (.nilCheck (tq 54))),oz 56 250 55 1,ol 57 23 56,om 58 10,oi 59 23 57 58,oq 60 (.ldz 22 (tq 59)),om 61 11,oq 62 (.buildS 22 1 [(0,tq 61)]),oq 63 (.app [tq 60,tq 62] [22,22]),oi 64 23 52 53],[os (.sto 22 (tq 64) (tq 63))]⟩]) (some ([7,10,11,32,33,34],[2,7,24,25,26,28,30,63,800,801,802,803,804]))/\SX 69 (EG 319) [ol 66 4 8,ou 67 66] [7,8] [2,7,8,24,25,26,28,30,63,800,801,802,803,804]/\SX 69 (EG 1215) [oq 4 (.mv (.const (.pointer none))),ok 5 11] [] []/\LX 69 KL [7,32,33,34] [2,7,24,25,26,28,30,63,800,801,802,803,804]:=by and_intros<;>first|exact rx|exact lx|exact fun _ _=>rfl
def fC:=rg Tryz.f68
@[simp] def AQK:bq:=(lp (fC 267) 28 0 1 (fC 587) (fC 459))
def aA:=AQK
@[simp] def AQL:bq:=(lp (fC 535) 46 2 3 (fC 1175) (fC 919))
def aB:=AQL
def c68:bq:=(.seq (fC 2) (.seq (fC 5) (.seq (.seq (fC 19) (.block 0 (.loop aA))) (.seq (.seq (fC 39) (.block 2 (.loop aB))) (.seq (fC 47) .ret)))))
theorem b68:Tryz.f68.body=some c68:=by kernel_rfl
@[simp] theorem x68:UX 68 aA AQK/\UX 68 aB AQL/\SX 68 (fC 2) [oq 1 (.box (tq 0)),oq 2 (.alloc 40)] [0] [1,2,3,16,19,22,40,65]/\RX 68 (fC 5) (.drw [⟨[3],[oz 6 27 1 0,oq 7 (.ldz 3 (tq 6)),oz 8 27 1 1,oq 9 (.ldz 3 (tq 8)),oz 10 27 1 2,oq 11 (.ldz 3 (tq 10)),oz 12 27 1 3,oq 13 (.ldz 3 (tq 12)),oz 14 27 1 4,oq 15 (.ldz 22 (tq 14)),od 16 114 [tq 15],oz 17 27 1 5,oq 18 (.ldz 22 (tq 17)),od 19 114 [tq 18],oz 20 27 1 6,oq 21 (.ldz 23 (tq 20)),od 22 115 [tq 21],oq 23 (.build 40 [(0,tq 7),(1,tq 9),(2,tq 11),(3,tq 13),(4,tq 16),(5,tq 19),(6,tq 22)]),oq 3 (.alloc 40)],[os (.sto 40 (tq 3) (tq 23))]⟩]) (some ([1,2],[1,2,40,65]))/\SX 68 (fC 19) [ok 4 0] [1,2,3] [1,2,3,16,19,22,40,65]/\SX 68 (fC 267) [om 24 4,oz 25 27 1 7,ol 26 24 25,oe 27 26 24,ob 28 .lss 3 24 27] [1,2,3,4] [1,2,3,16,19,22,40,65]/\RX 68 (fC 587) (.drw [⟨[],[oz 31 40 3 7,oq 32 (.ldz 37 (tq 31)),oz 33 27 1 7,ol 34 24 33,om 35 4,oi 36 24 34 35,ol 37 59 36,od 38 48 [tq 37],oq 39 (.buildS 37 1 [(0,tq 38)]),oq 40 (.app [tq 32,tq 39] [37,37]),oz 41 40 3 7],[os (.sto 37 (tq 41) (tq 40))]⟩]) (some ([1,2,3,4],[1,2,3,16,19,22,40,65]))/\SX 68 (fC 459) [om 29 4,oc 30 .add 3 29 1,om 4 30] [1,2,3,4] [1,2,3,16,19,22,40,65]/\SX 68 (fC 39) [ok 5 0] [1,2,3] [1,2,3,16,19,22,40,65]/\SX 68 (fC 535) [om 42 5,oz 43 27 1 8,ol 44 25 43,oe 45 44 25,ob 46 .lss 3 42 45] [1,2,3,5] [1,2,3,16,19,22,40,65]/\RX 68 (fC 1175) (.drw [⟨[],[oz 49 40 3 8,oq 50 (.ldz 38 (tq 49)),oz 51 27 1 8,ol 52 25 51,om 53 5,oi 54 25 52 53,oz 55 188 54 0,ol 56 3 55,oz 57 27 1 8,ol 58 25 57,om 59 5,oi 60 25 58 59,oz 61 188 60 1,ol 62 3 61,oq 63 (.build 99 [(0,tq 56),(1,tq 62)]),oq 64 (.buildS 38 1 [(0,tq 63)]),oq 65 (.app [tq 50,tq 64] [38,38]),oz 66 40 3 8],[os (.sto 38 (tq 66) (tq 65))]⟩]) (some ([1,2,3,5],[1,2,3,16,19,22,40,65]))/\SX 68 (fC 919) [om 47 5,oc 48 .add 3 47 1,om 5 48] [1,2,3,5] [1,2,3,16,19,22,40,65]/\SX 68 (fC 47) [ol 67 40 3,os (.sto 40 (tq 2) (tq 67))] [2,3] [1,2,3,16,19,22,40,65]/\LX 68 aA [1,2,3,4] [1,2,3,16,19,22,40,65]/\LX 68 aB [1,2,3,5] [1,2,3,16,19,22,40,65]:=by and_intros<;>first|exact rx|exact lx|exact fun _ _=>rfl
def JH:=rg Tryz.f157
@[simp] def AF0:bq:=(.seq (JH 71269) (.seq (.cond (.tmp 28) .skip (.exit 2)) (.seq (.block 3 (.seq (JH 1152613) (JH 1676901))) (JH 497253))))
def T8:=AF0
@[simp] def AF1:bq:=(.seq (JH 69) (.seq (.cond (.tmp 20) .skip (.exit 0)) (.seq (.block 1 (.seq (JH 1125) (.seq (JH 2661) (.seq (.seq (JH 9829) (.block 2 (.loop T8))) (JH 7781))))) (JH 485))))
def T9:=AF1
def A64:bq:=(.seq (JH 2) (.seq (.seq (JH 9) (.block 0 (.loop T9))) (.seq (JH 11) .ret)))
theorem BIA:Tryz.f157.body=some A64:=by kernel_rfl
@[simp] theorem BQK:UX 66 T8 AF0/\UX 66 T9 AF1/\SX 66 (JH 2) [oq 4 (.box (tq 0)),oq 7 (.box (tq 3)),oq 8 (.alloc 207)] [0,1,2,3] [4]/\SX 66 (JH 9) [om 14 1,oq 15 (.oth (.nilCheck (tq 14))),oz 16 250 15 1,ol 17 23 16,oe 18 17 23,ok 19 0] [1,2,4,7,8] [4,7,8]/\SX 66 (JH 69) [ob 20 .lss 3 19 18] [1,2,4,7,8,17,18,19] [4,7,8]/\SX 66 (JH 1125) [om 21 19,oi 22 23 17 19,ol 23 22 22,om 9 21,om 10 23] [1,2,4,7,8,17,18,19] [4,7,8]/\SX 66 (JH 2661) [oq 24 (.build 207 [(0,ci 1),(1,ci 0)]),oq 11 (.alloc 207),os (.sto 207 (tq 11) (tq 24))] [1,2,4,7,8,9,10,17,18,19] [4,7,8]/\SX 66 (JH 9829) [om 25 10,oe 26 25 22,ok 27 0] [1,2,4,7,8,9,10,11,17,18,19] [4,7,8,11]/\SX 66 (JH 71269) [ob 28 .lss 3 27 26] [1,2,4,7,8,9,11,17,18,19,25,26,27] [4,7,8,11]/\SX 66 (JH 1152613) [oi 29 22 25 27,ol 30 3 29,om 13 30] [1,2,4,7,8,9,11,17,18,19,25,26,27] [4,7,8,11]/\RX 66 (JH 1676901) (.drw [⟨[],[oq 31 (.ldz 207 (tq 11)),oz 32 238 4 0,oq 33 (.ldz 236 (tq 32)),om 34 1,oq 35 (.oth (.nilCheck (tq 34))),oz 36 250 35 0,oq 37 (.ldz 40 (tq 36)),oq 38 (.ldz 86 (tq 7)),om 39 9,om 40 2,om 41 9,oi 42 23 40 41,oq 43 (.ldz 22 (tq 42)),oz 44 86 7 0,oq 45 (.ldz 3 (tq 44)),oi 46 22 43 45,oq 47 (.ldz 3 (tq 46)),om 48 13,od 49 153 [tq 37,tq 38,tq 39,tq 47,tq 48],oq 50 (.call false none (tq 33) [tq 49])],[oq 51 (.call true none (.func 186) [tq 31,tq 50])]⟩,⟨[],[],[os (.sto 207 (tq 11) (tq 51))]⟩]) (some ([1,2,4,7,8,9,11,13,17,18,19,25,26,27],[4,7,8,11]))/\SX 66 (JH 497253) [oc 52 .add 3 27 1,om 27 52] [1,2,4,7,8,9,11,17,18,19,25,26,27] [4,7,8,11]/\SX 66 (JH 7781) [oz 53 207 8 0,ol 54 3 53,oz 55 207 11 0,ol 56 3 55,ob 57 .add 3 54 56,oz 58 207 8 1,ol 59 3 58,oz 60 207 11 1,ol 61 3 60,ob 62 .add 3 59 61,oq 63 (.build 207 [(0,tq 57),(1,tq 62)]),os (.sto 207 (tq 8) (tq 63))] [1,2,4,7,8,11,17,18,19] [4,7,8,11]/\SX 66 (JH 485) [oc 64 .add 3 19 1,om 19 64] [1,2,4,7,8,17,18,19] [4,7,8]/\SX 66 (JH 11) [ol 65 207 8,os (.sto 207 (tq 8) (tq 65))] [8] [8]/\LX 66 T9 [1,2,4,7,8,17,18,19] [4,7,8]/\LX 66 T8 [1,2,4,7,8,9,11,17,18,19,25,26,27] [4,7,8,11]:=by and_intros<;>first|exact rx|exact lx|exact fun _ _=>rfl
def AMH:=rg Tryz.f156
def A65:bq:=(.seq (AMH 2) (.seq (AMH 5) .ret))
theorem BIB:Tryz.f156.body=some A65:=by kernel_rfl
@[simp] theorem BQL:SX 5 (AMH 2) [oq 1 (.box (tq 0)),ok 2 0] [0] [1]/\SX 5 (AMH 5) [oz 3 155 1 1,ol 4 3 3,om 2 4] [0,1,2] [1,2]:=⟨rx,rx⟩
def AMI:=rg Tryz.f158
def A66:bq:=(.seq (AMI 2) (.seq (AMI 5) .ret))
theorem BIC:Tryz.f158.body=some A66:=by kernel_rfl
@[simp] theorem BQM:SX 5 (AMI 2) [oq 1 (.box (tq 0)),ok 2 0] [0] [1]/\SX 5 (AMI 5) [oz 3 155 1 2,ol 4 3 3,om 2 4] [0,1,2] [1,2]:=⟨rx,rx⟩
def EO:=rg Tryz.f117
@[simp] def xU:bq:=(.seq (EO 583840559) (.seq (.cond (.tmp 42) .skip (.exit 4)) (.seq (.block 5 (.seq (EO 9442210607) (EO 13737177903))) (EO 4073501487))))
def O6:=xU
@[simp] def xV:bq:=(.seq (EO 570159) (.seq (.cond (.tmp 34) .skip (.exit 2)) (.seq (.block 3 (.seq (EO 9220911) (.seq (EO 21803823) (.seq (.seq (EO 80524079) (.block 4 (.loop O6))) (EO 63746863))))) (EO 3978031))))
def O7:=xV
@[simp] def AF2:bq:=(.seq (EO 559) (.seq (.cond (.tmp 26) .skip (.exit 0)) (.seq (.block 1 (.seq (EO 9007) (.seq (EO 21295) (.seq (.seq (EO 78639) (.block 2 (.loop O7))) (EO 62255))))) (EO 3887))))
def UA:=AF2
def AF3:bq:=(.seq (EO 2) (.seq (EO 5) (.seq (.seq (EO 19) (.cond (.tmp 21) (.seq (EO 75) .ret) .skip)) (.seq (EO 23) (.seq (.seq (EO 79) (.block 0 (.loop UA))) (.seq (EO 95) .ret))))))
theorem BID:Tryz.f117.body=some AF3:=by kernel_rfl
@[simp] theorem BIE(n:Nat)(st:XS):AE bk ann kn (n+1) 90 (EO 23) st=QW (KA bk (BQ bk ann kn n) (.str [oq 8 (.mv (.const (.slice none 0 0)))]) (CO (some ([2,3,6],[2,3,17,900,901,902])) (MD [902] st))) :=
 D6 (by kernel_rfl) (by kernel_rfl) (by kernel_rfl) (by kernel_rfl) (by kernel_rfl)
@[simp] theorem BEF(n:Nat)(st:XS):AE bk ann kn (n+1) 90 (EO 62255) st=QW (KA bk (BQ bk ann kn n) (.str [om 84 8,om 85 10,oq 86 (.buildS 197 1 [(0,tq 85)]),oq 87 (.app [tq 84,tq 86] [197,197]),om 8 87]) (CO (some ([2,3,6,8,10,24,25],[2,3,17,30,87])) (MD [30] st))) :=
 D6 (by kernel_rfl) (by kernel_rfl) (by kernel_rfl) (by kernel_rfl) (by kernel_rfl)
@[simp] theorem BQN:UX 90 O6 xU/\UX 90 O7 xV/\UX 90 UA AF2/\SX 90 (EO 2) [oq 2 (.box (tq 0)),oq 3 (.box (tq 1)),oq 4 (.mv (.const (.slice none 0 0))),ok 5 0] [0,1] [2,3,17,900,901,902]/\SX 90 (EO 5) [ol 15 40 2,oq 16 (.oth (.makeFunc (.func 155) #[] #[tq 2,tq 3])),od 17 154 [tq 15,tq 16],om 14 17,oq 18 (.oth (.extract (tq 14) 0)),oq 19 (.oth (.extract (tq 14) 1)),om 6 18,om 7 19] [2,3] [2,3,17,900,901,902]/\SX 90 (EO 19) [om 20 7,oc 21 .neq 34 20 0] [2,3,6,7] [2,3,17,900,901,902]/\SX 90 (EO 75) [om 22 7,oq 4 (.mv (.const (.slice none 0 0))),om 5 22] [7] []/\SX 90 (EO 79) [oz 23 40 2 1,ol 24 3 23,ok 25 0] [2,3,6,8] [2,3,17,87]/\SX 90 (EO 559) [ob 26 .lss 3 25 24] [2,3,6,8,24,25] [2,3,17,87]/\SX 90 (EO 9007) [om 27 25,om 9 27] [2,3,6,8,24,25] [2,3,17,87]/\SX 90 (EO 21295) [oz 28 40 2 2,ol 29 3 28,oq 30 (.mkS 204 (tq 29) (tq 29)),om 10 30] [2,3,6,8,9,24,25] [2,3,17,87]/\SX 90 (EO 78639) [om 31 10,oe 32 31 204,ok 33 0] [2,3,6,8,9,10,24,25] [2,3,17,30,87]/\SX 90 (EO 570159) [ob 34 .lss 3 33 32] [2,3,6,8,9,10,24,25,32,33] [2,3,17,30,87]/\SX 90 (EO 9220911) [om 35 33,om 11 35] [2,3,6,8,9,10,24,25,32,33] [2,3,17,30,87]/\SX 90 (EO 21803823) [om 36 9,om 37 11,oq 38 (.build 86 [(0,tq 36),(1,tq 37)]),oq 12 (.alloc 86),os (.sto 86 (tq 12) (tq 38))] [2,3,6,8,9,10,11,24,25,32,33] [2,3,17,30,87]/\SX 90 (EO 80524079) [ol 39 23 3,oe 40 39 23,ok 41 0] [2,3,6,8,9,10,11,12,24,25,32,33] [2,3,12,17,30,87]/\SX 90 (EO 583840559) [ob 42 .lss 3 41 40] [2,3,6,8,9,10,11,12,24,25,32,33,40,41] [2,3,12,17,30,87]/\SX 90 (EO 9442210607) [om 43 41,om 13 43] [2,3,6,8,9,10,11,12,24,25,32,33,40,41] [2,3,12,17,30,87]/\RX 90 (EO 13737177903) (.drw [⟨[],[om 44 10,om 45 11,oi 46 204 44 45,oz 47 209 46 0,oq 48 (.ldz 3 (tq 47)),oq 49 (.ldz 40 (tq 2)),oq 50 (.ldz 86 (tq 12)),om 51 13,oq 52 (.ldz 23 (tq 3)),om 53 13,oi 54 23 52 53,oq 55 (.ldz 22 (tq 54)),om 56 9,oi 57 22 55 56,oq 58 (.ldz 3 (tq 57)),od 59 153 [tq 49,tq 50,tq 51,tq 58,ci 0],oq 60 (.oth (.field 155 (tq 59) 0)),ob 61 .add 3 48 60,oi 62 204 44 45,oz 63 209 62 0,os (.sto 3 (tq 63) (tq 61))],[]⟩]) (some ([2,3,6,8,9,10,11,12,13,24,25,32,33,40,41],[2,3,12,17,30,87]))/\SX 90 (EO 4073501487) [oc 64 .add 3 41 1,om 41 64] [2,3,6,8,9,10,11,12,24,25,32,33,40,41] [2,3,12,17,30,87]/\RX 90 (EO 63746863) (.drw [⟨[73,78],[om 65 10,om 66 11,om 67 10,om 68 11,oq 69 (.build 238 [(0,.func 156)]),om 70 6,oq 71 (.ldz 23 (tq 3)),oq 72 (.ldz 86 (tq 12)),oq 74 (.build 238 [(0,.func 158)]),om 75 6,ol 76 23 3,ol 77 86 12,oq 73 (.call true none (.func 157) [tq 69,tq 70,tq 71,tq 72]),oq 78 (.call true none (.func 157) [tq 74,tq 75,tq 76,tq 77]),oi 79 204 65 66,oz 80 209 79 1,os (.sto 207 (tq 80) (tq 73)),oi 81 204 67 68,oz 82 209 81 2,os (.sto 207 (tq 82) (tq 78))],[]⟩]) (some ([2,3,6,8,9,10,11,12,24,25,32,33],[2,3,12,17,30,87]))/\SX 90 (EO 3978031) [oc 83 .add 3 33 1,om 33 83] [2,3,6,8,9,10,24,25,32,33] [2,3,17,30,87]/\SX 90 (EO 3887) [oc 88 .add 3 25 1,om 25 88] [2,3,6,8,24,25] [2,3,17,87]/\SX 90 (EO 95) [om 89 8,om 4 89,ok 5 0] [8] [87]/\LX 90 UA [2,3,6,8,24,25] [2,3,17,87]/\LX 90 O7 [2,3,6,8,9,10,24,25,32,33] [2,3,17,30,87]/\LX 90 O6 [2,3,6,8,9,10,11,12,24,25,32,33,40,41] [2,3,12,17,30,87]:=by and_intros<;>first|exact rx|exact lx|exact fun _ _=>rfl
def AMJ:=rg Tryz.f155
def A67:bq:=(.seq (AMJ 2) (.seq (AMJ 5) .ret))
theorem b155:Tryz.f155.body=some A67:=by kernel_rfl
@[simp] theorem BQO:SX 6 (AMJ 2) [ot 2 false] [0,1] []/\SX 6 (AMJ 5) [ol 3 40 0,ol 4 23 1,od 5 111 [tq 3,tq 4],om 2 5] [0,1] []:=⟨rx,rx⟩
def RD:=rg Tryz.f187
@[simp] def AF4:bq:=(.seq (RD 69) (.seq (.cond (.tmp 9) .skip (.exit 0)) (.seq (.block 1 (.seq (RD 1125) (.seq (RD 2661) (.cond (.tmp 16) (.seq (RD 9829) .ret) .skip)))) (RD 485))))
def UB:=AF4
def AUI:bq:=(.seq (RD 2) (.seq (.seq (RD 9) (.block 0 (.loop UB))) (.seq (RD 11) .ret)))
theorem b187:Tryz.f187.body=some AUI:=by kernel_rfl
@[simp] theorem BQP:UX 19 UB AF4/\SX 19 (RD 2) [ok 4 0] [0,1] []/\SX 19 (RD 9) [om 6 0,oe 7 6 28,ok 8 0] [0,1] []/\SX 19 (RD 69) [ob 9 .lss 3 8 7] [0,1,7,8] []/\SX 19 (RD 1125) [om 10 8,om 5 10] [0,1,7,8] []/\SX 19 (RD 2661) [om 11 1,om 12 0,om 13 5,oi 14 28 12 13,ol 15 97 14,oq 16 (.call false none (tq 11) [tq 15])] [0,1,5,7,8] []/\SX 19 (RD 9829) [om 17 5,om 4 17] [5] []/\SX 19 (RD 485) [oc 18 .add 3 8 1,om 8 18] [0,1,3,7,8] []/\SX 19 (RD 11) [oq 4 (.mv (.const (.int .i64 (bj 0))))] [] []/\LX 19 UB [0,1,7,8] []:=⟨fun _ _=>rfl,rx,rx,rx,rx,rx,rx,rx,rx,lx⟩
def AMK:=rg Tryz.f159
def A68:bq:=(.seq (AMK 2) (.seq (AMK 5) .ret))
theorem b159:Tryz.f159.body=some A68:=by kernel_rfl
@[simp] theorem BQQ:SX 9 (AMK 2) [ot 4 false] [0,1] [7]/\SX 9 (AMK 5) [om 5 0,om 6 1,od 7 187 [tq 5,tq 6],oc 8 .geq 3 7 0,om 4 8] [0,1,2,3] [2,3]:=⟨rx,rx⟩
def AML:=rg Tryz.f119
def A69:bq:=(.seq (AML 2) (.seq (AML 5) .ret))
theorem BIF:Tryz.f119.body=some A69:=by kernel_rfl
@[simp] theorem BQR:SX 9 (AML 2) [oq 3 (.box (tq 1)),ot 4 false] [0,1,2] [3]/\SX 9 (AML 5) [om 5 0,oq 6 (.oth (.makeFunc (.func 160) #[] #[tq 3])),od 7 159 [tq 5,tq 6],ou 8 7,om 4 8] [0,1,2,3] [2,3]:=⟨rx,rx⟩
def AMM:=rg Tryz.f160
def A7A:bq:=(.seq (AMM 2) (.seq (AMM 5) .ret))
theorem b160:Tryz.f160.body=some A7A:=by kernel_rfl
@[simp] theorem BQS:SX 8 (AMM 2) [ot 3 false] [0,1] []/\SX 8 (AMM 5) [ol 4 200 1,om 5 0,oq 6 (.call false none (tq 4) [tq 5]),ou 7 6,om 3 7] [0,1,2] [2]:=⟨rx,rx⟩
def RE:=rg Tryz.f188
@[simp] def AF5:bq:=(.seq (RE 69) (.seq (.cond (.tmp 9) .skip (.exit 0)) (.seq (.block 1 (.seq (RE 1125) (.seq (RE 2661) (.cond (.tmp 16) (.seq (RE 9829) .ret) .skip)))) (RE 485))))
def UC:=AF5
def AUJ:bq:=(.seq (RE 2) (.seq (.seq (RE 9) (.block 0 (.loop UC))) (.seq (RE 11) .ret)))
theorem b188:Tryz.f188.body=some AUJ:=by kernel_rfl
@[simp] theorem BQT:UX 19 UC AF5/\SX 19 (RE 2) [ok 4 0] [0,1] []/\SX 19 (RE 9) [om 6 0,oe 7 6 41,ok 8 0] [0,1] []/\SX 19 (RE 69) [ob 9 .lss 3 8 7] [0,1,7,8] []/\SX 19 (RE 1125) [om 10 8,om 5 10] [0,1,7,8] []/\SX 19 (RE 2661) [om 11 1,om 12 0,om 13 5,oi 14 41 12 13,ol 15 94 14,oq 16 (.call false none (tq 11) [tq 15])] [0,1,5,7,8] []/\SX 19 (RE 9829) [om 17 5,om 4 17] [5] []/\SX 19 (RE 485) [oc 18 .add 3 8 1,om 8 18] [0,1,3,7,8] []/\SX 19 (RE 11) [oq 4 (.mv (.const (.int .i64 (bj 0))))] [] []/\LX 19 UC [0,1,7,8] []:=⟨fun _ _=>rfl,rx,rx,rx,rx,rx,rx,rx,rx,lx⟩
def AMN:=rg Tryz.f161
def A7B:bq:=(.seq (AMN 2) (.seq (AMN 5) .ret))
theorem b161:Tryz.f161.body=some A7B:=by kernel_rfl
@[simp] theorem BQU:SX 9 (AMN 2) [ot 4 false] [0,1] [7]/\SX 9 (AMN 5) [om 5 0,om 6 1,od 7 188 [tq 5,tq 6],oc 8 .geq 3 7 0,om 4 8] [0,1,2,3] [2,3]:=⟨rx,rx⟩
def AMO:=rg Tryz.f120
def A7C:bq:=(.seq (AMO 2) (.seq (AMO 5) .ret))
theorem BIG:Tryz.f120.body=some A7C:=by kernel_rfl
@[simp] theorem BQV:SX 9 (AMO 2) [oq 3 (.box (tq 1)),ot 4 false] [0,1,2] [3]/\SX 9 (AMO 5) [om 5 0,oq 6 (.oth (.makeFunc (.func 162) #[] #[tq 3])),od 7 161 [tq 5,tq 6],ou 8 7,om 4 8] [0,1,2,3] [2,3]:=⟨rx,rx⟩
def AMP:=rg Tryz.f162
def A7D:bq:=(.seq (AMP 2) (.seq (AMP 5) .ret))
theorem b162:Tryz.f162.body=some A7D:=by kernel_rfl
@[simp] theorem BQW:SX 8 (AMP 2) [oq 2 (.box (tq 0)),ot 3 false] [0,1] []/\SX 8 (AMP 5) [ol 4 203 1,ol 5 94 2,oq 6 (.call false none (tq 4) [tq 5]),ou 7 6,om 3 7] [0,1,2] [2]:=⟨rx,rx⟩
def AMQ:=rg Tryz.f163
def A7E:bq:=(.seq (AMQ 2) (.seq (AMQ 5) .ret))
theorem BIH:Tryz.f163.body=some A7E:=by kernel_rfl
@[simp] theorem BQX:SX 15 (AMQ 2) [ot 6 false] [0,1,2] []/\SX 15 (AMQ 5) [om 7 1,om 8 0,ob 9 .leq 3 7 8,om 10 9,gm 10 true 11 0,gm 10 true 12 2,gb 10 true 13 .leq 3 11 12,oq 14 (.pick (tq 10) (tq 13) (cb false)),om 6 14] [0,1,2] []:=⟨rx,rx⟩
def AMR:=rg Tryz.f121
def A7F:bq:=(.seq (AMR 2) (.seq (AMR 5) .ret))
theorem BII:Tryz.f121.body=some A7F:=by kernel_rfl
@[simp] theorem BQY:SX 11 (AMR 2) [oq 1 (.box (tq 0)),ot 2 false] [0] [1,7,910,911]/\SX 11 (AMR 5) [oz 3 94 1 0,ol 4 3 3,od 5 163 [tq 4,ci 1,ci 4],om 6 5,gz 6 true 7 94 1 1,gl 6 true 8 3 7,gd 6 true 9 163 [tq 8,ci 0,ci 5],oq 10 (.pick (tq 6) (tq 9) (cb false)),om 2 10] [1] [1]:=⟨rx,rx⟩
def AMS:=rg Tryz.f118
def A7G:bq:=(.seq (AMS 2) (.seq (AMS 5) .ret))
theorem BIJ:Tryz.f118.body=some A7G:=by kernel_rfl
@[simp] theorem BQZ:SX 11 (AMS 2) [oq 2 (.box (tq 0)),ot 4 false] [0,1] [2]/\SX 11 (AMS 5) [om 5 1,oe 6 5 97,oz 7 43 2 0,oz 8 40 7 2,ol 9 3 8,ob 10 .eql 3 6 9,om 4 10] [1,2] [2]:=⟨rx,rx⟩
def LK:=rg Tryz.f71
@[simp] def AF6:bq:=(.seq (LK 4561279) (.seq (.cond (.tmp 63) .skip (.exit 2)) (.seq (.block 3 (.seq (LK 73767295) (LK 107321727))) (LK 31824255))))
def UD:=AF6
@[simp] def AF7:bq:=(.seq (LK 4479) (.seq (.cond (.tmp 57) .skip (.exit 0)) (.seq (.block 1 (.seq (LK 72063) (.seq (LK 170367) (.seq (.seq (LK 629119) (.block 2 (.loop UD))) (LK 498047))))) (LK 31103))))
def UE:=AF7
def c71:bq:=(.seq (LK 2) (.seq (.seq (LK 9) (.cond (.tmp 16) (.seq (LK 37) .ret) .skip)) (.seq (LK 11) (.seq (.seq (LK 39) (.cond (.tmp 26) (.seq (LK 151) .ret) .skip)) (.seq (LK 47) (.seq (.seq (LK 159) (.cond (.tmp 49) (.seq (LK 607) .ret) .skip)) (.seq (LK 191) (.seq (.seq (LK 639) (.block 0 (.loop UE))) (.seq (LK 767) .ret)))))))))
theorem b71:Tryz.f71.body=some c71:=by kernel_rfl
@[simp] theorem BIK(n:Nat)(st:XS):AE bk ann kn (n+1) 85 (LK 767) st=QW (KA bk (BQ bk ann kn n) (.str [om 84 7,om 2 84,ok 3 0]) (CO (some ([7],[1,22,51,53,80])) (MD [80,911051,912053] st))) :=
 D6 (by kernel_rfl) (by kernel_rfl) (by kernel_rfl) (by kernel_rfl) (by kernel_rfl)
@[simp] theorem x71:UX 85 UD AF6/\UX 85 UE AF7/\SX 85 (LK 2) [oq 1 (.box (tq 0)),oq 2 (.mv (.const (.pointer none))),ok 3 0] [0] [1,22,51,53,80]/\SX 85 (LK 9) [oz 13 43 1 3,ol 14 41 13,oe 15 14 41,oc 16 .gtr 3 15 3] [1] [1,22,51,53,80]/\SX 85 (LK 37) [oq 2 (.mv (.const (.pointer none))),ok 3 3] [] []/\SX 85 (LK 11) [oz 18 43 1 0,ol 19 40 18,oz 20 43 1 1,ol 21 23 20,od 22 117 [tq 19,tq 21],om 17 22,oq 23 (.oth (.extract (tq 17) 0)),oq 24 (.oth (.extract (tq 17) 1)),om 4 23,om 5 24] [1] [1,22,51,53,80]/\SX 85 (LK 39) [om 25 5,oc 26 .neq 34 25 0] [1,4,5] [1,22,51,53,80]/\SX 85 (LK 151) [om 27 5,oq 2 (.mv (.const (.pointer none))),om 3 27] [5] []/\SX 85 (LK 47) [ol 28 43 1,oq 29 (.oth (.makeFunc (.func 118) #[tq 28] #[])),om 6 29] [1,4] [1,22,51,53,80]/\SX 85 (LK 159) [oz 30 43 1 2,ol 31 28 30,oe 32 31 28,oz 33 43 1 0,oz 34 40 33 1,ol 35 3 34,ob 36 .neq 3 32 35,om 37 36,gz 37 false 38 43 1 2,gl 37 false 39 28 38,gm 37 false 40 6,gd 37 false 41 119 [tq 39,tq 40],og 37 false 42 (.oth (.unOp .not 4 (tq 41))),oq 43 (.pick (tq 37) (cb true) (tq 42)),om 44 43,gz 44 false 45 43 1 3,gl 44 false 46 41 45,gd 44 false 47 120 [tq 46,.func 121],og 44 false 48 (.oth (.unOp .not 4 (tq 47))),oq 49 (.pick (tq 44) (cb true) (tq 48))] [1,4,6] [1,22,51,53,80]/\SX 85 (LK 607) [oq 2 (.mv (.const (.pointer none))),ok 3 1] [] []/\SX 85 (LK 191) [ol 50 43 1,oq 51 (.mkM none),oq 52 (.build 175 [(0,tq 50),(1,.const (.slice none 0 0)),(2,tq 51)]),oq 53 (.box (tq 52)),om 7 53] [1,4] [1,22,51,53,80]/\SX 85 (LK 639) [om 54 4,oe 55 54 197,ok 56 0] [4,7] [1,22,51,53,80]/\SX 85 (LK 4479) [ob 57 .lss 3 56 55] [7,54,55,56] [1,22,51,53,80]/\SX 85 (LK 72063) [oi 58 197 54 56,ol 59 204 58,om 9 59] [7,54,55,56] [1,22,51,53,80]/\SX 85 (LK 170367) [oq 10 (.alloc 206)] [7,9,54,55,56] [1,22,51,53,80]/\SX 85 (LK 629119) [om 60 9,oe 61 60 204,ok 62 0] [7,9,10,54,55,56] [1,10,22,51,53,80]/\SX 85 (LK 4561279) [ob 63 .lss 3 62 61] [7,10,54,55,56,60,61,62] [1,10,22,51,53,80]/\SX 85 (LK 73767295) [om 64 62,oi 65 204 60 62,ol 66 209 65,oq 12 (.alloc 209),om 11 64,os (.sto 209 (tq 12) (tq 66))] [7,10,54,55,56,60,61,62] [1,10,22,51,53,80]/\SX 85 (LK 107321727) [om 67 11,oz 68 209 12 2,oz 69 207 68 0,ol 70 3 69,oi 71 206 10 67,os (.sto 3 (tq 71) (tq 70))] [7,10,11,12,54,55,56,60,61,62] [1,10,12,22,51,53,80]/\SX 85 (LK 31824255) [oc 72 .add 3 62 1,om 62 72] [7,10,54,55,56,60,61,62] [1,10,22,51,53,80]/\RX 85 (LK 498047) (.drw [⟨[],[om 73 7,om 74 7,oq 75 (.oth (.nilCheck (tq 74))),oz 76 175 75 1,oq 77 (.ldz 172 (tq 76)),ol 78 206 10,oq 79 (.buildS 172 1 [(0,tq 78)]),oq 80 (.app [tq 77,tq 79] [172,172]),oq 81 (.oth (.nilCheck (tq 73))),oz 82 175 81 1,os (.sto 172 (tq 82) (tq 80))],[]⟩]) (some ([7,10,54,55,56],[1,10,22,51,53,80]))/\SX 85 (LK 31103) [oc 83 .add 3 56 1,om 56 83] [7,54,55,56] [1,22,51,53,80]/\LX 85 UE [7,54,55,56] [1,22,51,53,80]/\LX 85 UD [7,10,54,55,56,60,61,62] [1,10,22,51,53,80]:=by and_intros<;>first|exact rx|exact lx|exact fun _ _=>rfl
def g24:=rg Tryz.f24
def c24:bq:=(.seq (g24 2) (.seq (g24 5) (.seq (g24 11) .ret)))
def RH:=rg Tryz.f189
@[simp] def AF8:bq:=(.seq (RH 69) (.seq (.cond (.tmp 9) .skip (.exit 0)) (.seq (.block 1 (.seq (RH 1125) (.seq (RH 2661) (.cond (.tmp 16) (.seq (RH 9829) .ret) .skip)))) (RH 485))))
def UF:=AF8
def AMU:bq:=(.seq (RH 2) (.seq (.seq (RH 9) (.block 0 (.loop UF))) (.seq (RH 11) .ret)))
theorem b189:Tryz.f189.body=some AMU:=by kernel_rfl
@[simp] theorem BQ0:UX 19 UF AF8/\SX 19 (RH 2) [ok 4 0] [0,1] []/\SX 19 (RH 9) [om 6 0,oe 7 6 120,ok 8 0] [0,1] []/\SX 19 (RH 69) [ob 9 .lss 3 8 7] [0,1,7,8] []/\SX 19 (RH 1125) [om 10 8,om 5 10] [0,1,7,8] []/\SX 19 (RH 2661) [om 11 1,om 12 0,om 13 5,oi 14 120 12 13,ol 15 153 14,oq 16 (.call false none (tq 11) [tq 15])] [0,1,5,7,8] []/\SX 19 (RH 9829) [om 17 5,om 4 17] [5] []/\SX 19 (RH 485) [oc 18 .add 3 8 1,om 8 18] [0,1,3,7,8] []/\SX 19 (RH 11) [oq 4 (.mv (.const (.int .i64 (bj 0))))] [] []/\LX 19 UF [0,1,7,8] []:=⟨fun _ _=>rfl,rx,rx,rx,rx,rx,rx,rx,rx,lx⟩
def AMV:=rg Tryz.f171
def AUK:bq:=(.seq (AMV 2) (.seq (AMV 5) .ret))
theorem b171:Tryz.f171.body=some AUK:=by kernel_rfl
@[simp] theorem BQ1:SX 9 (AMV 2) [ot 4 false] [0,1] [7]/\SX 9 (AMV 5) [om 5 0,om 6 1,od 7 189 [tq 5,tq 6],oc 8 .geq 3 7 0,om 4 8] [0,1,2,3] [2,3]:=⟨rx,rx⟩
def AMW:=rg Tryz.f137
def AUL:bq:=(.seq (AMW 2) (.seq (AMW 5) .ret))
theorem b137:Tryz.f137.body=some AUL:=by kernel_rfl
@[simp] theorem BQ2:SX 9 (AMW 2) [oq 3 (.box (tq 1)),ot 4 false] [0,1,2] [3]/\SX 9 (AMW 5) [om 5 0,oq 6 (.oth (.makeFunc (.func 172) #[] #[tq 3])),od 7 171 [tq 5,tq 6],ou 8 7,om 4 8] [0,1,2,3] [2,3]:=⟨rx,rx⟩
def AMX:=rg Tryz.f172
def A7H:bq:=(.seq (AMX 2) (.seq (AMX 5) .ret))
theorem b172:Tryz.f172.body=some A7H:=by kernel_rfl
@[simp] theorem BQ3:SX 8 (AMX 2) [oq 2 (.box (tq 0)),ot 3 false] [0,1] []/\SX 8 (AMX 5) [ol 4 221 1,ol 5 153 2,oq 6 (.call false none (tq 4) [tq 5]),ou 7 6,om 3 7] [0,1,2] [2]:=⟨rx,rx⟩
def ABU:=rg Tryz.f173
def A7I:bq:=(.seq (ABU 2) (.seq (ABU 5) (.seq (ABU 11) .ret)))
theorem BIL:Tryz.f173.body=some A7I:=by kernel_rfl
@[simp] theorem BQ4:SX 38 (ABU 2) [oq 3 (.box (tq 0)),ot 6 false] [0,1,2] [3]/\RX 38 (ABU 5) (.drw [⟨[7,8],[oz 9 43 3 3,oq 10 (.ldz 41 (tq 9)),om 11 1,oi 12 41 10 11,oq 13 (.ldz 94 (tq 12)),oz 14 43 3 3,ol 15 41 14,om 16 2,oi 17 41 15 16,ol 18 94 17,oq 7 (.alloc 94),oq 8 (.alloc 94),os (.sto 94 (tq 7) (tq 13))],[os (.sto 94 (tq 8) (tq 18))]⟩]) (some ([1,2,3],[3]))/\SX 38 (ABU 11) [om 19 1,om 20 2,ob 21 .neq 3 19 20,om 22 21,gz 22 true 23 94 7 3,gl 22 true 24 4 23,gm 22 true 25 24,gz 25 true 26 94 8 2,gl 25 true 27 4 26,og 22 true 28 (.pick (tq 25) (tq 27) (cb false)),gm 22 true 29 28,gz 29 false 30 94 7 2,gl 29 false 31 4 30,gm 29 false 32 31,gz 32 true 33 94 8 3,gl 32 true 34 4 33,og 29 false 35 (.pick (tq 32) (tq 34) (cb false)),og 22 true 36 (.pick (tq 29) (cb true) (tq 35)),oq 37 (.pick (tq 22) (tq 36) (cb false)),om 6 37] [1,2,7,8] [7,8]:=⟨rx,rx,rx⟩
def fK:=rg Tryz.f139
def AF9:bq:=(.seq (fK 2) (.seq (.seq (fK 9) (.cond (.tmp 14) (.seq (fK 37) .ret) .skip)) (.seq (fK 11) (.seq (fK 23) .ret))))
theorem BIM:Tryz.f139.body=some AF9:=by kernel_rfl
@[simp] theorem BQ5:SX 55 (fK 2) [oq 3 (.box (tq 0)),oq 4 (.box (tq 1)),oq 5 (.box (tq 2)),ot 6 false] [0,1,2] [3]/\SX 55 (fK 9) [oz 8 153 4 1,oz 9 86 8 0,ol 10 3 9,oz 11 153 5 1,oz 12 86 11 0,ol 13 3 12,ob 14 .neq 3 10 13] [3,4,5] [3,4,5]/\SX 55 (fK 37) [ot 6 true] [] []/\SX 55 (fK 11) [oz 15 153 4 1,oz 16 86 15 1,ol 17 3 16,oz 18 153 5 1,oz 19 86 18 1,ol 20 3 19,ob 21 .sub 3 17 20,oz 22 153 5 0,oz 23 151 22 1,ol 24 3 23,ob 25 .sub 3 21 24,oz 26 153 5 1,oz 27 86 26 1,ol 28 3 27,oz 29 153 4 1,oz 30 86 29 1,ol 31 3 30,ob 32 .sub 3 28 31,oz 33 153 4 0,oz 34 151 33 1,ol 35 3 34,ob 36 .sub 3 32 35,oq 37 (.oth (.call ⟨.builtin .max,#[tq 25,tq 36],#[3,3]⟩)),om 7 37] [3,4,5] [3,4,5]/\SX 55 (fK 23) [om 38 7,oc 39 .gtr 3 38 0,om 40 39,gm 40 false 41 7,gc 40 false 42 .eql 3 41 0,gm 40 false 43 42,gl 43 true 44 43 3,gz 43 true 45 153 4 0,gz 43 true 46 151 45 0,gl 43 true 47 3 46,gz 43 true 48 153 5 0,gz 43 true 49 151 48 0,gl 43 true 50 3 49,gd 43 true 51 173 [tq 44,tq 47,tq 50],og 43 true 52 (.oth (.unOp .not 4 (tq 51))),og 40 false 53 (.pick (tq 43) (tq 52) (cb false)),oq 54 (.pick (tq 40) (cb true) (tq 53)),om 6 54] [3,4,5,7] [3,4,5]:=⟨rx,rx,rx,rx,rx⟩
def J4:=rg Tryz.f140
@[simp] def AGA:bq:=(.seq (J4 18021) (.seq (.cond (.tmp 17) .skip (.exit 2)) (.seq (.block 3 (.seq (J4 288357) (.seq (J4 681573) (.cond (.tmp 20) (J4 1468005) .skip)))) (J4 124517))))
def UG:=AGA
@[simp] def AGB:bq:=(.seq (J4 69) (.seq (.cond (.tmp 11) .skip (.exit 0)) (.seq (.block 1 (.seq (J4 1125) (.seq (J4 2661) (.block 2 (.loop UG))))) (J4 485))))
def UH:=AGB
def A7J:bq:=(.seq (J4 2) (.seq (.seq (J4 9) (.block 0 (.loop UH))) (.seq (J4 11) .ret)))
theorem BIN:Tryz.f140.body=some A7J:=by kernel_rfl
@[simp] theorem BQ6:UX 26 UG AGA/\UX 26 UH AGB/\SX 26 (J4 2) [oq 1 (.box (tq 0)),ok 2 0] [0] [1]/\SX 26 (J4 9) [oz 7 43 1 2,ol 8 28 7,oe 9 8 28,ok 10 0] [1,2] [1]/\SX 26 (J4 69) [ob 11 .lss 3 10 9] [2,8,9,10] [1]/\SX 26 (J4 1125) [oi 12 28 8 10,ol 13 97 12,om 4 13] [2,8,9,10] [1]/\SX 26 (J4 2661) [om 14 4,oe 15 14 97,ok 16 0] [2,4,8,9,10] [1]/\SX 26 (J4 18021) [ob 17 .lss 3 16 15] [2,8,9,10,14,15,16] [1]/\SX 26 (J4 288357) [oi 18 97 14 16,ol 19 4 18,om 6 19] [2,8,9,10,14,15,16] [1]/\SX 26 (J4 681573) [om 20 6] [2,6,8,9,10,14,15,16] [1]/\SX 26 (J4 1468005) [om 21 2,oc 22 .add 3 21 1,om 2 22] [2,8,9,10,14,15,16] [1]/\SX 26 (J4 124517) [oc 23 .add 3 16 1,om 16 23] [2,8,9,10,14,15,16] [1]/\SX 26 (J4 485) [oc 24 .add 3 10 1,om 10 24] [2,8,9,10] [1]/\SX 26 (J4 11) [om 25 2,om 2 25] [2] []/\LX 26 UH [2,8,9,10] [1]/\LX 26 UG [2,8,9,10,14,15,16] [1]:=by and_intros<;>first|exact rx|exact lx|exact fun _ _=>rfl
def sV:=rg Tryz.f92
@[simp] def AQM:bq:=(.seq (sV 69) (.seq (.cond (.tmp 11) .skip (.exit 0)) (.seq (.block 1 (.seq (sV 1125) (.seq (sV 2661) (.cond (.tmp 18) (sV 5733) .skip)))) (sV 485))))
def aC:=AQM
def c92:bq:=(.seq (sV 2) (.seq (.seq (sV 9) (.block 0 (.loop aC))) (.seq (sV 11) .ret)))
theorem b92:Tryz.f92.body=some c92:=by kernel_rfl
@[simp] theorem x92:UX 28 aC AQM/\SX 28 (sV 2) [oq 2 (.box (tq 0)),oq 4 (.mv (.const (.slice none 0 0)))] [0,1] [2]/\SX 28 (sV 9) [oz 7 43 2 3,ol 8 41 7,oe 9 8 41,ok 10 0] [1,2,4] [2,25]/\SX 28 (sV 69) [ob 11 .lss 3 10 9] [1,4,8,9,10] [2,25]/\SX 28 (sV 1125) [om 12 10,oi 13 41 8 10,ol 14 94 13,oq 6 (.alloc 94),om 5 12,os (.sto 94 (tq 6) (tq 14))] [1,4,8,9,10] [2,25]/\SX 28 (sV 2661) [om 15 1,om 16 5,od 17 132 [tq 15,tq 16],ou 18 17] [1,4,5,6,8,9,10] [2,6,25]/\SX 28 (sV 5733) [om 19 4,om 20 5,oz 21 94 6 0,ol 22 3 21,oq 23 (.build 151 [(0,tq 20),(1,tq 22)]),oq 24 (.buildS 170 1 [(0,tq 23)]),oq 25 (.app [tq 19,tq 24] [170,170]),om 4 25] [1,4,5,6,8,9,10] [2,6,25]/\SX 28 (sV 485) [oc 26 .add 3 10 1,om 10 26] [1,4,8,9,10] [2,25]/\SX 28 (sV 11) [om 27 4,om 4 27] [4] [25]/\LX 28 aC [1,4,8,9,10] [2,25]:=⟨fun _ _=>rfl,rx,rx,rx,rx,rx,rx,rx,rx,lx⟩
def xW:=rg Tryz.f72
@[simp] def AQN:bq:=(lp (xW 267) 8 0 1 (xW 587) (xW 459))
def aD:=AQN
def c72:bq:=(.seq (xW 2) (.seq (xW 5) (.seq (.seq (xW 19) (.block 0 (.loop aD))) (.seq (xW 23) .ret))))
theorem b72:Tryz.f72.body=some c72:=by kernel_rfl
@[simp] theorem x72:UX 19 aD AQN/\SX 19 (xW 2) [ok 2 0] [0] []/\SX 19 (xW 5) [ok 3 0] [0] []/\SX 19 (xW 19) [ok 4 0] [0,3] []/\SX 19 (xW 267) [om 5 4,om 6 0,oe 7 6 49,ob 8 .lss 3 5 7] [0,3,4] []/\SX 19 (xW 587) [om 11 3,om 12 0,om 13 4,oi 14 49 12 13,oz 15 135 14 1,ol 16 3 15,ob 17 .add 3 11 16,om 3 17] [0,3,4] []/\SX 19 (xW 459) [om 9 4,oc 10 .add 3 9 1,om 4 10] [0,3,4] []/\SX 19 (xW 23) [om 18 3,om 2 18] [0,1,3,7,8] []/\LX 19 aD [0,3,4] []:=⟨fun _ _=>rfl,rx,rx,rx,rx,rx,rx,rx,lx⟩
def fD:=rg Tryz.f73
@[simp] def AQO:bq:=(lp (fD 16971) 20 2 3 (.seq (fD 70219) (.cond (.tmp 30) (fD 168523) .skip)) (fD 29259))
def aE:=AQO
@[simp] def AQP:bq:=(lp (fD 267) 10 0 1 (.seq (fD 1099) (.block 2 (.loop aE))) (fD 459))
def aF:=AQP
def c73:bq:=(.seq (fD 2) (.seq (fD 5) (.seq (.seq (fD 19) (.block 0 (.loop aF))) (.seq (fD 23) .ret))))
theorem b73:Tryz.f73.body=some c73:=by kernel_rfl
@[simp] theorem x73:UX 34 aE AQO/\UX 34 aF AQP/\SX 34 (fD 2) [oq 1 (.box (tq 0)),ok 2 0] [0] [1]/\SX 34 (fD 5) [ok 3 0] [1] [1]/\SX 34 (fD 19) [ok 4 0] [1,3] [1]/\SX 34 (fD 267) [om 6 4,oz 7 31 1 2,ol 8 28 7,oe 9 8 28,ob 10 .lss 3 6 9] [1,3,4] [1]/\SX 34 (fD 1099) [ok 5 0] [1,3,4] [1]/\SX 34 (fD 16971) [om 13 5,oz 14 31 1 2,ol 15 28 14,om 16 4,oi 17 28 15 16,ol 18 97 17,oe 19 18 97,ob 20 .lss 3 13 19] [1,3,4,5] [1]/\SX 34 (fD 70219) [oz 23 31 1 2,ol 24 28 23,om 25 4,oi 26 28 24 25,ol 27 97 26,om 28 5,oi 29 97 27 28,ol 30 4 29] [1,3,4,5] [1]/\SX 34 (fD 168523) [om 31 3,oc 32 .add 3 31 1,om 3 32] [1,3,4,5] [1]/\SX 34 (fD 29259) [om 21 5,oc 22 .add 3 21 1,om 5 22] [1,3,4,5] [1]/\SX 34 (fD 459) [om 11 4,oc 12 .add 3 11 1,om 4 12] [1,3,4] [1]/\SX 34 (fD 23) [om 33 3,om 2 33] [3] []/\LX 34 aF [1,3,4] [1]/\LX 34 aE [1,3,4,5] [1]:=by and_intros<;>first|exact rx|exact lx|exact fun _ _=>rfl
def ABV:=rg Tryz.f122
def A7K:bq:=(.seq (ABV 2) (.seq (ABV 5) (.seq (ABV 11) .ret)))
theorem BIO:Tryz.f122.body=some A7K:=by kernel_rfl
@[simp] theorem BRA:SX 38 (ABV 2) [oq 3 (.box (tq 0)),ot 6 false] [0,1,2] [3]/\RX 38 (ABV 5) (.drw [⟨[7,8],[oz 9 31 3 3,oq 10 (.ldz 29 (tq 9)),om 11 1,oi 12 29 10 11,oq 13 (.ldz 57 (tq 12)),oz 14 31 3 3,ol 15 29 14,om 16 2,oi 17 29 15 16,ol 18 57 17,oq 7 (.alloc 57),oq 8 (.alloc 57),os (.sto 57 (tq 7) (tq 13))],[os (.sto 57 (tq 8) (tq 18))]⟩]) (some ([1,2,3],[3]))/\SX 38 (ABV 11) [om 19 1,om 20 2,ob 21 .neq 3 19 20,om 22 21,gz 22 true 23 57 7 3,gl 22 true 24 4 23,gm 22 true 25 24,gz 25 true 26 57 8 2,gl 25 true 27 4 26,og 22 true 28 (.pick (tq 25) (tq 27) (cb false)),gm 22 true 29 28,gz 29 false 30 57 8 3,gl 29 false 31 4 30,gm 29 false 32 31,gz 32 true 33 57 7 2,gl 32 true 34 4 33,og 29 false 35 (.pick (tq 32) (tq 34) (cb false)),og 22 true 36 (.pick (tq 29) (cb true) (tq 35)),oq 37 (.pick (tq 22) (tq 36) (cb false)),om 6 37] [1,2,7,8] [7,8]:=⟨rx,rx,rx⟩
def OA:=rg Tryz.f74
@[simp] def AGC:bq:=(lp (OA 8689967) 73 4 5 (.seq (OA 35952943) (.seq (OA 86284591) (.cond (.tmp 111) (.seq (OA 321165615) .ret) .skip))) (OA 14981423))
def UI:=AGC
@[simp] def AGD:bq:=(lp (OA 137519) 68 2 3 (.seq (OA 563503) (.block 4 (.loop UI))) (OA 235823))
def UJ:=AGD
@[simp] def AQQ:bq:=(lp (OA 1071) 51 0 1 (.seq (.seq (OA 8495) (.cond (.tmp 61) (.exit 1) .skip)) (.seq (OA 10543) (.block 2 (.loop UJ)))) (OA 1839))
def aG:=AQQ
def c74:bq:=(.seq (OA 2) (.seq (OA 5) (.seq (OA 11) (.seq (.seq (OA 39) (.cond (.tmp 48) (.seq (OA 151) .ret) .skip)) (.seq (.seq (OA 79) (.block 0 (.loop aG))) (.seq (OA 95) .ret))))))
theorem b74:Tryz.f74.body=some c74:=by kernel_rfl
@[simp] theorem x74:UX 112 UI AGC/\UX 112 UJ AGD/\UX 112 aG AQQ/\SX 112 (OA 2) [oq 3 (.box (tq 0)),ot 6 false] [0,1,2] [3]/\SX 112 (OA 5) [om 14 2,oe 15 14 24,oc 16 .sub 3 15 1,om 7 16] [1,2,3] [3]/\RX 112 (OA 11) (.drw [⟨[8],[om 17 2,om 18 7,oi 19 24 17 18,oq 20 (.ldz 59 (tq 19)),om 21 1,om 22 7,oi 23 49 21 22,oz 24 135 23 1,ol 25 3 24,oq 8 (.alloc 59),os (.sto 59 (tq 8) (tq 20)),om 9 25],[]⟩]) (some ([1,2,3,7],[3]))/\SX 112 (OA 39) [oz 26 59 8 0,ol 27 3 26,oz 28 31 3 0,oz 29 27 28 1,ol 30 3 29,oc 31 .sub 3 30 1,od 32 57 [tq 27,ci 0,tq 31],ou 33 32,om 34 33,gz 34 false 35 59 8 1,gl 34 false 36 3 35,gc 34 false 37 .lss 3 36 0,oq 38 (.pick (tq 34) (cb true) (tq 37)),om 39 38,gz 39 false 40 59 8 1,gl 39 false 41 3 40,gz 39 false 42 31 3 0,gz 39 false 43 27 42 2,gl 39 false 44 3 43,gm 39 false 45 9,gb 39 false 46 .sub 3 44 45,gb 39 false 47 .gtr 3 41 46,oq 48 (.pick (tq 39) (cb true) (tq 47))] [1,2,3,7,8,9] [3,8]/\SX 112 (OA 151) [ot 6 false] [] []/\SX 112 (OA 79) [ok 10 0] [1,2,3,7,8,9] [3,8]/\SX 112 (OA 1071) [om 49 10,om 50 7,ob 51 .lss 3 49 50] [1,2,3,7,8,9,10] [3,8]/\RX 112 (OA 8495) (.drw [⟨[],[om 54 2,om 55 10,oi 56 24 54 55,oz 57 59 56 0,ol 58 3 57,oz 59 59 8 0,ol 60 3 59,ob 61 .neq 3 58 60],[]⟩]) (some ([1,2,3,7,8,9,10],[3,8]))/\SX 112 (OA 10543) [ok 11 0] [1,2,3,7,8,9,10] [3,8]/\SX 112 (OA 137519) [om 62 11,om 63 1,om 64 10,oi 65 49 63 64,oz 66 135 65 1,ol 67 3 66,ob 68 .lss 3 62 67] [1,2,3,7,8,9,10,11] [3,8]/\SX 112 (OA 563503) [ok 12 0] [1,2,3,7,8,9,10,11] [3,8]/\SX 112 (OA 8689967) [om 71 12,om 72 9,ob 73 .lss 3 71 72] [1,2,3,7,8,9,10,11,12] [3,8]/\RX 112 (OA 35952943) (.drw [⟨[],[om 76 2,om 77 10,oi 78 24 76 77,oz 79 59 78 1,ol 80 3 79,om 81 11,ob 82 .add 3 80 81,oz 83 59 8 1,ol 84 3 83,ob 85 .sub 3 82 84,om 86 12,ob 87 .sub 3 85 86,om 13 87],[]⟩]) (some ([1,2,3,7,8,9,10,11,12],[3,8]))/\RX 112 (OA 86284591) (.drw [⟨[],[om 88 13,oc 89 .eql 3 88 0,om 90 89,gm 90 false 91 13,gc 90 false 92 .eql 3 91 1,gm 90 false 93 92,gm 93 false 94 13,og 93 false 95 (.bin .eql 3 (tq 94) (.const (.int .i64 (bj 0)))),og 90 false 96 (.pick (tq 93) (cb true) (tq 95)),gm 90 false 97 96,gl 97 true 98 31 3,gm 97 true 99 1,gm 97 true 100 10,gi 97 true 101 49 99 100,gz 97 true 102 135 101 0,gl 97 true 103 3 102,gm 97 true 104 1,gm 97 true 105 7,gi 97 true 106 49 104 105,gz 97 true 107 135 106 0,gl 97 true 108 3 107],[gd 97 true 109 122 [tq 98,tq 103,tq 108]]⟩,⟨[],[og 90 false 110 (.pick (tq 97) (tq 109) (cb false)),oq 111 (.pick (tq 90) (cb true) (tq 110))],[]⟩]) (some ([1,2,3,7,8,9,10,11,12,13],[3,8]))/\SX 112 (OA 321165615) [ot 6 false] [] []/\SX 112 (OA 14981423) [om 74 12,oc 75 .add 3 74 1,om 12 75] [1,2,3,7,8,9,10,11,12] [3,8]/\SX 112 (OA 235823) [om 69 11,oc 70 .add 3 69 1,om 11 70] [1,2,3,7,8,9,10,11] [3,8]/\SX 112 (OA 1839) [om 52 10,oc 53 .add 3 52 1,om 10 53] [1,2,3,7,8,9,10] [3,8]/\SX 112 (OA 95) [ot 6 true] [] []/\LX 112 aG [1,2,3,7,8,9,10] [3,8]/\LX 112 UJ [1,2,3,7,8,9,10,11] [3,8]/\LX 112 UI [1,2,3,7,8,9,10,11,12] [3,8]:=by and_intros<;>first|exact rx|exact lx|exact fun _ _=>rfl
def V9:=rg Tryz.f18
@[simp] def AQR:bq:=(lp (V9 267) 31 0 1 (.seq (V9 1099) (.cond (.tmp 40) (.seq (V9 4683) .ret) .skip)) (V9 459))
def aH:=AQR
@[simp] def AQS:bq:=(lp (V9 535) 45 2 3 (.seq (V9 2199) (.cond (.tmp 54) (.seq (V9 9367) .ret) .skip)) (V9 919))
def aI:=AQS
def c18:bq:=(.seq (V9 2) (.seq (.seq (V9 9) (.cond (.tmp 26) (.seq (V9 37) .ret) .skip)) (.seq (.seq (V9 19) (.block 0 (.loop aH))) (.seq (.seq (V9 39) (.block 2 (.loop aI))) (.seq (V9 47) .ret)))))
theorem b18:Tryz.f18.body=some c18:=by kernel_rfl
@[simp] theorem x18:UX 55 aH AQR/\UX 55 aI AQS/\SX 55 (V9 2) [oq 1 (.box (tq 0)),ot 2 false] [0] [1]/\SX 55 (V9 9) [oz 5 31 1 0,ol 6 27 5,od 7 64 [tq 6],ou 8 7,om 9 8,gz 9 false 10 31 1 1,gl 9 false 11 23 10,ge 9 false 12 11 23,gc 9 false 13 .gtr 3 12 7,oq 14 (.pick (tq 9) (cb true) (tq 13)),om 15 14,gz 15 false 16 31 1 2,gl 15 false 17 28 16,ge 15 false 18 17 28,gc 15 false 19 .gtr 3 18 7,oq 20 (.pick (tq 15) (cb true) (tq 19)),om 21 20,gz 21 false 22 31 1 3,gl 21 false 23 29 22,ge 21 false 24 23 29,gc 21 false 25 .gtr 3 24 5,oq 26 (.pick (tq 21) (cb true) (tq 25))] [1] [1]/\SX 55 (V9 37) [ot 2 false] [] []/\SX 55 (V9 19) [ok 3 0] [1] [1]/\SX 55 (V9 267) [om 27 3,oz 28 31 1 1,ol 29 23 28,oe 30 29 23,ob 31 .lss 3 27 30] [1,3] [1]/\SX 55 (V9 1099) [oz 34 31 1 1,ol 35 23 34,om 36 3,oi 37 23 35 36,ol 38 22 37,oe 39 38 22,oc 40 .gtr 3 39 7] [1,3] [1]/\SX 55 (V9 4683) [ot 2 false] [] []/\SX 55 (V9 459) [om 32 3,oc 33 .add 3 32 1,om 3 33] [1,3] [1]/\SX 55 (V9 39) [ok 4 0] [1] [1]/\SX 55 (V9 535) [om 41 4,oz 42 31 1 2,ol 43 28 42,oe 44 43 28,ob 45 .lss 3 41 44] [1,4] [1]/\SX 55 (V9 2199) [oz 48 31 1 2,ol 49 28 48,om 50 4,oi 51 28 49 50,ol 52 97 51,oe 53 52 97,oc 54 .gtr 3 53 7] [1,4] [1]/\SX 55 (V9 9367) [ot 2 false] [] []/\SX 55 (V9 919) [om 46 4,oc 47 .add 3 46 1,om 4 47] [1,4] [1]/\SX 55 (V9 47) [ot 2 true] [] []/\LX 55 aH [1,3] [1]/\LX 55 aI [1,4] [1]:=by and_intros<;>first|exact rx|exact lx|exact fun _ _=>rfl
def xX:=rg Tryz.f69
@[simp] def AQT:bq:=(lp (xX 267) 8 0 1 (xX 587) (xX 459))
def aJ:=AQT
def c69:bq:=(.seq (xX 2) (.seq (xX 5) (.seq (.seq (xX 19) (.block 0 (.loop aJ))) (.seq (xX 23) .ret))))
theorem b69:Tryz.f69.body=some c69:=by kernel_rfl
@[simp] theorem BMS(n:Nat)(st:XS):AE bk ann kn (n+1) 20 (xX 459) st=QW (KA bk (BQ bk ann kn n) (.str [om 9 4,oc 10 .add 3 9 1,om 4 10]) (CO (some ([0,3,4],[18])) (MD [16,2000000000000018] st))) :=
 D6 (by kernel_rfl) (by kernel_rfl) (by kernel_rfl) (by kernel_rfl) (by kernel_rfl)
@[simp] theorem x69:UX 20 aJ AQT/\SX 20 (xX 2) [oq 2 (.mv (.const (.slice none 0 0)))] [0] []/\SX 20 (xX 5) [oq 3 (.mv (.const (.slice none 0 0)))] [0] []/\SX 20 (xX 19) [ok 4 0] [0,3] [18]/\SX 20 (xX 267) [om 5 4,om 6 0,oe 7 6 23,ob 8 .lss 3 5 7] [0,3,4] [18]/\SX 20 (xX 587) [om 11 3,om 12 0,om 13 4,oi 14 23 12 13,ol 15 22 14,oq 16 (.app [.const (.slice none 0 0),tq 15] [22,22]),oq 17 (.buildS 23 1 [(0,tq 16)]),oq 18 (.app [tq 11,tq 17] [23,23]),om 3 18] [0,3,4] [18]/\SX 20 (xX 23) [om 19 3,om 2 19] [3] [18]/\LX 20 aJ [0,3,4] [18]:=⟨fun _ _=>rfl,rx,rx,rx,rx,rx,rx,lx⟩
def sW:=rg Tryz.f26
@[simp] def AQU:bq:=(lp (sW 267) 11 0 1 (.seq (sW 1099) (.cond (.tmp 19) (sW 2635) .skip)) (sW 459))
def aK:=AQU
def c26:bq:=(.seq (sW 2) (.seq (sW 5) (.seq (.seq (sW 19) (.block 0 (.loop aK))) (.seq (sW 23) .ret))))
theorem b26:Tryz.f26.body=some c26:=by kernel_rfl
@[simp] theorem x26:UX 32 aK AQU/\SX 32 (sW 2) [oq 2 (.box (tq 0)),oq 4 (.mv (.const (.slice none 0 0)))] [0,1] [2]/\SX 32 (sW 5) [oq 5 (.mv (.const (.slice none 0 0)))] [1,2] [2]/\SX 32 (sW 19) [ok 6 0] [1,2,5] [2,30]/\SX 32 (sW 267) [om 7 6,oz 8 31 2 3,ol 9 29 8,oe 10 9 29,ob 11 .lss 3 7 10] [1,2,5,6] [2,30]/\SX 32 (sW 1099) [om 14 1,om 15 6,oq 16 (.oth (.convert 3 115 (tq 15))),ob 17 .shr 3 14 16,oc 18 .rem 3 17 2,oc 19 .eql 3 18 0] [1,2,5,6] [2,30]/\SX 32 (sW 2635) [om 20 5,om 21 6,oz 22 31 2 3,ol 23 29 22,om 24 6,oi 25 29 23 24,oz 26 57 25 0,ol 27 3 26,oq 28 (.build 135 [(0,tq 21),(1,tq 27)]),oq 29 (.buildS 49 1 [(0,tq 28)]),oq 30 (.app [tq 20,tq 29] [49,49]),om 5 30] [1,2,5,6] [2,30]/\SX 32 (sW 459) [om 12 6,oc 13 .add 3 12 1,om 6 13] [1,2,5,6] [2,30]/\SX 32 (sW 23) [om 31 5,om 4 31] [5] [30]/\LX 32 aK [1,2,5,6] [2,30]:=⟨fun _ _=>rfl,rx,rx,rx,rx,rx,rx,rx,rx,lx⟩
def mN:=rg Tryz.f25
@[simp] def AQV:bq:=(lp (mN 267) 23 0 1 (.seq (mN 1099) (.cond (.tmp 33) (.seq (mN 4683) .ret) .skip)) (mN 459))
def aL:=AQV
def c25:bq:=(.seq (mN 2) (.seq (.seq (mN 9) (.cond (.tmp 19) (.seq (mN 37) .ret) .skip)) (.seq (.seq (mN 19) (.block 0 (.loop aL))) (.seq (mN 23) .ret))))
theorem b25:Tryz.f25.body=some c25:=by kernel_rfl
@[simp] theorem x25:UX 34 aL AQV/\SX 34 (mN 2) [oq 3 (.box (tq 0)),ot 6 false] [0,1,2] [3]/\RX 34 (mN 9) (.drw [⟨[],[om 8 2,oe 9 8 24,om 10 1,oe 11 10 49,ob 12 .neq 3 9 11,om 13 12,gm 13 false 14 1,gd 13 false 15 72 [tq 14],gl 13 false 16 31 3],[gd 13 false 17 73 [tq 16]]⟩,⟨[],[gb 13 false 18 .gtr 3 15 17,oq 19 (.pick (tq 13) (cb true) (tq 18))],[]⟩]) (some ([1,2,3],[3]))/\SX 34 (mN 37) [ot 6 false] [] []/\SX 34 (mN 19) [ok 7 0] [1,2,3] [3]/\SX 34 (mN 267) [om 20 7,om 21 2,oe 22 21 24,ob 23 .lss 3 20 22] [1,2,3,7] [3]/\RX 34 (mN 1099) (.drw [⟨[],[ol 26 31 3,om 27 1,om 28 2,om 29 7,oc 30 .add 3 29 1,oq 31 (.oth (.slice 24 (tq 28) none (some (tq 30)) none))],[od 32 74 [tq 26,tq 27,tq 31]]⟩,⟨[],[ou 33 32],[]⟩]) (some ([1,2,3,7],[3]))/\SX 34 (mN 4683) [ot 6 false] [] []/\SX 34 (mN 459) [om 24 7,oc 25 .add 3 24 1,om 7 25] [1,2,3,7] [3]/\SX 34 (mN 23) [ot 6 true] [] []/\LX 34 aL [1,2,3,7] [3]:=⟨fun _ _=>rfl,rx,rx,rx,rx,rx,rx,rx,rx,rx,lx⟩
def gV:=rg Tryz.f37
@[simp] def AQW:bq:=(lp (gV 16971) 22 2 3 (gV 37451) (gV 29259))
def aM:=AQW
@[simp] def AQX:bq:=(lp (gV 267) 13 0 1 (.seq (gV 1099) (.block 2 (.loop aM))) (gV 459))
def aN:=AQX
def c37:bq:=(.seq (gV 2) (.seq (gV 5) (.seq (.seq (gV 19) (.block 0 (.loop aN))) (.seq (gV 23) .ret))))
theorem b37:Tryz.f37.body=some c37:=by kernel_rfl
@[simp] theorem x37:UX 45 aM AQW/\UX 45 aN AQX/\SX 45 (gV 2) [ok 6 0] [0,1,2] []/\SX 45 (gV 5) [ok 7 0] [0,1,2] []/\SX 45 (gV 19) [ok 8 0] [0,1,2,7] []/\SX 45 (gV 267) [om 10 8,om 11 2,oe 12 11 24,ob 13 .lss 3 10 12] [0,1,2,7,8] []/\SX 45 (gV 1099) [ok 9 0] [0,1,2,7,8] []/\SX 45 (gV 16971) [om 16 9,om 17 1,om 18 8,oi 19 49 17 18,oz 20 135 19 1,ol 21 3 20,ob 22 .lss 3 16 21] [0,1,2,7,8,9] []/\RX 45 (gV 37451) (.drw [⟨[],[om 25 7,om 26 0,om 27 2,om 28 8,oi 29 24 27 28,oz 30 59 29 0,ol 31 3 30,oi 32 23 26 31,ol 33 22 32,om 34 2,om 35 8,oi 36 24 34 35,oz 37 59 36 1,ol 38 3 37,om 39 9,ob 40 .add 3 38 39,oi 41 22 33 40,ol 42 3 41,ob 43 .add 3 25 42,om 7 43],[]⟩]) (some ([0,1,2,7,8,9],[]))/\SX 45 (gV 29259) [om 23 9,oc 24 .add 3 23 1,om 9 24] [0,1,2,7,8,9] []/\SX 45 (gV 459) [om 14 8,oc 15 .add 3 14 1,om 8 15] [0,1,2,7,8] []/\SX 45 (gV 23) [om 44 7,om 6 44] [7] []/\LX 45 aN [0,1,2,7,8] []/\LX 45 aM [0,1,2,7,8,9] []:=by and_intros<;>first|exact rx|exact lx|exact fun _ _=>rfl
def UK:=rg Tryz.f116
@[simp] def AGE:bq:=(lp (UK 133) 9 0 1 (.seq (UK 549) (.cond (.tmp 27) (.seq (UK 2341) .ret) .skip)) (UK 229))
def UL:=AGE
def A7L:bq:=(.seq (UK 2) (.seq (.seq (UK 9) (.block 0 (.loop UL))) (.seq (UK 11) .ret)))
theorem BIR:Tryz.f116.body=some A7L:=by kernel_rfl
@[simp] theorem BRH:UX 34 UL AGE/\SX 34 (UK 2) [oq 2 (.box (tq 0)),ot 4 false] [0,1] [2]/\SX 34 (UK 9) [ok 5 0] [1,2] [2]/\SX 34 (UK 133) [om 6 5,om 7 1,oe 8 7 23,ob 9 .lss 3 6 8] [1,2,5] [2]/\RX 34 (UK 549) (.drw [⟨[],[om 12 1,om 13 5,oi 14 23 12 13,ol 15 22 14,oe 16 15 22,oz 17 27 2 1,ol 18 3 17,ob 19 .neq 3 16 18,om 20 19,gm 20 false 21 1,gm 20 false 22 5,gi 20 false 23 23 21 22,gl 20 false 24 22 23],[gd 20 false 25 134 [tq 24,ci 0]]⟩,⟨[],[og 20 false 26 (.oth (.unOp .not 4 (tq 25))),oq 27 (.pick (tq 20) (cb true) (tq 26))],[]⟩]) (some ([1,2,5],[2]))/\SX 34 (UK 2341) [ot 4 false] [] []/\SX 34 (UK 229) [om 10 5,oc 11 .add 3 10 1,om 5 11] [1,2,5] [2]/\SX 34 (UK 11) [om 28 1,oe 29 28 23,oz 30 27 2 0,ol 31 3 30,oc 32 .add 3 31 1,ob 33 .eql 3 29 32,om 4 33] [1,2] [2]/\LX 34 UL [1,2,5] [2]:=⟨fun _ _=>rfl,rx,rx,rx,rx,rx,rx,rx,lx⟩
def mO:=rg Tryz.f27
@[simp] def AQY:bq:=(lp (mO 267) 15 0 1 (.seq (mO 1099) (.cond (.tmp 28) (.seq (mO 4683) .ret) .skip)) (mO 459))
def aO:=AQY
def c27:bq:=(.seq (mO 2) (.seq (.seq (mO 9) (.cond (.tmp 11) (.seq (mO 37) .ret) .skip)) (.seq (.seq (mO 19) (.block 0 (.loop aO))) (.seq (mO 23) .ret))))
theorem b27:Tryz.f27.body=some c27:=by kernel_rfl
@[simp] theorem x27:UX 29 aO AQY/\SX 29 (mO 2) [oq 2 (.box (tq 0)),ot 4 false] [0,1] [2]/\SX 29 (mO 9) [om 6 1,oe 7 6 22,oz 8 27 2 6,ol 9 23 8,oe 10 9 23,ob 11 .neq 3 7 10] [1,2] [2]/\SX 29 (mO 37) [ot 4 false] [] []/\SX 29 (mO 19) [ok 5 0] [1,2] [2]/\SX 29 (mO 267) [om 12 5,om 13 1,oe 14 13 22,ob 15 .lss 3 12 14] [1,2,5] [2]/\RX 29 (mO 1099) (.drw [⟨[],[oz 18 27 2 6,ol 19 23 18,om 20 5,oi 21 23 19 20,ol 22 22 21,om 23 1,om 24 5,oi 25 22 23 24,ol 26 3 25],[od 27 75 [tq 22,tq 26]]⟩,⟨[],[ou 28 27],[]⟩]) (some ([1,2,5],[2]))/\SX 29 (mO 4683) [ot 4 false] [] []/\SX 29 (mO 459) [om 16 5,oc 17 .add 3 16 1,om 5 17] [1,2,5] [2]/\SX 29 (mO 23) [ot 4 true] [] []/\LX 29 aO [1,2,5] [2]:=⟨fun _ _=>rfl,rx,rx,rx,rx,rx,rx,rx,rx,rx,lx⟩
def OR:=rg Tryz.f102
@[simp] def AGF:bq:=(lp (OR 267) 14 0 1 (.seq (OR 1099) (.cond (.tmp 32) (.seq (OR 4683) .ret) .skip)) (OR 459))
def UM:=AGF
def AUM:bq:=(.seq (OR 2) (.seq (.seq (OR 9) (.cond (.tmp 9) (.seq (OR 37) .ret) .skip)) (.seq (.seq (OR 19) (.block 0 (.loop UM))) (.seq (OR 23) .ret))))
theorem BIT:Tryz.f102.body=some AUM:=by kernel_rfl
@[simp] theorem BRJ:UX 33 UM AGF/\SX 33 (OR 2) [oq 2 (.box (tq 0)),ot 4 false] [0,1] [2,4,5,30]/\SX 33 (OR 9) [ol 6 27 2,om 7 1,od 8 27 [tq 6,tq 7],ou 9 8] [1,2] [2]/\SX 33 (OR 37) [ot 4 false] [] []/\SX 33 (OR 19) [ok 5 0] [1,2] [2]/\SX 33 (OR 267) [om 10 5,oz 11 27 2 8,ol 12 25 11,oe 13 12 25,ob 14 .lss 3 10 13] [1,2,5] [2]/\RX 33 (OR 1099) (.drw [⟨[],[om 17 1,oz 18 27 2 8,ol 19 25 18,om 20 5,oi 21 25 19 20,oz 22 188 21 0,ol 23 3 22,oi 24 22 17 23,ol 25 3 24,oz 26 27 2 8,ol 27 25 26,om 28 5,oi 29 25 27 28,oz 30 188 29 1,ol 31 3 30,ob 32 .neq 3 25 31],[]⟩]) (some ([1,2,5],[2]))/\SX 33 (OR 4683) [ot 4 false] [] []/\SX 33 (OR 459) [om 15 5,oc 16 .add 3 15 1,om 5 16] [1,2,5] [2]/\SX 33 (OR 23) [ot 4 true] [] []/\LX 33 UM [1,2,5] [2]:=⟨fun _ _=>rfl,rx,rx,rx,rx,rx,rx,rx,rx,rx,lx⟩
def LL:=rg Tryz.f76
@[simp] def AGG:bq:=(lp (LL 68759) 53 3 4 (.seq (LL 281751) (.cond (.tmp 62) (.seq (LL 1199255) .ret) .skip)) (LL 117911))
def UN:=AGG
@[simp] def AQZ:bq:=(lp (LL 535) 21 0 1 (.seq (.seq (LL 4247) (.block 2 (.seq (LL 18583) (.cond (.tmp 25) (LL 43159) (.seq (LL 92311) (.cond (.tmp 31) (LL 190615) (.seq (LL 387223) (.cond (.tmp 37) (LL 780439) (.seq (LL 1566871) (.cond (.tmp 43) (LL 3139735) .skip)))))))))) (.seq (LL 5271) (.block 3 (.loop UN)))) (LL 919))
def aP:=AQZ
def c76:bq:=(.seq (LL 2) (.seq (.seq (LL 9) (.cond (.tmp 16) (.seq (LL 37) .ret) .skip)) (.seq (LL 11) (.seq (.seq (LL 39) (.block 0 (.loop aP))) (.seq (LL 47) .ret)))))
theorem b76:Tryz.f76.body=some c76:=by kernel_rfl
@[simp] theorem x76:UX 63 UN AGG/\UX 63 aP AQZ/\SX 63 (LL 2) [oq 4 (.box (tq 0)),oq 5 (.box (tq 1)),ot 8 false] [0,1,2,3] [4]/\SX 63 (LL 9) [om 12 2,oc 13 .add 3 12 2,oc 14 .rem 3 13 4,om 15 3,ob 16 .eql 3 14 15] [2,3,4,5] [4,5]/\SX 63 (LL 37) [ot 8 true] [] []/\SX 63 (LL 11) [ol 17 59 5,oq 9 (.alloc 59),os (.sto 59 (tq 9) (tq 17))] [3,4,5] [4,5]/\SX 63 (LL 39) [ok 10 0] [3,4,9] [4,9]/\SX 63 (LL 535) [om 18 10,oz 19 27 4 3,ol 20 3 19,ob 21 .lss 3 18 20] [3,4,9,10] [4,9]/\SX 63 (LL 4247) [om 24 3] [3,4,9,10] [4,9]/\SX 63 (LL 18583) [oc 26 .eql 3 24 0,om 25 26] [3,4,9,10,24] [4,9]/\SX 63 (LL 43159) [oz 27 59 9 0,ol 28 3 27,oc 29 .sub 3 28 1,oz 30 59 9 0,os (.sto 3 (tq 30) (tq 29))] [3,4,9,10] [4,9]/\SX 63 (LL 92311) [oc 32 .eql 3 24 1,om 31 32] [3,4,9,10,24] [4,9]/\SX 63 (LL 190615) [oz 33 59 9 1,ol 34 3 33,oc 35 .add 3 34 1,oz 36 59 9 1,os (.sto 3 (tq 36) (tq 35))] [3,4,9,10] [4,9]/\SX 63 (LL 387223) [oc 38 .eql 3 24 2,om 37 38] [3,4,9,10,24] [4,9]/\SX 63 (LL 780439) [oz 39 59 9 0,ol 40 3 39,oc 41 .add 3 40 1,oz 42 59 9 0,os (.sto 3 (tq 42) (tq 41))] [3,4,9,10] [4,9]/\SX 63 (LL 1566871) [oc 44 .eql 3 24 3,om 43 44] [3,4,9,10,24] [4,9]/\SX 63 (LL 3139735) [oz 45 59 9 1,ol 46 3 45,oc 47 .sub 3 46 1,oz 48 59 9 1,os (.sto 3 (tq 48) (tq 47))] [3,4,9,10] [4,9]/\SX 63 (LL 5271) [ok 11 0] [3,4,9,10] [4,9]/\SX 63 (LL 68759) [om 49 11,oz 50 27 4 7,ol 51 24 50,oe 52 51 24,ob 53 .lss 3 49 52] [3,4,9,10,11] [4,9]/\RX 63 (LL 281751) (.drw [⟨[],[oz 56 27 4 7,ol 57 24 56,om 58 11,oi 59 24 57 58,ol 60 59 59,ol 61 59 9,ob 62 .eql 59 60 61],[]⟩]) (some ([3,4,9,10,11],[4,9]))/\SX 63 (LL 1199255) [ot 8 true] [] []/\SX 63 (LL 117911) [om 54 11,oc 55 .add 3 54 1,om 11 55] [3,4,9,10,11] [4,9]/\SX 63 (LL 919) [om 22 10,oc 23 .add 3 22 1,om 10 23] [3,4,9,10] [4,9]/\SX 63 (LL 47) [ot 8 false] [] []/\LX 63 aP [3,4,9,10] [4,9]/\LX 63 UN [3,4,9,10,11] [4,9]:=by and_intros<;>first|exact rx|exact lx|exact fun _ _=>rfl
def K8:=rg Tryz.f28
@[simp] def AGH:bq:=(lp (K8 17451595) 30 4 5 (.seq (K8 71977547) (.seq (.seq (K8 306858571) (.cond (.tmp 62) (K8 709511755) .skip)) (.seq (.seq (K8 642402891) (.cond (.tmp 67) (K8 1447709259) .skip)) (.seq (K8 776620619) (.cond (.tmp 75) (K8 1581926987) .skip))))) (K8 30034507))
def UO:=AGH
@[simp] def AQ0:bq:=(lp (K8 68171) 24 2 3 (.seq (K8 281163) (.seq (.seq (K8 1198667) (.block 4 (.loop UO))) (K8 936523))) (K8 117323))
def aQ:=AQ0
@[simp] def AQ1:bq:=(lp (K8 267) 18 0 1 (.seq (K8 1099) (.seq (.seq (K8 4683) (.block 2 (.loop aQ))) (K8 3659))) (K8 459))
def aR:=AQ1
def c28:bq:=(.seq (K8 2) (.seq (K8 5) (.seq (.seq (K8 19) (.block 0 (.loop aR))) (.seq (K8 23) .ret))))
theorem b28:Tryz.f28.body=some c28:=by kernel_rfl
@[simp] theorem BIV(n:Nat)(st:XS):AE bk ann kn (n+1) 89 (K8 3659) st=QW (KA bk (BQ bk ann kn n) (.str [om 84 7,om 85 9,oq 86 (.buildS 52 1 [(0,tq 85)]),oq 87 (.app [tq 84,tq 86] [52,52]),om 7 87]) (CO (some ([1,2,3,7,8,9],[3,83,87])) (MD [83] st))) :=
 D6 (by kernel_rfl) (by kernel_rfl) (by kernel_rfl) (by kernel_rfl) (by kernel_rfl)
@[simp] theorem x28:UX 89 UO AGH/\UX 89 aQ AQ0/\UX 89 aR AQ1/\SX 89 (K8 2) [oq 3 (.box (tq 0)),oq 6 (.mv (.const (.slice none 0 0)))] [0,1,2] [3]/\SX 89 (K8 5) [oq 7 (.mv (.const (.slice none 0 0)))] [1,2,3] [3]/\SX 89 (K8 19) [ok 8 0] [1,2,3,7] [3,87]/\SX 89 (K8 267) [om 15 8,oz 16 27 3 1,ol 17 3 16,ob 18 .lss 3 15 17] [1,2,3,7,8] [3,87]/\SX 89 (K8 1099) [oq 9 (.mv (.const (.slice none 0 0)))] [1,2,3,7,8] [3,87]/\SX 89 (K8 4683) [ok 10 0] [1,2,3,7,8,9] [3,83,87]/\SX 89 (K8 68171) [om 21 10,oz 22 27 3 2,ol 23 3 22,ob 24 .lss 3 21 23] [1,2,3,7,8,9,10] [3,83,87]/\SX 89 (K8 281163) [oq 11 (.alloc 139)] [1,2,3,7,8,9,10] [3,83,87]/\SX 89 (K8 1198667) [ok 12 0] [1,2,3,7,8,9,10,11] [3,11,83,87]/\SX 89 (K8 17451595) [om 27 12,om 28 2,oe 29 28 22,ob 30 .lss 3 27 29] [1,2,3,7,8,9,10,11,12] [3,11,83,87]/\RX 89 (K8 71977547) (.drw [⟨[],[om 33 1,om 34 12,oi 35 23 33 34,ol 36 22 35,om 37 8,oi 38 22 36 37,ol 39 3 38,oz 40 27 3 5,ol 41 22 40,om 42 12,oi 43 22 41 42,ol 44 3 43,ob 45 .eql 3 39 44,ol 46 27 3,om 47 8,om 48 10,oq 49 (.build 59 [(0,tq 47),(1,tq 48)]),om 50 1,om 51 12,oi 52 23 50 51,ol 53 22 52,om 54 8,oi 55 22 53 54,ol 56 3 55,om 57 2,om 58 12,oi 59 22 57 58,ol 60 3 59,od 61 76 [tq 46,tq 49,tq 56,tq 60],om 13 45,om 14 61],[]⟩]) (some ([1,2,3,7,8,9,10,11,12],[3,11,83,87]))/\SX 89 (K8 306858571) [om 62 13] [1,2,3,7,8,9,10,11,12,13,14] [3,11,83,87]/\SX 89 (K8 709511755) [oz 63 139 11 0,ol 64 3 63,oc 65 .add 3 64 1,oz 66 139 11 0,os (.sto 3 (tq 66) (tq 65))] [1,2,3,7,8,9,10,11,12,13,14] [3,11,83,87]/\SX 89 (K8 642402891) [om 67 14] [1,2,3,7,8,9,10,11,12,13,14] [3,11,83,87]/\SX 89 (K8 1447709259) [oz 68 139 11 1,ol 69 3 68,oc 70 .add 3 69 1,oz 71 139 11 1,os (.sto 3 (tq 71) (tq 70))] [1,2,3,7,8,9,10,11,12,13,14] [3,11,83,87]/\SX 89 (K8 776620619) [om 72 13,om 73 72,gm 73 true 74 14,oq 75 (.pick (tq 73) (tq 74) (cb false))] [1,2,3,7,8,9,10,11,12,13,14] [3,11,83,87]/\SX 89 (K8 1581926987) [oz 76 139 11 2,ol 77 3 76,oc 78 .add 3 77 1,oz 79 139 11 2,os (.sto 3 (tq 79) (tq 78))] [1,2,3,7,8,9,10,11,12] [3,11,83,87]/\SX 89 (K8 30034507) [om 31 12,oc 32 .add 3 31 1,om 12 32] [1,2,3,7,8,9,10,11,12] [3,11,83,87]/\SX 89 (K8 936523) [om 80 9,ol 81 139 11,oq 82 (.buildS 137 1 [(0,tq 81)]),oq 83 (.app [tq 80,tq 82] [137,137]),om 9 83] [1,2,3,7,8,9,10,11] [3,11,83,87]/\SX 89 (K8 117323) [om 25 10,oc 26 .add 3 25 1,om 10 26] [1,2,3,7,8,9,10] [3,83,87]/\SX 89 (K8 459) [om 19 8,oc 20 .add 3 19 1,om 8 20] [1,2,3,7,8] [3,87]/\SX 89 (K8 23) [om 88 7,om 6 88] [7] [87]/\LX 89 aR [1,2,3,7,8] [3,87]/\LX 89 aQ [1,2,3,7,8,9,10] [3,83,87]/\LX 89 UO [1,2,3,7,8,9,10,11,12] [3,11,83,87]:=by and_intros<;>first|exact rx|exact lx|exact fun _ _=>rfl
def AMY:=rg Tryz.f130
def A7M:bq:=(.seq (AMY 2) (.seq (AMY 5) .ret))
theorem BIW:Tryz.f130.body=some A7M:=by kernel_rfl
@[simp] theorem BRM:SX 2 (AMY 2) [oq 0 (.alloc 162)] [] []/\SX 2 (AMY 5) [oq 1 (.build 162 [(0,ci 1099511627776),(1,.const (.int .i64 (bj 0)))]),os (.sto 162 (tq 0) (tq 1))] [0] [0]:=⟨rx,rx⟩
def AMZ:=rg Tryz.f131
def A7N:bq:=(.seq (AMZ 2) (.seq (AMZ 5) .ret))
theorem BIX:Tryz.f131.body=some A7N:=by kernel_rfl
@[simp] theorem BRN:SX 14 (AMZ 2) [oq 2 (.box (tq 0)),oq 4 (.alloc 162)] [0,1] [2,3,4,5,10]/\SX 14 (AMZ 5) [oz 5 162 2 0,ol 6 3 5,om 7 1,oq 8 (.oth (.call ⟨.builtin .min,#[tq 6,tq 7],#[3,3]⟩)),oz 9 162 2 1,ol 10 3 9,om 11 1,oq 12 (.oth (.call ⟨.builtin .max,#[tq 10,tq 11],#[3,3]⟩)),oq 13 (.build 162 [(0,tq 8),(1,tq 12)]),os (.sto 162 (tq 4) (tq 13))] [1,2,3,4] [2,3,4]:=⟨rx,rx⟩
def mP:=rg Tryz.f55
@[simp] def AQ2:bq:=(lp (mP 267) 9 0 1 (.seq (mP 1099) (.seq (mP 2635) (.cond (.tmp 17) (mP 5707) .skip))) (mP 459))
def aS:=AQ2
def c55:bq:=(.seq (mP 2) (.seq (mP 5) (.seq (.seq (mP 19) (.block 0 (.loop aS))) (.seq (mP 23) .ret))))
theorem b55:Tryz.f55.body=some c55:=by kernel_rfl
@[simp] theorem x55:UX 23 aS AQ2/\SX 23 (mP 2) [oq 1 (.box (tq 0)),oq 2 (.mv (.const (.slice none 0 0)))] [0] [1,14]/\SX 23 (mP 5) [oq 3 (.mv (.const (.slice none 0 0)))] [0,1] [1,14]/\SX 23 (mP 19) [ok 4 0] [0,1,3] [1,14,21]/\SX 23 (mP 267) [om 6 4,ol 7 27 1,od 8 100 [tq 7],ob 9 .lss 3 6 8] [1,3,4] [1,14,21]/\SX 23 (mP 1099) [ol 12 27 1,om 13 4,od 14 101 [tq 12,tq 13],om 5 14] [1,3,4] [1,14,21]/\SX 23 (mP 2635) [ol 15 27 1,om 16 5,od 17 102 [tq 15,tq 16]] [1,3,4,5] [1,14,21]/\SX 23 (mP 5707) [om 18 3,om 19 5,oq 20 (.buildS 23 1 [(0,tq 19)]),oq 21 (.app [tq 18,tq 20] [23,23]),om 3 21] [1,3,4,5] [1,14,21]/\SX 23 (mP 459) [om 10 4,oc 11 .add 3 10 1,om 4 11] [0,1,3,4] [1,14,21]/\SX 23 (mP 23) [om 22 3,om 2 22] [3] [21]/\LX 23 aS [1,3,4] [1,14,21]:=⟨fun _ _=>rfl,rx,rx,rx,rx,rx,rx,rx,rx,rx,lx⟩
def sX:=rg Tryz.f87
@[simp] def AQ3:bq:=(lp (sX 267) 19 0 1 (.seq (sX 1099) (sX 1611)) (sX 459))
def aT:=AQ3
def c87:bq:=(.seq (sX 2) (.seq (sX 5) (.seq (.seq (sX 19) (.block 0 (.loop aT))) (.seq (sX 23) .ret))))
theorem b87:Tryz.f87.body=some c87:=by kernel_rfl
@[simp] theorem x87:UX 47 aT AQ3/\SX 47 (sX 2) [oq 4 (.box (tq 0)),oq 7 (.box (tq 3)),oq 8 (.alloc 162),oq 9 (.alloc 162)] [0,1,2,3] [4,28]/\SX 47 (sX 5) [oq 14 (.call true none (.func 130) []),oq 15 (.call true none (.func 130) []),oq 10 (.alloc 162),oq 11 (.alloc 162),os (.sto 162 (tq 10) (tq 14)),os (.sto 162 (tq 11) (tq 15))] [1,2,4,7,8,9] [4,7,8,9,28]/\SX 47 (sX 19) [ok 12 0] [1,2,4,7,8,9,10,11] [4,7,8,9,10,11,28]/\SX 47 (sX 267) [om 16 12,om 17 1,oe 18 17 23,ob 19 .lss 3 16 18] [1,2,4,7,8,9,10,11,12] [4,7,8,9,10,11,28]/\RX 47 (sX 1099) (.drw [⟨[13],[oq 22 (.ldz 27 (tq 4)),om 23 2,om 24 1,om 25 12,oi 26 23 24 25,oq 27 (.ldz 22 (tq 26)),od 28 28 [tq 22,tq 23,tq 27],oz 29 59 7 0,oq 30 (.ldz 3 (tq 29)),oi 31 52 28 30,oq 32 (.ldz 137 (tq 31)),oz 33 59 7 1,oq 34 (.ldz 3 (tq 33)),oi 35 137 32 34,oq 36 (.ldz 139 (tq 35)),oq 13 (.alloc 139)],[os (.sto 139 (tq 13) (tq 36))]⟩]) (some ([1,2,4,7,8,9,10,11,12],[4,7,8,9,10,11]))/\RX 47 (sX 1611) (.drw [⟨[40],[oq 37 (.ldz 162 (tq 10)),oz 38 139 13 1,oq 39 (.ldz 3 (tq 38)),ol 41 162 11,oz 42 139 13 2,ol 43 3 42,oq 40 (.call true none (.func 131) [tq 37,tq 39])],[oq 44 (.call true none (.func 131) [tq 41,tq 43])]⟩,⟨[],[os (.sto 162 (tq 10) (tq 40))],[os (.sto 162 (tq 11) (tq 44))]⟩]) (some ([1,2,4,7,8,9,10,11,12,13],[4,7,8,9,10,11,13,28]))/\SX 47 (sX 459) [om 20 12,oc 21 .add 3 20 1,om 12 21] [1,2,4,7,8,9,10,11,12] [4,7,8,9,10,11,28]/\RX 47 (sX 23) (.drw [⟨[],[oq 45 (.ldz 162 (tq 10)),ol 46 162 11,os (.sto 162 (tq 8) (tq 45))],[os (.sto 162 (tq 9) (tq 46))]⟩]) (some ([8,9,10,11],[8,9,10,11]))/\LX 47 aT [1,2,4,7,8,9,10,11,12] [4,7,8,9,10,11,28]:=⟨fun _ _=>rfl,rx,rx,rx,rx,rx,rx,rx,rx,lx⟩
def WA:=rg Tryz.f35
@[simp] def AQ4:bq:=(lp (WA 136343) 24 2 3 (.seq (WA 562327) (WA 824471)) (WA 234647))
def aU:=AQ4
@[simp] def AQ5:bq:=(lp (WA 535) 17 0 1 (.seq (WA 2199) (.seq (.seq (WA 9367) (.block 2 (.loop aU))) (WA 7319))) (WA 919))
def aV:=AQ5
def c35:bq:=(.seq (WA 2) (.seq (WA 5) (.seq (WA 11) (.seq (.seq (WA 39) (.block 0 (.loop aV))) (.seq (WA 47) .ret)))))
theorem b35:Tryz.f35.body=some c35:=by kernel_rfl
@[simp] theorem BIY(n:Nat)(st:XS):AE bk ann kn (n+1) 49 (WA 7319) st=QW (KA bk (BQ bk ann kn n) (.str [om 44 4,om 45 6,oq 46 (.buildS 23 1 [(0,tq 45)]),oq 47 (.app [tq 44,tq 46] [23,23]),om 4 47]) (CO (some ([1,3,4,5,6],[1,12,43,47])) (MD [43] st))) :=
 D6 (by kernel_rfl) (by kernel_rfl) (by kernel_rfl) (by kernel_rfl) (by kernel_rfl)
@[simp] theorem x35:UX 49 aU AQ4/\UX 49 aV AQ5/\SX 49 (WA 2) [oq 1 (.box (tq 0)),oq 2 (.mv (.const (.slice none 0 0)))] [0] [1,12]/\SX 49 (WA 5) [oz 10 31 1 0,ol 11 27 10,od 12 55 [tq 11],om 3 12] [1] [1,12]/\SX 49 (WA 11) [oq 4 (.mv (.const (.slice none 0 0)))] [1,3] [1,12]/\SX 49 (WA 39) [ok 5 0] [1,3,4] [1,12,47]/\SX 49 (WA 535) [om 13 5,oz 14 31 1 0,oz 15 27 14 1,ol 16 3 15,ob 17 .lss 3 13 16] [1,3,4,5] [1,12,47]/\SX 49 (WA 2199) [oq 6 (.mv (.const (.slice none 0 0)))] [1,3,4,5] [1,12,47]/\SX 49 (WA 9367) [ok 7 0] [1,3,4,5,6] [1,12,43,47]/\SX 49 (WA 136343) [om 20 7,oz 21 31 1 0,oz 22 27 21 2,ol 23 3 22,ob 24 .lss 3 20 23] [1,3,4,5,6,7] [1,12,43,47]/\SX 49 (WA 562327) [oz 28 31 1 0,ol 29 27 28,om 30 3,oz 31 31 1 1,ol 32 23 31,om 33 5,om 34 7,oq 35 (.build 59 [(0,tq 33),(1,tq 34)]),od 36 87 [tq 29,tq 30,tq 32,tq 35],om 27 36,oq 37 (.oth (.extract (tq 27) 0)),oq 38 (.oth (.extract (tq 27) 1)),oq 8 (.alloc 162),oq 9 (.alloc 162),os (.sto 162 (tq 8) (tq 37)),os (.sto 162 (tq 9) (tq 38))] [1,3,4,5,6,7] [1,12,43,47]/\SX 49 (WA 824471) [om 39 6,oz 40 162 9 0,ol 41 3 40,oq 42 (.buildS 22 1 [(0,tq 41)]),oq 43 (.app [tq 39,tq 42] [22,22]),om 6 43] [1,3,4,5,6,7,9] [1,9,12,43,47]/\SX 49 (WA 234647) [om 25 7,oc 26 .add 3 25 1,om 7 26] [1,3,4,5,6,7] [1,12,43,47]/\SX 49 (WA 919) [om 18 5,oc 19 .add 3 18 1,om 5 19] [1,3,4,5] [1,12,47]/\SX 49 (WA 47) [om 48 4,om 2 48] [4] [47]/\LX 49 aV [1,3,4,5] [1,12,47]/\LX 49 aU [1,3,4,5,6,7] [1,12,43,47]:=by and_intros<;>first|exact rx|exact lx|exact fun _ _=>rfl
def xY:=rg Tryz.f40
@[simp] def AQ6:bq:=(lp (xY 267) 12 0 1 (xY 587) (xY 459))
def aW:=AQ6
def c40:bq:=(.seq (xY 2) (.seq (xY 5) (.seq (.seq (xY 19) (.block 0 (.loop aW))) (.seq (xY 23) .ret))))
theorem b40:Tryz.f40.body=some c40:=by kernel_rfl
@[simp] theorem x40:UX 30 aW AQ6/\SX 30 (xY 2) [oq 2 (.mv (.const (.slice none 0 0)))] [0] []/\SX 30 (xY 5) [oq 3 (.mv (.const (.slice none 0 0)))] [0] []/\SX 30 (xY 19) [ok 4 0] [0,3] [28]/\SX 30 (xY 267) [om 5 4,om 6 0,oe 7 6 37,ob 8 .lss 3 5 7,om 9 8,gm 9 true 10 4,gc 9 true 11 .lss 3 10 9,oq 12 (.pick (tq 9) (tq 11) (cb false))] [0,3,4] [28]/\RX 30 (xY 587) (.drw [⟨[],[om 15 3,om 16 0,om 17 4,oi 18 37 16 17,oz 19 86 18 0,ol 20 3 19,om 21 0,om 22 4,oi 23 37 21 22,oz 24 86 23 1,ol 25 3 24,oq 26 (.build 59 [(0,tq 20),(1,tq 25)]),oq 27 (.buildS 24 1 [(0,tq 26)]),oq 28 (.app [tq 15,tq 27] [24,24]),om 3 28],[]⟩]) (some ([0,3,4],[28]))/\SX 30 (xY 459) [om 13 4,oc 14 .add 3 13 1,om 4 14] [0,3,4] [28]/\SX 30 (xY 23) [om 29 3,om 2 29] [3] [28]/\LX 30 aW [0,3,4] [28]:=⟨fun _ _=>rfl,rx,rx,rx,rx,rx,rx,rx,lx⟩
def K9:=rg Tryz.f70
@[simp] def AGI:bq:=(lp (K9 4287) 38 0 1 (.seq (K9 17599) (.cond (.tmp 50) (.seq (K9 74943) .ret) .skip)) (K9 7359))
def UP:=AGI
@[simp] def AGJ:bq:=(lp (K9 8575) 55 2 3 (.seq (K9 35199) (.cond (.tmp 75) (.seq (K9 149887) .ret) .skip)) (K9 14719))
def UQ:=AGJ
def c70:bq:=(.seq (K9 2) (.seq (.seq (K9 9) (.cond (.tmp 9) (.seq (K9 37) .ret) .skip)) (.seq (.seq (K9 19) (.seq (K9 43) (.cond (.tmp 14) (.seq (K9 155) .ret) .skip))) (.seq (.seq (K9 39) (.cond (.tmp 21) (.seq (K9 151) .ret) .skip)) (.seq (.seq (K9 79) (.cond (.tmp 26) (.seq (K9 303) .ret) .skip)) (.seq (.seq (K9 159) (.cond (.tmp 33) (.seq (K9 607) .ret) .skip)) (.seq (.seq (K9 319) (.block 0 (.loop UP))) (.seq (.seq (K9 639) (.block 2 (.loop UQ))) (.seq (K9 767) .ret)))))))))
theorem b70:Tryz.f70.body=some c70:=by kernel_rfl
@[simp] theorem x70:UX 76 UP AGI/\UX 76 UQ AGJ/\SX 76 (K9 2) [oq 1 (.box (tq 0)),ok 2 0] [0] [1,24]/\SX 76 (K9 9) [oz 6 31 1 3,ol 7 29 6,oe 8 7 29,oc 9 .gtr 3 8 3] [1] [1,24]/\SX 76 (K9 37) [ok 2 3] [] []/\SX 76 (K9 19) [oz 10 31 1 0,ol 11 27 10,od 12 108 [tq 11],om 3 12] [1] [1,24]/\SX 76 (K9 43) [om 13 3,oc 14 .neq 3 13 0] [1,3] [1,24]/\SX 76 (K9 155) [om 15 3,om 2 15] [3] []/\SX 76 (K9 39) [oz 16 31 1 0,ol 17 27 16,oz 18 31 1 1,ol 19 23 18,od 20 116 [tq 17,tq 19],ou 21 20] [1] [1,24]/\SX 76 (K9 151) [ok 2 2] [] []/\SX 76 (K9 79) [oz 22 31 1 0,ol 23 27 22,od 24 55 [tq 23],oe 25 24 23,oc 26 .eql 3 25 0] [1] [1,24]/\SX 76 (K9 303) [ok 2 11] [] []/\SX 76 (K9 159) [oz 27 31 1 2,ol 28 28 27,oe 29 28 28,oz 30 31 1 0,oz 31 27 30 1,ol 32 3 31,ob 33 .neq 3 29 32] [1] [1,24]/\SX 76 (K9 607) [ok 2 1] [] []/\SX 76 (K9 319) [ok 4 0] [1] [1,24]/\SX 76 (K9 4287) [om 34 4,oz 35 31 1 2,ol 36 28 35,oe 37 36 28,ob 38 .lss 3 34 37] [1,4] [1,24]/\RX 76 (K9 17599) (.drw [⟨[],[oz 41 31 1 2,ol 42 28 41,om 43 4,oi 44 28 42 43,ol 45 97 44,oe 46 45 97,oz 47 31 1 0,oz 48 27 47 2,ol 49 3 48,ob 50 .neq 3 46 49],[]⟩]) (some ([1,4],[1,24]))/\SX 76 (K9 74943) [ok 2 1] [] []/\SX 76 (K9 7359) [om 39 4,oc 40 .add 3 39 1,om 4 40] [1,4] [1,24]/\SX 76 (K9 639) [ok 5 0] [1] [1,24]/\SX 76 (K9 8575) [om 51 5,oz 52 31 1 3,ol 53 29 52,oe 54 53 29,ob 55 .lss 3 51 54] [1,5] [1,24]/\SX 76 (K9 35199) [oz 58 31 1 3,ol 59 29 58,om 60 5,oi 61 29 59 60,oz 62 57 61 0,ol 63 3 62,od 64 57 [tq 63,ci 1,ci 4],ou 65 64,om 66 65,gz 66 false 67 31 1 3,gl 66 false 68 29 67,gm 66 false 69 5,gi 66 false 70 29 68 69,gz 66 false 71 57 70 1,gl 66 false 72 3 71,gd 66 false 73 57 [tq 72,ci 0,ci 5],og 66 false 74 (.oth (.unOp .not 4 (tq 73))),oq 75 (.pick (tq 66) (cb true) (tq 74))] [1,5] [1,24]/\SX 76 (K9 149887) [ok 2 1] [] []/\SX 76 (K9 14719) [om 56 5,oc 57 .add 3 56 1,om 5 57] [1,5] [1,24]/\SX 76 (K9 767) [ok 2 0] [] []/\LX 76 UP [1,4] [1,24]/\LX 76 UQ [1,5] [1,24]:=by and_intros<;>first|exact rx|exact lx|exact fun _ _=>rfl
def ZG:=rg Tryz.f21
@[simp] def AQ7:bq:=(lp (ZG 267) 18 0 1 (ZG 587) (ZG 459))
def aX:=AQ7
@[simp] def AQ8:bq:=(lp (ZG 535) 36 2 3 (.seq (ZG 2199) (ZG 3223)) (ZG 919))
def aY:=AQ8
def c21:bq:=(.seq (ZG 2) (.seq (ZG 5) (.seq (.seq (ZG 19) (.block 0 (.loop aX))) (.seq (.seq (ZG 39) (.block 2 (.loop aY))) (.seq (ZG 47) .ret)))))
theorem b21:Tryz.f21.body=some c21:=by kernel_rfl
@[simp] theorem BM0(n:Nat)(st:XS):AE bk ann kn (n+1) 59 (ZG 459) st=QW (KA bk (BQ bk ann kn n) (.str [om 19 4,oc 20 .add 3 19 1,om 4 20]) (CO (some ([1,2,3,4],[1,2,3,9,12,30,56])) (MD [28,2000000000000030] st))) :=
 D6 (by kernel_rfl) (by kernel_rfl) (by kernel_rfl) (by kernel_rfl) (by kernel_rfl)
@[simp] theorem x21:UX 59 aX AQ7/\UX 59 aY AQ8/\SX 59 (ZG 2) [oq 1 (.box (tq 0)),oq 2 (.alloc 43)] [0] [1,2,3,9,12,30,56]/\RX 59 (ZG 5) (.drw [⟨[3],[oz 7 31 1 0,oq 8 (.ldz 27 (tq 7)),od 9 68 [tq 8],oz 10 31 1 1,oq 11 (.ldz 23 (tq 10)),od 12 69 [tq 11],oq 13 (.build 43 [(0,tq 9),(1,tq 12)]),oq 3 (.alloc 43)],[os (.sto 43 (tq 3) (tq 13))]⟩]) (some ([1,2],[1,2,30,56]))/\SX 59 (ZG 19) [ok 4 0] [1,2,3] [1,2,3,9,12,30,56]/\SX 59 (ZG 267) [om 14 4,oz 15 31 1 2,ol 16 28 15,oe 17 16 28,ob 18 .lss 3 14 17] [1,2,3,4] [1,2,3,9,12,30,56]/\RX 59 (ZG 587) (.drw [⟨[],[oz 21 43 3 2,ol 22 28 21,oz 23 31 1 2,ol 24 28 23,om 25 4,oi 26 28 24 25,ol 27 97 26,oq 28 (.app [.const (.slice none 0 0),tq 27] [97,97]),oq 29 (.buildS 28 1 [(0,tq 28)]),oq 30 (.app [tq 22,tq 29] [28,28]),oz 31 43 3 2],[os (.sto 28 (tq 31) (tq 30))]⟩]) (some ([1,2,3,4],[1,2,3,9,12,30,56]))/\SX 59 (ZG 39) [ok 5 0] [1,2,3] [1,2,3,9,12,30,56]/\SX 59 (ZG 535) [om 32 5,oz 33 31 1 3,ol 34 29 33,oe 35 34 29,ob 36 .lss 3 32 35] [1,2,3,5] [1,2,3,9,12,30,56]/\SX 59 (ZG 2199) [oz 39 31 1 3,ol 40 29 39,om 41 5,oi 42 29 40 41,ol 43 57 42,oq 6 (.alloc 57),os (.sto 57 (tq 6) (tq 43))] [1,2,3,5] [1,2,3,9,12,30,56]/\SX 59 (ZG 3223) [oz 44 43 3 3,ol 45 41 44,oz 46 57 6 0,ol 47 3 46,oz 48 57 6 1,ol 49 3 48,oz 50 57 6 2,ol 51 4 50,oz 52 57 6 3,ol 53 4 52,oq 54 (.build 94 [(0,tq 47),(1,tq 49),(2,tq 51),(3,tq 53)]),oq 55 (.buildS 41 1 [(0,tq 54)]),oq 56 (.app [tq 45,tq 55] [41,41]),oz 57 43 3 3,os (.sto 41 (tq 57) (tq 56))] [1,2,3,5,6] [1,2,3,6,9,12,30,56]/\SX 59 (ZG 919) [om 37 5,oc 38 .add 3 37 1,om 5 38] [1,2,3,5] [1,2,3,9,12,30,56]/\SX 59 (ZG 47) [ol 58 43 3,os (.sto 43 (tq 2) (tq 58))] [2,3] [1,2,3,9,12,30,56]/\LX 59 aX [1,2,3,4] [1,2,3,9,12,30,56]/\LX 59 aY [1,2,3,5] [1,2,3,9,12,30,56]:=by and_intros<;>first|exact rx|exact lx|exact fun _ _=>rfl
def g3:=rg Tryz.f3
@[simp] def AQ9:bq:=(lp (g3 34303) 93 0 1 (.seq (g3 140799) (.seq (g3 337407) (.cond (.tmp 116) (.seq (g3 1254911) .ret) .skip))) (g3 58879))
def tO:=AQ9
def c3:bq:=(.seq (g3 2) (.seq (.seq (g3 9) (.cond (.tmp 26) (.seq (g3 37) .ret) .skip)) (.seq (g3 11) (.seq (g3 23) (.seq (.seq (g3 79) (.cond (.tmp 44) (.seq (g3 303) .ret) .skip)) (.seq (.seq (g3 159) (.cond (.tmp 61) (g3 351) .skip)) (.seq (.seq (g3 319) (.cond (.tmp 63) (.seq (g3 1215) .ret) .skip)) (.seq (g3 383) (.seq (.seq (g3 1279) (.cond (.tmp 89) (.seq (g3 4863) .ret) .skip)) (.seq (.seq (g3 2559) (.block 0 (.loop tO))) (.seq (g3 3071) .ret)))))))))))
theorem b3:Tryz.f3.body=some c3:=by kernel_rfl
@[simp] theorem x3:UX 118 tO AQ9/\LX 118 tO [1,3,7,10,11] [3,30,32,34,35,41,50,80]:=⟨fun _ _=>rfl,lx⟩
def g54:=rg Tryz.f54
def c54:bq:=(.seq (g54 2) (.seq (g54 5) .ret))
theorem b54:Tryz.f54.body=some c54:=by kernel_rfl
@[simp] theorem x54:SX 10 (g54 2) [oq 1 (.box (tq 0)),ot 2 false] [0] [1]/\SX 10 (g54 5) [ol 3 31 1,od 4 18 [tq 3],om 5 4,gl 5 true 6 31 1,gd 5 true 7 70 [tq 6],gc 5 true 8 .eql 3 7 0,oq 9 (.pick (tq 5) (tq 8) (cb false)),om 2 9] [0,1,2] [1,2,3,4]:=⟨rx,rx⟩
def IM:=rg Tryz.f129
@[simp] def AGK:bq:=(lp (IM 4267) 32 0 1 (.seq (IM 17579) (.seq (IM 42155) (.seq (IM 91307) (.seq (IM 189611) (.cond (.tmp 82) (IM 386219) .skip))))) (IM 7339))
def UR:=AGK
def AUO:bq:=(.seq (IM 2) (.seq (IM 5) (.seq (.seq (IM 19) (.cond (.tmp 19) (.seq (IM 75) (.seq (.seq (IM 299) (.block 0 (.loop UR))) (IM 235))) .skip)) (.seq (IM 23) .ret))))
theorem b129:Tryz.f129.body=some AUO:=by kernel_rfl
@[simp] theorem BRV:UX 94 UR AGK/\SX 94 (IM 2) [oq 3 (.box (tq 1)),oq 4 (.alloc 158)] [0,1] []/\RX 94 (IM 5) (.drw [⟨[5],[om 10 0,oq 11 (.oth (.nilCheck (tq 10))),oz 12 175 11 2,oq 13 (.ldz 173 (tq 12)),oq 14 (.ldz 153 (tq 3)),oq 15 (.oth (.lookup 173 (tq 13) (tq 14) true)),om 9 15,oq 16 (.oth (.extract (tq 9) 0)),oq 17 (.oth (.extract (tq 9) 1)),oq 5 (.alloc 158),os (.sto 158 (tq 5) (tq 16)),om 6 17],[]⟩]) (some ([0,3,4],[3,4]))/\SX 94 (IM 19) [om 18 6,ou 19 18] [0,3,4,5,6] [3,4,5]/\SX 94 (IM 75) [oz 20 158 5 2,os (.sto 4 (tq 20) (cb true))] [0,3,4,5] [3,4,5]/\SX 94 (IM 299) [oz 21 153 3 1,oz 22 86 21 1,ol 23 3 22,om 7 23] [0,3,4,5] [3,4,5]/\SX 94 (IM 4267) [om 24 7,oz 25 153 3 1,oz 26 86 25 1,ol 27 3 26,oz 28 153 3 0,oz 29 151 28 1,ol 30 3 29,ob 31 .add 3 27 30,ob 32 .lss 3 24 31] [0,3,4,5,7] [3,4,5]/\RX 94 (IM 17579) (.drw [⟨[],[om 35 0,oq 36 (.oth (.nilCheck (tq 35))),oz 37 175 36 1,ol 38 172 37,oz 39 153 3 1,oz 40 86 39 0,ol 41 3 40,om 42 7,oi 43 172 38 41,oi 44 206 43 42,ol 45 3 44,om 8 45],[]⟩]) (some ([0,3,4,5,7],[3,4,5]))/\SX 94 (IM 42155) [oz 46 158 5 0,ol 47 3 46,om 48 8,ob 49 .add 3 47 48,oz 50 158 5 0,os (.sto 3 (tq 50) (tq 49))] [0,3,4,5,7,8] [3,4,5]/\RX 94 (IM 91307) (.drw [⟨[],[oz 51 158 5 2,oq 52 (.ldz 4 (tq 51)),om 53 52,gm 53 true 54 8,gm 53 true 55 0,og 53 true 56 (.oth (.nilCheck (tq 55))),gz 53 true 57 175 56 0,gz 53 true 58 43 57 3,og 53 true 59 (.ldz 41 (tq 58)),gz 53 true 60 153 3 0,gz 53 true 61 151 60 0,og 53 true 62 (.ldz 3 (tq 61)),gi 53 true 63 41 59 62,gz 53 true 64 94 63 1,og 53 true 65 (.ldz 3 (tq 64)),gb 53 true 66 .geq 3 54 65,oq 67 (.pick (tq 53) (tq 66) (cb false)),oz 68 158 5 2],[os (.sto 4 (tq 68) (tq 67))]⟩]) (some ([0,3,4,5,7,8],[3,4,5]))/\RX 94 (IM 189611) (.drw [⟨[],[om 69 0,oq 70 (.oth (.nilCheck (tq 69))),oz 71 175 70 0,oz 72 43 71 2,ol 73 28 72,oz 74 153 3 1,oz 75 86 74 0,ol 76 3 75,oi 77 28 73 76,ol 78 97 77,om 79 7,oi 80 97 78 79,ol 81 4 80,ou 82 81],[]⟩]) (some ([0,3,4,5,7],[3,4,5]))/\SX 94 (IM 386219) [oz 83 158 5 1,ol 84 3 83,oc 85 .add 3 84 1,oz 86 158 5 1,os (.sto 3 (tq 86) (tq 85))] [0,3,4,5,7] [3,4,5]/\SX 94 (IM 7339) [om 33 7,oc 34 .add 3 33 1,om 7 34] [0,3,4,5,7] [3,4,5]/\RX 94 (IM 235) (.drw [⟨[],[om 87 0,oq 88 (.oth (.nilCheck (tq 87))),oz 89 175 88 2,ol 90 173 89,ol 91 153 3,ol 92 158 5],[os (.upd 173 (tq 90) (tq 91) (tq 92))]⟩]) (some ([0,3,4,5],[3,4,5]))/\SX 94 (IM 23) [ol 93 158 5,os (.sto 158 (tq 4) (tq 93))] [4,5] [4,5]/\LX 94 UR [0,3,4,5,7] [3,4,5]:=by and_intros<;>first|exact rx|exact lx|exact fun _ _=>rfl
def mQ:=rg Tryz.f86
@[simp] def ARA:bq:=(.seq (mQ 139) (.seq (.cond (.tmp 13) .skip (.exit 0)) (.seq (.block 1 (.seq (mQ 2251) (.seq (mQ 5323) (mQ 7371)))) (mQ 971))))
def aZ:=ARA
def c86:bq:=(.seq (mQ 2) (.seq (mQ 5) (.seq (.seq (mQ 19) (.block 0 (.loop aZ))) (.seq (mQ 23) .ret))))
theorem b86:Tryz.f86.body=some c86:=by kernel_rfl
@[simp] theorem x86:UX 38 aZ ARA/\SX 38 (mQ 2) [oq 4 (.alloc 158)] [0,1] []/\SX 38 (mQ 5) [oq 9 (.build 158 [(2,cb true)]),oq 5 (.alloc 158),os (.sto 158 (tq 5) (tq 9))] [0,1,4] [4]/\SX 38 (mQ 19) [om 10 1,oe 11 10 120,ok 12 0] [0,1,4,5] [4,5]/\SX 38 (mQ 139) [ob 13 .lss 3 12 11] [0,4,5,10,11,12] [4,5]/\SX 38 (mQ 2251) [oi 14 120 10 12,ol 15 153 14,oq 7 (.alloc 153),os (.sto 153 (tq 7) (tq 15))] [0,4,5,10,11,12] [4,5]/\SX 38 (mQ 5323) [om 16 0,ol 17 153 7,oq 18 (.call true none (.func 129) [tq 16,tq 17]),oq 8 (.alloc 158),os (.sto 158 (tq 8) (tq 18))] [0,4,5,7,10,11,12] [4,5,7]/\SX 38 (mQ 7371) [oz 19 158 5 0,ol 20 3 19,oz 21 158 8 0,ol 22 3 21,ob 23 .add 3 20 22,oz 24 158 5 1,ol 25 3 24,oz 26 158 8 1,ol 27 3 26,ob 28 .add 3 25 27,oz 29 158 5 2,ol 30 4 29,om 31 30,gz 31 true 32 158 8 2,gl 31 true 33 4 32,oq 34 (.pick (tq 31) (tq 33) (cb false)),oq 35 (.build 158 [(0,tq 23),(1,tq 28),(2,tq 34)]),os (.sto 158 (tq 5) (tq 35))] [0,4,5,8,10,11,12] [4,5,8]/\SX 38 (mQ 971) [oc 36 .add 3 12 1,om 12 36] [0,4,5,10,11,12] [4,5]/\SX 38 (mQ 23) [ol 37 158 5,os (.sto 158 (tq 4) (tq 37))] [4,5] [4,5]/\LX 38 aZ [0,4,5,10,11,12] [4,5]:=⟨fun _ _=>rfl,rx,rx,rx,rx,rx,rx,rx,rx,rx,lx⟩
def F1:=rg Tryz.f168
@[simp] def AGL:bq:=(.seq (F1 36043) (.seq (.cond (.tmp 41) .skip (.exit 2)) (.seq (.block 3 (.seq (F1 576715) (.seq (F1 1363147) (.seq (.seq (F1 5033163) (.cond (.tmp 61) (.exit 3) .skip)) (.seq (F1 6081739) (.seq (.seq (F1 20761803) (.cond (.tmp 70) (.seq (F1 79482059) .ret) .skip)) (F1 16567499))))))) (F1 249035))))
def US:=AGL
@[simp] def AGM:bq:=(.seq (F1 139) (.seq (.cond (.tmp 25) .skip (.exit 0)) (.seq (.block 1 (.seq (F1 2251) (.seq (F1 5323) (.block 2 (.loop US))))) (F1 971))))
def UT:=AGM
def tP:bq:=(.seq (F1 2) (.seq (.seq (F1 9) (.cond (.tmp 14) (.seq (F1 37) .ret) .skip)) (.seq (.seq (F1 19) (.block 0 (.loop UT))) (.seq (F1 23) .ret))))
theorem b168:Tryz.f168.body=some tP:=by kernel_rfl
@[simp] theorem BEI(n:Nat)(st:XS):AE bk ann kn (n+1) 76 (F1 20761803) st=QW (KA bk (BQ bk ann kn n) (.str [ol 66 177 5,om 67 0,oc 68 .add 3 67 1,oq 69 (.call false none (tq 66) [tq 68]),ou 70 69]) (CO (some ([0,1,3,4,5,8,23,24,39,40],[10,65])) (MD [8004000922065] st))) :=
 D6 (by kernel_rfl) (by kernel_rfl) (by kernel_rfl) (by kernel_rfl) (by kernel_rfl)
@[simp] theorem BRW:UX 76 US AGL/\UX 76 UT AGM/\SX 76 (F1 2) [ot 7 false] [0,1,2,3,4,5] [10,65]/\SX 76 (F1 9) [om 11 0,ol 12 170 1,oe 13 12 170,ob 14 .eql 3 11 13] [0,1,2,3,4,5] [10,65]/\SX 76 (F1 37) [ol 15 191 2,ol 16 120 3,oq 17 (.call false none (tq 15) [tq 16]),om 7 17] [2,3] [65]/\SX 76 (F1 19) [ol 18 130 4,oq 19 (.oth (.nilCheck (tq 18))),oz 20 175 19 0,oz 21 43 20 0,oz 22 40 21 1,ol 23 3 22,ok 24 0] [0,1,3,4,5] [10,65]/\SX 76 (F1 139) [ob 25 .lss 3 24 23] [0,1,3,4,5,23,24] [10,65]/\SX 76 (F1 2251) [om 26 24,om 8 26] [0,1,3,4,5,23,24] [10,65]/\RX 76 (F1 5323) (.drw [⟨[],[ol 27 130 4,oq 28 (.oth (.nilCheck (tq 27))),oz 29 175 28 0,oz 30 43 29 0,oz 31 40 30 2,ol 32 3 31,ol 33 170 1,om 34 0,oi 35 170 33 34,oz 36 151 35 1,ol 37 3 36,ob 38 .sub 3 32 37,oc 39 .add 3 38 1,ok 40 0],[]⟩]) (some ([0,1,3,4,5,8,23,24],[10,65]))/\SX 76 (F1 36043) [ob 41 .lss 3 40 39] [0,1,3,4,5,8,23,24,39,40] [10,65]/\SX 76 (F1 576715) [om 42 40,om 9 42] [0,1,3,4,5,8,23,24,39,40] [10,65]/\SX 76 (F1 1363147) [ol 43 170 1,om 44 0,oi 45 170 43 44,ol 46 151 45,om 47 8,om 48 9,oq 49 (.build 86 [(0,tq 47),(1,tq 48)]),oq 50 (.build 153 [(0,tq 46),(1,tq 49)]),oq 10 (.alloc 153),os (.sto 153 (tq 10) (tq 50))] [0,1,3,4,5,8,9,23,24,39,40] [10,65]/\SX 76 (F1 5033163) [ol 51 130 4,ol 52 153 10,od 53 129 [tq 51,tq 52],oq 54 (.oth (.field 158 (tq 53) 2)),ou 55 54,om 56 55,gl 56 false 57 120 3,og 56 false 58 (.oth (.makeFunc (.func 169) #[] #[tq 4,tq 10])),gd 56 false 59 137 [tq 57,tq 58],og 56 false 60 (.oth (.unOp .not 4 (tq 59))),oq 61 (.pick (tq 56) (cb true) (tq 60))] [0,1,3,4,5,8,10,23,24,39,40] [10,65]/\SX 76 (F1 6081739) [ol 62 120 3,ol 63 153 10,oq 64 (.buildS 120 1 [(0,tq 63)]),oq 65 (.app [tq 62,tq 64] [120,120]),os (.sto 120 (tq 3) (tq 65))] [0,1,3,4,5,8,10,23,24,39,40] [10,65]/\SX 76 (F1 79482059) [ot 7 false] [] []/\SX 76 (F1 16567499) [ol 71 120 3,om 72 0,oq 73 (.oth (.slice 120 (tq 71) none (some (tq 72)) none)),os (.sto 120 (tq 3) (tq 73))] [0,1,3,4,5,8,23,24,39,40] [10,65]/\SX 76 (F1 249035) [oc 74 .add 3 40 1,om 40 74] [0,1,3,4,5,8,23,24,39,40] [10,65]/\SX 76 (F1 971) [oc 75 .add 3 24 1,om 24 75] [0,1,3,4,5,23,24] [10,65]/\SX 76 (F1 23) [ot 7 true] [] []/\LX 76 UT [0,1,3,4,5,23,24] [10,65]/\LX 76 US [0,1,3,4,5,8,23,24,39,40] [10,65]:=by and_intros<;>first|exact rx|exact lx|exact fun _ _=>rfl
def AM0:=rg Tryz.f169
def A7Q:bq:=(.seq (AM0 2) (.seq (AM0 5) .ret))
theorem b169:Tryz.f169.body=some A7Q:=by kernel_rfl
@[simp] theorem BRX:SX 12 (AM0 2) [oq 3 (.box (tq 0)),ot 4 false] [0,1,2] []/\RX 12 (AM0 5) (.drw [⟨[],[ol 5 130 1,oq 6 (.oth (.nilCheck (tq 5))),oz 7 175 6 0,ol 8 43 7,ol 9 153 2,ol 10 153 3],[od 11 139 [tq 8,tq 9,tq 10]]⟩,⟨[],[om 4 11],[]⟩]) (some ([1,2,3],[3])):=⟨rx,rx⟩
def AM1:=rg Tryz.f128
def AM2:bq:=(.seq (AM1 2) (.seq (AM1 5) .ret))
theorem b128:Tryz.f128.body=some AM2:=by kernel_rfl
@[simp] theorem BRY:SX 6 (AM1 2) [oq 2 (.box (tq 0)),oq 3 (.box (tq 1)),oq 4 (.mv (.const .nilFunc))] [0,1] [2,3]/\SX 6 (AM1 5) [oq 5 (.oth (.makeFunc (.func 167) #[] #[tq 3,tq 2])),om 4 5] [2,3] [2,3]:=⟨rx,rx⟩
def J5:=rg Tryz.f167
@[simp] def AGN:bq:=(.seq (J5 139) (.seq (.cond (.tmp 12) .skip (.exit 0)) (.seq (.block 1 (.seq (J5 2251) (J5 3275))) (J5 971))))
def UU:=AGN
def ABW:bq:=(.seq (J5 2) (.seq (J5 5) (.seq (.seq (J5 19) (.block 0 (.loop UU))) (.seq (.seq (J5 39) (.cond (.tmp 26) .ret .skip)) (.seq (J5 47) (.seq (J5 95) (.seq (J5 191) (J5 255))))))))
theorem b167:Tryz.f167.body=some ABW:=by kernel_rfl
@[simp] theorem BRZ:UX 30 UU AGN/\SX 30 (J5 2) [oq 3 (.box (tq 0))] [0,1,2] [3,7,8]/\SX 30 (J5 5) [ok 4 0] [1,2,3] [3,7,8]/\SX 30 (J5 19) [ol 9 170 1,oe 10 9 170,ok 11 0] [1,2,3,4] [3,7,8]/\SX 30 (J5 139) [ob 12 .lss 3 11 10] [1,2,3,4,9,10,11] [3,7,8]/\SX 30 (J5 2251) [oi 13 170 9 11,ol 14 151 13,oq 6 (.alloc 151),os (.sto 151 (tq 6) (tq 14))] [1,2,3,4,9,10,11] [3,7,8]/\SX 30 (J5 3275) [om 15 4,oz 16 151 6 1,ol 17 3 16,ob 18 .add 3 15 17,om 4 18] [1,2,3,4,6,9,10,11] [3,6,7,8]/\SX 30 (J5 971) [oc 19 .add 3 11 1,om 11 19] [1,2,3,4,9,10,11] [3,7,8]/\SX 30 (J5 39) [om 20 4,ol 21 130 2,oq 22 (.oth (.nilCheck (tq 21))),oz 23 175 22 0,ol 24 43 23,od 25 140 [tq 24],ob 26 .gtr 3 20 25] [1,2,3,4] [3,7,8]/\SX 30 (J5 47) [oq 7 (.alloc 120)] [1,2,3] [3,7,8]/\SX 30 (J5 95) [oq 8 (.alloc 177)] [1,2,3,7] [3,7,8]/\SX 30 (J5 191) [oq 27 (.oth (.makeFunc (.func 168) #[] #[tq 1,tq 3,tq 7,tq 2,tq 8])),os (.sto 177 (tq 8) (tq 27))] [1,2,3,7,8] [3,7,8]/\SX 30 (J5 255) [ol 28 177 8,oq 29 (.call false none (tq 28) [ci 0])] [6,7,8,21,22] [1,3,4,6,7,8,11,910,911]/\LX 30 UU [1,2,3,4,9,10,11] [3,7,8]:=⟨fun _ _=>rfl,rx,rx,rx,rx,rx,rx,rx,rx,rx,rx,rx,rx,lx⟩
def g91:=rg Tryz.f91
def c91:bq:=(.seq (g91 2) (.seq (.seq (g91 9) (.block 0 (.rangeFunc (.tmp 7) #[8] .skip (.block 1 (.seq (g91 149) .ret))))) (.seq (g91 11) .ret)))
theorem b91:Tryz.f91.body=some c91:=by kernel_rfl
@[simp] theorem x91:SX 9 (g91 2) [oq 4 (.alloc 4)] [0,1] [7]/\SX 9 (g91 9) [om 5 0,om 6 1,od 7 128 [tq 5,tq 6]] [0,1,4] [4,7]/\SX 9 (g91 149) [os (.sto 4 (tq 4) (cb true))] [4] [4]/\SX 9 (g91 11) [os (.sto 4 (tq 4) (cb false))] [4] [4]:=⟨rx,rx,rx,rx⟩
def JD:=rg Tryz.f85
@[simp] def ARB:bq:=(.seq (JD 17877) (.seq (.cond (.tmp 45) .skip (.exit 2)) (.seq (.block 3 (.seq (JD 288213) (JD 419285))) (JD 124373))))
def O8:=ARB
def c85:bq:=(.seq (JD 2) (.seq (.seq (JD 9) (.block 0 (.rangeFunc (.tmp 15) #[16] (JD 37) (.block 1 (.seq (JD 149) (.seq (.seq (JD 597) (.cond (.tmp 41) (.exit 1) .skip)) (.seq (JD 725) (.seq (.seq (JD 2517) (.block 2 (.loop O8))) (JD 2005))))))))) (.seq (JD 11) .ret)))
theorem b85:Tryz.f85.body=some c85:=by kernel_rfl
@[simp] theorem BI2(n:Nat)(st:XS):AE bk ann kn (n+1) 58 (JD 124373) st=QW (KA bk (BQ bk ann kn n) (.str [oc 53 .add 3 44 1,om 44 53]) (CO (some ([2,3,4,6,42,43,44],[2,3,4,6,52,922])) (MD [3003000923052] st))) :=
 D6 (by kernel_rfl) (by kernel_rfl) (by kernel_rfl) (by kernel_rfl) (by kernel_rfl)
@[simp] theorem BI3(n:Nat)(st:XS):AE bk ann kn (n+1) 58 (JD 11) st=QW (KA bk (BQ bk ann kn n) (.cls [(37,(2,55)),(158,(3,56)),(4,(4,57))]) (CO (some ([2,3,4],[2,3,4,52,922])) (MD [922] st))) :=
 D6 (by kernel_rfl) (by kernel_rfl) (by kernel_rfl) (by kernel_rfl) (by kernel_rfl)
@[simp] theorem x85:UX 58 O8 ARB/\SX 58 (JD 2) [oq 1 (.box (tq 0)),oq 2 (.alloc 37),oq 3 (.alloc 158),oq 4 (.alloc 4)] [0] [1,10,14,15,32,36]/\RX 58 (JD 9) (.drw [⟨[],[ol 9 130 1,ol 10 130 1,oq 11 (.oth (.nilCheck (tq 10))),oz 12 175 11 0,ol 13 43 12,od 14 92 [tq 13,.const (.slice none 0 0)]],[od 15 128 [tq 9,tq 14]]⟩,⟨[],[],[]⟩]) (some ([1,2,3,4],[1,2,3,4,52,922]))/\SX 58 (JD 37) [om 5 16] [1,2,3,4,16] [1,2,3,4,14,15,52,922]/\SX 58 (JD 149) [ol 17 130 1,om 18 5,oq 19 (.call true none (.func 86) [tq 17,tq 18]),oq 6 (.alloc 158),os (.sto 158 (tq 6) (tq 19))] [1,2,3,4,5] [1,2,3,4,14,15,52,922]/\SX 58 (JD 597) [ol 20 4 4,om 21 20,gz 21 true 22 158 6 0,gl 21 true 23 3 22,gz 21 true 24 158 3 0,gl 21 true 25 3 24,gb 21 true 26 .lss 3 23 25,gm 21 true 27 26,gz 27 false 28 158 6 0,gl 27 false 29 3 28,gz 27 false 30 158 3 0,gl 27 false 31 3 30,gb 27 false 32 .eql 3 29 31,gm 27 false 33 32,gz 33 true 34 158 6 1,gl 33 true 35 3 34,gz 33 true 36 158 3 1,gl 33 true 37 3 36,gb 33 true 38 .geq 3 35 37,og 27 false 39 (.pick (tq 33) (tq 38) (cb false)),og 21 true 40 (.pick (tq 27) (cb true) (tq 39)),oq 41 (.pick (tq 21) (tq 40) (cb false))] [2,3,4,5,6] [2,3,4,6,52,922]/\SX 58 (JD 725) [os (.sto 37 (tq 2) (.const (.slice none 0 0)))] [2,3,4,5,6] [2,3,4,6,52,922]/\SX 58 (JD 2517) [om 42 5,oe 43 42 120,ok 44 0] [2,3,4,5,6] [2,3,4,6,52,922]/\SX 58 (JD 17877) [ob 45 .lss 3 44 43] [2,3,4,6,42,43,44] [2,3,4,6,52,922]/\SX 58 (JD 288213) [oi 46 120 42 44,ol 47 153 46,oq 8 (.alloc 153),os (.sto 153 (tq 8) (tq 47))] [2,3,4,6,42,43,44] [2,3,4,6,52,922]/\SX 58 (JD 419285) [ol 48 37 2,oz 49 153 8 1,ol 50 86 49,oq 51 (.buildS 37 1 [(0,tq 50)]),oq 52 (.app [tq 48,tq 51] [37,37]),os (.sto 37 (tq 2) (tq 52))] [2,3,4,6,8,42,43,44] [2,3,4,6,8,52,922]/\SX 58 (JD 2005) [ol 54 158 6,os (.sto 158 (tq 3) (tq 54)),os (.sto 4 (tq 4) (cb true))] [3,4,6] [3,4,6]/\LX 58 O8 [2,3,4,6,42,43,44] [2,3,4,6,52,922]:=⟨fun _ _=>rfl,rx,rx,rx,rx,rx,rx,rx,rx,rx,rx,rx,lx⟩
def sZ:=rg Tryz.f33
def c33:bq:=(.seq (sZ 2) (.seq (sZ 5) (.seq (.seq (sZ 19) (.cond (.tmp 15) (.seq (sZ 75) .ret) .skip)) (.seq (sZ 23) (.seq (.seq (sZ 79) (.cond (.tmp 24) (.seq (sZ 303) .ret) .skip)) (.seq (sZ 95) .ret))))))
theorem b33:Tryz.f33.body=some c33:=by kernel_rfl
@[simp] theorem x33:SX 30 (sZ 2) [oq 1 (.box (tq 0)),oq 2 (.mv (.const (.slice none 0 0))),ok 3 0,ok 4 0,ok 5 0] [0] [1,11,19,910,911]/\SX 30 (sZ 5) [ol 10 43 1,od 11 71 [tq 10],om 9 11,oq 12 (.oth (.extract (tq 9) 0)),oq 13 (.oth (.extract (tq 9) 1)),om 6 12,om 5 13] [1] [1,11,19,910,911]/\SX 30 (sZ 19) [om 14 5,oc 15 .neq 34 14 0] [1,4,5,6] [1,4,6,7,11,19,910,911]/\SX 30 (sZ 75) [om 16 5,oq 2 (.mv (.const (.slice none 0 0))),ok 3 0,ok 4 0,om 5 16] [5] []/\SX 30 (sZ 23) [om 18 6,od 19 85 [tq 18],om 17 19,oq 20 (.oth (.extract (tq 17) 0)),oq 21 (.oth (.extract (tq 17) 1)),oq 22 (.oth (.extract (tq 17) 2)),oq 7 (.alloc 158),om 2 20,os (.sto 158 (tq 7) (tq 21)),om 8 22] [6] [1,11,19,910,911]/\SX 30 (sZ 79) [om 23 8,ou 24 23] [2,7,8] [1,7,11,19,910,911]/\SX 30 (sZ 303) [oq 2 (.mv (.const (.slice none 0 0))),ok 3 0,ok 4 0,ok 5 10] [] []/\RX 30 (sZ 95) (.drw [⟨[],[om 25 2,oz 26 158 7 0,ol 27 3 26,oz 28 158 7 1,ol 29 3 28,om 2 25,om 3 27,om 4 29,ok 5 0],[]⟩]) (some ([2,7],[1,7,11,19,910,911])):=by and_intros<;>exact rx
def mR:=rg Tryz.f16
@[simp] def AGP:bq:=(lp (mR 4287) 48 0 1 (.seq (.seq (mR 33983) (.cond (.tmp 93) (.seq (mR 148671) .ret) .skip)) (.seq (mR 42175) (.seq (mR 91327) (.cond (.tmp 110) (.seq (mR 320703) .ret) .skip)))) (mR 7359))
def kE:=AGP
def c16:bq:=(.seq (mR 2) (.seq (.seq (mR 9) (.cond (.tmp 16) (.seq (mR 37) .ret) .skip)) (.seq (mR 11) (.seq (mR 23) (.seq (.seq (mR 79) (.cond (.tmp 33) (.seq (mR 303) .ret) .skip)) (.seq (.seq (mR 159) (.cond (.tmp 44) (.seq (mR 607) .ret) .skip)) (.seq (.seq (mR 319) (.block 0 (.loop kE))) (.seq (mR 383) .ret))))))))
@[simp] theorem x16:UX 112 kE AGP/\LX 112 kE [1,3,9] [1,20,21,26,27,102,103,104]:=⟨fun _ _=>rfl,lx⟩
def g93:=rg Tryz.f93
def c93:bq:=(.seq (g93 2) (.seq (.seq (g93 9) (.cond (.tmp 4) (.seq (g93 37) .ret) .skip)) (.seq (g93 11) .ret)))
theorem b93:Tryz.f93.body=some c93:=by kernel_rfl
@[simp] theorem x93:SX 8 (g93 2) [oq 2 (.mv (.const (.slice none 0 0)))] [0] []/\SX 8 (g93 9) [om 3 0,oq 4 (.bin .eql 22 (tq 3) (.const (.slice none 0 0)))] [0] []/\SX 8 (g93 37) [oq 2 (.mv (.const (.slice none 0 0)))] [] []/\SX 8 (g93 11) [oq 5 (.buildS 22 0 []),om 6 0,oq 7 (.app [tq 5,tq 6] [22,22]),om 2 7] [0] []:=⟨rx,rx,rx,rx⟩
def gW:=rg Tryz.f90
@[simp] def ARD:bq:=(lp (gW 267) 30 0 1 (.seq (gW 1099) (.cond (.tmp 43) (.seq (gW 4683) .ret) .skip)) (gW 459))
def bA:=ARD
def c90:bq:=(.seq (gW 2) (.seq (.seq (gW 9) (.cond (.tmp 13) (.seq (gW 37) (.seq (gW 85) .ret)) .skip)) (.seq (.seq (gW 19) (.block 0 (.loop bA))) (.seq (gW 23) .ret))))
theorem b90:Tryz.f90.body=some c90:=by kernel_rfl
@[simp] theorem x90:UX 44 bA ARD/\SX 44 (gW 2) [ot 10 false] [0,1,2,3,4,5,6] [21,35,38]/\SX 44 (gW 9) [om 12 2,oc 13 .eql 3 12 0] [0,1,2,3,4,5,6] [21,35,38]/\SX 44 (gW 37) [om 14 0,os (.sto 22 (tq 3) (tq 14))] [0,3,4] [21,35,38]/\RX 44 (gW 85) (.drw [⟨[],[ol 15 130 4,ol 16 130 4,oq 17 (.oth (.nilCheck (tq 16))),oz 18 175 17 0,ol 19 43 18,om 20 0,od 21 92 [tq 19,tq 20]],[od 22 91 [tq 15,tq 21]]⟩,⟨[],[om 10 22],[]⟩]) (some ([0,4],[35,38]))/\SX 44 (gW 19) [om 23 1,om 11 23] [0,1,2,5,6] [21,35,38]/\SX 44 (gW 267) [om 24 11,oz 25 43 5 3,ol 26 41 25,oe 27 26 41,om 28 2,ob 29 .sub 3 27 28,ob 30 .leq 3 24 29] [0,2,5,6,11] [21,35,38]/\RX 44 (gW 1099) (.drw [⟨[35],[ol 33 168 6,om 34 0,om 36 11,oq 37 (.buildS 22 1 [(0,tq 36)]),om 39 11,oc 40 .add 3 39 1,om 41 2,oc 42 .sub 3 41 1,oq 35 (.call true none (.func 93) [tq 34]),oq 38 (.app [tq 35,tq 37] [22,22])],[oq 43 (.call false (some 38) (tq 33) [tq 38,tq 40,tq 42])]⟩,⟨[],[],[]⟩]) (some ([0,2,5,6,11],[21,38]))/\SX 44 (gW 4683) [ot 10 true] [] []/\SX 44 (gW 459) [om 31 11,oc 32 .add 3 31 1,om 11 32] [0,2,5,6,11] [21,35,38]/\SX 44 (gW 23) [ot 10 false] [] []/\LX 44 bA [0,2,5,6,11] [21,35,38]:=⟨fun _ _=>rfl,rx,rx,rx,rx,rx,rx,rx,rx,rx,rx,lx⟩
def X4:=rg Tryz.f41
@[simp] def ARE:bq:=(.seq (X4 8957) (.seq (.cond (.tmp 23) .skip (.exit 0)) (.seq (.block 1 (.seq (X4 144125) (.seq (X4 340733) (.cond (.tmp 27) (.exit 0) .skip)))) (X4 62205))))
def bB:=ARE
def c41:bq:=(.seq (X4 2) (.scope (.seq (X4 9) (.seq (.seq (X4 37) (.cond (.tmp 15) (.seq (X4 149) .ret) .skip)) (.seq (X4 45) (.seq (X4 93) (.seq (X4 189) (.seq (.label 0) (.seq (.seq (X4 1277) (.block 0 (.loop bB))) (.seq (X4 1533) .ret))))))))))
theorem b41:Tryz.f41.body=some c41:=by kernel_rfl
@[simp] theorem x41:UX 30 bB ARE/\SX 30 (X4 2) [oq 1 (.box (tq 0)),oq 2 (.mv (.const (.slice none 0 0))),ok 3 0] [0] [1,4,6,7,11,910,911]/\SX 30 (X4 9) [ol 10 43 1,od 11 71 [tq 10],om 9 11,oq 12 (.oth (.extract (tq 9) 0)),oq 13 (.oth (.extract (tq 9) 1)),oq 4 (.alloc 130),os (.sto 130 (tq 4) (tq 12)),om 5 13] [1] [1,4,6,7,11,910,911]/\SX 30 (X4 37) [om 14 5,oc 15 .neq 34 14 0] [1,4,5,6] [1,4,6,7,11,19,910,911]/\SX 30 (X4 149) [om 16 5,oq 2 (.mv (.const (.slice none 0 0))),om 3 16] [5] []/\SX 30 (X4 45) [oq 6 (.alloc 22)] [1,4] [1,4,6,7,11,910,911]/\SX 30 (X4 93) [oq 7 (.alloc 168)] [1,4,6] [1,4,6,7,11,910,911]/\SX 30 (X4 189) [oq 17 (.oth (.makeFunc (.func 90) #[] #[tq 6,tq 4,tq 1,tq 7])),os (.sto 168 (tq 7) (tq 17))] [1,4,6,7] [1,4,6,7,11,910,911]/\SX 30 (X4 1277) [oz 18 43 1 3,ol 19 41 18,oe 20 19 41,oc 21 .add 3 20 1,ok 22 0] [1,6,7] [1,4,6,7,11,910,911]/\SX 30 (X4 8957) [ob 23 .lss 3 22 21] [6,7,21,22] [1,4,6,7,11,910,911]/\SX 30 (X4 144125) [om 24 22,om 8 24] [6,7,21,22] [1,4,6,7,11,910,911]/\SX 30 (X4 340733) [ol 25 168 7,om 26 8,oq 27 (.call false none (tq 25) [.const (.slice none 0 0),ci 0,tq 26])] [6,7,8,21,22] [1,4,6,7,11,910,911]/\SX 30 (X4 62205) [oc 28 .add 3 22 1,om 22 28] [6,7,8,21,22] [1,3,4,6,7,8,11,910,911]/\SX 30 (X4 1533) [ol 29 22 6,om 2 29,ok 3 0] [6] [1,4,6,7,11,910,911]/\LX 30 bB [6,7,21,22] [1,4,6,7,11,910,911]:=⟨fun _ _=>rfl,rx,rx,rx,rx,rx,rx,rx,rx,rx,rx,rx,rx,rx,lx⟩
def RO:=rg Tryz.f12
def c12:bq:=(.seq (RO 2) (.seq (RO 5) (.seq (RO 11) (.seq (.seq (RO 39) (.cond (.tmp 35) (.seq (RO 151) .ret) .skip)) (.seq (RO 47) (.seq (RO 95) (.seq (.seq (RO 319) (.cond (.tmp 69) (.seq (RO 1215) .ret) .skip)) (.seq (RO 383) (.seq (RO 767) (.seq (.seq (RO 2559) (.cond (.tmp 87) (.seq (RO 9727) .ret) .skip)) (.seq (RO 3071) (.seq (.seq (RO 10239) (.cond (.tmp 120) (.seq (RO 38911) .ret) .skip)) (.seq (RO 12287) .ret)))))))))))))
theorem b12:Tryz.f12.body=some c12:=by kernel_rfl
@[simp] theorem BM1(n:Nat)(st:XS):AE bk ann kn (n+1) 140 (RO 39) st=QW (KA bk (BQ bk ann kn n) (.str [ol 28 31 2,od 29 54 [tq 28],ou 30 29,om 31 30,gl 31 false 32 31 5,gd 31 false 33 54 [tq 32],og 31 false 34 (.oth (.unOp .not 4 (tq 33))),oq 35 (.pick (tq 31) (cb true) (tq 34))]) (CO (some ([2,5],[2,5,23,26,39,40,45,46,72,73,80,81,103,117,122,129])) (MD [23] st))) :=
 D6 (by kernel_rfl) (by kernel_rfl) (by kernel_rfl) (by kernel_rfl) (by kernel_rfl)
@[simp] theorem x12:SX 140 (RO 2) [oq 2 (.box (tq 0)),oq 3 (.box (tq 1)),ot 4 false] [0,1] [2,5,23,26,39,40,45,46,72,73,80,81,103,117,122,129]/\SX 140 (RO 5) [ol 19 31 2,oq 5 (.alloc 31),os (.sto 31 (tq 5) (tq 19))] [2,3] [2,3,5,23,26,39,40,45,46,72,73,80,81,103,117,122,129]/\RX 140 (RO 11) (.drw [⟨[],[oq 20 (.buildS 29 0 []),oz 21 31 2 3,ol 22 29 21,ol 24 57 3,oq 25 (.buildS 29 1 [(0,tq 24)]),oq 23 (.app [tq 20,tq 22] [29,29]),oq 26 (.app [tq 23,tq 25] [29,29]),oz 27 31 5 3],[os (.sto 29 (tq 27) (tq 26))]⟩]) (some ([2,3,5],[2,3,5,23,26,39,40,45,46,72,73,80,81,103,117,122,129]))/\SX 140 (RO 151) [od 36 19 [],om 4 36] [] []/\SX 140 (RO 47) [ol 38 31 2,od 39 21 [tq 38],od 40 41 [tq 39],om 37 40,oq 41 (.oth (.extract (tq 37) 0)),oq 42 (.oth (.extract (tq 37) 1)),om 6 41,om 7 42] [2,5] [2,5,23,26,39,40,45,46,72,73,80,81,103,117,122,129]/\SX 140 (RO 95) [ol 44 31 5,od 45 21 [tq 44],od 46 41 [tq 45],om 43 46,oq 47 (.oth (.extract (tq 43) 0)),oq 48 (.oth (.extract (tq 43) 1)),om 8 47,om 9 48] [2,5,6,7] [2,5,23,26,39,40,45,46,72,73,80,81,103,117,122,129]/\SX 140 (RO 319) [om 49 7,oc 50 .neq 34 49 0,om 51 50,gm 51 false 52 9,gc 51 false 53 .neq 34 52 0,oq 54 (.pick (tq 51) (cb true) (tq 53)),om 55 54,gm 55 false 56 8,ge 55 false 57 56 22,gm 55 false 58 6,ge 55 false 59 58 22,gb 55 false 60 .lss 3 57 59,oq 61 (.pick (tq 55) (cb true) (tq 60)),om 62 61,gm 62 false 63 8,ge 62 false 64 63 22,gm 62 false 65 6,ge 62 false 66 65 22,gc 62 false 67 .add 3 66 1,gb 62 false 68 .gtr 3 64 67,oq 69 (.pick (tq 62) (cb true) (tq 68))] [2,5,6,7,8,9] [2,5,23,26,39,40,45,46,72,73,80,81,103,117,122,129]/\SX 140 (RO 383) [ol 71 31 2,od 72 21 [tq 71],od 73 33 [tq 72],om 70 73,oq 74 (.oth (.extract (tq 70) 0)),oq 75 (.oth (.extract (tq 70) 1)),oq 76 (.oth (.extract (tq 70) 2)),oq 77 (.oth (.extract (tq 70) 3)),om 10 74,om 11 75,om 12 76,om 13 77] [2,5] [2,5,23,26,39,40,45,46,72,73,80,81,103,117,122,129]/\SX 140 (RO 767) [ol 79 31 5,od 80 21 [tq 79],od 81 33 [tq 80],om 78 81,oq 82 (.oth (.extract (tq 78) 0)),oq 83 (.oth (.extract (tq 78) 1)),oq 84 (.oth (.extract (tq 78) 2)),oq 85 (.oth (.extract (tq 78) 3)),om 14 82,om 15 83,om 16 84,om 17 85] [2,5,11,13] [2,5,23,26,39,40,45,46,72,73,80,81,103,117,122,129]/\SX 140 (RO 2559) [om 86 17,oc 87 .neq 34 86 0] [2,5,11,13,14,17] [2,5,23,26,39,40,45,46,72,73,80,81,103,117,122,129]/\SX 140 (RO 9727) [om 88 17,oc 89 .eql 34 88 10,om 90 89,gm 90 true 91 13,gc 90 true 92 .eql 34 91 0,gm 90 true 93 92,gm 93 false 94 13,gm 93 false 95 17,gb 93 false 96 .eql 34 94 95,og 90 true 97 (.pick (tq 93) (cb true) (tq 96)),oq 98 (.pick (tq 90) (tq 97) (cb false)),om 99 98,gd 99 true 100 19 [],oq 101 (.pick (tq 99) (tq 100) (cb false)),om 4 101] [13,17] []/\SX 140 (RO 3071) [ol 102 31 5,od 103 26 [tq 102,ci 0],om 18 103] [2,5,11,13,14] [2,5,23,26,39,40,45,46,72,73,80,81,103,117,122,129]/\RX 140 (RO 10239) (.drw [⟨[],[om 104 13,oc 105 .neq 34 104 0,om 106 105,gm 106 false 107 14,ge 106 false 108 107 37,gm 106 false 109 18,ge 106 false 110 109 49,gb 106 false 111 .neq 3 108 110,oq 112 (.pick (tq 106) (cb true) (tq 111)),om 113 112,gl 113 false 114 31 5,gm 113 false 115 18,gm 113 false 116 14,gd 113 false 117 40 [tq 116]],[gd 113 false 118 25 [tq 114,tq 115,tq 117]]⟩,⟨[],[og 113 false 119 (.oth (.unOp .not 4 (tq 118))),oq 120 (.pick (tq 113) (cb true) (tq 119))],[]⟩]) (some ([2,5,11,13,14,18],[2,5,23,26,39,40,45,46,72,73,80,81,103,122,129]))/\RX 140 (RO 12287) (.drw [⟨[],[ol 121 31 2,od 122 35 [tq 121],om 123 18,om 124 18,oe 125 124 49,oc 126 .sub 3 125 1,oq 127 (.oth (.slice 49 (tq 123) none (some (tq 126)) none)),om 128 14,od 129 40 [tq 128],om 130 18,oe 131 130 49,oc 132 .sub 3 131 1,oq 133 (.oth (.slice 24 (tq 129) none (some (tq 132)) none)),od 134 37 [tq 122,tq 127,tq 133],om 135 11,ob 136 .leq 3 134 135,om 137 136],[gd 137 true 138 19 []]⟩,⟨[],[oq 139 (.pick (tq 137) (tq 138) (cb false)),om 4 139],[]⟩]) (some ([2,11,14,18],[2,5,23,26,39,40,45,46,72,73,80,81,103,117])):=by and_intros<;>exact rx
end
end Go.Proofs.Tryz.Op
