/- The walk's ground of function 57: its regions worked out. No condition. -/
import Derived.Test.YthhdhbalenanjaaGreatGa
open Go renaming Code->bq
open Go.Proofs.Tryz renaming prog->bk
open Int renaming negSucc->bj
set_option maxRecDepth 100000
namespace Go.Proofs.Tryz.Op
open Go Go.Pg
noncomputable section
def g57:=rg Tryz.f57
def c57:bq:=(.seq (g57 2) (.seq (g57 5) .ret))
theorem b57:Tryz.f57.body=some c57:=by kernel_rfl
@[simp] theorem x57:SX 15 (g57 2) [ot 6 false] [0,1,2] []/\SX 15 (g57 5) [om 7 0,om 8 1,ob 9 .geq 3 7 8,om 10 9,gm 10 true 11 0,gm 10 true 12 2,gb 10 true 13 .leq 3 11 12,oq 14 (.pick (tq 10) (tq 13) (cb false)),om 6 14] [0,1,2] []:=⟨rx,rx⟩
def TA:=rg Tryz.f134
@[simp] def AEF:bq:=(lp (TA 133) 9 0 1 (.seq (TA 549) (.cond (.tmp 18) (.seq (TA 2341) .ret) .skip)) (TA 229))
def TB:=AEF
def A5O:bq:=(.seq (TA 2) (.seq (.seq (TA 9) (.block 0 (.loop TB))) (.seq (TA 11) .ret)))
theorem BGV:Tryz.f134.body=some A5O:=by kernel_rfl
@[simp] theorem BOR:UX 19 TB AEF/\SX 19 (TA 2) [ot 4 false] [0,1] []/\SX 19 (TA 9) [ok 5 0] [0,1] []/\SX 19 (TA 133) [om 6 5,om 7 0,oe 8 7 22,ob 9 .lss 3 6 8] [0,1,5] []/\SX 19 (TA 549) [om 12 0,om 13 5,oi 14 22 12 13,ol 15 3 14,om 16 1,od 17 57 [tq 15,tq 16,ci 3],ou 18 17] [0,1,5] []/\SX 19 (TA 2341) [ot 4 false] [] []/\SX 19 (TA 229) [om 10 5,oc 11 .add 3 10 1,om 5 11] [0,1,5] []/\SX 19 (TA 11) [ot 4 true] [] []/\LX 19 TB [0,1,5] []:=⟨fun _ _=>rfl,rx,rx,rx,rx,rx,rx,rx,lx⟩
def AKV:=rg Tryz.f135
def A5P:bq:=(.seq (AKV 2) (.seq (AKV 5) .ret))
theorem BGW:Tryz.f135.body=some A5P:=by kernel_rfl
@[simp] theorem BOS:SX 19 (AKV 2) [oq 2 (.box (tq 0)),oq 3 (.box (tq 1)),ot 4 false] [0,1] [2]/\SX 19 (AKV 5) [oz 5 59 3 0,ol 6 3 5,oz 7 27 2 1,ol 8 3 7,oc 9 .sub 3 8 1,od 10 57 [tq 6,ci 0,tq 9],om 11 10,gz 11 true 12 59 3 1,gl 11 true 13 3 12,gz 11 true 14 27 2 2,gl 11 true 15 3 14,gc 11 true 16 .sub 3 15 1,gd 11 true 17 57 [tq 13,ci 0,tq 16],oq 18 (.pick (tq 11) (tq 17) (cb false)),om 4 18] [2,3] [2,3]:=⟨rx,rx⟩
def xB:=rg Tryz.f75
@[simp] def APU:bq:=(lp (xB 133) 9 0 1 (.seq (xB 549) (.cond (.tmp 17) (.seq (xB 2341) .ret) .skip)) (xB 229))
def ZK:=APU
def c75:bq:=(.seq (xB 2) (.seq (.seq (xB 9) (.block 0 (.loop ZK))) (.seq (xB 11) .ret)))
theorem b75:Tryz.f75.body=some c75:=by kernel_rfl
@[simp] theorem x75:UX 18 ZK APU/\SX 18 (xB 2) [ot 4 false] [0,1] []/\SX 18 (xB 9) [ok 5 0] [0,1] []/\SX 18 (xB 133) [om 6 5,om 7 0,oe 8 7 22,ob 9 .lss 3 6 8] [0,1,5] []/\SX 18 (xB 549) [om 12 0,om 13 5,oi 14 22 12 13,ol 15 3 14,om 16 1,ob 17 .eql 3 15 16] [0,1,5] []/\SX 18 (xB 2341) [ot 4 true] [] []/\SX 18 (xB 229) [om 10 5,oc 11 .add 3 10 1,om 5 11] [0,1,5] []/\SX 18 (xB 11) [ot 4 false] [] []/\LX 18 ZK [0,1,5] []:=⟨fun _ _=>rfl,rx,rx,rx,rx,rx,rx,rx,lx⟩
def AKW:=rg Tryz.f114
def A5Q:bq:=(.seq (AKW 2) (.seq (AKW 5) .ret))
theorem BGY:Tryz.f114.body=some A5Q:=by kernel_rfl
@[simp] theorem BOU:SX 6 (AKW 2) [oq 2 (.mv (.const (.slice none 0 0)))] [0,1] []/\SX 6 (AKW 5) [oq 3 (.buildS 22 0 []),om 4 0,oq 5 (.app [tq 3,tq 4] [22,22]),om 2 5] [0,1] []:=⟨rx,rx⟩
def TC:=rg Tryz.f115
@[simp] def AEG:bq:=(lp (TC 267) 9 0 1 (TC 587) (TC 459))
def TD:=AEG
def A5R:bq:=(.seq (TC 2) (.seq (TC 5) (.seq (.seq (TC 19) (.block 0 (.loop TD))) (.seq (TC 23) .ret))))
theorem BGZ:Tryz.f115.body=some A5R:=by kernel_rfl
@[simp] theorem BOV:UX 21 TD AEG/\SX 21 (TC 2) [oq 2 (.mv (.const (.slice none 0 0)))] [0] [17]/\SX 21 (TC 5) [oq 5 (.buildS 23 0 []),om 3 5] [0] [17]/\SX 21 (TC 19) [ok 4 0] [0,1,3] [1,17,19]/\SX 21 (TC 267) [om 6 4,om 7 0,oe 8 7 23,ob 9 .lss 3 6 8] [0,3,4] [17,19]/\SX 21 (TC 587) [om 12 3,om 13 0,om 14 4,oi 15 23 13 14,ol 16 22 15,od 17 114 [tq 16],oq 18 (.buildS 23 1 [(0,tq 17)]),oq 19 (.app [tq 12,tq 18] [23,23]),om 3 19] [0,1,3,4] [1,17,19]/\SX 21 (TC 459) [om 10 4,oc 11 .add 3 10 1,om 4 11] [0,1,3,4] [1,17,19]/\SX 21 (TC 23) [om 20 3,om 2 20] [0,1,3,7,8] [19]/\LX 21 TD [0,3,4] [17,19]:=⟨fun _ _=>rfl,rx,rx,rx,rx,rx,rx,rx,lx⟩
def g48:=rg Tryz.f48
def c48:bq:=(.seq (g48 2) (.seq (g48 5) .ret))
theorem b48:Tryz.f48.body=some c48:=by kernel_rfl
@[simp] theorem x48:SX 8 (g48 2) [oq 1 (.box (tq 0)),oq 2 (.alloc 86)] [0] []/\SX 8 (g48 5) [oz 3 59 1 0,ol 4 3 3,oz 5 59 1 1,ol 6 3 5,oq 7 (.build 86 [(0,tq 4),(1,tq 6)]),os (.sto 86 (tq 2) (tq 7))] [1,2] [1,2]:=⟨rx,rx⟩
def TE:=rg Tryz.f107
@[simp] def AEH:bq:=(lp (TE 133) 11 0 1 (.seq (TE 549) (.cond (.tmp 19) (.seq (TE 2341) .ret) .skip)) (TE 229))
def TF:=AEH
def A5S:bq:=(.seq (TE 2) (.seq (.seq (TE 9) (.block 0 (.loop TF))) (.seq (TE 11) .ret)))
theorem BG0:Tryz.f107.body=some A5S:=by kernel_rfl
@[simp] theorem BOX:UX 23 TF AEH/\SX 23 (TE 2) [ot 2 false] [0] []/\SX 23 (TE 9) [ok 3 0] [0,1] [1,14]/\SX 23 (TE 133) [om 4 3,om 5 0,oe 6 5 23,ob 7 .lss 3 4 6,om 8 7,gm 8 true 9 3,gc 8 true 10 .lss 3 9 8,oq 11 (.pick (tq 8) (tq 10) (cb false))] [0,3] []/\SX 23 (TE 549) [om 14 0,om 15 3,oi 16 23 14 15,ol 17 22 16,oe 18 17 22,oc 19 .gtr 3 18 5] [0,3] []/\SX 23 (TE 2341) [ot 2 false] [] []/\SX 23 (TE 229) [om 12 3,oc 13 .add 3 12 1,om 3 13] [0,3] []/\SX 23 (TE 11) [om 20 0,oe 21 20 23,oc 22 .leq 3 21 7,om 2 22] [0] []/\LX 23 TF [0,3] []:=⟨fun _ _=>rfl,rx,rx,rx,rx,rx,rx,rx,lx⟩
def TG:=rg Tryz.f100
@[simp] def AEI:bq:=(lp (TG 267) 9 0 1 (TG 587) (TG 459))
def TH:=AEI
def A5T:bq:=(.seq (TG 2) (.seq (TG 5) (.seq (.seq (TG 19) (.block 0 (.loop TH))) (.seq (TG 23) .ret))))
theorem BG1:Tryz.f100.body=some A5T:=by kernel_rfl
@[simp] theorem BOY:UX 21 TH AEI/\SX 21 (TG 2) [oq 1 (.box (tq 0)),ok 2 0] [0] [1]/\SX 21 (TG 5) [ok 3 1] [1] [1]/\SX 21 (TG 19) [ok 4 0] [0,1,3] [1,17,19]/\SX 21 (TG 267) [om 5 4,oz 6 27 1 6,ol 7 23 6,oe 8 7 23,ob 9 .lss 3 5 8] [1,3,4] [1]/\SX 21 (TG 587) [om 12 3,oz 13 27 1 6,ol 14 23 13,om 15 4,oi 16 23 14 15,ol 17 22 16,oe 18 17 22,ob 19 .mul 3 12 18,om 3 19] [0,1,3,4] [1,17,19]/\SX 21 (TG 459) [om 10 4,oc 11 .add 3 10 1,om 4 11] [0,1,3,4] [1,17,19]/\SX 21 (TG 23) [om 20 3,om 2 20] [0,1,3,7,8] [19]/\LX 21 TH [1,3,4] [1]:=⟨fun _ _=>rfl,rx,rx,rx,rx,rx,rx,rx,lx⟩
def DZ:=rg Tryz.f108
@[simp] def xC:bq:=(lp (DZ 68759) 118 2 3 (.seq (DZ 281751) (.cond (.tmp 138) (.seq (DZ 1199255) .ret) .skip)) (DZ 117911))
def OX:=xC
@[simp] def AEJ:bq:=(lp (DZ 535) 92 0 1 (.seq (.seq (DZ 4247) (.cond (.tmp 110) (.seq (DZ 18583) .ret) .skip)) (.seq (DZ 5271) (.block 2 (.loop OX)))) (DZ 919))
def TI:=AEJ
@[simp] def xD:bq:=(lp (DZ 1071) 143 4 5 (.seq (DZ 4399) (.cond (.tmp 153) (.seq (DZ 18735) .ret) .skip)) (DZ 1839))
def OY:=xD
@[simp] def xE:bq:=(lp (DZ 2143) 158 6 7 (.seq (DZ 8799) (.cond (.tmp 180) (.seq (DZ 37471) .ret) .skip)) (DZ 3679))
def OZ:=xE
def OJ:bq:=(.seq (DZ 2) (.seq (.seq (DZ 9) (.cond (.tmp 31) (.seq (DZ 37) .ret) .skip)) (.seq (.seq (DZ 19) (.cond (.tmp 88) (.seq (DZ 75) .ret) .skip)) (.seq (.seq (DZ 39) (.block 0 (.loop TI))) (.seq (.seq (DZ 79) (.block 4 (.loop OY))) (.seq (.seq (DZ 159) (.block 6 (.loop OZ))) (.seq (DZ 191) .ret)))))))
theorem BG2:Tryz.f108.body=some OJ:=by kernel_rfl
@[simp] theorem BOZ:UX 181 OX xC/\UX 181 TI AEJ/\UX 181 OY xD/\UX 181 OZ xE/\SX 181 (DZ 2) [oq 1 (.box (tq 0)),ok 2 0] [0] [1]/\SX 181 (DZ 9) [oz 7 27 1 0,ol 8 3 7,oc 9 .gtr 3 8 4,om 10 9,gz 10 false 11 27 1 1,gl 10 false 12 3 11,gc 10 false 13 .gtr 3 12 3,oq 14 (.pick (tq 10) (cb true) (tq 13)),om 15 14,gz 15 false 16 27 1 2,gl 15 false 17 3 16,gc 15 false 18 .gtr 3 17 5,oq 19 (.pick (tq 15) (cb true) (tq 18)),om 20 19,gz 20 false 21 27 1 7,gl 20 false 22 24 21,ge 20 false 23 22 24,gc 20 false 24 .gtr 3 23 4,oq 25 (.pick (tq 20) (cb true) (tq 24)),om 26 25,gz 26 false 27 27 1 8,gl 26 false 28 25 27,ge 26 false 29 28 25,gc 26 false 30 .gtr 3 29 5,oq 31 (.pick (tq 26) (cb true) (tq 30))] [1] [1]/\SX 181 (DZ 37) [ok 2 3] [] []/\SX 181 (DZ 19) [oz 32 27 1 0,ol 33 3 32,oc 34 .lss 3 33 0,om 35 34,gz 35 false 36 27 1 1,gl 35 false 37 3 36,gc 35 false 38 .lss 3 37 1,oq 39 (.pick (tq 35) (cb true) (tq 38)),om 40 39,gz 40 false 41 27 1 2,gl 40 false 42 3 41,gc 40 false 43 .lss 3 42 1,oq 44 (.pick (tq 40) (cb true) (tq 43)),om 45 44,gz 45 false 46 27 1 3,gl 45 false 47 3 46,gd 45 false 48 57 [tq 47,ci 0,ci 4],og 45 false 49 (.oth (.unOp .not 4 (tq 48))),oq 50 (.pick (tq 45) (cb true) (tq 49)),om 51 50,gz 51 false 52 27 1 4,gl 51 false 53 22 52,ge 51 false 54 53 22,gz 51 false 55 27 1 1,gl 51 false 56 3 55,gb 51 false 57 .neq 3 54 56,oq 58 (.pick (tq 51) (cb true) (tq 57)),om 59 58,gz 59 false 60 27 1 5,gl 59 false 61 22 60,ge 59 false 62 61 22,gz 59 false 63 27 1 0,gl 59 false 64 3 63,gc 59 false 65 .add 3 64 1,gb 59 false 66 .neq 3 62 65,oq 67 (.pick (tq 59) (cb true) (tq 66)),om 68 67,gz 68 false 69 27 1 6,gl 68 false 70 23 69,ge 68 false 71 70 23,gz 68 false 72 27 1 0,gl 68 false 73 3 72,gc 68 false 74 .add 3 73 1,gb 68 false 75 .neq 3 71 74,oq 76 (.pick (tq 68) (cb true) (tq 75)),om 77 76,gz 77 false 78 27 1 4,gl 77 false 79 22 78,gd 77 false 80 134 [tq 79,ci 0],og 77 false 81 (.oth (.unOp .not 4 (tq 80))),oq 82 (.pick (tq 77) (cb true) (tq 81)),om 83 82,gz 83 false 84 27 1 5,gl 83 false 85 22 84,gd 83 false 86 134 [tq 85,.const (.int .i64 (bj 0))],og 83 false 87 (.oth (.unOp .not 4 (tq 86))),oq 88 (.pick (tq 83) (cb true) (tq 87))] [1] [1]/\SX 181 (DZ 75) [ok 2 1] [] []/\SX 181 (DZ 39) [ok 3 0] [1] [1]/\SX 181 (DZ 535) [om 89 3,oz 90 27 1 0,ol 91 3 90,ob 92 .leq 3 89 91] [1,3] [1]/\SX 181 (DZ 4247) [oz 95 27 1 6,ol 96 23 95,om 97 3,oi 98 23 96 97,ol 99 22 98,oe 100 99 22,oc 101 .eql 3 100 0,om 102 101,gz 102 false 103 27 1 6,gl 102 false 104 23 103,gm 102 false 105 3,gi 102 false 106 23 104 105,gl 102 false 107 22 106,gd 102 false 108 134 [tq 107,ci 0],og 102 false 109 (.oth (.unOp .not 4 (tq 108))),oq 110 (.pick (tq 102) (cb true) (tq 109))] [1,3] [1]/\SX 181 (DZ 18583) [ok 2 1] [] []/\SX 181 (DZ 5271) [ok 4 1] [1,3] [1]/\SX 181 (DZ 68759) [om 111 4,oz 112 27 1 6,ol 113 23 112,om 114 3,oi 115 23 113 114,ol 116 22 115,oe 117 116 22,ob 118 .lss 3 111 117] [1,3,4] [1]/\RX 181 (DZ 281751) (.drw [⟨[],[oz 121 27 1 6,ol 122 23 121,om 123 3,oi 124 23 122 123,ol 125 22 124,om 126 4,oi 127 22 125 126,ol 128 3 127,oz 129 27 1 6,ol 130 23 129,om 131 3,oi 132 23 130 131,ol 133 22 132,om 134 4,oc 135 .sub 3 134 1,oi 136 22 133 135,ol 137 3 136,ob 138 .leq 3 128 137],[]⟩]) (some ([1,3,4],[1]))/\SX 181 (DZ 1199255) [ok 2 1] [] []/\SX 181 (DZ 117911) [om 119 4,oc 120 .add 3 119 1,om 4 120] [1,3,4] [1]/\SX 181 (DZ 919) [om 93 3,oc 94 .add 3 93 1,om 3 94] [1,3] [1]/\SX 181 (DZ 79) [ok 5 0] [1] [1]/\SX 181 (DZ 1071) [om 139 5,oz 140 27 1 7,ol 141 24 140,oe 142 141 24,ob 143 .lss 3 139 142] [1,5] [1]/\RX 181 (DZ 4399) (.drw [⟨[],[ol 146 27 1,oz 147 27 1 7,ol 148 24 147,om 149 5,oi 150 24 148 149,ol 151 59 150],[od 152 135 [tq 146,tq 151]]⟩,⟨[],[ou 153 152],[]⟩]) (some ([1,5],[1]))/\SX 181 (DZ 18735) [ok 2 1] [] []/\SX 181 (DZ 1839) [om 144 5,oc 145 .add 3 144 1,om 5 145] [1,5] [1]/\SX 181 (DZ 159) [ok 6 0] [1] [1]/\SX 181 (DZ 2143) [om 154 6,oz 155 27 1 8,ol 156 25 155,oe 157 156 25,ob 158 .lss 3 154 157] [1,6] [1]/\RX 181 (DZ 8799) (.drw [⟨[],[oz 161 27 1 8,ol 162 25 161,om 163 6,oi 164 25 162 163,oz 165 188 164 0,ol 166 3 165,oz 167 27 1 0,ol 168 3 167],[od 169 57 [tq 166,ci 0,tq 168]]⟩,⟨[],[ou 170 169,om 171 170,gz 171 false 172 27 1 8,gl 171 false 173 25 172,gm 171 false 174 6,gi 171 false 175 25 173 174,gz 171 false 176 188 175 1,gl 171 false 177 3 176],[gd 171 false 178 57 [tq 177,ci 0,ci 3]]⟩,⟨[],[og 171 false 179 (.oth (.unOp .not 4 (tq 178))),oq 180 (.pick (tq 171) (cb true) (tq 179))],[]⟩]) (some ([1,6],[1]))/\SX 181 (DZ 37471) [ok 2 1] [] []/\SX 181 (DZ 3679) [om 159 6,oc 160 .add 3 159 1,om 6 160] [1,6] [1]/\SX 181 (DZ 191) [ok 2 0] [] []/\LX 181 TI [1,3] [1]/\LX 181 OX [1,3,4] [1]/\LX 181 OY [1,5] [1]/\LX 181 OZ [1,6] [1]:=by and_intros<;>first|exact rx|exact lx|exact fun _ _=>rfl
def g64:=rg Tryz.f64
def c64:bq:=(.seq (g64 2) (.seq (.seq (g64 9) (.cond (.tmp 30) (.seq (g64 37) .ret) .skip)) (.seq (g64 11) .ret)))
theorem b64:Tryz.f64.body=some c64:=by kernel_rfl
@[simp] theorem x64:SX 39 (g64 2) [oq 1 (.box (tq 0)),ot 2 false] [0] [1]/\SX 39 (g64 9) [oz 3 27 1 4,ol 4 22 3,oe 5 4 22,oc 6 .gtr 3 5 5,om 7 6,gz 7 false 8 27 1 5,gl 7 false 9 22 8,ge 7 false 10 9 22,gc 7 false 11 .gtr 3 10 7,oq 12 (.pick (tq 7) (cb true) (tq 11)),om 13 12,gz 13 false 14 27 1 6,gl 13 false 15 23 14,gd 13 false 16 107 [tq 15],og 13 false 17 (.oth (.unOp .not 4 (tq 16))),oq 18 (.pick (tq 13) (cb true) (tq 17)),om 19 18,gz 19 false 20 27 1 7,gl 19 false 21 24 20,ge 19 false 22 21 24,gc 19 false 23 .gtr 3 22 6,oq 24 (.pick (tq 19) (cb true) (tq 23)),om 25 24,gz 25 false 26 27 1 8,gl 25 false 27 25 26,ge 25 false 28 27 25,gc 25 false 29 .gtr 3 28 7,oq 30 (.pick (tq 25) (cb true) (tq 29))] [1] [1]/\SX 39 (g64 37) [ot 2 false] [] []/\SX 39 (g64 11) [ol 31 27 1,od 32 108 [tq 31],oc 33 .neq 3 32 0,om 34 33,gl 34 false 35 27 1,gd 34 false 36 100 [tq 35],gc 34 false 37 .leq 3 36 80,oq 38 (.pick (tq 34) (cb true) (tq 37)),om 2 38] [1] [1]:=⟨rx,rx,rx,rx⟩
def QU:=rg Tryz.f190
@[simp] def AEK:bq:=(.seq (QU 69) (.seq (.cond (.tmp 9) .skip (.exit 0)) (.seq (.block 1 (.seq (QU 1125) (.seq (QU 2661) (.cond (.tmp 16) (.seq (QU 9829) .ret) .skip)))) (QU 485))))
def TJ:=AEK
def ATK:bq:=(.seq (QU 2) (.seq (.seq (QU 9) (.block 0 (.loop TJ))) (.seq (QU 11) .ret)))
theorem b190:Tryz.f190.body=some ATK:=by kernel_rfl
@[simp] theorem BO1:UX 19 TJ AEK/\SX 19 (QU 2) [ok 4 0] [0,1] []/\SX 19 (QU 9) [om 6 0,oe 7 6 22,ok 8 0] [0,1] []/\SX 19 (QU 69) [ob 9 .lss 3 8 7] [0,1,7,8] []/\SX 19 (QU 1125) [om 10 8,om 5 10] [0,1,7,8] []/\SX 19 (QU 2661) [om 11 1,om 12 0,om 13 5,oi 14 22 12 13,ol 15 3 14,oq 16 (.call false none (tq 11) [tq 15])] [0,1,5,7,8] []/\SX 19 (QU 9829) [om 17 5,om 4 17] [5] []/\SX 19 (QU 485) [oc 18 .add 3 8 1,om 8 18] [0,1,3,7,8] []/\SX 19 (QU 11) [oq 4 (.mv (.const (.int .i64 (bj 0))))] [] []/\LX 19 TJ [0,1,7,8] []:=⟨fun _ _=>rfl,rx,rx,rx,rx,rx,rx,rx,rx,lx⟩
def AKX:=rg Tryz.f175
def A5U:bq:=(.seq (AKX 2) (.seq (AKX 5) .ret))
theorem b175:Tryz.f175.body=some A5U:=by kernel_rfl
@[simp] theorem BO2:SX 9 (AKX 2) [ot 4 false] [0,1] [7]/\SX 9 (AKX 5) [om 5 0,om 6 1,od 7 190 [tq 5,tq 6],oc 8 .geq 3 7 0,om 4 8] [0,1,2,3] [2,3]:=⟨rx,rx⟩
def AKY:=rg Tryz.f144
def ATL:bq:=(.seq (AKY 2) (.seq (AKY 5) .ret))
theorem b144:Tryz.f144.body=some ATL:=by kernel_rfl
@[simp] theorem BO3:SX 9 (AKY 2) [oq 3 (.box (tq 1)),ot 4 false] [0,1,2] [3]/\SX 9 (AKY 5) [om 5 0,oq 6 (.oth (.makeFunc (.func 176) #[] #[tq 3])),od 7 175 [tq 5,tq 6],ou 8 7,om 4 8] [0,1,2,3] [2,3]:=⟨rx,rx⟩
def AKZ:=rg Tryz.f176
def ATM:bq:=(.seq (AKZ 2) (.seq (AKZ 5) .ret))
theorem b176:Tryz.f176.body=some ATM:=by kernel_rfl
@[simp] theorem BO4:SX 8 (AKZ 2) [ot 3 false] [0,1] []/\SX 8 (AKZ 5) [ol 4 177 1,om 5 0,oq 6 (.call false none (tq 4) [tq 5]),ou 7 6,om 3 7] [0,1,2] [2]:=⟨rx,rx⟩
def QV:=rg Tryz.f191
@[simp] def AEL:bq:=(.seq (QV 69) (.seq (.cond (.tmp 9) .skip (.exit 0)) (.seq (.block 1 (.seq (QV 1125) (.seq (QV 2661) (.cond (.tmp 16) (.seq (QV 9829) .ret) .skip)))) (QV 485))))
def TK:=AEL
def ATN:bq:=(.seq (QV 2) (.seq (.seq (QV 9) (.block 0 (.loop TK))) (.seq (QV 11) .ret)))
theorem b191:Tryz.f191.body=some ATN:=by kernel_rfl
@[simp] theorem BO5:UX 19 TK AEL/\SX 19 (QV 2) [ok 4 0] [0,1] []/\SX 19 (QV 9) [om 6 0,oe 7 6 23,ok 8 0] [0,1] []/\SX 19 (QV 69) [ob 9 .lss 3 8 7] [0,1,7,8] []/\SX 19 (QV 1125) [om 10 8,om 5 10] [0,1,7,8] []/\SX 19 (QV 2661) [om 11 1,om 12 0,om 13 5,oi 14 23 12 13,ol 15 22 14,oq 16 (.call false none (tq 11) [tq 15])] [0,1,5,7,8] []/\SX 19 (QV 9829) [om 17 5,om 4 17] [5] []/\SX 19 (QV 485) [oc 18 .add 3 8 1,om 8 18] [0,1,3,7,8] []/\SX 19 (QV 11) [oq 4 (.mv (.const (.int .i64 (bj 0))))] [] []/\LX 19 TK [0,1,7,8] []:=⟨fun _ _=>rfl,rx,rx,rx,rx,rx,rx,rx,rx,lx⟩
def AK0:=rg Tryz.f177
def A5V:bq:=(.seq (AK0 2) (.seq (AK0 5) .ret))
theorem b177:Tryz.f177.body=some A5V:=by kernel_rfl
@[simp] theorem BO6:SX 9 (AK0 2) [ot 4 false] [0,1] [7]/\SX 9 (AK0 5) [om 5 0,om 6 1,od 7 191 [tq 5,tq 6],oc 8 .geq 3 7 0,om 4 8] [0,1,2,3] [2,3]:=⟨rx,rx⟩
def AK1:=rg Tryz.f147
def ATO:bq:=(.seq (AK1 2) (.seq (AK1 5) .ret))
theorem b147:Tryz.f147.body=some ATO:=by kernel_rfl
@[simp] theorem BO7:SX 9 (AK1 2) [oq 3 (.box (tq 1)),ot 4 false] [0,1,2] [3]/\SX 9 (AK1 5) [om 5 0,oq 6 (.oth (.makeFunc (.func 178) #[] #[tq 3])),od 7 177 [tq 5,tq 6],ou 8 7,om 4 8] [0,1,2,3] [2,3]:=⟨rx,rx⟩
def AK2:=rg Tryz.f178
def ATP:bq:=(.seq (AK2 2) (.seq (AK2 5) .ret))
theorem b178:Tryz.f178.body=some ATP:=by kernel_rfl
@[simp] theorem BO8:SX 8 (AK2 2) [ot 3 false] [0,1] []/\SX 8 (AK2 5) [ol 4 193 1,om 5 0,oq 6 (.call false none (tq 4) [tq 5]),ou 7 6,om 3 7] [0,1,2] [2]:=⟨rx,rx⟩
def AK3:=rg Tryz.f143
def A5W:bq:=(.seq (AK3 2) (.seq (AK3 5) .ret))
theorem BG3:Tryz.f143.body=some A5W:=by kernel_rfl
@[simp] theorem BO9:SX 15 (AK3 2) [ot 6 false] [0,1,2] []/\SX 15 (AK3 5) [om 7 1,om 8 0,ob 9 .leq 3 7 8,om 10 9,gm 10 true 11 0,gm 10 true 12 2,gb 10 true 13 .leq 3 11 12,oq 14 (.pick (tq 10) (tq 13) (cb false)),om 6 14] [0,1,2] []:=⟨rx,rx⟩
def AK4:=rg Tryz.f145
def A5X:bq:=(.seq (AK4 2) (.seq (AK4 5) .ret))
theorem BG4:Tryz.f145.body=some A5X:=by kernel_rfl
@[simp] theorem BPA:SX 5 (AK4 2) [ot 2 false] [0] []/\SX 5 (AK4 5) [om 3 0,od 4 143 [tq 3,ci 0,ci 3],om 2 4] [0,1,2] [1,2]:=⟨rx,rx⟩
def AK5:=rg Tryz.f146
def A5Y:bq:=(.seq (AK5 2) (.seq (AK5 5) .ret))
theorem BG5:Tryz.f146.body=some A5Y:=by kernel_rfl
@[simp] theorem BPB:SX 5 (AK5 2) [ot 2 false] [0] []/\SX 5 (AK5 5) [om 3 0,od 4 143 [tq 3,.const (.int .i64 (bj 0)),ci 3],om 2 4] [0,1,2] [1,2]:=⟨rx,rx⟩
def AA7:=rg Tryz.f148
def ATQ:bq:=(.seq (AA7 2) (.seq (AA7 5) (.seq (AA7 11) .ret)))
theorem BG6:Tryz.f148.body=some ATQ:=by kernel_rfl
@[simp] theorem BPC:SX 12 (AA7 2) [ot 2 false] [0] []/\SX 12 (AA7 5) [oq 3 (.alloc 3),os (.sto 3 (tq 3) (.const (.int .i64 (bj 0))))] [0] []/\SX 12 (AA7 11) [om 4 0,oe 5 4 22,oc 6 .gtr 3 5 0,om 7 6,gm 7 true 8 0,og 7 true 9 (.oth (.makeFunc (.func 179) #[] #[tq 3])),gd 7 true 10 144 [tq 8,tq 9],oq 11 (.pick (tq 7) (tq 10) (cb false)),om 2 11] [0,3] [3]:=⟨rx,rx,rx⟩
def nC:=rg Tryz.f179
def A5Z:bq:=(.seq (nC 2) (.seq (nC 5) (.seq (nC 11) (.seq (nC 23) .ret))))
theorem b179:Tryz.f179.body=some A5Z:=by kernel_rfl
@[simp] theorem BPD:SX 11 (nC 2) [ot 3 false] [0,1] []/\SX 11 (nC 5) [om 5 0,ol 6 3 1,oc 7 .add 3 6 1,od 8 143 [tq 5,tq 7,ci 3],om 4 8] [0,1] []/\SX 11 (nC 11) [om 9 0,os (.sto 3 (tq 1) (tq 9))] [0,1,4] []/\SX 11 (nC 23) [om 10 4,om 3 10] [4] []:=⟨rx,rx,rx,rx⟩
def AK6:=rg Tryz.f174
def A50:bq:=(.seq (AK6 2) (.seq (AK6 5) .ret))
theorem BG7:Tryz.f174.body=some A50:=by kernel_rfl
@[simp] theorem BPE:SX 9 (AK6 2) [oq 2 (.box (tq 0)),ot 4 false] [0,1] [2]/\SX 9 (AK6 5) [om 5 1,oz 6 40 2 0,ol 7 3 6,od 8 143 [tq 5,ci 0,tq 7],om 4 8] [0,1,2,3] [2,3]:=⟨rx,rx⟩
def AK7:=rg Tryz.f141
def A51:bq:=(.seq (AK7 2) (.seq (AK7 5) .ret))
theorem BG8:Tryz.f141.body=some A51:=by kernel_rfl
@[simp] theorem BPF:SX 19 (AK7 2) [oq 2 (.box (tq 0)),oq 3 (.box (tq 1)),ot 4 false] [0,1] [2]/\SX 19 (AK7 5) [oz 5 86 3 0,ol 6 3 5,oz 7 40 2 1,ol 8 3 7,oc 9 .sub 3 8 1,od 10 143 [tq 6,ci 0,tq 9],om 11 10,gz 11 true 12 86 3 1,gl 11 true 13 3 12,gz 11 true 14 40 2 2,gl 11 true 15 3 14,gc 11 true 16 .sub 3 15 1,gd 11 true 17 143 [tq 13,ci 0,tq 16],oq 18 (.pick (tq 11) (tq 17) (cb false)),om 4 18] [2,3] [2,3]:=⟨rx,rx⟩
def AK8:=rg Tryz.f142
def A52:bq:=(.seq (AK8 2) (.seq (AK8 5) .ret))
theorem BG9:Tryz.f142.body=some A52:=by kernel_rfl
@[simp] theorem BPG:SX 14 (AK8 2) [oq 2 (.box (tq 0)),oq 3 (.box (tq 1)),ot 4 false] [0,1] [2]/\SX 14 (AK8 5) [ol 5 40 2,oz 6 99 3 0,ol 7 3 6,od 8 174 [tq 5,tq 7],om 9 8,gz 9 true 10 99 3 1,gl 9 true 11 3 10,gd 9 true 12 145 [tq 11],oq 13 (.pick (tq 9) (tq 12) (cb false)),om 4 13] [1,2,3,4] [2,3,4]:=⟨rx,rx⟩
def QW:=rg Tryz.f192
@[simp] def AEM:bq:=(.seq (QW 69) (.seq (.cond (.tmp 9) .skip (.exit 0)) (.seq (.block 1 (.seq (QW 1125) (.seq (QW 2661) (.cond (.tmp 16) (.seq (QW 9829) .ret) .skip)))) (QW 485))))
def TL:=AEM
def ATR:bq:=(.seq (QW 2) (.seq (.seq (QW 9) (.block 0 (.loop TL))) (.seq (QW 11) .ret)))
theorem b192:Tryz.f192.body=some ATR:=by kernel_rfl
@[simp] theorem BPH:UX 19 TL AEM/\SX 19 (QW 2) [ok 4 0] [0,1] []/\SX 19 (QW 9) [om 6 0,oe 7 6 37,ok 8 0] [0,1] []/\SX 19 (QW 69) [ob 9 .lss 3 8 7] [0,1,7,8] []/\SX 19 (QW 1125) [om 10 8,om 5 10] [0,1,7,8] []/\SX 19 (QW 2661) [om 11 1,om 12 0,om 13 5,oi 14 37 12 13,ol 15 86 14,oq 16 (.call false none (tq 11) [tq 15])] [0,1,5,7,8] []/\SX 19 (QW 9829) [om 17 5,om 4 17] [5] []/\SX 19 (QW 485) [oc 18 .add 3 8 1,om 8 18] [0,1,3,7,8] []/\SX 19 (QW 11) [oq 4 (.mv (.const (.int .i64 (bj 0))))] [] []/\LX 19 TL [0,1,7,8] []:=⟨fun _ _=>rfl,rx,rx,rx,rx,rx,rx,rx,rx,lx⟩
def AK9:=rg Tryz.f180
def A53:bq:=(.seq (AK9 2) (.seq (AK9 5) .ret))
theorem b180:Tryz.f180.body=some A53:=by kernel_rfl
@[simp] theorem BPI:SX 9 (AK9 2) [ot 4 false] [0,1] [7]/\SX 9 (AK9 5) [om 5 0,om 6 1,od 7 192 [tq 5,tq 6],oc 8 .geq 3 7 0,om 4 8] [0,1,2,3] [2,3]:=⟨rx,rx⟩
def ALA:=rg Tryz.f149
def A54:bq:=(.seq (ALA 2) (.seq (ALA 5) .ret))
theorem BHA:Tryz.f149.body=some A54:=by kernel_rfl
@[simp] theorem BPJ:SX 9 (ALA 2) [oq 3 (.box (tq 1)),ot 4 false] [0,1,2] [3]/\SX 9 (ALA 5) [om 5 0,oq 6 (.oth (.makeFunc (.func 181) #[] #[tq 3])),od 7 180 [tq 5,tq 6],ou 8 7,om 4 8] [0,1,2,3] [2,3]:=⟨rx,rx⟩
def ALB:=rg Tryz.f181
def A55:bq:=(.seq (ALB 2) (.seq (ALB 5) .ret))
theorem b181:Tryz.f181.body=some A55:=by kernel_rfl
@[simp] theorem BPK:SX 8 (ALB 2) [oq 2 (.box (tq 0)),ot 3 false] [0,1] []/\SX 8 (ALB 5) [ol 4 225 1,ol 5 86 2,oq 6 (.call false none (tq 4) [tq 5]),ou 7 6,om 3 7] [0,1,2] [2]:=⟨rx,rx⟩
def QX:=rg Tryz.f193
@[simp] def AEN:bq:=(.seq (QX 69) (.seq (.cond (.tmp 9) .skip (.exit 0)) (.seq (.block 1 (.seq (QX 1125) (.seq (QX 2661) (.cond (.tmp 16) (.seq (QX 9829) .ret) .skip)))) (QX 485))))
def TM:=AEN
def ATS:bq:=(.seq (QX 2) (.seq (.seq (QX 9) (.block 0 (.loop TM))) (.seq (QX 11) .ret)))
theorem b193:Tryz.f193.body=some ATS:=by kernel_rfl
@[simp] theorem BPL:UX 19 TM AEN/\SX 19 (QX 2) [ok 4 0] [0,1] []/\SX 19 (QX 9) [om 6 0,oe 7 6 38,ok 8 0] [0,1] []/\SX 19 (QX 69) [ob 9 .lss 3 8 7] [0,1,7,8] []/\SX 19 (QX 1125) [om 10 8,om 5 10] [0,1,7,8] []/\SX 19 (QX 2661) [om 11 1,om 12 0,om 13 5,oi 14 38 12 13,ol 15 99 14,oq 16 (.call false none (tq 11) [tq 15])] [0,1,5,7,8] []/\SX 19 (QX 9829) [om 17 5,om 4 17] [5] []/\SX 19 (QX 485) [oc 18 .add 3 8 1,om 8 18] [0,1,3,7,8] []/\SX 19 (QX 11) [oq 4 (.mv (.const (.int .i64 (bj 0))))] [] []/\LX 19 TM [0,1,7,8] []:=⟨fun _ _=>rfl,rx,rx,rx,rx,rx,rx,rx,rx,lx⟩
def ALC:=rg Tryz.f182
def A56:bq:=(.seq (ALC 2) (.seq (ALC 5) .ret))
theorem b182:Tryz.f182.body=some A56:=by kernel_rfl
@[simp] theorem BPM:SX 9 (ALC 2) [ot 4 false] [0,1] [7]/\SX 9 (ALC 5) [om 5 0,om 6 1,od 7 193 [tq 5,tq 6],oc 8 .geq 3 7 0,om 4 8] [0,1,2,3] [2,3]:=⟨rx,rx⟩
def ALD:=rg Tryz.f150
def A57:bq:=(.seq (ALD 2) (.seq (ALD 5) .ret))
theorem BHB:Tryz.f150.body=some A57:=by kernel_rfl
@[simp] theorem BPN:SX 9 (ALD 2) [oq 3 (.box (tq 1)),ot 4 false] [0,1,2] [3]/\SX 9 (ALD 5) [om 5 0,oq 6 (.oth (.makeFunc (.func 183) #[] #[tq 3])),od 7 182 [tq 5,tq 6],ou 8 7,om 4 8] [0,1,2,3] [2,3]:=⟨rx,rx⟩
def ALE:=rg Tryz.f183
def A58:bq:=(.seq (ALE 2) (.seq (ALE 5) .ret))
theorem b183:Tryz.f183.body=some A58:=by kernel_rfl
@[simp] theorem BPO:SX 8 (ALE 2) [oq 2 (.box (tq 0)),ot 3 false] [0,1] []/\SX 8 (ALE 5) [ol 4 226 1,ol 5 99 2,oq 6 (.call false none (tq 4) [tq 5]),ou 7 6,om 3 7] [0,1,2] [2]:=⟨rx,rx⟩
def OK:=rg Tryz.f110
def OL:bq:=(.seq (OK 2) (.seq (OK 5) (.seq (.block 0 (.seq (OK 35) (.cond (.tmp 9) (.seq (OK 147) .ret) (.seq (OK 179) (.cond (.tmp 35) (.seq (OK 627) .ret) (.seq (OK 755) (.cond (.tmp 81) (.seq (OK 2547) .ret) .skip))))))) (.seq (OK 23) .ret))))
theorem BHC:Tryz.f110.body=some OL:=by kernel_rfl
@[simp] theorem BPP:SX 112 (OK 2) [oq 1 (.box (tq 0)),ok 2 0] [0] [1,20,21,26,27,102,103,104]/\RX 112 (OK 5) (.drw [⟨[],[ol 5 40 1,oq 6 (.oth (.makeFunc (.func 141) #[tq 5] #[])),ol 7 40 1,oq 8 (.oth (.makeFunc (.func 142) #[tq 7] #[])),om 3 6,om 4 8],[]⟩]) (some ([1],[1]))/\SX 112 (OK 35) [oz 10 40 1 0,ol 11 3 10,oc 12 .gtr 3 11 4,om 13 12,gz 13 false 14 40 1 1,gl 13 false 15 3 14,gc 13 false 16 .gtr 3 15 3,oq 17 (.pick (tq 13) (cb true) (tq 16)),om 18 17,gz 18 false 19 40 1 2,gl 18 false 20 3 19,gc 18 false 21 .gtr 3 20 5,oq 22 (.pick (tq 18) (cb true) (tq 21)),om 23 22,gz 23 false 24 40 1 7,gl 23 false 25 37 24,ge 23 false 26 25 37,gc 23 false 27 .gtr 3 26 4,oq 28 (.pick (tq 23) (cb true) (tq 27)),om 29 28,gz 29 false 30 40 1 8,gl 29 false 31 38 30,ge 29 false 32 31 38,gc 29 false 33 .gtr 3 32 5,oq 34 (.pick (tq 29) (cb true) (tq 33)),om 9 34] [1,3,4] [1]/\SX 112 (OK 147) [ok 2 3] [] []/\SX 112 (OK 179) [oz 36 40 1 0,ol 37 3 36,oc 38 .lss 3 37 0,om 39 38,gz 39 false 40 40 1 1,gl 39 false 41 3 40,gc 39 false 42 .lss 3 41 1,oq 43 (.pick (tq 39) (cb true) (tq 42)),om 44 43,gz 44 false 45 40 1 2,gl 44 false 46 3 45,gc 44 false 47 .lss 3 46 1,oq 48 (.pick (tq 44) (cb true) (tq 47)),om 49 48,gz 49 false 50 40 1 3,gl 49 false 51 3 50,gd 49 false 52 143 [tq 51,ci 0,ci 4],og 49 false 53 (.oth (.unOp .not 4 (tq 52))),oq 54 (.pick (tq 49) (cb true) (tq 53)),om 55 54,gz 55 false 56 40 1 4,gl 55 false 57 22 56,ge 55 false 58 57 22,gz 55 false 59 40 1 1,gl 55 false 60 3 59,gb 55 false 61 .neq 3 58 60,oq 62 (.pick (tq 55) (cb true) (tq 61)),om 63 62,gz 63 false 64 40 1 5,gl 63 false 65 22 64,ge 63 false 66 65 22,gz 63 false 67 40 1 0,gl 63 false 68 3 67,gc 63 false 69 .add 3 68 1,gb 63 false 70 .neq 3 66 69,oq 71 (.pick (tq 63) (cb true) (tq 70)),om 72 71,gz 72 false 73 40 1 6,gl 72 false 74 23 73,ge 72 false 75 74 23,gz 72 false 76 40 1 0,gl 72 false 77 3 76,gc 72 false 78 .add 3 77 1,gb 72 false 79 .neq 3 75 78,oq 80 (.pick (tq 72) (cb true) (tq 79)),om 35 80] [1,3,4] [1]/\SX 112 (OK 627) [ok 2 1] [] []/\SX 112 (OK 755) [oz 82 40 1 4,ol 83 22 82,od 84 144 [tq 83,.func 145],ou 85 84,om 86 85,gz 86 false 87 40 1 5,gl 86 false 88 22 87,gd 86 false 89 144 [tq 88,.func 146],og 86 false 90 (.oth (.unOp .not 4 (tq 89))),oq 91 (.pick (tq 86) (cb true) (tq 90)),om 92 91,gz 92 false 93 40 1 6,gl 92 false 94 23 93,gd 92 false 95 147 [tq 94,.func 148],og 92 false 96 (.oth (.unOp .not 4 (tq 95))),oq 97 (.pick (tq 92) (cb true) (tq 96)),om 98 97,gz 98 false 99 40 1 7,gl 98 false 100 37 99,gm 98 false 101 3,gd 98 false 102 149 [tq 100,tq 101],og 98 false 103 (.oth (.unOp .not 4 (tq 102))),oq 104 (.pick (tq 98) (cb true) (tq 103)),om 105 104,gz 105 false 106 40 1 8,gl 105 false 107 38 106,gm 105 false 108 4,gd 105 false 109 150 [tq 107,tq 108],og 105 false 110 (.oth (.unOp .not 4 (tq 109))),oq 111 (.pick (tq 105) (cb true) (tq 110)),om 81 111] [1,3,4] [1]/\SX 112 (OK 2547) [ok 2 1] [] []/\SX 112 (OK 23) [ok 2 0] [] []:=by and_intros<;>exact rx
def ALF:=rg Tryz.f111
def ATT:bq:=(.seq (ALF 2) (.seq (ALF 5) .ret))
theorem BHD:Tryz.f111.body=some ATT:=by kernel_rfl
@[simp] theorem BPQ:SX 16 (ALF 2) [oq 2 (.box (tq 0)),ot 4 false] [0,1] [2]/\SX 16 (ALF 5) [om 5 1,oe 6 5 23,oz 7 40 2 0,ol 8 3 7,oc 9 .add 3 8 1,ob 10 .eql 3 6 9,om 11 10,gm 11 true 12 1,og 11 true 13 (.oth (.makeFunc (.func 151) #[] #[tq 2])),gd 11 true 14 147 [tq 12,tq 13],oq 15 (.pick (tq 11) (tq 14) (cb false)),om 4 15] [1,2] [2]:=⟨rx,rx⟩
def ALG:=rg Tryz.f151
def ATU:bq:=(.seq (ALG 2) (.seq (ALG 5) .ret))
theorem b151:Tryz.f151.body=some ATU:=by kernel_rfl
@[simp] theorem BPR:SX 13 (ALG 2) [ot 3 false] [0,1,2] [3,4,5,9]/\SX 13 (ALG 5) [om 4 0,oe 5 4 22,oz 6 40 1 1,ol 7 3 6,ob 8 .eql 3 5 7,om 9 8,gm 9 true 10 0,gd 9 true 11 144 [tq 10,.func 145],oq 12 (.pick (tq 9) (tq 11) (cb false)),om 3 12] [0,1] []:=⟨rx,rx⟩
def ALH:=rg Tryz.f194
def A59:bq:=(.seq (ALH 2) (.seq (ALH 5) .ret))
theorem BHE:Tryz.f194.body=some A59:=by kernel_rfl
@[simp] theorem BPS:SX 6 (ALH 2) [ok 2 0] [0,1] []/\SX 6 (ALH 5) [om 3 0,oc 4 .add 3 3 2,oc 5 .rem 3 4 4,om 2 5] [0,1] []:=⟨rx,rx⟩
def ALI:=rg Tryz.f195
def A6A:bq:=(.seq (ALI 2) (.seq (ALI 5) .ret))
theorem BHF:Tryz.f195.body=some A6A:=by kernel_rfl
@[simp] theorem BPT:SX 11 (ALI 2) [oq 3 (.box (tq 0)),oq 4 (.box (tq 1)),oq 5 (.box (tq 2)),ot 6 false] [0,1,2] [3,4,5]/\SX 11 (ALI 5) [oz 7 40 3 7,ol 8 37 7,oq 9 (.oth (.makeFunc (.func 199) #[] #[tq 5,tq 4,tq 3])),od 10 180 [tq 8,tq 9],om 6 10] [3,4,5] [3,4,5]:=⟨rx,rx⟩
def K7:=rg Tryz.f199
def AEO:bq:=(.seq (K7 2) (.seq (K7 5) (.seq (.block 0 (.seq (K7 35) (.cond (.tmp 7) (K7 83) (.seq (K7 179) (.cond (.tmp 22) (K7 371) (.seq (K7 755) (.cond (.tmp 37) (K7 1523) (.seq (K7 3059) (.cond (.tmp 52) (K7 6131) .skip))))))))) (.seq (K7 23) .ret))))
theorem b199:Tryz.f199.body=some AEO:=by kernel_rfl
@[simp] theorem BPU:SX 71 (K7 2) [oq 4 (.box (tq 0)),ot 5 false] [0,1,2,3] []/\SX 71 (K7 5) [ok 6 0] [1,2,3,4] [4]/\SX 71 (K7 35) [ol 8 3 1,oc 9 .eql 3 8 0,om 10 9,gz 10 true 11 86 4 1,gl 10 true 12 3 11,gz 10 true 13 86 2 1,gl 10 true 14 3 13,gb 10 true 15 .eql 3 12 14,oq 16 (.pick (tq 10) (tq 15) (cb false)),om 7 16] [1,2,3,4,6] [4]/\SX 71 (K7 83) [oz 17 86 2 0,ol 18 3 17,oz 19 86 4 0,ol 20 3 19,ob 21 .sub 3 18 20,om 6 21] [2,3,4] [4]/\SX 71 (K7 179) [ol 23 3 1,oc 24 .eql 3 23 2,om 25 24,gz 25 true 26 86 4 1,gl 25 true 27 3 26,gz 25 true 28 86 2 1,gl 25 true 29 3 28,gb 25 true 30 .eql 3 27 29,oq 31 (.pick (tq 25) (tq 30) (cb false)),om 22 31] [1,2,3,4,6] [4]/\SX 71 (K7 371) [oz 32 86 4 0,ol 33 3 32,oz 34 86 2 0,ol 35 3 34,ob 36 .sub 3 33 35,om 6 36] [2,3,4] [4]/\SX 71 (K7 755) [ol 38 3 1,oc 39 .eql 3 38 3,om 40 39,gz 40 true 41 86 4 0,gl 40 true 42 3 41,gz 40 true 43 86 2 0,gl 40 true 44 3 43,gb 40 true 45 .eql 3 42 44,oq 46 (.pick (tq 40) (tq 45) (cb false)),om 37 46] [1,2,3,4,6] [4]/\SX 71 (K7 1523) [oz 47 86 2 1,ol 48 3 47,oz 49 86 4 1,ol 50 3 49,ob 51 .sub 3 48 50,om 6 51] [2,3,4] [4]/\SX 71 (K7 3059) [ol 53 3 1,oc 54 .eql 3 53 1,om 55 54,gz 55 true 56 86 4 0,gl 55 true 57 3 56,gz 55 true 58 86 2 0,gl 55 true 59 3 58,gb 55 true 60 .eql 3 57 59,oq 61 (.pick (tq 55) (tq 60) (cb false)),om 52 61] [1,2,3,4,6] [4]/\SX 71 (K7 6131) [oz 62 86 4 1,ol 63 3 62,oz 64 86 2 1,ol 65 3 64,ob 66 .sub 3 63 65,om 6 66] [2,3,4] [4]/\SX 71 (K7 23) [om 67 6,oz 68 40 3 3,ol 69 3 68,od 70 143 [tq 67,ci 1,tq 69],om 5 70] [3,6] []:=by and_intros<;>exact rx
def ALJ:=rg Tryz.f184
def A6B:bq:=(.seq (ALJ 2) (.seq (ALJ 5) .ret))
theorem BHG:Tryz.f184.body=some A6B:=by kernel_rfl
@[simp] theorem BPV:SX 19 (ALJ 2) [oq 4 (.box (tq 0)),oq 5 (.box (tq 1)),ot 8 false] [0,1,2,3] [4]/\SX 19 (ALJ 5) [om 9 2,om 10 3,od 11 194 [tq 10],ob 12 .eql 3 9 11,om 13 12,gl 13 false 14 40 4,gl 13 false 15 86 5,gm 13 false 16 3,gd 13 false 17 195 [tq 14,tq 15,tq 16],oq 18 (.pick (tq 13) (cb true) (tq 17)),om 8 18] [2,3,4,5] [4,5]:=⟨rx,rx⟩
def QY:=rg Tryz.f153
def A6C:bq:=(.seq (QY 2) (.seq (QY 5) (.seq (.seq (QY 19) (.cond (.tmp 25) (QY 43) .skip)) (.seq (.seq (QY 39) (.cond (.tmp 27) (QY 87) .skip)) (.seq (QY 47) (.seq (QY 95) .ret))))))
theorem BHH:Tryz.f153.body=some A6C:=by kernel_rfl
@[simp] theorem BPW:SX 36 (QY 2) [oq 5 (.box (tq 0)),oq 6 (.box (tq 1)),oq 10 (.alloc 155)] [0,1,2,3,4] [5]/\RX 36 (QY 5) (.drw [⟨[],[oz 13 40 5 5,ol 14 22 13,om 15 2,oi 16 22 14 15,ol 17 3 16,om 18 3,ob 19 .eql 3 17 18,ol 20 40 5,ol 21 86 6,om 22 3,om 23 4,od 24 184 [tq 20,tq 21,tq 22,tq 23],om 11 19,om 12 24],[]⟩]) (some ([2,3,4,5,6,10],[5,6,10]))/\SX 36 (QY 19) [om 25 11] [10,11,12] [10]/\SX 36 (QY 43) [oz 26 155 10 0,os (.sto 3 (tq 26) (ci 1))] [10,12] [10]/\SX 36 (QY 39) [om 27 12] [10,12] [10]/\SX 36 (QY 87) [oz 28 155 10 1,os (.sto 3 (tq 28) (ci 1))] [10] [10]/\SX 36 (QY 47) [oz 29 155 10 0,ol 30 3 29,oz 31 155 10 1,ol 32 3 31,ob 33 .mul 3 30 32,oz 34 155 10 2,os (.sto 3 (tq 34) (tq 33))] [10] [10]/\SX 36 (QY 95) [ol 35 155 10,os (.sto 155 (tq 10) (tq 35))] [10] [10]:=by and_intros<;>exact rx
def QZ:=rg Tryz.f101
@[simp] def AEP:bq:=(lp (QZ 267) 12 0 1 (.seq (QZ 1099) (QZ 1611)) (QZ 459))
def TN:=AEP
def A6D:bq:=(.seq (QZ 2) (.seq (QZ 5) (.seq (.seq (QZ 19) (.block 0 (.loop TN))) (.seq (QZ 23) .ret))))
theorem BHI:Tryz.f101.body=some A6D:=by kernel_rfl
@[simp] theorem BPX:UX 35 TN AEP/\SX 35 (QZ 2) [oq 2 (.box (tq 0)),oq 4 (.mv (.const (.slice none 0 0)))] [0,1] [2]/\SX 35 (QZ 5) [oq 5 (.mv (.const (.slice none 0 0)))] [1,2] [2]/\SX 35 (QZ 19) [ok 6 0] [1,2,5] [2,29]/\SX 35 (QZ 267) [om 8 6,oz 9 27 2 6,ol 10 23 9,oe 11 10 23,ob 12 .lss 3 8 11] [1,2,5,6] [2,29]/\SX 35 (QZ 1099) [oz 15 27 2 6,ol 16 23 15,om 17 6,oi 18 23 16 17,ol 19 22 18,om 7 19] [1,2,5,6] [2,29]/\RX 35 (QZ 1611) (.drw [⟨[],[om 20 5,om 21 7,om 22 1,om 23 7,oe 24 23 22,ob 25 .rem 3 22 24,oi 26 22 21 25,ol 27 3 26,oq 28 (.buildS 22 1 [(0,tq 27)]),om 30 1,om 31 7,oe 32 31 22,ob 33 .quo 3 30 32,oq 29 (.app [tq 20,tq 28] [22,22]),om 5 29,om 1 33],[]⟩]) (some ([1,2,5,6,7],[2,29]))/\SX 35 (QZ 459) [om 13 6,oc 14 .add 3 13 1,om 6 14] [1,2,5,6] [2,29]/\SX 35 (QZ 23) [om 34 5,om 4 34] [5] [29]/\LX 35 TN [1,2,5,6] [2,29]:=⟨fun _ _=>rfl,rx,rx,rx,rx,rx,rx,rx,rx,lx⟩
def Q0:=rg Tryz.f170
@[simp] def AEQ:bq:=(.seq (Q0 69) (.seq (.cond (.tmp 9) .skip (.exit 0)) (.seq (.block 1 (.seq (Q0 1125) (.seq (Q0 2661) (.cond (.tmp 16) (.seq (Q0 9829) .ret) .skip)))) (Q0 485))))
def TO:=AEQ
def ATV:bq:=(.seq (Q0 2) (.seq (.seq (Q0 9) (.block 0 (.loop TO))) (.seq (Q0 11) .ret)))
theorem A6E:Tryz.f170.body=some ATV:=by kernel_rfl
@[simp] theorem BPY:UX 19 TO AEQ/\SX 19 (Q0 2) [ok 4 0] [0,1] []/\SX 19 (Q0 9) [om 6 0,oe 7 6 22,ok 8 0] [0,1] []/\SX 19 (Q0 69) [ob 9 .lss 3 8 7] [0,1,7,8] []/\SX 19 (Q0 1125) [om 10 8,om 5 10] [0,1,7,8] []/\SX 19 (Q0 2661) [om 11 1,om 12 0,om 13 5,oi 14 22 12 13,ol 15 3 14,ob 16 .eql 3 11 15] [0,1,5,7,8] []/\SX 19 (Q0 9829) [om 17 5,om 4 17] [5] []/\SX 19 (Q0 485) [oc 18 .add 3 8 1,om 8 18] [0,1,3,7,8] []/\SX 19 (Q0 11) [oq 4 (.mv (.const (.int .i64 (bj 0))))] [] []/\LX 19 TO [0,1,7,8] []:=⟨fun _ _=>rfl,rx,rx,rx,rx,rx,rx,rx,rx,lx⟩
def ALK:=rg Tryz.f132
def A6F:bq:=(.seq (ALK 2) (.seq (ALK 5) .ret))
theorem BHJ:Tryz.f132.body=some A6F:=by kernel_rfl
@[simp] theorem BPZ:SX 9 (ALK 2) [ot 4 false] [0,1] [7]/\SX 9 (ALK 5) [om 5 0,om 6 1,od 7 170 [tq 5,tq 6],oc 8 .geq 3 7 0,om 4 8] [0,1,2,3] [2,3]:=⟨rx,rx⟩
def Q1:=rg Tryz.f164
@[simp] def AER:bq:=(.seq (Q1 69) (.seq (.cond (.tmp 13) .skip (.exit 0)) (.seq (.block 1 (.seq (Q1 1125) (.seq (Q1 2661) (.cond (.tmp 30) (.seq (Q1 9829) .ret) .skip)))) (Q1 485))))
def TP:=AER
def A6G:bq:=(.seq (Q1 2) (.seq (.seq (Q1 9) (.block 0 (.loop TP))) (.seq (Q1 11) .ret)))
theorem BHK:Tryz.f164.body=some A6G:=by kernel_rfl
@[simp] theorem BP0:UX 32 TP AER/\SX 32 (Q1 2) [oq 3 (.box (tq 0)),ot 6 false] [0,1,2] [3]/\SX 32 (Q1 9) [oz 9 40 3 8,ol 10 38 9,oe 11 10 38,ok 12 0] [1,2,3] [3]/\SX 32 (Q1 69) [ob 13 .lss 3 12 11] [1,2,10,11,12] [3]/\SX 32 (Q1 1125) [om 14 12,oi 15 38 10 12,ol 16 99 15,oq 8 (.alloc 99),om 7 14,os (.sto 99 (tq 8) (tq 16))] [1,2,10,11,12] [3]/\RX 32 (Q1 2661) (.drw [⟨[],[om 17 2,om 18 7],[od 19 132 [tq 17,tq 18]]⟩,⟨[],[ou 20 19,om 21 20,gm 21 true 22 1,gz 21 true 23 99 8 0,gl 21 true 24 3 23,gi 21 true 25 22 22 24,gl 21 true 26 3 25,gz 21 true 27 99 8 1,gl 21 true 28 3 27,gb 21 true 29 .neq 3 26 28,oq 30 (.pick (tq 21) (tq 29) (cb false))],[]⟩]) (some ([1,2,7,8,10,11,12],[3,8]))/\SX 32 (Q1 9829) [ot 6 false] [] []/\SX 32 (Q1 485) [oc 31 .add 3 12 1,om 12 31] [1,2,10,11,12] [3]/\SX 32 (Q1 11) [ot 6 true] [] []/\LX 32 TP [1,2,10,11,12] [3]:=⟨fun _ _=>rfl,rx,rx,rx,rx,rx,rx,rx,rx,lx⟩
def O0:=rg Tryz.f165
@[simp] def AES:bq:=(lp (O0 535) 15 0 1 (O0 1175) (O0 919))
def jN:=AES
def A6H:bq:=(.seq (O0 2) (.seq (.seq (O0 9) (.cond (.tmp 7) (O0 21) .skip)) (.seq (O0 11) (.seq (.seq (O0 39) (.block 0 (.loop jN))) (.seq (O0 47) .ret)))))
theorem BHL:Tryz.f165.body=some A6H:=by kernel_rfl
@[simp] theorem BP1:UX 25 jN AES/\SX 25 (O0 2) [ok 2 0] [0] []/\SX 25 (O0 9) [om 5 0,oe 6 5 22,oc 7 .lss 3 6 1] [0] []/\SX 25 (O0 11) [om 9 0,oq 10 (.oth (.indexAddr 22 (tq 9) (ci 0))),ol 11 3 10,om 3 11] [0] []/\SX 25 (O0 39) [ok 4 1] [0,3] []/\SX 25 (O0 535) [om 12 4,om 13 0,oe 14 13 22,ob 15 .lss 3 12 14] [0,3,4] []/\SX 25 (O0 1175) [om 18 3,om 19 0,om 20 4,oi 21 22 19 20,ol 22 3 21,oq 23 (.oth (.call ⟨.builtin .min,#[tq 18,tq 22],#[3,3]⟩)),om 3 23] [0,3,4] []/\SX 25 (O0 919) [om 16 4,oc 17 .add 3 16 1,om 4 17] [0,3,4] []/\SX 25 (O0 47) [om 24 3,om 2 24] [3] []/\LX 25 jN [0,3,4] []:=⟨fun _ _=>rfl,rx,rx,rx,rx,rx,rx,rx,rx,lx⟩
def ALL:=rg Tryz.f198
def A6I:bq:=(.seq (ALL 2) (.seq (ALL 5) .ret))
theorem BHM:Tryz.f198.body=some A6I:=by kernel_rfl
@[simp] theorem BP2:SX 5 (ALL 2) [ok 2 0] [0] []/\SX 5 (ALL 5) [om 3 0,od 4 165 [tq 3],om 2 4] [0,1,2] [1,2]:=⟨rx,rx⟩
def ALM:=rg Tryz.f186
def A6J:bq:=(.seq (ALM 2) (.seq (ALM 5) .ret))
theorem BHN:Tryz.f186.body=some A6J:=by kernel_rfl
@[simp] theorem BP3:SX 15 (ALM 2) [oq 2 (.box (tq 0)),oq 4 (.alloc 207)] [0,1] []/\RX 15 (ALM 5) (.drw [⟨[],[oz 5 207 2 0,oq 6 (.ldz 3 (tq 5)),om 7 1,oq 8 (.buildS 22 2 [(0,tq 6),(1,tq 7)]),od 9 198 [tq 8],oz 10 207 2 1,oq 11 (.ldz 3 (tq 10)),om 12 1,oq 13 (.oth (.call ⟨.builtin .max,#[tq 11,tq 12],#[3,3]⟩)),oq 14 (.build 207 [(0,tq 9),(1,tq 13)])],[os (.sto 207 (tq 4) (tq 14))]⟩]) (some ([1,2,4],[2,4])):=⟨rx,rx⟩
def eU:=rg Tryz.f196
def A6K:bq:=(.seq (eU 2) (.seq (eU 5) (.seq (eU 11) (.seq (eU 23) (eU 31)))))
theorem b196:Tryz.f196.body=some A6K:=by kernel_rfl
@[simp] theorem BP4:SX 13 (eU 2) [oq 3 (.box (tq 0))] [0,1,2] [3,4,5,9]/\SX 13 (eU 5) [oz 6 40 1 0,ol 7 3 6,oc 8 .add 3 7 1,oq 9 (.mkS 22 (tq 8) (tq 8)),oq 4 (.alloc 22),os (.sto 22 (tq 4) (tq 9))] [1,2,3] [3,4,5,9]/\SX 13 (eU 11) [oq 5 (.alloc 177)] [1,2,3,4] [3,4,5,9]/\SX 13 (eU 23) [oq 10 (.oth (.makeFunc (.func 197) #[] #[tq 4,tq 1,tq 2,tq 3,tq 5])),os (.sto 177 (tq 5) (tq 10))] [1,2,3,4,5] [3,4,5,9]/\SX 13 (eU 31) [ol 11 177 5,oq 12 (.call false none (tq 11) [ci 0])] [5] [3,4,5,9]:=⟨rx,rx,rx,rx,rx⟩
def K8:=rg Tryz.f197
@[simp] def AET:bq:=(.seq (K8 139) (.seq (.cond (.tmp 31) .skip (.exit 0)) (.seq (.block 1 (.seq (K8 2251) (.seq (K8 5323) (.seq (K8 11467) (.cond (.tmp 42) (.seq (K8 40139) .ret) .skip))))) (K8 971))))
def TQ:=AET
def AEU:bq:=(.seq (K8 2) (.seq (.seq (K8 9) (.cond (.tmp 13) (.seq (K8 37) .ret) .skip)) (.seq (.seq (K8 19) (.block 0 (.loop TQ))) (.seq (K8 23) .ret))))
theorem b197:Tryz.f197.body=some AEU:=by kernel_rfl
@[simp] theorem BHO(n:Nat)(st:XS):AE bk ann kn (n+1) 44 (K8 37) st=OR (JM bk (cfU [20009,30009] (BO bk ann kn n)) (.str [ol 14 40 2,ol 15 22 1,ol 16 22 3,od 17 164 [tq 14,tq 15,tq 16],ou 18 17,om 19 18,gl 19 false 20 193 4,gl 19 false 21 22 1,og 19 false 22 (.call false none (tq 20) [tq 21]),oq 23 (.pick (tq 19) (cb true) (tq 22)),om 7 23]) (CK (some ([1,2,3,4],[])) (LU [] st))) :=
 XF (by kernel_rfl) (by kernel_rfl) (by kernel_rfl) (by kernel_rfl) (by kernel_rfl) (by kernel_rfl)
@[simp] theorem BP5:UX 44 TQ AET/\SX 44 (K8 2) [ot 7 false] [0,1,2,3,4,5] []/\SX 44 (K8 9) [om 10 0,ol 11 22 1,oe 12 11 22,ob 13 .eql 3 10 12] [0,1,2,3,4,5] []/\SX 44 (K8 19) [oz 24 40 2 6,ol 25 23 24,om 26 0,oi 27 23 25 26,ol 28 22 27,oe 29 28 22,ok 30 0] [0,1,2,5] []/\SX 44 (K8 139) [ob 31 .lss 3 30 29] [0,1,5,28,29,30] []/\SX 44 (K8 2251) [oi 32 22 28 30,ol 33 3 32,om 9 33] [0,1,5,28,29,30] []/\SX 44 (K8 5323) [ol 34 22 1,om 35 0,om 36 9,oi 37 22 34 35,os (.sto 3 (tq 37) (tq 36))] [0,1,5,9,28,29,30] []/\SX 44 (K8 11467) [ol 38 177 5,om 39 0,oc 40 .add 3 39 1,oq 41 (.call false none (tq 38) [tq 40]),ou 42 41] [0,1,5,28,29,30] []/\SX 44 (K8 40139) [ot 7 false] [] []/\SX 44 (K8 971) [oc 43 .add 3 30 1,om 30 43] [0,1,5,28,29,30] []/\SX 44 (K8 23) [ot 7 true] [] []/\LX 44 TQ [0,1,5,28,29,30] []:=⟨fun _ _=>rfl,rx,rx,rx,rx,rx,rx,rx,rx,rx,rx,lx⟩
def ALN:=rg Tryz.f185
def A6L:bq:=(.seq (ALN 2) (.seq (ALN 5) .ret))
theorem BHP:Tryz.f185.body=some A6L:=by kernel_rfl
@[simp] theorem BP6:SX 6 (ALN 2) [oq 2 (.box (tq 0)),oq 3 (.box (tq 1)),oq 4 (.mv (.const .nilFunc))] [0,1] [2,3]/\SX 6 (ALN 5) [oq 5 (.oth (.makeFunc (.func 196) #[] #[tq 2,tq 3])),om 4 5] [2,3] [2,3]:=⟨rx,rx⟩
def EF:=rg Tryz.f154
@[simp] def xF:bq:=(.seq (EF 36191) (.seq (.cond (.tmp 35) .skip (.exit 2)) (.seq (.block 3 (.seq (EF 576863) (.seq (EF 1363295) (.cond (.tmp 48) (EF 2936159) .skip)))) (EF 249183))))
def KH:=xF
def AEV:bq:=(.seq (EF 2) (.seq (.seq (EF 9) (.seq (EF 21) (.cond (.tmp 15) (.seq (EF 77) .ret) .skip))) (.seq (.seq (EF 19) (.cond (.tmp 19) (.seq (EF 75) .ret) .skip)) (.seq (EF 23) (.seq (EF 47) (.seq (.seq (EF 159) (.block 0 (.rangeFunc (.tmp 30) #[31] (EF 607) (.block 1 (.seq (EF 2399) (.seq (EF 5471) (.block 2 (.loop KH)))))))) (.seq (.seq (EF 319) (.cond (.tmp 67) (.seq (EF 1215) .ret) .skip)) (.seq (EF 383) .ret))))))))
theorem b154:Tryz.f154.body=some AEV:=by kernel_rfl
@[simp] theorem BDV(n:Nat)(st:XS):AE bk ann kn (n+1) 69 (EF 1363295) st=OR (JM bk (cfU [20800,20801,20802,20803,20804] (BO bk ann kn n)) (.str [ol 39 233 7,oq 40 (.oth (.nilCheck (tq 39))),oz 41 250 40 1,ol 42 23 41,om 43 10,oi 44 23 42 43,ol 45 22 44,om 46 11,od 47 132 [tq 45,tq 46],ou 48 47]) (CK (some ([7,10,11,32,33,34],[2,7,24,25,26,28,30,63,800,801,802,803,804])) (LU [] st))) :=
 XF (by kernel_rfl) (by kernel_rfl) (by kernel_rfl) (by kernel_rfl) (by kernel_rfl) (by kernel_rfl)
@[simp] theorem BDW(n:Nat)(st:XS):AE bk ann kn (n+1) 69 (EF 249183) st=OR (JM bk (BO bk ann kn n) (.str [oc 65 .add 3 34 1,om 34 65]) (CK (some ([7,32,33,34],[2,7,24,25,26,28,30,63,800,801,802,803,804])) (LU [25008011801063] st))) :=
 DG (by kernel_rfl) (by kernel_rfl) (by kernel_rfl) (by kernel_rfl) (by kernel_rfl)
@[simp] theorem BDX(n:Nat)(st:XS):AE bk ann kn (n+1) 69 (EF 383) st=OR (JM bk (BO bk ann kn n) (.str [ol 68 233 7,om 4 68,ok 5 0]) (CK (some ([7],[2,7,24,25,26,28,30,63,800,801,802,803,804])) (LU [1000000000000024,24,901025,902026,903028] st))) :=
 DG (by kernel_rfl) (by kernel_rfl) (by kernel_rfl) (by kernel_rfl) (by kernel_rfl)
@[simp] theorem BP7:UX 69 KH xF/\SX 69 (EF 2) [oq 2 (.box (tq 0)),oq 4 (.mv (.const (.pointer none))),ok 5 0] [0,1] [2,7,24,25,26,28,30,63,800,801,802,803,804]/\SX 69 (EF 9) [ol 12 40 2,od 13 110 [tq 12],om 6 13] [1,2] [2,7,24,25,26,28,30,63,800,801,802,803,804]/\SX 69 (EF 21) [om 14 6,oc 15 .neq 34 14 0] [1,2,6] [2,7,24,25,26,28,30,63,800,801,802,803,804]/\SX 69 (EF 77) [om 16 6,oq 4 (.mv (.const (.pointer none))),om 5 16] [6] []/\SX 69 (EF 19) [om 17 1,oq 18 (.call false none (tq 17) []),ou 19 18] [1,2] [2,7,24,25,26,28,30,63,800,801,802,803,804]/\SX 69 (EF 75) [oq 4 (.mv (.const (.pointer none))),ok 5 2] [] []/\RX 69 (EF 23) (.drw [⟨[24,25,26,28,7],[oq 20 (.ldz 40 (tq 2)),oz 21 40 2 0,oq 22 (.ldz 3 (tq 21)),oc 23 .add 3 22 1,oq 24 (.mkS 23 (tq 23) (tq 23)),oq 25 (.mkM none),oq 26 (.mkM none),oq 27 (.build 250 [(0,tq 20),(1,tq 24),(2,tq 25),(3,tq 26)]),oq 28 (.box (tq 27)),oq 7 (.alloc 233)],[os (.sto 233 (tq 7) (tq 28))]⟩]) (some ([2],[2,30,63]))/\SX 69 (EF 47) [oq 8 (.alloc 4),os (.sto 4 (tq 8) (cb false))] [2,7] [2,7,24,25,26,28,30,63,800,801,802,803,804]/\SX 69 (EF 159) [ol 29 40 2,od 30 185 [tq 29,.const (.slice none 0 0)]] [2,7,8] [2,7,8,24,25,26,28,30,63,800,801,802,803,804]/\SX 69 (EF 607) [om 9 31] [7,8,31] [2,7,8,24,25,26,28,30,63,800,801,802,803,804]/\SX 69 (EF 2399) [os (.sto 4 (tq 8) (cb true))] [7,8,9] [2,7,8,24,25,26,28,30,63,800,801,802,803,804]/\SX 69 (EF 5471) [om 32 9,oe 33 32 22,ok 34 0] [7,9] [2,7,24,25,26,28,30,63,800,801,802,803,804]/\SX 69 (EF 36191) [ob 35 .lss 3 34 33] [7,32,33,34] [2,7,24,25,26,28,30,63,800,801,802,803,804]/\SX 69 (EF 576863) [om 36 34,oi 37 22 32 34,ol 38 3 37,om 10 36,om 11 38] [7,32,33,34] [2,7,24,25,26,28,30,63,800,801,802,803,804]/\RX 69 (EF 2936159) (.drw [⟨[],[ol 49 233 7,oq 50 (.oth (.nilCheck (tq 49))),oz 51 250 50 1,ol 52 23 51,om 53 10,ol 54 233 7,oq 55 (.oth (.nilCheck (tq 54))),oz 56 250 55 1,ol 57 23 56,om 58 10,oi 59 23 57 58,oq 60 (.ldz 22 (tq 59)),om 61 11,oq 62 (.buildS 22 1 [(0,tq 61)]),oq 63 (.app [tq 60,tq 62] [22,22]),oi 64 23 52 53],[os (.sto 22 (tq 64) (tq 63))]⟩]) (some ([7,10,11,32,33,34],[2,7,24,25,26,28,30,63,800,801,802,803,804]))/\SX 69 (EF 319) [ol 66 4 8,ou 67 66] [7,8] [2,7,8,24,25,26,28,30,63,800,801,802,803,804]/\SX 69 (EF 1215) [oq 4 (.mv (.const (.pointer none))),ok 5 11] [] []/\LX 69 KH [7,32,33,34] [2,7,24,25,26,28,30,63,800,801,802,803,804]:=by and_intros<;>first|exact rx|exact lx|exact fun _ _=>rfl
def eM:=rg Tryz.f68
@[simp] def APX:bq:=(lp (eM 267) 28 0 1 (eM 587) (eM 459))
def ZL:=APX
@[simp] def APY:bq:=(lp (eM 535) 46 2 3 (eM 1175) (eM 919))
def ZM:=APY
def c68:bq:=(.seq (eM 2) (.seq (eM 5) (.seq (.seq (eM 19) (.block 0 (.loop ZL))) (.seq (.seq (eM 39) (.block 2 (.loop ZM))) (.seq (eM 47) .ret)))))
theorem b68:Tryz.f68.body=some c68:=by kernel_rfl
@[simp] theorem x68:UX 68 ZL APX/\UX 68 ZM APY/\SX 68 (eM 2) [oq 1 (.box (tq 0)),oq 2 (.alloc 40)] [0] [1,2,3,16,19,22,40,65]/\RX 68 (eM 5) (.drw [⟨[3],[oz 6 27 1 0,oq 7 (.ldz 3 (tq 6)),oz 8 27 1 1,oq 9 (.ldz 3 (tq 8)),oz 10 27 1 2,oq 11 (.ldz 3 (tq 10)),oz 12 27 1 3,oq 13 (.ldz 3 (tq 12)),oz 14 27 1 4,oq 15 (.ldz 22 (tq 14)),od 16 114 [tq 15],oz 17 27 1 5,oq 18 (.ldz 22 (tq 17)),od 19 114 [tq 18],oz 20 27 1 6,oq 21 (.ldz 23 (tq 20)),od 22 115 [tq 21],oq 23 (.build 40 [(0,tq 7),(1,tq 9),(2,tq 11),(3,tq 13),(4,tq 16),(5,tq 19),(6,tq 22)]),oq 3 (.alloc 40)],[os (.sto 40 (tq 3) (tq 23))]⟩]) (some ([1,2],[1,2,40,65]))/\SX 68 (eM 19) [ok 4 0] [1,2,3] [1,2,3,16,19,22,40,65]/\SX 68 (eM 267) [om 24 4,oz 25 27 1 7,ol 26 24 25,oe 27 26 24,ob 28 .lss 3 24 27] [1,2,3,4] [1,2,3,16,19,22,40,65]/\RX 68 (eM 587) (.drw [⟨[],[oz 31 40 3 7,oq 32 (.ldz 37 (tq 31)),oz 33 27 1 7,ol 34 24 33,om 35 4,oi 36 24 34 35,ol 37 59 36,od 38 48 [tq 37],oq 39 (.buildS 37 1 [(0,tq 38)]),oq 40 (.app [tq 32,tq 39] [37,37]),oz 41 40 3 7],[os (.sto 37 (tq 41) (tq 40))]⟩]) (some ([1,2,3,4],[1,2,3,16,19,22,40,65]))/\SX 68 (eM 459) [om 29 4,oc 30 .add 3 29 1,om 4 30] [1,2,3,4] [1,2,3,16,19,22,40,65]/\SX 68 (eM 39) [ok 5 0] [1,2,3] [1,2,3,16,19,22,40,65]/\SX 68 (eM 535) [om 42 5,oz 43 27 1 8,ol 44 25 43,oe 45 44 25,ob 46 .lss 3 42 45] [1,2,3,5] [1,2,3,16,19,22,40,65]/\RX 68 (eM 1175) (.drw [⟨[],[oz 49 40 3 8,oq 50 (.ldz 38 (tq 49)),oz 51 27 1 8,ol 52 25 51,om 53 5,oi 54 25 52 53,oz 55 188 54 0,ol 56 3 55,oz 57 27 1 8,ol 58 25 57,om 59 5,oi 60 25 58 59,oz 61 188 60 1,ol 62 3 61,oq 63 (.build 99 [(0,tq 56),(1,tq 62)]),oq 64 (.buildS 38 1 [(0,tq 63)]),oq 65 (.app [tq 50,tq 64] [38,38]),oz 66 40 3 8],[os (.sto 38 (tq 66) (tq 65))]⟩]) (some ([1,2,3,5],[1,2,3,16,19,22,40,65]))/\SX 68 (eM 919) [om 47 5,oc 48 .add 3 47 1,om 5 48] [1,2,3,5] [1,2,3,16,19,22,40,65]/\SX 68 (eM 47) [ol 67 40 3,os (.sto 40 (tq 2) (tq 67))] [2,3] [1,2,3,16,19,22,40,65]/\LX 68 ZL [1,2,3,4] [1,2,3,16,19,22,40,65]/\LX 68 ZM [1,2,3,5] [1,2,3,16,19,22,40,65]:=by and_intros<;>first|exact rx|exact lx|exact fun _ _=>rfl
def JB:=rg Tryz.f157
@[simp] def AEW:bq:=(.seq (JB 71269) (.seq (.cond (.tmp 28) .skip (.exit 2)) (.seq (.block 3 (.seq (JB 1152613) (JB 1676901))) (JB 497253))))
def TR:=AEW
@[simp] def AEX:bq:=(.seq (JB 69) (.seq (.cond (.tmp 20) .skip (.exit 0)) (.seq (.block 1 (.seq (JB 1125) (.seq (JB 2661) (.seq (.seq (JB 9829) (.block 2 (.loop TR))) (JB 7781))))) (JB 485))))
def TS:=AEX
def A6M:bq:=(.seq (JB 2) (.seq (.seq (JB 9) (.block 0 (.loop TS))) (.seq (JB 11) .ret)))
theorem BHQ:Tryz.f157.body=some A6M:=by kernel_rfl
@[simp] theorem BP9:UX 66 TR AEW/\UX 66 TS AEX/\SX 66 (JB 2) [oq 4 (.box (tq 0)),oq 7 (.box (tq 3)),oq 8 (.alloc 207)] [0,1,2,3] [4]/\SX 66 (JB 9) [om 14 1,oq 15 (.oth (.nilCheck (tq 14))),oz 16 250 15 1,ol 17 23 16,oe 18 17 23,ok 19 0] [1,2,4,7,8] [4,7,8]/\SX 66 (JB 69) [ob 20 .lss 3 19 18] [1,2,4,7,8,17,18,19] [4,7,8]/\SX 66 (JB 1125) [om 21 19,oi 22 23 17 19,ol 23 22 22,om 9 21,om 10 23] [1,2,4,7,8,17,18,19] [4,7,8]/\SX 66 (JB 2661) [oq 24 (.build 207 [(0,ci 1),(1,ci 0)]),oq 11 (.alloc 207),os (.sto 207 (tq 11) (tq 24))] [1,2,4,7,8,9,10,17,18,19] [4,7,8]/\SX 66 (JB 9829) [om 25 10,oe 26 25 22,ok 27 0] [1,2,4,7,8,9,10,11,17,18,19] [4,7,8,11]/\SX 66 (JB 71269) [ob 28 .lss 3 27 26] [1,2,4,7,8,9,11,17,18,19,25,26,27] [4,7,8,11]/\SX 66 (JB 1152613) [oi 29 22 25 27,ol 30 3 29,om 13 30] [1,2,4,7,8,9,11,17,18,19,25,26,27] [4,7,8,11]/\RX 66 (JB 1676901) (.drw [⟨[],[oq 31 (.ldz 207 (tq 11)),oz 32 238 4 0,oq 33 (.ldz 236 (tq 32)),om 34 1,oq 35 (.oth (.nilCheck (tq 34))),oz 36 250 35 0,oq 37 (.ldz 40 (tq 36)),oq 38 (.ldz 86 (tq 7)),om 39 9,om 40 2,om 41 9,oi 42 23 40 41,oq 43 (.ldz 22 (tq 42)),oz 44 86 7 0,oq 45 (.ldz 3 (tq 44)),oi 46 22 43 45,oq 47 (.ldz 3 (tq 46)),om 48 13,od 49 153 [tq 37,tq 38,tq 39,tq 47,tq 48],oq 50 (.call false none (tq 33) [tq 49])],[oq 51 (.call true none (.func 186) [tq 31,tq 50])]⟩,⟨[],[],[os (.sto 207 (tq 11) (tq 51))]⟩]) (some ([1,2,4,7,8,9,11,13,17,18,19,25,26,27],[4,7,8,11]))/\SX 66 (JB 497253) [oc 52 .add 3 27 1,om 27 52] [1,2,4,7,8,9,11,17,18,19,25,26,27] [4,7,8,11]/\SX 66 (JB 7781) [oz 53 207 8 0,ol 54 3 53,oz 55 207 11 0,ol 56 3 55,ob 57 .add 3 54 56,oz 58 207 8 1,ol 59 3 58,oz 60 207 11 1,ol 61 3 60,ob 62 .add 3 59 61,oq 63 (.build 207 [(0,tq 57),(1,tq 62)]),os (.sto 207 (tq 8) (tq 63))] [1,2,4,7,8,11,17,18,19] [4,7,8,11]/\SX 66 (JB 485) [oc 64 .add 3 19 1,om 19 64] [1,2,4,7,8,17,18,19] [4,7,8]/\SX 66 (JB 11) [ol 65 207 8,os (.sto 207 (tq 8) (tq 65))] [8] [8]/\LX 66 TS [1,2,4,7,8,17,18,19] [4,7,8]/\LX 66 TR [1,2,4,7,8,9,11,17,18,19,25,26,27] [4,7,8,11]:=by and_intros<;>first|exact rx|exact lx|exact fun _ _=>rfl
def ALO:=rg Tryz.f156
def A6N:bq:=(.seq (ALO 2) (.seq (ALO 5) .ret))
theorem BHR:Tryz.f156.body=some A6N:=by kernel_rfl
@[simp] theorem BQA:SX 5 (ALO 2) [oq 1 (.box (tq 0)),ok 2 0] [0] [1]/\SX 5 (ALO 5) [oz 3 155 1 1,ol 4 3 3,om 2 4] [0,1,2] [1,2]:=⟨rx,rx⟩
def ALP:=rg Tryz.f158
def A6O:bq:=(.seq (ALP 2) (.seq (ALP 5) .ret))
theorem BHS:Tryz.f158.body=some A6O:=by kernel_rfl
@[simp] theorem BQB:SX 5 (ALP 2) [oq 1 (.box (tq 0)),ok 2 0] [0] [1]/\SX 5 (ALP 5) [oz 3 155 1 2,ol 4 3 3,om 2 4] [0,1,2] [1,2]:=⟨rx,rx⟩
def EO:=rg Tryz.f117
@[simp] def xG:bq:=(.seq (EO 583840559) (.seq (.cond (.tmp 42) .skip (.exit 4)) (.seq (.block 5 (.seq (EO 9442210607) (EO 13737177903))) (EO 4073501487))))
def O1:=xG
@[simp] def xH:bq:=(.seq (EO 570159) (.seq (.cond (.tmp 34) .skip (.exit 2)) (.seq (.block 3 (.seq (EO 9220911) (.seq (EO 21803823) (.seq (.seq (EO 80524079) (.block 4 (.loop O1))) (EO 63746863))))) (EO 3978031))))
def O2:=xH
@[simp] def AEY:bq:=(.seq (EO 559) (.seq (.cond (.tmp 26) .skip (.exit 0)) (.seq (.block 1 (.seq (EO 9007) (.seq (EO 21295) (.seq (.seq (EO 78639) (.block 2 (.loop O2))) (EO 62255))))) (EO 3887))))
def TU:=AEY
def AEZ:bq:=(.seq (EO 2) (.seq (EO 5) (.seq (.seq (EO 19) (.cond (.tmp 21) (.seq (EO 75) .ret) .skip)) (.seq (EO 23) (.seq (.seq (EO 79) (.block 0 (.loop TU))) (.seq (EO 95) .ret))))))
theorem BHT:Tryz.f117.body=some AEZ:=by kernel_rfl
@[simp] theorem BHU(n:Nat)(st:XS):AE bk ann kn (n+1) 90 (EO 23) st=OR (JM bk (BO bk ann kn n) (.str [oq 8 (.mv (.const (.slice none 0 0)))]) (CK (some ([2,3,6],[2,3,17,900,901,902])) (LU [902] st))) :=
 DG (by kernel_rfl) (by kernel_rfl) (by kernel_rfl) (by kernel_rfl) (by kernel_rfl)
@[simp] theorem BDY(n:Nat)(st:XS):AE bk ann kn (n+1) 90 (EO 62255) st=OR (JM bk (BO bk ann kn n) (.str [om 84 8,om 85 10,oq 86 (.buildS 197 1 [(0,tq 85)]),oq 87 (.app [tq 84,tq 86] [197,197]),om 8 87]) (CK (some ([2,3,6,8,10,24,25],[2,3,17,30,87])) (LU [30] st))) :=
 DG (by kernel_rfl) (by kernel_rfl) (by kernel_rfl) (by kernel_rfl) (by kernel_rfl)
@[simp] theorem BQC:UX 90 O1 xG/\UX 90 O2 xH/\UX 90 TU AEY/\SX 90 (EO 2) [oq 2 (.box (tq 0)),oq 3 (.box (tq 1)),oq 4 (.mv (.const (.slice none 0 0))),ok 5 0] [0,1] [2,3,17,900,901,902]/\SX 90 (EO 5) [ol 15 40 2,oq 16 (.oth (.makeFunc (.func 155) #[] #[tq 2,tq 3])),od 17 154 [tq 15,tq 16],om 14 17,oq 18 (.oth (.extract (tq 14) 0)),oq 19 (.oth (.extract (tq 14) 1)),om 6 18,om 7 19] [2,3] [2,3,17,900,901,902]/\SX 90 (EO 19) [om 20 7,oc 21 .neq 34 20 0] [2,3,6,7] [2,3,17,900,901,902]/\SX 90 (EO 75) [om 22 7,oq 4 (.mv (.const (.slice none 0 0))),om 5 22] [7] []/\SX 90 (EO 79) [oz 23 40 2 1,ol 24 3 23,ok 25 0] [2,3,6,8] [2,3,17,87]/\SX 90 (EO 559) [ob 26 .lss 3 25 24] [2,3,6,8,24,25] [2,3,17,87]/\SX 90 (EO 9007) [om 27 25,om 9 27] [2,3,6,8,24,25] [2,3,17,87]/\SX 90 (EO 21295) [oz 28 40 2 2,ol 29 3 28,oq 30 (.mkS 204 (tq 29) (tq 29)),om 10 30] [2,3,6,8,9,24,25] [2,3,17,87]/\SX 90 (EO 78639) [om 31 10,oe 32 31 204,ok 33 0] [2,3,6,8,9,10,24,25] [2,3,17,30,87]/\SX 90 (EO 570159) [ob 34 .lss 3 33 32] [2,3,6,8,9,10,24,25,32,33] [2,3,17,30,87]/\SX 90 (EO 9220911) [om 35 33,om 11 35] [2,3,6,8,9,10,24,25,32,33] [2,3,17,30,87]/\SX 90 (EO 21803823) [om 36 9,om 37 11,oq 38 (.build 86 [(0,tq 36),(1,tq 37)]),oq 12 (.alloc 86),os (.sto 86 (tq 12) (tq 38))] [2,3,6,8,9,10,11,24,25,32,33] [2,3,17,30,87]/\SX 90 (EO 80524079) [ol 39 23 3,oe 40 39 23,ok 41 0] [2,3,6,8,9,10,11,12,24,25,32,33] [2,3,12,17,30,87]/\SX 90 (EO 583840559) [ob 42 .lss 3 41 40] [2,3,6,8,9,10,11,12,24,25,32,33,40,41] [2,3,12,17,30,87]/\SX 90 (EO 9442210607) [om 43 41,om 13 43] [2,3,6,8,9,10,11,12,24,25,32,33,40,41] [2,3,12,17,30,87]/\RX 90 (EO 13737177903) (.drw [⟨[],[om 44 10,om 45 11,oi 46 204 44 45,oz 47 209 46 0,oq 48 (.ldz 3 (tq 47)),oq 49 (.ldz 40 (tq 2)),oq 50 (.ldz 86 (tq 12)),om 51 13,oq 52 (.ldz 23 (tq 3)),om 53 13,oi 54 23 52 53,oq 55 (.ldz 22 (tq 54)),om 56 9,oi 57 22 55 56,oq 58 (.ldz 3 (tq 57)),od 59 153 [tq 49,tq 50,tq 51,tq 58,ci 0],oq 60 (.oth (.field 155 (tq 59) 0)),ob 61 .add 3 48 60,oi 62 204 44 45,oz 63 209 62 0,os (.sto 3 (tq 63) (tq 61))],[]⟩]) (some ([2,3,6,8,9,10,11,12,13,24,25,32,33,40,41],[2,3,12,17,30,87]))/\SX 90 (EO 4073501487) [oc 64 .add 3 41 1,om 41 64] [2,3,6,8,9,10,11,12,24,25,32,33,40,41] [2,3,12,17,30,87]/\RX 90 (EO 63746863) (.drw [⟨[73,78],[om 65 10,om 66 11,om 67 10,om 68 11,oq 69 (.build 238 [(0,.func 156)]),om 70 6,oq 71 (.ldz 23 (tq 3)),oq 72 (.ldz 86 (tq 12)),oq 74 (.build 238 [(0,.func 158)]),om 75 6,ol 76 23 3,ol 77 86 12,oq 73 (.call true none (.func 157) [tq 69,tq 70,tq 71,tq 72]),oq 78 (.call true none (.func 157) [tq 74,tq 75,tq 76,tq 77]),oi 79 204 65 66,oz 80 209 79 1,os (.sto 207 (tq 80) (tq 73)),oi 81 204 67 68,oz 82 209 81 2,os (.sto 207 (tq 82) (tq 78))],[]⟩]) (some ([2,3,6,8,9,10,11,12,24,25,32,33],[2,3,12,17,30,87]))/\SX 90 (EO 3978031) [oc 83 .add 3 33 1,om 33 83] [2,3,6,8,9,10,24,25,32,33] [2,3,17,30,87]/\SX 90 (EO 3887) [oc 88 .add 3 25 1,om 25 88] [2,3,6,8,24,25] [2,3,17,87]/\SX 90 (EO 95) [om 89 8,om 4 89,ok 5 0] [8] [87]/\LX 90 TU [2,3,6,8,24,25] [2,3,17,87]/\LX 90 O2 [2,3,6,8,9,10,24,25,32,33] [2,3,17,30,87]/\LX 90 O1 [2,3,6,8,9,10,11,12,24,25,32,33,40,41] [2,3,12,17,30,87]:=by and_intros<;>first|exact rx|exact lx|exact fun _ _=>rfl
def ALQ:=rg Tryz.f155
def A6P:bq:=(.seq (ALQ 2) (.seq (ALQ 5) .ret))
theorem b155:Tryz.f155.body=some A6P:=by kernel_rfl
@[simp] theorem BQD:SX 6 (ALQ 2) [ot 2 false] [0,1] []/\SX 6 (ALQ 5) [ol 3 40 0,ol 4 23 1,od 5 111 [tq 3,tq 4],om 2 5] [0,1] []:=⟨rx,rx⟩
def Q2:=rg Tryz.f187
@[simp] def AE0:bq:=(.seq (Q2 69) (.seq (.cond (.tmp 9) .skip (.exit 0)) (.seq (.block 1 (.seq (Q2 1125) (.seq (Q2 2661) (.cond (.tmp 16) (.seq (Q2 9829) .ret) .skip)))) (Q2 485))))
def TV:=AE0
def ATW:bq:=(.seq (Q2 2) (.seq (.seq (Q2 9) (.block 0 (.loop TV))) (.seq (Q2 11) .ret)))
theorem b187:Tryz.f187.body=some ATW:=by kernel_rfl
@[simp] theorem BQE:UX 19 TV AE0/\SX 19 (Q2 2) [ok 4 0] [0,1] []/\SX 19 (Q2 9) [om 6 0,oe 7 6 28,ok 8 0] [0,1] []/\SX 19 (Q2 69) [ob 9 .lss 3 8 7] [0,1,7,8] []/\SX 19 (Q2 1125) [om 10 8,om 5 10] [0,1,7,8] []/\SX 19 (Q2 2661) [om 11 1,om 12 0,om 13 5,oi 14 28 12 13,ol 15 97 14,oq 16 (.call false none (tq 11) [tq 15])] [0,1,5,7,8] []/\SX 19 (Q2 9829) [om 17 5,om 4 17] [5] []/\SX 19 (Q2 485) [oc 18 .add 3 8 1,om 8 18] [0,1,3,7,8] []/\SX 19 (Q2 11) [oq 4 (.mv (.const (.int .i64 (bj 0))))] [] []/\LX 19 TV [0,1,7,8] []:=⟨fun _ _=>rfl,rx,rx,rx,rx,rx,rx,rx,rx,lx⟩
def ALR:=rg Tryz.f159
def A6Q:bq:=(.seq (ALR 2) (.seq (ALR 5) .ret))
theorem b159:Tryz.f159.body=some A6Q:=by kernel_rfl
@[simp] theorem BQF:SX 9 (ALR 2) [ot 4 false] [0,1] [7]/\SX 9 (ALR 5) [om 5 0,om 6 1,od 7 187 [tq 5,tq 6],oc 8 .geq 3 7 0,om 4 8] [0,1,2,3] [2,3]:=⟨rx,rx⟩
def ALS:=rg Tryz.f119
def A6R:bq:=(.seq (ALS 2) (.seq (ALS 5) .ret))
theorem BHV:Tryz.f119.body=some A6R:=by kernel_rfl
@[simp] theorem BQG:SX 9 (ALS 2) [oq 3 (.box (tq 1)),ot 4 false] [0,1,2] [3]/\SX 9 (ALS 5) [om 5 0,oq 6 (.oth (.makeFunc (.func 160) #[] #[tq 3])),od 7 159 [tq 5,tq 6],ou 8 7,om 4 8] [0,1,2,3] [2,3]:=⟨rx,rx⟩
def ALT:=rg Tryz.f160
def A6S:bq:=(.seq (ALT 2) (.seq (ALT 5) .ret))
theorem b160:Tryz.f160.body=some A6S:=by kernel_rfl
@[simp] theorem BQH:SX 8 (ALT 2) [ot 3 false] [0,1] []/\SX 8 (ALT 5) [ol 4 200 1,om 5 0,oq 6 (.call false none (tq 4) [tq 5]),ou 7 6,om 3 7] [0,1,2] [2]:=⟨rx,rx⟩
def Q3:=rg Tryz.f188
@[simp] def AE1:bq:=(.seq (Q3 69) (.seq (.cond (.tmp 9) .skip (.exit 0)) (.seq (.block 1 (.seq (Q3 1125) (.seq (Q3 2661) (.cond (.tmp 16) (.seq (Q3 9829) .ret) .skip)))) (Q3 485))))
def TW:=AE1
def ATX:bq:=(.seq (Q3 2) (.seq (.seq (Q3 9) (.block 0 (.loop TW))) (.seq (Q3 11) .ret)))
theorem b188:Tryz.f188.body=some ATX:=by kernel_rfl
@[simp] theorem BQI:UX 19 TW AE1/\SX 19 (Q3 2) [ok 4 0] [0,1] []/\SX 19 (Q3 9) [om 6 0,oe 7 6 41,ok 8 0] [0,1] []/\SX 19 (Q3 69) [ob 9 .lss 3 8 7] [0,1,7,8] []/\SX 19 (Q3 1125) [om 10 8,om 5 10] [0,1,7,8] []/\SX 19 (Q3 2661) [om 11 1,om 12 0,om 13 5,oi 14 41 12 13,ol 15 94 14,oq 16 (.call false none (tq 11) [tq 15])] [0,1,5,7,8] []/\SX 19 (Q3 9829) [om 17 5,om 4 17] [5] []/\SX 19 (Q3 485) [oc 18 .add 3 8 1,om 8 18] [0,1,3,7,8] []/\SX 19 (Q3 11) [oq 4 (.mv (.const (.int .i64 (bj 0))))] [] []/\LX 19 TW [0,1,7,8] []:=⟨fun _ _=>rfl,rx,rx,rx,rx,rx,rx,rx,rx,lx⟩
def ALU:=rg Tryz.f161
def A6T:bq:=(.seq (ALU 2) (.seq (ALU 5) .ret))
theorem b161:Tryz.f161.body=some A6T:=by kernel_rfl
@[simp] theorem BQJ:SX 9 (ALU 2) [ot 4 false] [0,1] [7]/\SX 9 (ALU 5) [om 5 0,om 6 1,od 7 188 [tq 5,tq 6],oc 8 .geq 3 7 0,om 4 8] [0,1,2,3] [2,3]:=⟨rx,rx⟩
def ALV:=rg Tryz.f120
def A6U:bq:=(.seq (ALV 2) (.seq (ALV 5) .ret))
theorem BHW:Tryz.f120.body=some A6U:=by kernel_rfl
@[simp] theorem BQK:SX 9 (ALV 2) [oq 3 (.box (tq 1)),ot 4 false] [0,1,2] [3]/\SX 9 (ALV 5) [om 5 0,oq 6 (.oth (.makeFunc (.func 162) #[] #[tq 3])),od 7 161 [tq 5,tq 6],ou 8 7,om 4 8] [0,1,2,3] [2,3]:=⟨rx,rx⟩
def ALW:=rg Tryz.f162
def A6V:bq:=(.seq (ALW 2) (.seq (ALW 5) .ret))
theorem b162:Tryz.f162.body=some A6V:=by kernel_rfl
@[simp] theorem BQL:SX 8 (ALW 2) [oq 2 (.box (tq 0)),ot 3 false] [0,1] []/\SX 8 (ALW 5) [ol 4 203 1,ol 5 94 2,oq 6 (.call false none (tq 4) [tq 5]),ou 7 6,om 3 7] [0,1,2] [2]:=⟨rx,rx⟩
def ALX:=rg Tryz.f163
def A6W:bq:=(.seq (ALX 2) (.seq (ALX 5) .ret))
theorem BHX:Tryz.f163.body=some A6W:=by kernel_rfl
@[simp] theorem BQM:SX 15 (ALX 2) [ot 6 false] [0,1,2] []/\SX 15 (ALX 5) [om 7 1,om 8 0,ob 9 .leq 3 7 8,om 10 9,gm 10 true 11 0,gm 10 true 12 2,gb 10 true 13 .leq 3 11 12,oq 14 (.pick (tq 10) (tq 13) (cb false)),om 6 14] [0,1,2] []:=⟨rx,rx⟩
def ALY:=rg Tryz.f121
def A6X:bq:=(.seq (ALY 2) (.seq (ALY 5) .ret))
theorem BHY:Tryz.f121.body=some A6X:=by kernel_rfl
@[simp] theorem BQN:SX 11 (ALY 2) [oq 1 (.box (tq 0)),ot 2 false] [0] [1,7,910,911]/\SX 11 (ALY 5) [oz 3 94 1 0,ol 4 3 3,od 5 163 [tq 4,ci 1,ci 4],om 6 5,gz 6 true 7 94 1 1,gl 6 true 8 3 7,gd 6 true 9 163 [tq 8,ci 0,ci 5],oq 10 (.pick (tq 6) (tq 9) (cb false)),om 2 10] [1] [1]:=⟨rx,rx⟩
def ALZ:=rg Tryz.f118
def A6Y:bq:=(.seq (ALZ 2) (.seq (ALZ 5) .ret))
theorem BHZ:Tryz.f118.body=some A6Y:=by kernel_rfl
@[simp] theorem BQO:SX 11 (ALZ 2) [oq 2 (.box (tq 0)),ot 4 false] [0,1] [2]/\SX 11 (ALZ 5) [om 5 1,oe 6 5 97,oz 7 43 2 0,oz 8 40 7 2,ol 9 3 8,ob 10 .eql 3 6 9,om 4 10] [1,2] [2]:=⟨rx,rx⟩
def LH:=rg Tryz.f71
@[simp] def AE2:bq:=(.seq (LH 4561279) (.seq (.cond (.tmp 63) .skip (.exit 2)) (.seq (.block 3 (.seq (LH 73767295) (LH 107321727))) (LH 31824255))))
def TX:=AE2
@[simp] def AE3:bq:=(.seq (LH 4479) (.seq (.cond (.tmp 57) .skip (.exit 0)) (.seq (.block 1 (.seq (LH 72063) (.seq (LH 170367) (.seq (.seq (LH 629119) (.block 2 (.loop TX))) (LH 498047))))) (LH 31103))))
def TY:=AE3
def c71:bq:=(.seq (LH 2) (.seq (.seq (LH 9) (.cond (.tmp 16) (.seq (LH 37) .ret) .skip)) (.seq (LH 11) (.seq (.seq (LH 39) (.cond (.tmp 26) (.seq (LH 151) .ret) .skip)) (.seq (LH 47) (.seq (.seq (LH 159) (.cond (.tmp 49) (.seq (LH 607) .ret) .skip)) (.seq (LH 191) (.seq (.seq (LH 639) (.block 0 (.loop TY))) (.seq (LH 767) .ret)))))))))
theorem b71:Tryz.f71.body=some c71:=by kernel_rfl
@[simp] theorem BH0(n:Nat)(st:XS):AE bk ann kn (n+1) 85 (LH 767) st=OR (JM bk (BO bk ann kn n) (.str [om 84 7,om 2 84,ok 3 0]) (CK (some ([7],[1,22,51,53,80])) (LU [80,911051,912053] st))) :=
 DG (by kernel_rfl) (by kernel_rfl) (by kernel_rfl) (by kernel_rfl) (by kernel_rfl)
@[simp] theorem x71:UX 85 TX AE2/\UX 85 TY AE3/\SX 85 (LH 2) [oq 1 (.box (tq 0)),oq 2 (.mv (.const (.pointer none))),ok 3 0] [0] [1,22,51,53,80]/\SX 85 (LH 9) [oz 13 43 1 3,ol 14 41 13,oe 15 14 41,oc 16 .gtr 3 15 3] [1] [1,22,51,53,80]/\SX 85 (LH 37) [oq 2 (.mv (.const (.pointer none))),ok 3 3] [] []/\SX 85 (LH 11) [oz 18 43 1 0,ol 19 40 18,oz 20 43 1 1,ol 21 23 20,od 22 117 [tq 19,tq 21],om 17 22,oq 23 (.oth (.extract (tq 17) 0)),oq 24 (.oth (.extract (tq 17) 1)),om 4 23,om 5 24] [1] [1,22,51,53,80]/\SX 85 (LH 39) [om 25 5,oc 26 .neq 34 25 0] [1,4,5] [1,22,51,53,80]/\SX 85 (LH 151) [om 27 5,oq 2 (.mv (.const (.pointer none))),om 3 27] [5] []/\SX 85 (LH 47) [ol 28 43 1,oq 29 (.oth (.makeFunc (.func 118) #[tq 28] #[])),om 6 29] [1,4] [1,22,51,53,80]/\SX 85 (LH 159) [oz 30 43 1 2,ol 31 28 30,oe 32 31 28,oz 33 43 1 0,oz 34 40 33 1,ol 35 3 34,ob 36 .neq 3 32 35,om 37 36,gz 37 false 38 43 1 2,gl 37 false 39 28 38,gm 37 false 40 6,gd 37 false 41 119 [tq 39,tq 40],og 37 false 42 (.oth (.unOp .not 4 (tq 41))),oq 43 (.pick (tq 37) (cb true) (tq 42)),om 44 43,gz 44 false 45 43 1 3,gl 44 false 46 41 45,gd 44 false 47 120 [tq 46,.func 121],og 44 false 48 (.oth (.unOp .not 4 (tq 47))),oq 49 (.pick (tq 44) (cb true) (tq 48))] [1,4,6] [1,22,51,53,80]/\SX 85 (LH 607) [oq 2 (.mv (.const (.pointer none))),ok 3 1] [] []/\SX 85 (LH 191) [ol 50 43 1,oq 51 (.mkM none),oq 52 (.build 175 [(0,tq 50),(1,.const (.slice none 0 0)),(2,tq 51)]),oq 53 (.box (tq 52)),om 7 53] [1,4] [1,22,51,53,80]/\SX 85 (LH 639) [om 54 4,oe 55 54 197,ok 56 0] [4,7] [1,22,51,53,80]/\SX 85 (LH 4479) [ob 57 .lss 3 56 55] [7,54,55,56] [1,22,51,53,80]/\SX 85 (LH 72063) [oi 58 197 54 56,ol 59 204 58,om 9 59] [7,54,55,56] [1,22,51,53,80]/\SX 85 (LH 170367) [oq 10 (.alloc 206)] [7,9,54,55,56] [1,22,51,53,80]/\SX 85 (LH 629119) [om 60 9,oe 61 60 204,ok 62 0] [7,9,10,54,55,56] [1,10,22,51,53,80]/\SX 85 (LH 4561279) [ob 63 .lss 3 62 61] [7,10,54,55,56,60,61,62] [1,10,22,51,53,80]/\SX 85 (LH 73767295) [om 64 62,oi 65 204 60 62,ol 66 209 65,oq 12 (.alloc 209),om 11 64,os (.sto 209 (tq 12) (tq 66))] [7,10,54,55,56,60,61,62] [1,10,22,51,53,80]/\SX 85 (LH 107321727) [om 67 11,oz 68 209 12 2,oz 69 207 68 0,ol 70 3 69,oi 71 206 10 67,os (.sto 3 (tq 71) (tq 70))] [7,10,11,12,54,55,56,60,61,62] [1,10,12,22,51,53,80]/\SX 85 (LH 31824255) [oc 72 .add 3 62 1,om 62 72] [7,10,54,55,56,60,61,62] [1,10,22,51,53,80]/\RX 85 (LH 498047) (.drw [⟨[],[om 73 7,om 74 7,oq 75 (.oth (.nilCheck (tq 74))),oz 76 175 75 1,oq 77 (.ldz 172 (tq 76)),ol 78 206 10,oq 79 (.buildS 172 1 [(0,tq 78)]),oq 80 (.app [tq 77,tq 79] [172,172]),oq 81 (.oth (.nilCheck (tq 73))),oz 82 175 81 1,os (.sto 172 (tq 82) (tq 80))],[]⟩]) (some ([7,10,54,55,56],[1,10,22,51,53,80]))/\SX 85 (LH 31103) [oc 83 .add 3 56 1,om 56 83] [7,54,55,56] [1,22,51,53,80]/\LX 85 TY [7,54,55,56] [1,22,51,53,80]/\LX 85 TX [7,10,54,55,56,60,61,62] [1,10,22,51,53,80]:=by and_intros<;>first|exact rx|exact lx|exact fun _ _=>rfl
def g24:=rg Tryz.f24
def c24:bq:=(.seq (g24 2) (.seq (g24 5) (.seq (g24 11) .ret)))
def Q4:=rg Tryz.f189
@[simp] def AE4:bq:=(.seq (Q4 69) (.seq (.cond (.tmp 9) .skip (.exit 0)) (.seq (.block 1 (.seq (Q4 1125) (.seq (Q4 2661) (.cond (.tmp 16) (.seq (Q4 9829) .ret) .skip)))) (Q4 485))))
def M6:=AE4
def AA8:bq:=(.seq (Q4 2) (.seq (.seq (Q4 9) (.block 0 (.loop M6))) (.seq (Q4 11) .ret)))
theorem b189:Tryz.f189.body=some AA8:=by kernel_rfl
@[simp] theorem BQP:UX 19 M6 AE4/\SX 19 (Q4 2) [ok 4 0] [0,1] []/\SX 19 (Q4 9) [om 6 0,oe 7 6 120,ok 8 0] [0,1] []/\SX 19 (Q4 69) [ob 9 .lss 3 8 7] [0,1,7,8] []/\SX 19 (Q4 1125) [om 10 8,om 5 10] [0,1,7,8] []/\SX 19 (Q4 2661) [om 11 1,om 12 0,om 13 5,oi 14 120 12 13,ol 15 153 14,oq 16 (.call false none (tq 11) [tq 15])] [0,1,5,7,8] []/\SX 19 (Q4 9829) [om 17 5,om 4 17] [5] []/\SX 19 (Q4 485) [oc 18 .add 3 8 1,om 8 18] [0,1,3,7,8] []/\SX 19 (Q4 11) [oq 4 (.mv (.const (.int .i64 (bj 0))))] [] []/\LX 19 M6 [0,1,7,8] []:=⟨fun _ _=>rfl,rx,rx,rx,rx,rx,rx,rx,rx,lx⟩
def AL1:=rg Tryz.f171
def AL2:bq:=(.seq (AL1 2) (.seq (AL1 5) .ret))
theorem b171:Tryz.f171.body=some AL2:=by kernel_rfl
@[simp] theorem BQQ:SX 9 (AL1 2) [ot 4 false] [0,1] [7]/\SX 9 (AL1 5) [om 5 0,om 6 1,od 7 189 [tq 5,tq 6],oc 8 .geq 3 7 0,om 4 8] [0,1,2,3] [2,3]:=⟨rx,rx⟩
def AL3:=rg Tryz.f137
def AL4:bq:=(.seq (AL3 2) (.seq (AL3 5) .ret))
theorem b137:Tryz.f137.body=some AL4:=by kernel_rfl
@[simp] theorem BQR:SX 9 (AL3 2) [oq 3 (.box (tq 1)),ot 4 false] [0,1,2] [3]/\SX 9 (AL3 5) [om 5 0,oq 6 (.oth (.makeFunc (.func 172) #[] #[tq 3])),od 7 171 [tq 5,tq 6],ou 8 7,om 4 8] [0,1,2,3] [2,3]:=⟨rx,rx⟩
def AL5:=rg Tryz.f172
def ATY:bq:=(.seq (AL5 2) (.seq (AL5 5) .ret))
theorem b172:Tryz.f172.body=some ATY:=by kernel_rfl
@[simp] theorem BQS:SX 8 (AL5 2) [oq 2 (.box (tq 0)),ot 3 false] [0,1] []/\SX 8 (AL5 5) [ol 4 221 1,ol 5 153 2,oq 6 (.call false none (tq 4) [tq 5]),ou 7 6,om 3 7] [0,1,2] [2]:=⟨rx,rx⟩
def AA9:=rg Tryz.f173
def A6Z:bq:=(.seq (AA9 2) (.seq (AA9 5) (.seq (AA9 11) .ret)))
theorem BH1:Tryz.f173.body=some A6Z:=by kernel_rfl
@[simp] theorem BQT:SX 38 (AA9 2) [oq 3 (.box (tq 0)),ot 6 false] [0,1,2] [3]/\RX 38 (AA9 5) (.drw [⟨[7,8],[oz 9 43 3 3,oq 10 (.ldz 41 (tq 9)),om 11 1,oi 12 41 10 11,oq 13 (.ldz 94 (tq 12)),oz 14 43 3 3,ol 15 41 14,om 16 2,oi 17 41 15 16,ol 18 94 17,oq 7 (.alloc 94),oq 8 (.alloc 94),os (.sto 94 (tq 7) (tq 13))],[os (.sto 94 (tq 8) (tq 18))]⟩]) (some ([1,2,3],[3]))/\SX 38 (AA9 11) [om 19 1,om 20 2,ob 21 .neq 3 19 20,om 22 21,gz 22 true 23 94 7 3,gl 22 true 24 4 23,gm 22 true 25 24,gz 25 true 26 94 8 2,gl 25 true 27 4 26,og 22 true 28 (.pick (tq 25) (tq 27) (cb false)),gm 22 true 29 28,gz 29 false 30 94 7 2,gl 29 false 31 4 30,gm 29 false 32 31,gz 32 true 33 94 8 3,gl 32 true 34 4 33,og 29 false 35 (.pick (tq 32) (tq 34) (cb false)),og 22 true 36 (.pick (tq 29) (cb true) (tq 35)),oq 37 (.pick (tq 22) (tq 36) (cb false)),om 6 37] [1,2,7,8] [7,8]:=⟨rx,rx,rx⟩
def AL6:=rg Tryz.f136
def A60:bq:=(.seq (AL6 2) (.seq (AL6 5) .ret))
theorem BH2:Tryz.f136.body=some A60:=by kernel_rfl
@[simp] theorem BQU:SX 26 (AL6 2) [oq 2 (.box (tq 0)),oq 3 (.box (tq 1)),ot 4 false] [0,1] [2]/\SX 26 (AL6 5) [oz 5 153 3 1,oz 6 86 5 0,ol 7 3 6,oz 8 43 2 0,oz 9 40 8 1,ol 10 3 9,oc 11 .sub 3 10 1,od 12 163 [tq 7,ci 0,tq 11],om 13 12,gz 13 true 14 153 3 1,gz 13 true 15 86 14 1,gl 13 true 16 3 15,gz 13 true 17 43 2 0,gz 13 true 18 40 17 2,gl 13 true 19 3 18,gz 13 true 20 153 3 0,gz 13 true 21 151 20 1,gl 13 true 22 3 21,gb 13 true 23 .sub 3 19 22,gd 13 true 24 163 [tq 16,ci 0,tq 23],oq 25 (.pick (tq 13) (tq 24) (cb false)),om 4 25] [2,3] [2,3]:=⟨rx,rx⟩
def eV:=rg Tryz.f139
def AE5:bq:=(.seq (eV 2) (.seq (.seq (eV 9) (.cond (.tmp 14) (.seq (eV 37) .ret) .skip)) (.seq (eV 11) (.seq (eV 23) .ret))))
theorem BH3:Tryz.f139.body=some AE5:=by kernel_rfl
@[simp] theorem BQV:SX 55 (eV 2) [oq 3 (.box (tq 0)),oq 4 (.box (tq 1)),oq 5 (.box (tq 2)),ot 6 false] [0,1,2] [3]/\SX 55 (eV 9) [oz 8 153 4 1,oz 9 86 8 0,ol 10 3 9,oz 11 153 5 1,oz 12 86 11 0,ol 13 3 12,ob 14 .neq 3 10 13] [3,4,5] [3,4,5]/\SX 55 (eV 37) [ot 6 true] [] []/\SX 55 (eV 11) [oz 15 153 4 1,oz 16 86 15 1,ol 17 3 16,oz 18 153 5 1,oz 19 86 18 1,ol 20 3 19,ob 21 .sub 3 17 20,oz 22 153 5 0,oz 23 151 22 1,ol 24 3 23,ob 25 .sub 3 21 24,oz 26 153 5 1,oz 27 86 26 1,ol 28 3 27,oz 29 153 4 1,oz 30 86 29 1,ol 31 3 30,ob 32 .sub 3 28 31,oz 33 153 4 0,oz 34 151 33 1,ol 35 3 34,ob 36 .sub 3 32 35,oq 37 (.oth (.call ⟨.builtin .max,#[tq 25,tq 36],#[3,3]⟩)),om 7 37] [3,4,5] [3,4,5]/\SX 55 (eV 23) [om 38 7,oc 39 .gtr 3 38 0,om 40 39,gm 40 false 41 7,gc 40 false 42 .eql 3 41 0,gm 40 false 43 42,gl 43 true 44 43 3,gz 43 true 45 153 4 0,gz 43 true 46 151 45 0,gl 43 true 47 3 46,gz 43 true 48 153 5 0,gz 43 true 49 151 48 0,gl 43 true 50 3 49,gd 43 true 51 173 [tq 44,tq 47,tq 50],og 43 true 52 (.oth (.unOp .not 4 (tq 51))),og 40 false 53 (.pick (tq 43) (tq 52) (cb false)),oq 54 (.pick (tq 40) (cb true) (tq 53)),om 6 54] [3,4,5,7] [3,4,5]:=⟨rx,rx,rx,rx,rx⟩
def J5:=rg Tryz.f140
@[simp] def AE6:bq:=(.seq (J5 18021) (.seq (.cond (.tmp 17) .skip (.exit 2)) (.seq (.block 3 (.seq (J5 288357) (.seq (J5 681573) (.cond (.tmp 20) (J5 1468005) .skip)))) (J5 124517))))
def TZ:=AE6
@[simp] def AE7:bq:=(.seq (J5 69) (.seq (.cond (.tmp 11) .skip (.exit 0)) (.seq (.block 1 (.seq (J5 1125) (.seq (J5 2661) (.block 2 (.loop TZ))))) (J5 485))))
def T1:=AE7
def A61:bq:=(.seq (J5 2) (.seq (.seq (J5 9) (.block 0 (.loop T1))) (.seq (J5 11) .ret)))
theorem BH4:Tryz.f140.body=some A61:=by kernel_rfl
@[simp] theorem BQW:UX 26 TZ AE6/\UX 26 T1 AE7/\SX 26 (J5 2) [oq 1 (.box (tq 0)),ok 2 0] [0] [1]/\SX 26 (J5 9) [oz 7 43 1 2,ol 8 28 7,oe 9 8 28,ok 10 0] [1,2] [1]/\SX 26 (J5 69) [ob 11 .lss 3 10 9] [2,8,9,10] [1]/\SX 26 (J5 1125) [oi 12 28 8 10,ol 13 97 12,om 4 13] [2,8,9,10] [1]/\SX 26 (J5 2661) [om 14 4,oe 15 14 97,ok 16 0] [2,4,8,9,10] [1]/\SX 26 (J5 18021) [ob 17 .lss 3 16 15] [2,8,9,10,14,15,16] [1]/\SX 26 (J5 288357) [oi 18 97 14 16,ol 19 4 18,om 6 19] [2,8,9,10,14,15,16] [1]/\SX 26 (J5 681573) [om 20 6] [2,6,8,9,10,14,15,16] [1]/\SX 26 (J5 1468005) [om 21 2,oc 22 .add 3 21 1,om 2 22] [2,8,9,10,14,15,16] [1]/\SX 26 (J5 124517) [oc 23 .add 3 16 1,om 16 23] [2,8,9,10,14,15,16] [1]/\SX 26 (J5 485) [oc 24 .add 3 10 1,om 10 24] [2,8,9,10] [1]/\SX 26 (J5 11) [om 25 2,om 2 25] [2] []/\LX 26 T1 [2,8,9,10] [1]/\LX 26 TZ [2,8,9,10,14,15,16] [1]:=by and_intros<;>first|exact rx|exact lx|exact fun _ _=>rfl
def lW:=rg Tryz.f92
@[simp] def APZ:bq:=(.seq (lW 69) (.seq (.cond (.tmp 11) .skip (.exit 0)) (.seq (.block 1 (.seq (lW 1125) (.seq (lW 2661) (.cond (.tmp 18) (lW 5733) .skip)))) (lW 485))))
def ZN:=APZ
def c92:bq:=(.seq (lW 2) (.seq (.seq (lW 9) (.block 0 (.loop ZN))) (.seq (lW 11) .ret)))
theorem b92:Tryz.f92.body=some c92:=by kernel_rfl
@[simp] theorem x92:UX 28 ZN APZ/\SX 28 (lW 2) [oq 2 (.box (tq 0)),oq 4 (.mv (.const (.slice none 0 0)))] [0,1] [2]/\SX 28 (lW 9) [oz 7 43 2 3,ol 8 41 7,oe 9 8 41,ok 10 0] [1,2,4] [2,25]/\SX 28 (lW 69) [ob 11 .lss 3 10 9] [1,4,8,9,10] [2,25]/\SX 28 (lW 1125) [om 12 10,oi 13 41 8 10,ol 14 94 13,oq 6 (.alloc 94),om 5 12,os (.sto 94 (tq 6) (tq 14))] [1,4,8,9,10] [2,25]/\SX 28 (lW 2661) [om 15 1,om 16 5,od 17 132 [tq 15,tq 16],ou 18 17] [1,4,5,6,8,9,10] [2,6,25]/\SX 28 (lW 5733) [om 19 4,om 20 5,oz 21 94 6 0,ol 22 3 21,oq 23 (.build 151 [(0,tq 20),(1,tq 22)]),oq 24 (.buildS 170 1 [(0,tq 23)]),oq 25 (.app [tq 19,tq 24] [170,170]),om 4 25] [1,4,5,6,8,9,10] [2,6,25]/\SX 28 (lW 485) [oc 26 .add 3 10 1,om 10 26] [1,4,8,9,10] [2,25]/\SX 28 (lW 11) [om 27 4,om 4 27] [4] [25]/\LX 28 ZN [1,4,8,9,10] [2,25]:=⟨fun _ _=>rfl,rx,rx,rx,rx,rx,rx,rx,rx,lx⟩
def MB:=rg Tryz.f109
@[simp] def AE8:bq:=(.seq (MB 139) (.seq (.cond (.tmp 11) .skip (.exit 0)) (.seq (.block 1 (.seq (MB 2251) (.seq (MB 5323) (.seq (MB 11467) (.cond (.tmp 31) (.seq (MB 40139) .ret) .skip))))) (MB 971))))
def T3:=AE8
def ATZ:bq:=(.seq (MB 2) (.seq (MB 5) (.seq (.seq (MB 19) (.block 0 (.loop T3))) (.seq (MB 23) .ret))))
theorem BH5:Tryz.f109.body=some ATZ:=by kernel_rfl
@[simp] theorem BQY:UX 37 T3 AE8/\SX 37 (MB 2) [oq 2 (.box (tq 0)),ot 4 false] [0,1] [2,7,32]/\SX 37 (MB 5) [ok 5 0] [1,2] [2,7]/\SX 37 (MB 19) [om 8 1,oe 9 8 120,ok 10 0] [1,2,5] [2,7]/\SX 37 (MB 139) [ob 11 .lss 3 10 9] [1,2,5,8,9,10] [2,7]/\SX 37 (MB 2251) [om 12 10,oi 13 120 8 10,ol 14 153 13,oq 7 (.alloc 153),om 6 12,os (.sto 153 (tq 7) (tq 14))] [1,2,5,8,9,10] [2,7]/\SX 37 (MB 5323) [om 15 5,oz 16 153 7 0,oz 17 151 16 1,ol 18 3 17,ob 19 .add 3 15 18,om 5 19] [1,2,5,6,7,8,9,10] [2,7]/\SX 37 (MB 11467) [ol 20 43 2,ol 21 153 7,od 22 136 [tq 20,tq 21],ou 23 22,om 24 23,gm 24 false 25 1,gm 24 false 26 6,og 24 false 27 (.oth (.slice 120 (tq 25) none (some (tq 26)) none)),og 24 false 28 (.oth (.makeFunc (.func 138) #[] #[tq 2,tq 7])),gd 24 false 29 137 [tq 27,tq 28],og 24 false 30 (.oth (.unOp .not 4 (tq 29))),oq 31 (.pick (tq 24) (cb true) (tq 30))] [1,2,5,6,7,8,9,10] [2,7]/\SX 37 (MB 40139) [ot 4 false] [] []/\SX 37 (MB 971) [oc 32 .add 3 10 1,om 10 32] [1,2,5,6,8,9,10,16,17,18] [2,7,16,31]/\SX 37 (MB 23) [om 33 5,ol 34 43 2,od 35 140 [tq 34],ob 36 .leq 3 33 35,om 4 36] [2,5] [2,7]/\LX 37 T3 [1,2,5,8,9,10] [2,7]:=⟨fun _ _=>rfl,rx,rx,rx,rx,rx,rx,rx,rx,rx,rx,lx⟩
def AL7:=rg Tryz.f138
def A62:bq:=(.seq (AL7 2) (.seq (AL7 5) .ret))
theorem b138:Tryz.f138.body=some A62:=by kernel_rfl
@[simp] theorem BQZ:SX 9 (AL7 2) [oq 3 (.box (tq 0)),ot 4 false] [0,1,2] [3]/\SX 9 (AL7 5) [ol 5 43 1,ol 6 153 2,ol 7 153 3,od 8 139 [tq 5,tq 6,tq 7],om 4 8] [0,1,2,3] [2,3]:=⟨rx,rx⟩
def gD:=rg Tryz.f65
@[simp] def AP0:bq:=(.seq (gD 279) (.seq (.cond (.tmp 19) .skip (.exit 0)) (.seq (.block 1 (.seq (gD 4503) (gD 6551))) (gD 1943))))
def ZO:=AP0
def c65:bq:=(.seq (gD 2) (.seq (.seq (gD 9) (.cond (.tmp 14) (.seq (gD 37) .ret) .skip)) (.seq (gD 11) (.seq (.seq (gD 39) (.block 0 (.loop ZO))) (.seq (gD 47) .ret)))))
theorem b65:Tryz.f65.body=some c65:=by kernel_rfl
@[simp] theorem BL9(n:Nat)(st:XS):AE bk ann kn (n+1) 37 (gD 47) st=OR (JM bk (BO bk ann kn n) (.str [om 33 6,ol 34 43 2,om 35 6,od 36 109 [tq 34,tq 35],om 4 33,om 5 36]) (CK (some ([2,6],[2,16,31])) (LU [31] st))) :=
 DG (by kernel_rfl) (by kernel_rfl) (by kernel_rfl) (by kernel_rfl) (by kernel_rfl)
@[simp] theorem x65:UX 37 ZO AP0/\SX 37 (gD 2) [oq 2 (.box (tq 0)),oq 4 (.mv (.const (.slice none 0 0))),ot 5 false] [0,1] [2,16]/\SX 37 (gD 9) [om 9 1,oe 10 9 37,oz 11 43 2 3,ol 12 41 11,oe 13 12 41,ob 14 .neq 3 10 13] [1,2] [2,16]/\SX 37 (gD 37) [oq 4 (.mv (.const (.slice none 0 0))),ot 5 false] [] []/\SX 37 (gD 11) [oq 6 (.mv (.const (.slice none 0 0)))] [1,2] [2,16]/\SX 37 (gD 39) [ol 15 43 2,od 16 92 [tq 15,.const (.slice none 0 0)],oe 17 16 170,ok 18 0] [1,2,6] [2,16,31]/\SX 37 (gD 279) [ob 19 .lss 3 18 17] [1,2,6,16,17,18] [2,16,31]/\SX 37 (gD 4503) [om 20 18,oi 21 170 16 18,ol 22 151 21,oq 8 (.alloc 151),om 7 20,os (.sto 151 (tq 8) (tq 22))] [1,2,6,16,17,18] [2,16,31]/\RX 37 (gD 6551) (.drw [⟨[],[om 23 6,ol 24 151 8,om 25 1,om 26 7,oi 27 37 25 26,ol 28 86 27,oq 29 (.build 153 [(0,tq 24),(1,tq 28)]),oq 30 (.buildS 120 1 [(0,tq 29)]),oq 31 (.app [tq 23,tq 30] [120,120]),om 6 31],[]⟩]) (some ([1,2,6,7,8,16,17,18],[2,8,16,31]))/\SX 37 (gD 1943) [oc 32 .add 3 18 1,om 18 32] [1,2,5,6,8,9,10,16,17,18] [2,7,16,31]/\LX 37 ZO [1,2,6,16,17,18] [2,16,31]:=⟨fun _ _=>rfl,rx,rx,rx,rx,rx,rx,rx,rx,rx,lx⟩
def xI:=rg Tryz.f72
@[simp] def AP1:bq:=(lp (xI 267) 8 0 1 (xI 587) (xI 459))
def ZP:=AP1
def c72:bq:=(.seq (xI 2) (.seq (xI 5) (.seq (.seq (xI 19) (.block 0 (.loop ZP))) (.seq (xI 23) .ret))))
theorem b72:Tryz.f72.body=some c72:=by kernel_rfl
@[simp] theorem x72:UX 19 ZP AP1/\SX 19 (xI 2) [ok 2 0] [0] []/\SX 19 (xI 5) [ok 3 0] [0] []/\SX 19 (xI 19) [ok 4 0] [0,3] []/\SX 19 (xI 267) [om 5 4,om 6 0,oe 7 6 49,ob 8 .lss 3 5 7] [0,3,4] []/\SX 19 (xI 587) [om 11 3,om 12 0,om 13 4,oi 14 49 12 13,oz 15 135 14 1,ol 16 3 15,ob 17 .add 3 11 16,om 3 17] [0,3,4] []/\SX 19 (xI 459) [om 9 4,oc 10 .add 3 9 1,om 4 10] [0,3,4] []/\SX 19 (xI 23) [om 18 3,om 2 18] [0,1,3,7,8] []/\LX 19 ZP [0,3,4] []:=⟨fun _ _=>rfl,rx,rx,rx,rx,rx,rx,rx,lx⟩
def eN:=rg Tryz.f73
@[simp] def AP2:bq:=(lp (eN 16971) 20 2 3 (.seq (eN 70219) (.cond (.tmp 30) (eN 168523) .skip)) (eN 29259))
def ZQ:=AP2
@[simp] def AP3:bq:=(lp (eN 267) 10 0 1 (.seq (eN 1099) (.block 2 (.loop ZQ))) (eN 459))
def ZR:=AP3
def c73:bq:=(.seq (eN 2) (.seq (eN 5) (.seq (.seq (eN 19) (.block 0 (.loop ZR))) (.seq (eN 23) .ret))))
theorem b73:Tryz.f73.body=some c73:=by kernel_rfl
@[simp] theorem x73:UX 34 ZQ AP2/\UX 34 ZR AP3/\SX 34 (eN 2) [oq 1 (.box (tq 0)),ok 2 0] [0] [1]/\SX 34 (eN 5) [ok 3 0] [1] [1]/\SX 34 (eN 19) [ok 4 0] [1,3] [1]/\SX 34 (eN 267) [om 6 4,oz 7 31 1 2,ol 8 28 7,oe 9 8 28,ob 10 .lss 3 6 9] [1,3,4] [1]/\SX 34 (eN 1099) [ok 5 0] [1,3,4] [1]/\SX 34 (eN 16971) [om 13 5,oz 14 31 1 2,ol 15 28 14,om 16 4,oi 17 28 15 16,ol 18 97 17,oe 19 18 97,ob 20 .lss 3 13 19] [1,3,4,5] [1]/\SX 34 (eN 70219) [oz 23 31 1 2,ol 24 28 23,om 25 4,oi 26 28 24 25,ol 27 97 26,om 28 5,oi 29 97 27 28,ol 30 4 29] [1,3,4,5] [1]/\SX 34 (eN 168523) [om 31 3,oc 32 .add 3 31 1,om 3 32] [1,3,4,5] [1]/\SX 34 (eN 29259) [om 21 5,oc 22 .add 3 21 1,om 5 22] [1,3,4,5] [1]/\SX 34 (eN 459) [om 11 4,oc 12 .add 3 11 1,om 4 12] [1,3,4] [1]/\SX 34 (eN 23) [om 33 3,om 2 33] [3] []/\LX 34 ZR [1,3,4] [1]/\LX 34 ZQ [1,3,4,5] [1]:=by and_intros<;>first|exact rx|exact lx|exact fun _ _=>rfl
def ABA:=rg Tryz.f122
def A63:bq:=(.seq (ABA 2) (.seq (ABA 5) (.seq (ABA 11) .ret)))
theorem BH6:Tryz.f122.body=some A63:=by kernel_rfl
@[simp] theorem BQ3:SX 38 (ABA 2) [oq 3 (.box (tq 0)),ot 6 false] [0,1,2] [3]/\RX 38 (ABA 5) (.drw [⟨[7,8],[oz 9 31 3 3,oq 10 (.ldz 29 (tq 9)),om 11 1,oi 12 29 10 11,oq 13 (.ldz 57 (tq 12)),oz 14 31 3 3,ol 15 29 14,om 16 2,oi 17 29 15 16,ol 18 57 17,oq 7 (.alloc 57),oq 8 (.alloc 57),os (.sto 57 (tq 7) (tq 13))],[os (.sto 57 (tq 8) (tq 18))]⟩]) (some ([1,2,3],[3]))/\SX 38 (ABA 11) [om 19 1,om 20 2,ob 21 .neq 3 19 20,om 22 21,gz 22 true 23 57 7 3,gl 22 true 24 4 23,gm 22 true 25 24,gz 25 true 26 57 8 2,gl 25 true 27 4 26,og 22 true 28 (.pick (tq 25) (tq 27) (cb false)),gm 22 true 29 28,gz 29 false 30 57 8 3,gl 29 false 31 4 30,gm 29 false 32 31,gz 32 true 33 57 7 2,gl 32 true 34 4 33,og 29 false 35 (.pick (tq 32) (tq 34) (cb false)),og 22 true 36 (.pick (tq 29) (cb true) (tq 35)),oq 37 (.pick (tq 22) (tq 36) (cb false)),om 6 37] [1,2,7,8] [7,8]:=⟨rx,rx,rx⟩
def N6:=rg Tryz.f74
@[simp] def AE9:bq:=(lp (N6 8689967) 73 4 5 (.seq (N6 35952943) (.seq (N6 86284591) (.cond (.tmp 111) (.seq (N6 321165615) .ret) .skip))) (N6 14981423))
def T4:=AE9
@[simp] def AFA:bq:=(lp (N6 137519) 68 2 3 (.seq (N6 563503) (.block 4 (.loop T4))) (N6 235823))
def T5:=AFA
@[simp] def AP4:bq:=(lp (N6 1071) 51 0 1 (.seq (.seq (N6 8495) (.cond (.tmp 61) (.exit 1) .skip)) (.seq (N6 10543) (.block 2 (.loop T5)))) (N6 1839))
def ZS:=AP4
def c74:bq:=(.seq (N6 2) (.seq (N6 5) (.seq (N6 11) (.seq (.seq (N6 39) (.cond (.tmp 48) (.seq (N6 151) .ret) .skip)) (.seq (.seq (N6 79) (.block 0 (.loop ZS))) (.seq (N6 95) .ret))))))
theorem b74:Tryz.f74.body=some c74:=by kernel_rfl
@[simp] theorem x74:UX 112 T4 AE9/\UX 112 T5 AFA/\UX 112 ZS AP4/\SX 112 (N6 2) [oq 3 (.box (tq 0)),ot 6 false] [0,1,2] [3]/\SX 112 (N6 5) [om 14 2,oe 15 14 24,oc 16 .sub 3 15 1,om 7 16] [1,2,3] [3]/\RX 112 (N6 11) (.drw [⟨[8],[om 17 2,om 18 7,oi 19 24 17 18,oq 20 (.ldz 59 (tq 19)),om 21 1,om 22 7,oi 23 49 21 22,oz 24 135 23 1,ol 25 3 24,oq 8 (.alloc 59),os (.sto 59 (tq 8) (tq 20)),om 9 25],[]⟩]) (some ([1,2,3,7],[3]))/\SX 112 (N6 39) [oz 26 59 8 0,ol 27 3 26,oz 28 31 3 0,oz 29 27 28 1,ol 30 3 29,oc 31 .sub 3 30 1,od 32 57 [tq 27,ci 0,tq 31],ou 33 32,om 34 33,gz 34 false 35 59 8 1,gl 34 false 36 3 35,gc 34 false 37 .lss 3 36 0,oq 38 (.pick (tq 34) (cb true) (tq 37)),om 39 38,gz 39 false 40 59 8 1,gl 39 false 41 3 40,gz 39 false 42 31 3 0,gz 39 false 43 27 42 2,gl 39 false 44 3 43,gm 39 false 45 9,gb 39 false 46 .sub 3 44 45,gb 39 false 47 .gtr 3 41 46,oq 48 (.pick (tq 39) (cb true) (tq 47))] [1,2,3,7,8,9] [3,8]/\SX 112 (N6 151) [ot 6 false] [] []/\SX 112 (N6 79) [ok 10 0] [1,2,3,7,8,9] [3,8]/\SX 112 (N6 1071) [om 49 10,om 50 7,ob 51 .lss 3 49 50] [1,2,3,7,8,9,10] [3,8]/\RX 112 (N6 8495) (.drw [⟨[],[om 54 2,om 55 10,oi 56 24 54 55,oz 57 59 56 0,ol 58 3 57,oz 59 59 8 0,ol 60 3 59,ob 61 .neq 3 58 60],[]⟩]) (some ([1,2,3,7,8,9,10],[3,8]))/\SX 112 (N6 10543) [ok 11 0] [1,2,3,7,8,9,10] [3,8]/\SX 112 (N6 137519) [om 62 11,om 63 1,om 64 10,oi 65 49 63 64,oz 66 135 65 1,ol 67 3 66,ob 68 .lss 3 62 67] [1,2,3,7,8,9,10,11] [3,8]/\SX 112 (N6 563503) [ok 12 0] [1,2,3,7,8,9,10,11] [3,8]/\SX 112 (N6 8689967) [om 71 12,om 72 9,ob 73 .lss 3 71 72] [1,2,3,7,8,9,10,11,12] [3,8]/\RX 112 (N6 35952943) (.drw [⟨[],[om 76 2,om 77 10,oi 78 24 76 77,oz 79 59 78 1,ol 80 3 79,om 81 11,ob 82 .add 3 80 81,oz 83 59 8 1,ol 84 3 83,ob 85 .sub 3 82 84,om 86 12,ob 87 .sub 3 85 86,om 13 87],[]⟩]) (some ([1,2,3,7,8,9,10,11,12],[3,8]))/\RX 112 (N6 86284591) (.drw [⟨[],[om 88 13,oc 89 .eql 3 88 0,om 90 89,gm 90 false 91 13,gc 90 false 92 .eql 3 91 1,gm 90 false 93 92,gm 93 false 94 13,og 93 false 95 (.bin .eql 3 (tq 94) (.const (.int .i64 (bj 0)))),og 90 false 96 (.pick (tq 93) (cb true) (tq 95)),gm 90 false 97 96,gl 97 true 98 31 3,gm 97 true 99 1,gm 97 true 100 10,gi 97 true 101 49 99 100,gz 97 true 102 135 101 0,gl 97 true 103 3 102,gm 97 true 104 1,gm 97 true 105 7,gi 97 true 106 49 104 105,gz 97 true 107 135 106 0,gl 97 true 108 3 107],[gd 97 true 109 122 [tq 98,tq 103,tq 108]]⟩,⟨[],[og 90 false 110 (.pick (tq 97) (tq 109) (cb false)),oq 111 (.pick (tq 90) (cb true) (tq 110))],[]⟩]) (some ([1,2,3,7,8,9,10,11,12,13],[3,8]))/\SX 112 (N6 321165615) [ot 6 false] [] []/\SX 112 (N6 14981423) [om 74 12,oc 75 .add 3 74 1,om 12 75] [1,2,3,7,8,9,10,11,12] [3,8]/\SX 112 (N6 235823) [om 69 11,oc 70 .add 3 69 1,om 11 70] [1,2,3,7,8,9,10,11] [3,8]/\SX 112 (N6 1839) [om 52 10,oc 53 .add 3 52 1,om 10 53] [1,2,3,7,8,9,10] [3,8]/\SX 112 (N6 95) [ot 6 true] [] []/\LX 112 ZS [1,2,3,7,8,9,10] [3,8]/\LX 112 T5 [1,2,3,7,8,9,10,11] [3,8]/\LX 112 T4 [1,2,3,7,8,9,10,11,12] [3,8]:=by and_intros<;>first|exact rx|exact lx|exact fun _ _=>rfl
def VU:=rg Tryz.f18
@[simp] def AP5:bq:=(lp (VU 267) 31 0 1 (.seq (VU 1099) (.cond (.tmp 40) (.seq (VU 4683) .ret) .skip)) (VU 459))
def ZT:=AP5
@[simp] def AP6:bq:=(lp (VU 535) 45 2 3 (.seq (VU 2199) (.cond (.tmp 54) (.seq (VU 9367) .ret) .skip)) (VU 919))
def ZU:=AP6
def c18:bq:=(.seq (VU 2) (.seq (.seq (VU 9) (.cond (.tmp 26) (.seq (VU 37) .ret) .skip)) (.seq (.seq (VU 19) (.block 0 (.loop ZT))) (.seq (.seq (VU 39) (.block 2 (.loop ZU))) (.seq (VU 47) .ret)))))
theorem b18:Tryz.f18.body=some c18:=by kernel_rfl
@[simp] theorem x18:UX 55 ZT AP5/\UX 55 ZU AP6/\SX 55 (VU 2) [oq 1 (.box (tq 0)),ot 2 false] [0] [1]/\SX 55 (VU 9) [oz 5 31 1 0,ol 6 27 5,od 7 64 [tq 6],ou 8 7,om 9 8,gz 9 false 10 31 1 1,gl 9 false 11 23 10,ge 9 false 12 11 23,gc 9 false 13 .gtr 3 12 7,oq 14 (.pick (tq 9) (cb true) (tq 13)),om 15 14,gz 15 false 16 31 1 2,gl 15 false 17 28 16,ge 15 false 18 17 28,gc 15 false 19 .gtr 3 18 7,oq 20 (.pick (tq 15) (cb true) (tq 19)),om 21 20,gz 21 false 22 31 1 3,gl 21 false 23 29 22,ge 21 false 24 23 29,gc 21 false 25 .gtr 3 24 5,oq 26 (.pick (tq 21) (cb true) (tq 25))] [1] [1]/\SX 55 (VU 37) [ot 2 false] [] []/\SX 55 (VU 19) [ok 3 0] [1] [1]/\SX 55 (VU 267) [om 27 3,oz 28 31 1 1,ol 29 23 28,oe 30 29 23,ob 31 .lss 3 27 30] [1,3] [1]/\SX 55 (VU 1099) [oz 34 31 1 1,ol 35 23 34,om 36 3,oi 37 23 35 36,ol 38 22 37,oe 39 38 22,oc 40 .gtr 3 39 7] [1,3] [1]/\SX 55 (VU 4683) [ot 2 false] [] []/\SX 55 (VU 459) [om 32 3,oc 33 .add 3 32 1,om 3 33] [1,3] [1]/\SX 55 (VU 39) [ok 4 0] [1] [1]/\SX 55 (VU 535) [om 41 4,oz 42 31 1 2,ol 43 28 42,oe 44 43 28,ob 45 .lss 3 41 44] [1,4] [1]/\SX 55 (VU 2199) [oz 48 31 1 2,ol 49 28 48,om 50 4,oi 51 28 49 50,ol 52 97 51,oe 53 52 97,oc 54 .gtr 3 53 7] [1,4] [1]/\SX 55 (VU 9367) [ot 2 false] [] []/\SX 55 (VU 919) [om 46 4,oc 47 .add 3 46 1,om 4 47] [1,4] [1]/\SX 55 (VU 47) [ot 2 true] [] []/\LX 55 ZT [1,3] [1]/\LX 55 ZU [1,4] [1]:=by and_intros<;>first|exact rx|exact lx|exact fun _ _=>rfl
def xJ:=rg Tryz.f69
@[simp] def AP7:bq:=(lp (xJ 267) 8 0 1 (xJ 587) (xJ 459))
def ZV:=AP7
def c69:bq:=(.seq (xJ 2) (.seq (xJ 5) (.seq (.seq (xJ 19) (.block 0 (.loop ZV))) (.seq (xJ 23) .ret))))
theorem b69:Tryz.f69.body=some c69:=by kernel_rfl
@[simp] theorem BMD(n:Nat)(st:XS):AE bk ann kn (n+1) 20 (xJ 459) st=OR (JM bk (BO bk ann kn n) (.str [om 9 4,oc 10 .add 3 9 1,om 4 10]) (CK (some ([0,3,4],[18])) (LU [16,2000000000000018] st))) :=
 DG (by kernel_rfl) (by kernel_rfl) (by kernel_rfl) (by kernel_rfl) (by kernel_rfl)
@[simp] theorem x69:UX 20 ZV AP7/\SX 20 (xJ 2) [oq 2 (.mv (.const (.slice none 0 0)))] [0] []/\SX 20 (xJ 5) [oq 3 (.mv (.const (.slice none 0 0)))] [0] []/\SX 20 (xJ 19) [ok 4 0] [0,3] [18]/\SX 20 (xJ 267) [om 5 4,om 6 0,oe 7 6 23,ob 8 .lss 3 5 7] [0,3,4] [18]/\SX 20 (xJ 587) [om 11 3,om 12 0,om 13 4,oi 14 23 12 13,ol 15 22 14,oq 16 (.app [.const (.slice none 0 0),tq 15] [22,22]),oq 17 (.buildS 23 1 [(0,tq 16)]),oq 18 (.app [tq 11,tq 17] [23,23]),om 3 18] [0,3,4] [18]/\SX 20 (xJ 23) [om 19 3,om 2 19] [3] [18]/\LX 20 ZV [0,3,4] [18]:=⟨fun _ _=>rfl,rx,rx,rx,rx,rx,rx,lx⟩
def sW:=rg Tryz.f22
@[simp] def AP8:bq:=(lp (sW 267) 8 0 1 (sW 587) (sW 459))
def ZW:=AP8
def c22:bq:=(.seq (sW 2) (.seq (sW 5) (.seq (.seq (sW 19) (.block 0 (.loop ZW))) (.seq (sW 23) .ret))))
theorem b22:Tryz.f22.body=some c22:=by kernel_rfl
@[simp] theorem BMF(n:Nat)(st:XS):AE bk ann kn (n+1) 20 (sW 459) st=OR (JM bk (BO bk ann kn n) (.str [om 9 4,oc 10 .add 3 9 1,om 4 10]) (CK (some ([0,3,4],[18])) (LU [16,2000000000000018] st))) :=
 DG (by kernel_rfl) (by kernel_rfl) (by kernel_rfl) (by kernel_rfl) (by kernel_rfl)
@[simp] theorem x22:UX 20 ZW AP8/\SX 20 (sW 2) [oq 2 (.mv (.const (.slice none 0 0)))] [0] []/\SX 20 (sW 5) [oq 3 (.mv (.const (.slice none 0 0)))] [0] []/\SX 20 (sW 19) [ok 4 0] [0,3] [18]/\SX 20 (sW 267) [om 5 4,om 6 0,oe 7 6 24,ob 8 .lss 3 5 7] [0,3,4] [18]/\SX 20 (sW 587) [om 11 3,om 12 0,om 13 4,oi 14 24 12 13,ol 15 59 14,od 16 48 [tq 15],oq 17 (.buildS 37 1 [(0,tq 16)]),oq 18 (.app [tq 11,tq 17] [37,37]),om 3 18] [0,3,4] [18]/\SX 20 (sW 23) [om 19 3,om 2 19] [3] [18]/\LX 20 ZW [0,3,4] [18]:=⟨fun _ _=>rfl,rx,rx,rx,rx,rx,rx,lx⟩
def sE:=rg Tryz.f26
@[simp] def AP9:bq:=(lp (sE 267) 11 0 1 (.seq (sE 1099) (.cond (.tmp 19) (sE 2635) .skip)) (sE 459))
def ZX:=AP9
def c26:bq:=(.seq (sE 2) (.seq (sE 5) (.seq (.seq (sE 19) (.block 0 (.loop ZX))) (.seq (sE 23) .ret))))
theorem b26:Tryz.f26.body=some c26:=by kernel_rfl
@[simp] theorem x26:UX 32 ZX AP9/\SX 32 (sE 2) [oq 2 (.box (tq 0)),oq 4 (.mv (.const (.slice none 0 0)))] [0,1] [2]/\SX 32 (sE 5) [oq 5 (.mv (.const (.slice none 0 0)))] [1,2] [2]/\SX 32 (sE 19) [ok 6 0] [1,2,5] [2,30]/\SX 32 (sE 267) [om 7 6,oz 8 31 2 3,ol 9 29 8,oe 10 9 29,ob 11 .lss 3 7 10] [1,2,5,6] [2,30]/\SX 32 (sE 1099) [om 14 1,om 15 6,oq 16 (.oth (.convert 3 115 (tq 15))),ob 17 .shr 3 14 16,oc 18 .rem 3 17 2,oc 19 .eql 3 18 0] [1,2,5,6] [2,30]/\SX 32 (sE 2635) [om 20 5,om 21 6,oz 22 31 2 3,ol 23 29 22,om 24 6,oi 25 29 23 24,oz 26 57 25 0,ol 27 3 26,oq 28 (.build 135 [(0,tq 21),(1,tq 27)]),oq 29 (.buildS 49 1 [(0,tq 28)]),oq 30 (.app [tq 20,tq 29] [49,49]),om 5 30] [1,2,5,6] [2,30]/\SX 32 (sE 459) [om 12 6,oc 13 .add 3 12 1,om 6 13] [1,2,5,6] [2,30]/\SX 32 (sE 23) [om 31 5,om 4 31] [5] [30]/\LX 32 ZX [1,2,5,6] [2,30]:=⟨fun _ _=>rfl,rx,rx,rx,rx,rx,rx,rx,rx,lx⟩
def lX:=rg Tryz.f25
@[simp] def AQA:bq:=(lp (lX 267) 23 0 1 (.seq (lX 1099) (.cond (.tmp 33) (.seq (lX 4683) .ret) .skip)) (lX 459))
def ZY:=AQA
def c25:bq:=(.seq (lX 2) (.seq (.seq (lX 9) (.cond (.tmp 19) (.seq (lX 37) .ret) .skip)) (.seq (.seq (lX 19) (.block 0 (.loop ZY))) (.seq (lX 23) .ret))))
theorem b25:Tryz.f25.body=some c25:=by kernel_rfl
@[simp] theorem x25:UX 34 ZY AQA/\SX 34 (lX 2) [oq 3 (.box (tq 0)),ot 6 false] [0,1,2] [3]/\RX 34 (lX 9) (.drw [⟨[],[om 8 2,oe 9 8 24,om 10 1,oe 11 10 49,ob 12 .neq 3 9 11,om 13 12,gm 13 false 14 1,gd 13 false 15 72 [tq 14],gl 13 false 16 31 3],[gd 13 false 17 73 [tq 16]]⟩,⟨[],[gb 13 false 18 .gtr 3 15 17,oq 19 (.pick (tq 13) (cb true) (tq 18))],[]⟩]) (some ([1,2,3],[3]))/\SX 34 (lX 37) [ot 6 false] [] []/\SX 34 (lX 19) [ok 7 0] [1,2,3] [3]/\SX 34 (lX 267) [om 20 7,om 21 2,oe 22 21 24,ob 23 .lss 3 20 22] [1,2,3,7] [3]/\RX 34 (lX 1099) (.drw [⟨[],[ol 26 31 3,om 27 1,om 28 2,om 29 7,oc 30 .add 3 29 1,oq 31 (.oth (.slice 24 (tq 28) none (some (tq 30)) none))],[od 32 74 [tq 26,tq 27,tq 31]]⟩,⟨[],[ou 33 32],[]⟩]) (some ([1,2,3,7],[3]))/\SX 34 (lX 4683) [ot 6 false] [] []/\SX 34 (lX 459) [om 24 7,oc 25 .add 3 24 1,om 7 25] [1,2,3,7] [3]/\SX 34 (lX 23) [ot 6 true] [] []/\LX 34 ZY [1,2,3,7] [3]:=⟨fun _ _=>rfl,rx,rx,rx,rx,rx,rx,rx,rx,rx,lx⟩
def xK:=rg Tryz.f88
@[simp] def AQB:bq:=(lp (xK 133) 13 0 1 (.seq (xK 549) (.cond (.tmp 34) (.seq (xK 2341) .ret) .skip)) (xK 229))
def ZZ:=AQB
def c88:bq:=(.seq (xK 2) (.seq (.seq (xK 9) (.block 0 (.loop ZZ))) (.seq (xK 11) .ret)))
theorem b88:Tryz.f88.body=some c88:=by kernel_rfl
@[simp] theorem x88:UX 35 ZZ AQB/\SX 35 (xK 2) [oq 4 (.box (tq 0)),oq 6 (.box (tq 2)),oq 7 (.box (tq 3)),ot 8 false] [0,1,2,3] [4]/\SX 35 (xK 9) [ok 9 0] [1,4,6,7] [4,6,7]/\SX 35 (xK 133) [om 10 9,oz 11 135 6 1,ol 12 3 11,ob 13 .lss 3 10 12] [1,4,6,7,9] [4,6,7]/\RX 35 (xK 549) (.drw [⟨[],[om 16 1,oz 17 59 7 0,ol 18 3 17,oi 19 23 16 18,ol 20 22 19,oz 21 59 7 1,ol 22 3 21,om 23 9,ob 24 .add 3 22 23,oi 25 22 20 24,ol 26 3 25,oz 27 31 4 3,ol 28 29 27,oz 29 135 6 0,ol 30 3 29,oi 31 29 28 30,oz 32 57 31 1,ol 33 3 32,ob 34 .lss 3 26 33],[]⟩]) (some ([1,4,6,7,9],[4,6,7]))/\SX 35 (xK 2341) [ot 8 false] [] []/\SX 35 (xK 229) [om 14 9,oc 15 .add 3 14 1,om 9 15] [1,4,6,7,9] [4,6,7]/\SX 35 (xK 11) [ot 8 true] [] []/\LX 35 ZZ [1,4,6,7,9] [4,6,7]:=⟨fun _ _=>rfl,rx,rx,rx,rx,rx,rx,rx,lx⟩
def lY:=rg Tryz.f36
@[simp] def AQC:bq:=(lp (lY 267) 18 0 1 (.seq (lY 1099) (.cond (.tmp 32) (.seq (lY 4683) .ret) .skip)) (lY 459))
def Z0:=AQC
def c36:bq:=(.seq (lY 2) (.seq (.seq (lY 9) (.cond (.tmp 14) (.seq (lY 37) .ret) .skip)) (.seq (.seq (lY 19) (.block 0 (.loop Z0))) (.seq (lY 23) .ret))))
theorem b36:Tryz.f36.body=some c36:=by kernel_rfl
@[simp] theorem x36:UX 33 Z0 AQC/\SX 33 (lY 2) [oq 4 (.box (tq 0)),ot 8 false] [0,1,2,3] [4]/\SX 33 (lY 9) [ol 10 31 4,om 11 2,om 12 3,od 13 25 [tq 10,tq 11,tq 12],ou 14 13] [1,2,3,4] [4]/\SX 33 (lY 37) [ot 8 false] [] []/\SX 33 (lY 19) [ok 9 0] [1,2,3,4] [4]/\SX 33 (lY 267) [om 15 9,om 16 3,oe 17 16 24,ob 18 .lss 3 15 17] [1,2,3,4,9] [4]/\RX 33 (lY 1099) (.drw [⟨[],[ol 21 31 4,om 22 1,om 23 2,om 24 9,oi 25 49 23 24,ol 26 135 25,om 27 3,om 28 9,oi 29 24 27 28,ol 30 59 29],[od 31 88 [tq 21,tq 22,tq 26,tq 30]]⟩,⟨[],[ou 32 31],[]⟩]) (some ([1,2,3,4,9],[4]))/\SX 33 (lY 4683) [ot 8 false] [] []/\SX 33 (lY 459) [om 19 9,oc 20 .add 3 19 1,om 9 20] [1,2,3,4,9] [4]/\SX 33 (lY 23) [ot 8 true] [] []/\LX 33 Z0 [1,2,3,4,9] [4]:=⟨fun _ _=>rfl,rx,rx,rx,rx,rx,rx,rx,rx,rx,lx⟩
def gE:=rg Tryz.f37
@[simp] def AQD:bq:=(lp (gE 16971) 22 2 3 (gE 37451) (gE 29259))
def Z1:=AQD
@[simp] def AQE:bq:=(lp (gE 267) 13 0 1 (.seq (gE 1099) (.block 2 (.loop Z1))) (gE 459))
def Z2:=AQE
def c37:bq:=(.seq (gE 2) (.seq (gE 5) (.seq (.seq (gE 19) (.block 0 (.loop Z2))) (.seq (gE 23) .ret))))
theorem b37:Tryz.f37.body=some c37:=by kernel_rfl
@[simp] theorem x37:UX 45 Z1 AQD/\UX 45 Z2 AQE/\SX 45 (gE 2) [ok 6 0] [0,1,2] []/\SX 45 (gE 5) [ok 7 0] [0,1,2] []/\SX 45 (gE 19) [ok 8 0] [0,1,2,7] []/\SX 45 (gE 267) [om 10 8,om 11 2,oe 12 11 24,ob 13 .lss 3 10 12] [0,1,2,7,8] []/\SX 45 (gE 1099) [ok 9 0] [0,1,2,7,8] []/\SX 45 (gE 16971) [om 16 9,om 17 1,om 18 8,oi 19 49 17 18,oz 20 135 19 1,ol 21 3 20,ob 22 .lss 3 16 21] [0,1,2,7,8,9] []/\RX 45 (gE 37451) (.drw [⟨[],[om 25 7,om 26 0,om 27 2,om 28 8,oi 29 24 27 28,oz 30 59 29 0,ol 31 3 30,oi 32 23 26 31,ol 33 22 32,om 34 2,om 35 8,oi 36 24 34 35,oz 37 59 36 1,ol 38 3 37,om 39 9,ob 40 .add 3 38 39,oi 41 22 33 40,ol 42 3 41,ob 43 .add 3 25 42,om 7 43],[]⟩]) (some ([0,1,2,7,8,9],[]))/\SX 45 (gE 29259) [om 23 9,oc 24 .add 3 23 1,om 9 24] [0,1,2,7,8,9] []/\SX 45 (gE 459) [om 14 8,oc 15 .add 3 14 1,om 8 15] [0,1,2,7,8] []/\SX 45 (gE 23) [om 44 7,om 6 44] [7] []/\LX 45 Z2 [0,1,2,7,8] []/\LX 45 Z1 [0,1,2,7,8,9] []:=by and_intros<;>first|exact rx|exact lx|exact fun _ _=>rfl
def eO:=rg Tryz.f38
@[simp] def AQF:bq:=(lp (eO 16971) 22 2 3 (.seq (eO 70219) (.cond (.tmp 43) (eO 168523) .skip)) (eO 29259))
def Z3:=AQF
@[simp] def AQG:bq:=(lp (eO 267) 13 0 1 (.seq (eO 1099) (.block 2 (.loop Z3))) (eO 459))
def Z4:=AQG
def c38:bq:=(.seq (eO 2) (.seq (eO 5) (.seq (.seq (eO 19) (.block 0 (.loop Z4))) (.seq (eO 23) .ret))))
theorem b38:Tryz.f38.body=some c38:=by kernel_rfl
@[simp] theorem x38:UX 47 Z3 AQF/\UX 47 Z4 AQG/\SX 47 (eO 2) [oq 3 (.box (tq 0)),ok 6 0] [0,1,2] [3]/\SX 47 (eO 5) [ok 7 0] [1,2,3] [3]/\SX 47 (eO 19) [ok 8 0] [1,2,3,7] [3]/\SX 47 (eO 267) [om 10 8,om 11 2,oe 12 11 24,ob 13 .lss 3 10 12] [1,2,3,7,8] [3]/\SX 47 (eO 1099) [ok 9 0] [1,2,3,7,8] [3]/\SX 47 (eO 16971) [om 16 9,om 17 1,om 18 8,oi 19 49 17 18,oz 20 135 19 1,ol 21 3 20,ob 22 .lss 3 16 21] [1,2,3,7,8,9] [3]/\RX 47 (eO 70219) (.drw [⟨[],[oz 25 31 3 2,ol 26 28 25,om 27 2,om 28 8,oi 29 24 27 28,oz 30 59 29 0,ol 31 3 30,oi 32 28 26 31,ol 33 97 32,om 34 2,om 35 8,oi 36 24 34 35,oz 37 59 36 1,ol 38 3 37,om 39 9,ob 40 .add 3 38 39,oi 41 97 33 40,ol 42 4 41,ou 43 42],[]⟩]) (some ([1,2,3,7,8,9],[3]))/\SX 47 (eO 168523) [om 44 7,oc 45 .add 3 44 1,om 7 45] [1,2,3,7,8,9] [3]/\SX 47 (eO 29259) [om 23 9,oc 24 .add 3 23 1,om 9 24] [1,2,3,7,8,9] [3]/\SX 47 (eO 459) [om 14 8,oc 15 .add 3 14 1,om 8 15] [1,2,3,7,8] [3]/\SX 47 (eO 23) [om 46 7,om 6 46] [7] []/\LX 47 Z4 [1,2,3,7,8] [3]/\LX 47 Z3 [1,2,3,7,8,9] [3]:=by and_intros<;>first|exact rx|exact lx|exact fun _ _=>rfl
def T6:=rg Tryz.f116
@[simp] def AFB:bq:=(lp (T6 133) 9 0 1 (.seq (T6 549) (.cond (.tmp 27) (.seq (T6 2341) .ret) .skip)) (T6 229))
def T7:=AFB
def A64:bq:=(.seq (T6 2) (.seq (.seq (T6 9) (.block 0 (.loop T7))) (.seq (T6 11) .ret)))
theorem BIA:Tryz.f116.body=some A64:=by kernel_rfl
@[simp] theorem BRE:UX 34 T7 AFB/\SX 34 (T6 2) [oq 2 (.box (tq 0)),ot 4 false] [0,1] [2]/\SX 34 (T6 9) [ok 5 0] [1,2] [2]/\SX 34 (T6 133) [om 6 5,om 7 1,oe 8 7 23,ob 9 .lss 3 6 8] [1,2,5] [2]/\RX 34 (T6 549) (.drw [⟨[],[om 12 1,om 13 5,oi 14 23 12 13,ol 15 22 14,oe 16 15 22,oz 17 27 2 1,ol 18 3 17,ob 19 .neq 3 16 18,om 20 19,gm 20 false 21 1,gm 20 false 22 5,gi 20 false 23 23 21 22,gl 20 false 24 22 23],[gd 20 false 25 134 [tq 24,ci 0]]⟩,⟨[],[og 20 false 26 (.oth (.unOp .not 4 (tq 25))),oq 27 (.pick (tq 20) (cb true) (tq 26))],[]⟩]) (some ([1,2,5],[2]))/\SX 34 (T6 2341) [ot 4 false] [] []/\SX 34 (T6 229) [om 10 5,oc 11 .add 3 10 1,om 5 11] [1,2,5] [2]/\SX 34 (T6 11) [om 28 1,oe 29 28 23,oz 30 27 2 0,ol 31 3 30,oc 32 .add 3 31 1,ob 33 .eql 3 29 32,om 4 33] [1,2] [2]/\LX 34 T7 [1,2,5] [2]:=⟨fun _ _=>rfl,rx,rx,rx,rx,rx,rx,rx,lx⟩
def lZ:=rg Tryz.f27
@[simp] def AQH:bq:=(lp (lZ 267) 15 0 1 (.seq (lZ 1099) (.cond (.tmp 28) (.seq (lZ 4683) .ret) .skip)) (lZ 459))
def Z5:=AQH
def c27:bq:=(.seq (lZ 2) (.seq (.seq (lZ 9) (.cond (.tmp 11) (.seq (lZ 37) .ret) .skip)) (.seq (.seq (lZ 19) (.block 0 (.loop Z5))) (.seq (lZ 23) .ret))))
theorem b27:Tryz.f27.body=some c27:=by kernel_rfl
@[simp] theorem x27:UX 29 Z5 AQH/\SX 29 (lZ 2) [oq 2 (.box (tq 0)),ot 4 false] [0,1] [2]/\SX 29 (lZ 9) [om 6 1,oe 7 6 22,oz 8 27 2 6,ol 9 23 8,oe 10 9 23,ob 11 .neq 3 7 10] [1,2] [2]/\SX 29 (lZ 37) [ot 4 false] [] []/\SX 29 (lZ 19) [ok 5 0] [1,2] [2]/\SX 29 (lZ 267) [om 12 5,om 13 1,oe 14 13 22,ob 15 .lss 3 12 14] [1,2,5] [2]/\RX 29 (lZ 1099) (.drw [⟨[],[oz 18 27 2 6,ol 19 23 18,om 20 5,oi 21 23 19 20,ol 22 22 21,om 23 1,om 24 5,oi 25 22 23 24,ol 26 3 25],[od 27 75 [tq 22,tq 26]]⟩,⟨[],[ou 28 27],[]⟩]) (some ([1,2,5],[2]))/\SX 29 (lZ 4683) [ot 4 false] [] []/\SX 29 (lZ 459) [om 16 5,oc 17 .add 3 16 1,om 5 17] [1,2,5] [2]/\SX 29 (lZ 23) [ot 4 true] [] []/\LX 29 Z5 [1,2,5] [2]:=⟨fun _ _=>rfl,rx,rx,rx,rx,rx,rx,rx,rx,rx,lx⟩
def OM:=rg Tryz.f102
@[simp] def AFC:bq:=(lp (OM 267) 14 0 1 (.seq (OM 1099) (.cond (.tmp 32) (.seq (OM 4683) .ret) .skip)) (OM 459))
def T8:=AFC
def AT0:bq:=(.seq (OM 2) (.seq (.seq (OM 9) (.cond (.tmp 9) (.seq (OM 37) .ret) .skip)) (.seq (.seq (OM 19) (.block 0 (.loop T8))) (.seq (OM 23) .ret))))
theorem BIC:Tryz.f102.body=some AT0:=by kernel_rfl
@[simp] theorem BRG:UX 33 T8 AFC/\SX 33 (OM 2) [oq 2 (.box (tq 0)),ot 4 false] [0,1] [2,4,5,30]/\SX 33 (OM 9) [ol 6 27 2,om 7 1,od 8 27 [tq 6,tq 7],ou 9 8] [1,2] [2]/\SX 33 (OM 37) [ot 4 false] [] []/\SX 33 (OM 19) [ok 5 0] [1,2] [2]/\SX 33 (OM 267) [om 10 5,oz 11 27 2 8,ol 12 25 11,oe 13 12 25,ob 14 .lss 3 10 13] [1,2,5] [2]/\RX 33 (OM 1099) (.drw [⟨[],[om 17 1,oz 18 27 2 8,ol 19 25 18,om 20 5,oi 21 25 19 20,oz 22 188 21 0,ol 23 3 22,oi 24 22 17 23,ol 25 3 24,oz 26 27 2 8,ol 27 25 26,om 28 5,oi 29 25 27 28,oz 30 188 29 1,ol 31 3 30,ob 32 .neq 3 25 31],[]⟩]) (some ([1,2,5],[2]))/\SX 33 (OM 4683) [ot 4 false] [] []/\SX 33 (OM 459) [om 15 5,oc 16 .add 3 15 1,om 5 16] [1,2,5] [2]/\SX 33 (OM 23) [ot 4 true] [] []/\LX 33 T8 [1,2,5] [2]:=⟨fun _ _=>rfl,rx,rx,rx,rx,rx,rx,rx,rx,rx,lx⟩
def LI:=rg Tryz.f76
@[simp] def AFD:bq:=(lp (LI 68759) 53 3 4 (.seq (LI 281751) (.cond (.tmp 62) (.seq (LI 1199255) .ret) .skip)) (LI 117911))
def T9:=AFD
@[simp] def AQI:bq:=(lp (LI 535) 21 0 1 (.seq (.seq (LI 4247) (.block 2 (.seq (LI 18583) (.cond (.tmp 25) (LI 43159) (.seq (LI 92311) (.cond (.tmp 31) (LI 190615) (.seq (LI 387223) (.cond (.tmp 37) (LI 780439) (.seq (LI 1566871) (.cond (.tmp 43) (LI 3139735) .skip)))))))))) (.seq (LI 5271) (.block 3 (.loop T9)))) (LI 919))
def Z6:=AQI
def c76:bq:=(.seq (LI 2) (.seq (.seq (LI 9) (.cond (.tmp 16) (.seq (LI 37) .ret) .skip)) (.seq (LI 11) (.seq (.seq (LI 39) (.block 0 (.loop Z6))) (.seq (LI 47) .ret)))))
theorem b76:Tryz.f76.body=some c76:=by kernel_rfl
@[simp] theorem x76:UX 63 T9 AFD/\UX 63 Z6 AQI/\SX 63 (LI 2) [oq 4 (.box (tq 0)),oq 5 (.box (tq 1)),ot 8 false] [0,1,2,3] [4]/\SX 63 (LI 9) [om 12 2,oc 13 .add 3 12 2,oc 14 .rem 3 13 4,om 15 3,ob 16 .eql 3 14 15] [2,3,4,5] [4,5]/\SX 63 (LI 37) [ot 8 true] [] []/\SX 63 (LI 11) [ol 17 59 5,oq 9 (.alloc 59),os (.sto 59 (tq 9) (tq 17))] [3,4,5] [4,5]/\SX 63 (LI 39) [ok 10 0] [3,4,9] [4,9]/\SX 63 (LI 535) [om 18 10,oz 19 27 4 3,ol 20 3 19,ob 21 .lss 3 18 20] [3,4,9,10] [4,9]/\SX 63 (LI 4247) [om 24 3] [3,4,9,10] [4,9]/\SX 63 (LI 18583) [oc 26 .eql 3 24 0,om 25 26] [3,4,9,10,24] [4,9]/\SX 63 (LI 43159) [oz 27 59 9 0,ol 28 3 27,oc 29 .sub 3 28 1,oz 30 59 9 0,os (.sto 3 (tq 30) (tq 29))] [3,4,9,10] [4,9]/\SX 63 (LI 92311) [oc 32 .eql 3 24 1,om 31 32] [3,4,9,10,24] [4,9]/\SX 63 (LI 190615) [oz 33 59 9 1,ol 34 3 33,oc 35 .add 3 34 1,oz 36 59 9 1,os (.sto 3 (tq 36) (tq 35))] [3,4,9,10] [4,9]/\SX 63 (LI 387223) [oc 38 .eql 3 24 2,om 37 38] [3,4,9,10,24] [4,9]/\SX 63 (LI 780439) [oz 39 59 9 0,ol 40 3 39,oc 41 .add 3 40 1,oz 42 59 9 0,os (.sto 3 (tq 42) (tq 41))] [3,4,9,10] [4,9]/\SX 63 (LI 1566871) [oc 44 .eql 3 24 3,om 43 44] [3,4,9,10,24] [4,9]/\SX 63 (LI 3139735) [oz 45 59 9 1,ol 46 3 45,oc 47 .sub 3 46 1,oz 48 59 9 1,os (.sto 3 (tq 48) (tq 47))] [3,4,9,10] [4,9]/\SX 63 (LI 5271) [ok 11 0] [3,4,9,10] [4,9]/\SX 63 (LI 68759) [om 49 11,oz 50 27 4 7,ol 51 24 50,oe 52 51 24,ob 53 .lss 3 49 52] [3,4,9,10,11] [4,9]/\RX 63 (LI 281751) (.drw [⟨[],[oz 56 27 4 7,ol 57 24 56,om 58 11,oi 59 24 57 58,ol 60 59 59,ol 61 59 9,ob 62 .eql 59 60 61],[]⟩]) (some ([3,4,9,10,11],[4,9]))/\SX 63 (LI 1199255) [ot 8 true] [] []/\SX 63 (LI 117911) [om 54 11,oc 55 .add 3 54 1,om 11 55] [3,4,9,10,11] [4,9]/\SX 63 (LI 919) [om 22 10,oc 23 .add 3 22 1,om 10 23] [3,4,9,10] [4,9]/\SX 63 (LI 47) [ot 8 false] [] []/\LX 63 Z6 [3,4,9,10] [4,9]/\LX 63 T9 [3,4,9,10,11] [4,9]:=by and_intros<;>first|exact rx|exact lx|exact fun _ _=>rfl
def K5:=rg Tryz.f28
@[simp] def AFE:bq:=(lp (K5 17451595) 30 4 5 (.seq (K5 71977547) (.seq (.seq (K5 306858571) (.cond (.tmp 62) (K5 709511755) .skip)) (.seq (.seq (K5 642402891) (.cond (.tmp 67) (K5 1447709259) .skip)) (.seq (K5 776620619) (.cond (.tmp 75) (K5 1581926987) .skip))))) (K5 30034507))
def UA:=AFE
@[simp] def AQJ:bq:=(lp (K5 68171) 24 2 3 (.seq (K5 281163) (.seq (.seq (K5 1198667) (.block 4 (.loop UA))) (K5 936523))) (K5 117323))
def Z7:=AQJ
@[simp] def AQK:bq:=(lp (K5 267) 18 0 1 (.seq (K5 1099) (.seq (.seq (K5 4683) (.block 2 (.loop Z7))) (K5 3659))) (K5 459))
def Z8:=AQK
def c28:bq:=(.seq (K5 2) (.seq (K5 5) (.seq (.seq (K5 19) (.block 0 (.loop Z8))) (.seq (K5 23) .ret))))
theorem b28:Tryz.f28.body=some c28:=by kernel_rfl
@[simp] theorem BIE(n:Nat)(st:XS):AE bk ann kn (n+1) 89 (K5 3659) st=OR (JM bk (BO bk ann kn n) (.str [om 84 7,om 85 9,oq 86 (.buildS 52 1 [(0,tq 85)]),oq 87 (.app [tq 84,tq 86] [52,52]),om 7 87]) (CK (some ([1,2,3,7,8,9],[3,83,87])) (LU [83] st))) :=
 DG (by kernel_rfl) (by kernel_rfl) (by kernel_rfl) (by kernel_rfl) (by kernel_rfl)
@[simp] theorem x28:UX 89 UA AFE/\UX 89 Z7 AQJ/\UX 89 Z8 AQK/\SX 89 (K5 2) [oq 3 (.box (tq 0)),oq 6 (.mv (.const (.slice none 0 0)))] [0,1,2] [3]/\SX 89 (K5 5) [oq 7 (.mv (.const (.slice none 0 0)))] [1,2,3] [3]/\SX 89 (K5 19) [ok 8 0] [1,2,3,7] [3,87]/\SX 89 (K5 267) [om 15 8,oz 16 27 3 1,ol 17 3 16,ob 18 .lss 3 15 17] [1,2,3,7,8] [3,87]/\SX 89 (K5 1099) [oq 9 (.mv (.const (.slice none 0 0)))] [1,2,3,7,8] [3,87]/\SX 89 (K5 4683) [ok 10 0] [1,2,3,7,8,9] [3,83,87]/\SX 89 (K5 68171) [om 21 10,oz 22 27 3 2,ol 23 3 22,ob 24 .lss 3 21 23] [1,2,3,7,8,9,10] [3,83,87]/\SX 89 (K5 281163) [oq 11 (.alloc 139)] [1,2,3,7,8,9,10] [3,83,87]/\SX 89 (K5 1198667) [ok 12 0] [1,2,3,7,8,9,10,11] [3,11,83,87]/\SX 89 (K5 17451595) [om 27 12,om 28 2,oe 29 28 22,ob 30 .lss 3 27 29] [1,2,3,7,8,9,10,11,12] [3,11,83,87]/\RX 89 (K5 71977547) (.drw [⟨[],[om 33 1,om 34 12,oi 35 23 33 34,ol 36 22 35,om 37 8,oi 38 22 36 37,ol 39 3 38,oz 40 27 3 5,ol 41 22 40,om 42 12,oi 43 22 41 42,ol 44 3 43,ob 45 .eql 3 39 44,ol 46 27 3,om 47 8,om 48 10,oq 49 (.build 59 [(0,tq 47),(1,tq 48)]),om 50 1,om 51 12,oi 52 23 50 51,ol 53 22 52,om 54 8,oi 55 22 53 54,ol 56 3 55,om 57 2,om 58 12,oi 59 22 57 58,ol 60 3 59,od 61 76 [tq 46,tq 49,tq 56,tq 60],om 13 45,om 14 61],[]⟩]) (some ([1,2,3,7,8,9,10,11,12],[3,11,83,87]))/\SX 89 (K5 306858571) [om 62 13] [1,2,3,7,8,9,10,11,12,13,14] [3,11,83,87]/\SX 89 (K5 709511755) [oz 63 139 11 0,ol 64 3 63,oc 65 .add 3 64 1,oz 66 139 11 0,os (.sto 3 (tq 66) (tq 65))] [1,2,3,7,8,9,10,11,12,13,14] [3,11,83,87]/\SX 89 (K5 642402891) [om 67 14] [1,2,3,7,8,9,10,11,12,13,14] [3,11,83,87]/\SX 89 (K5 1447709259) [oz 68 139 11 1,ol 69 3 68,oc 70 .add 3 69 1,oz 71 139 11 1,os (.sto 3 (tq 71) (tq 70))] [1,2,3,7,8,9,10,11,12,13,14] [3,11,83,87]/\SX 89 (K5 776620619) [om 72 13,om 73 72,gm 73 true 74 14,oq 75 (.pick (tq 73) (tq 74) (cb false))] [1,2,3,7,8,9,10,11,12,13,14] [3,11,83,87]/\SX 89 (K5 1581926987) [oz 76 139 11 2,ol 77 3 76,oc 78 .add 3 77 1,oz 79 139 11 2,os (.sto 3 (tq 79) (tq 78))] [1,2,3,7,8,9,10,11,12] [3,11,83,87]/\SX 89 (K5 30034507) [om 31 12,oc 32 .add 3 31 1,om 12 32] [1,2,3,7,8,9,10,11,12] [3,11,83,87]/\SX 89 (K5 936523) [om 80 9,ol 81 139 11,oq 82 (.buildS 137 1 [(0,tq 81)]),oq 83 (.app [tq 80,tq 82] [137,137]),om 9 83] [1,2,3,7,8,9,10,11] [3,11,83,87]/\SX 89 (K5 117323) [om 25 10,oc 26 .add 3 25 1,om 10 26] [1,2,3,7,8,9,10] [3,83,87]/\SX 89 (K5 459) [om 19 8,oc 20 .add 3 19 1,om 8 20] [1,2,3,7,8] [3,87]/\SX 89 (K5 23) [om 88 7,om 6 88] [7] [87]/\LX 89 Z8 [1,2,3,7,8] [3,87]/\LX 89 Z7 [1,2,3,7,8,9,10] [3,83,87]/\LX 89 UA [1,2,3,7,8,9,10,11,12] [3,11,83,87]:=by and_intros<;>first|exact rx|exact lx|exact fun _ _=>rfl
def AL8:=rg Tryz.f130
def A65:bq:=(.seq (AL8 2) (.seq (AL8 5) .ret))
theorem BIF:Tryz.f130.body=some A65:=by kernel_rfl
@[simp] theorem BRJ:SX 2 (AL8 2) [oq 0 (.alloc 162)] [] []/\SX 2 (AL8 5) [oq 1 (.build 162 [(0,ci 1099511627776),(1,.const (.int .i64 (bj 0)))]),os (.sto 162 (tq 0) (tq 1))] [0] [0]:=⟨rx,rx⟩
def AL9:=rg Tryz.f131
def A66:bq:=(.seq (AL9 2) (.seq (AL9 5) .ret))
theorem BIG:Tryz.f131.body=some A66:=by kernel_rfl
@[simp] theorem BRK:SX 14 (AL9 2) [oq 2 (.box (tq 0)),oq 4 (.alloc 162)] [0,1] [2,3,4,5,10]/\SX 14 (AL9 5) [oz 5 162 2 0,ol 6 3 5,om 7 1,oq 8 (.oth (.call ⟨.builtin .min,#[tq 6,tq 7],#[3,3]⟩)),oz 9 162 2 1,ol 10 3 9,om 11 1,oq 12 (.oth (.call ⟨.builtin .max,#[tq 10,tq 11],#[3,3]⟩)),oq 13 (.build 162 [(0,tq 8),(1,tq 12)]),os (.sto 162 (tq 4) (tq 13))] [1,2,3,4] [2,3,4]:=⟨rx,rx⟩
def mA:=rg Tryz.f55
@[simp] def AQL:bq:=(lp (mA 267) 9 0 1 (.seq (mA 1099) (.seq (mA 2635) (.cond (.tmp 17) (mA 5707) .skip))) (mA 459))
def Z9:=AQL
def c55:bq:=(.seq (mA 2) (.seq (mA 5) (.seq (.seq (mA 19) (.block 0 (.loop Z9))) (.seq (mA 23) .ret))))
theorem b55:Tryz.f55.body=some c55:=by kernel_rfl
@[simp] theorem x55:UX 23 Z9 AQL/\SX 23 (mA 2) [oq 1 (.box (tq 0)),oq 2 (.mv (.const (.slice none 0 0)))] [0] [1,14]/\SX 23 (mA 5) [oq 3 (.mv (.const (.slice none 0 0)))] [0,1] [1,14]/\SX 23 (mA 19) [ok 4 0] [0,1,3] [1,14,21]/\SX 23 (mA 267) [om 6 4,ol 7 27 1,od 8 100 [tq 7],ob 9 .lss 3 6 8] [1,3,4] [1,14,21]/\SX 23 (mA 1099) [ol 12 27 1,om 13 4,od 14 101 [tq 12,tq 13],om 5 14] [1,3,4] [1,14,21]/\SX 23 (mA 2635) [ol 15 27 1,om 16 5,od 17 102 [tq 15,tq 16]] [1,3,4,5] [1,14,21]/\SX 23 (mA 5707) [om 18 3,om 19 5,oq 20 (.buildS 23 1 [(0,tq 19)]),oq 21 (.app [tq 18,tq 20] [23,23]),om 3 21] [1,3,4,5] [1,14,21]/\SX 23 (mA 459) [om 10 4,oc 11 .add 3 10 1,om 4 11] [0,1,3,4] [1,14,21]/\SX 23 (mA 23) [om 22 3,om 2 22] [3] [21]/\LX 23 Z9 [1,3,4] [1,14,21]:=⟨fun _ _=>rfl,rx,rx,rx,rx,rx,rx,rx,rx,rx,lx⟩
def sF:=rg Tryz.f87
@[simp] def AQM:bq:=(lp (sF 267) 19 0 1 (.seq (sF 1099) (sF 1611)) (sF 459))
def aA:=AQM
def c87:bq:=(.seq (sF 2) (.seq (sF 5) (.seq (.seq (sF 19) (.block 0 (.loop aA))) (.seq (sF 23) .ret))))
theorem b87:Tryz.f87.body=some c87:=by kernel_rfl
@[simp] theorem x87:UX 47 aA AQM/\SX 47 (sF 2) [oq 4 (.box (tq 0)),oq 7 (.box (tq 3)),oq 8 (.alloc 162),oq 9 (.alloc 162)] [0,1,2,3] [4,28]/\SX 47 (sF 5) [oq 14 (.call true none (.func 130) []),oq 15 (.call true none (.func 130) []),oq 10 (.alloc 162),oq 11 (.alloc 162),os (.sto 162 (tq 10) (tq 14)),os (.sto 162 (tq 11) (tq 15))] [1,2,4,7,8,9] [4,7,8,9,28]/\SX 47 (sF 19) [ok 12 0] [1,2,4,7,8,9,10,11] [4,7,8,9,10,11,28]/\SX 47 (sF 267) [om 16 12,om 17 1,oe 18 17 23,ob 19 .lss 3 16 18] [1,2,4,7,8,9,10,11,12] [4,7,8,9,10,11,28]/\RX 47 (sF 1099) (.drw [⟨[13],[oq 22 (.ldz 27 (tq 4)),om 23 2,om 24 1,om 25 12,oi 26 23 24 25,oq 27 (.ldz 22 (tq 26)),od 28 28 [tq 22,tq 23,tq 27],oz 29 59 7 0,oq 30 (.ldz 3 (tq 29)),oi 31 52 28 30,oq 32 (.ldz 137 (tq 31)),oz 33 59 7 1,oq 34 (.ldz 3 (tq 33)),oi 35 137 32 34,oq 36 (.ldz 139 (tq 35)),oq 13 (.alloc 139)],[os (.sto 139 (tq 13) (tq 36))]⟩]) (some ([1,2,4,7,8,9,10,11,12],[4,7,8,9,10,11]))/\RX 47 (sF 1611) (.drw [⟨[40],[oq 37 (.ldz 162 (tq 10)),oz 38 139 13 1,oq 39 (.ldz 3 (tq 38)),ol 41 162 11,oz 42 139 13 2,ol 43 3 42,oq 40 (.call true none (.func 131) [tq 37,tq 39])],[oq 44 (.call true none (.func 131) [tq 41,tq 43])]⟩,⟨[],[os (.sto 162 (tq 10) (tq 40))],[os (.sto 162 (tq 11) (tq 44))]⟩]) (some ([1,2,4,7,8,9,10,11,12,13],[4,7,8,9,10,11,13,28]))/\SX 47 (sF 459) [om 20 12,oc 21 .add 3 20 1,om 12 21] [1,2,4,7,8,9,10,11,12] [4,7,8,9,10,11,28]/\RX 47 (sF 23) (.drw [⟨[],[oq 45 (.ldz 162 (tq 10)),ol 46 162 11,os (.sto 162 (tq 8) (tq 45))],[os (.sto 162 (tq 9) (tq 46))]⟩]) (some ([8,9,10,11],[8,9,10,11]))/\LX 47 aA [1,2,4,7,8,9,10,11,12] [4,7,8,9,10,11,28]:=⟨fun _ _=>rfl,rx,rx,rx,rx,rx,rx,rx,rx,lx⟩
def VV:=rg Tryz.f35
@[simp] def AQN:bq:=(lp (VV 136343) 24 2 3 (.seq (VV 562327) (VV 824471)) (VV 234647))
def aB:=AQN
@[simp] def AQO:bq:=(lp (VV 535) 17 0 1 (.seq (VV 2199) (.seq (.seq (VV 9367) (.block 2 (.loop aB))) (VV 7319))) (VV 919))
def aC:=AQO
def c35:bq:=(.seq (VV 2) (.seq (VV 5) (.seq (VV 11) (.seq (.seq (VV 39) (.block 0 (.loop aC))) (.seq (VV 47) .ret)))))
theorem b35:Tryz.f35.body=some c35:=by kernel_rfl
@[simp] theorem BIH(n:Nat)(st:XS):AE bk ann kn (n+1) 49 (VV 7319) st=OR (JM bk (BO bk ann kn n) (.str [om 44 4,om 45 6,oq 46 (.buildS 23 1 [(0,tq 45)]),oq 47 (.app [tq 44,tq 46] [23,23]),om 4 47]) (CK (some ([1,3,4,5,6],[1,12,43,47])) (LU [43] st))) :=
 DG (by kernel_rfl) (by kernel_rfl) (by kernel_rfl) (by kernel_rfl) (by kernel_rfl)
@[simp] theorem x35:UX 49 aB AQN/\UX 49 aC AQO/\SX 49 (VV 2) [oq 1 (.box (tq 0)),oq 2 (.mv (.const (.slice none 0 0)))] [0] [1,12]/\SX 49 (VV 5) [oz 10 31 1 0,ol 11 27 10,od 12 55 [tq 11],om 3 12] [1] [1,12]/\SX 49 (VV 11) [oq 4 (.mv (.const (.slice none 0 0)))] [1,3] [1,12]/\SX 49 (VV 39) [ok 5 0] [1,3,4] [1,12,47]/\SX 49 (VV 535) [om 13 5,oz 14 31 1 0,oz 15 27 14 1,ol 16 3 15,ob 17 .lss 3 13 16] [1,3,4,5] [1,12,47]/\SX 49 (VV 2199) [oq 6 (.mv (.const (.slice none 0 0)))] [1,3,4,5] [1,12,47]/\SX 49 (VV 9367) [ok 7 0] [1,3,4,5,6] [1,12,43,47]/\SX 49 (VV 136343) [om 20 7,oz 21 31 1 0,oz 22 27 21 2,ol 23 3 22,ob 24 .lss 3 20 23] [1,3,4,5,6,7] [1,12,43,47]/\SX 49 (VV 562327) [oz 28 31 1 0,ol 29 27 28,om 30 3,oz 31 31 1 1,ol 32 23 31,om 33 5,om 34 7,oq 35 (.build 59 [(0,tq 33),(1,tq 34)]),od 36 87 [tq 29,tq 30,tq 32,tq 35],om 27 36,oq 37 (.oth (.extract (tq 27) 0)),oq 38 (.oth (.extract (tq 27) 1)),oq 8 (.alloc 162),oq 9 (.alloc 162),os (.sto 162 (tq 8) (tq 37)),os (.sto 162 (tq 9) (tq 38))] [1,3,4,5,6,7] [1,12,43,47]/\SX 49 (VV 824471) [om 39 6,oz 40 162 9 0,ol 41 3 40,oq 42 (.buildS 22 1 [(0,tq 41)]),oq 43 (.app [tq 39,tq 42] [22,22]),om 6 43] [1,3,4,5,6,7,9] [1,9,12,43,47]/\SX 49 (VV 234647) [om 25 7,oc 26 .add 3 25 1,om 7 26] [1,3,4,5,6,7] [1,12,43,47]/\SX 49 (VV 919) [om 18 5,oc 19 .add 3 18 1,om 5 19] [1,3,4,5] [1,12,47]/\SX 49 (VV 47) [om 48 4,om 2 48] [4] [47]/\LX 49 aC [1,3,4,5] [1,12,47]/\LX 49 aB [1,3,4,5,6,7] [1,12,43,47]:=by and_intros<;>first|exact rx|exact lx|exact fun _ _=>rfl
def K6:=rg Tryz.f70
@[simp] def AFF:bq:=(lp (K6 4287) 38 0 1 (.seq (K6 17599) (.cond (.tmp 50) (.seq (K6 74943) .ret) .skip)) (K6 7359))
def UB:=AFF
@[simp] def AFG:bq:=(lp (K6 8575) 55 2 3 (.seq (K6 35199) (.cond (.tmp 75) (.seq (K6 149887) .ret) .skip)) (K6 14719))
def UC:=AFG
def c70:bq:=(.seq (K6 2) (.seq (.seq (K6 9) (.cond (.tmp 9) (.seq (K6 37) .ret) .skip)) (.seq (.seq (K6 19) (.seq (K6 43) (.cond (.tmp 14) (.seq (K6 155) .ret) .skip))) (.seq (.seq (K6 39) (.cond (.tmp 21) (.seq (K6 151) .ret) .skip)) (.seq (.seq (K6 79) (.cond (.tmp 26) (.seq (K6 303) .ret) .skip)) (.seq (.seq (K6 159) (.cond (.tmp 33) (.seq (K6 607) .ret) .skip)) (.seq (.seq (K6 319) (.block 0 (.loop UB))) (.seq (.seq (K6 639) (.block 2 (.loop UC))) (.seq (K6 767) .ret)))))))))
theorem b70:Tryz.f70.body=some c70:=by kernel_rfl
@[simp] theorem x70:UX 76 UB AFF/\UX 76 UC AFG/\SX 76 (K6 2) [oq 1 (.box (tq 0)),ok 2 0] [0] [1,24]/\SX 76 (K6 9) [oz 6 31 1 3,ol 7 29 6,oe 8 7 29,oc 9 .gtr 3 8 3] [1] [1,24]/\SX 76 (K6 37) [ok 2 3] [] []/\SX 76 (K6 19) [oz 10 31 1 0,ol 11 27 10,od 12 108 [tq 11],om 3 12] [1] [1,24]/\SX 76 (K6 43) [om 13 3,oc 14 .neq 3 13 0] [1,3] [1,24]/\SX 76 (K6 155) [om 15 3,om 2 15] [3] []/\SX 76 (K6 39) [oz 16 31 1 0,ol 17 27 16,oz 18 31 1 1,ol 19 23 18,od 20 116 [tq 17,tq 19],ou 21 20] [1] [1,24]/\SX 76 (K6 151) [ok 2 2] [] []/\SX 76 (K6 79) [oz 22 31 1 0,ol 23 27 22,od 24 55 [tq 23],oe 25 24 23,oc 26 .eql 3 25 0] [1] [1,24]/\SX 76 (K6 303) [ok 2 11] [] []/\SX 76 (K6 159) [oz 27 31 1 2,ol 28 28 27,oe 29 28 28,oz 30 31 1 0,oz 31 27 30 1,ol 32 3 31,ob 33 .neq 3 29 32] [1] [1,24]/\SX 76 (K6 607) [ok 2 1] [] []/\SX 76 (K6 319) [ok 4 0] [1] [1,24]/\SX 76 (K6 4287) [om 34 4,oz 35 31 1 2,ol 36 28 35,oe 37 36 28,ob 38 .lss 3 34 37] [1,4] [1,24]/\RX 76 (K6 17599) (.drw [⟨[],[oz 41 31 1 2,ol 42 28 41,om 43 4,oi 44 28 42 43,ol 45 97 44,oe 46 45 97,oz 47 31 1 0,oz 48 27 47 2,ol 49 3 48,ob 50 .neq 3 46 49],[]⟩]) (some ([1,4],[1,24]))/\SX 76 (K6 74943) [ok 2 1] [] []/\SX 76 (K6 7359) [om 39 4,oc 40 .add 3 39 1,om 4 40] [1,4] [1,24]/\SX 76 (K6 639) [ok 5 0] [1] [1,24]/\SX 76 (K6 8575) [om 51 5,oz 52 31 1 3,ol 53 29 52,oe 54 53 29,ob 55 .lss 3 51 54] [1,5] [1,24]/\SX 76 (K6 35199) [oz 58 31 1 3,ol 59 29 58,om 60 5,oi 61 29 59 60,oz 62 57 61 0,ol 63 3 62,od 64 57 [tq 63,ci 1,ci 4],ou 65 64,om 66 65,gz 66 false 67 31 1 3,gl 66 false 68 29 67,gm 66 false 69 5,gi 66 false 70 29 68 69,gz 66 false 71 57 70 1,gl 66 false 72 3 71,gd 66 false 73 57 [tq 72,ci 0,ci 5],og 66 false 74 (.oth (.unOp .not 4 (tq 73))),oq 75 (.pick (tq 66) (cb true) (tq 74))] [1,5] [1,24]/\SX 76 (K6 149887) [ok 2 1] [] []/\SX 76 (K6 14719) [om 56 5,oc 57 .add 3 56 1,om 5 57] [1,5] [1,24]/\SX 76 (K6 767) [ok 2 0] [] []/\LX 76 UB [1,4] [1,24]/\LX 76 UC [1,5] [1,24]:=by and_intros<;>first|exact rx|exact lx|exact fun _ _=>rfl
def YS:=rg Tryz.f21
@[simp] def AQP:bq:=(lp (YS 267) 18 0 1 (YS 587) (YS 459))
def aD:=AQP
@[simp] def AQQ:bq:=(lp (YS 535) 36 2 3 (.seq (YS 2199) (YS 3223)) (YS 919))
def aE:=AQQ
def c21:bq:=(.seq (YS 2) (.seq (YS 5) (.seq (.seq (YS 19) (.block 0 (.loop aD))) (.seq (.seq (YS 39) (.block 2 (.loop aE))) (.seq (YS 47) .ret)))))
theorem b21:Tryz.f21.body=some c21:=by kernel_rfl
@[simp] theorem BMO(n:Nat)(st:XS):AE bk ann kn (n+1) 59 (YS 459) st=OR (JM bk (BO bk ann kn n) (.str [om 19 4,oc 20 .add 3 19 1,om 4 20]) (CK (some ([1,2,3,4],[1,2,3,9,12,30,56])) (LU [28,2000000000000030] st))) :=
 DG (by kernel_rfl) (by kernel_rfl) (by kernel_rfl) (by kernel_rfl) (by kernel_rfl)
@[simp] theorem x21:UX 59 aD AQP/\UX 59 aE AQQ/\SX 59 (YS 2) [oq 1 (.box (tq 0)),oq 2 (.alloc 43)] [0] [1,2,3,9,12,30,56]/\RX 59 (YS 5) (.drw [⟨[3],[oz 7 31 1 0,oq 8 (.ldz 27 (tq 7)),od 9 68 [tq 8],oz 10 31 1 1,oq 11 (.ldz 23 (tq 10)),od 12 69 [tq 11],oq 13 (.build 43 [(0,tq 9),(1,tq 12)]),oq 3 (.alloc 43)],[os (.sto 43 (tq 3) (tq 13))]⟩]) (some ([1,2],[1,2,30,56]))/\SX 59 (YS 19) [ok 4 0] [1,2,3] [1,2,3,9,12,30,56]/\SX 59 (YS 267) [om 14 4,oz 15 31 1 2,ol 16 28 15,oe 17 16 28,ob 18 .lss 3 14 17] [1,2,3,4] [1,2,3,9,12,30,56]/\RX 59 (YS 587) (.drw [⟨[],[oz 21 43 3 2,ol 22 28 21,oz 23 31 1 2,ol 24 28 23,om 25 4,oi 26 28 24 25,ol 27 97 26,oq 28 (.app [.const (.slice none 0 0),tq 27] [97,97]),oq 29 (.buildS 28 1 [(0,tq 28)]),oq 30 (.app [tq 22,tq 29] [28,28]),oz 31 43 3 2],[os (.sto 28 (tq 31) (tq 30))]⟩]) (some ([1,2,3,4],[1,2,3,9,12,30,56]))/\SX 59 (YS 39) [ok 5 0] [1,2,3] [1,2,3,9,12,30,56]/\SX 59 (YS 535) [om 32 5,oz 33 31 1 3,ol 34 29 33,oe 35 34 29,ob 36 .lss 3 32 35] [1,2,3,5] [1,2,3,9,12,30,56]/\SX 59 (YS 2199) [oz 39 31 1 3,ol 40 29 39,om 41 5,oi 42 29 40 41,ol 43 57 42,oq 6 (.alloc 57),os (.sto 57 (tq 6) (tq 43))] [1,2,3,5] [1,2,3,9,12,30,56]/\SX 59 (YS 3223) [oz 44 43 3 3,ol 45 41 44,oz 46 57 6 0,ol 47 3 46,oz 48 57 6 1,ol 49 3 48,oz 50 57 6 2,ol 51 4 50,oz 52 57 6 3,ol 53 4 52,oq 54 (.build 94 [(0,tq 47),(1,tq 49),(2,tq 51),(3,tq 53)]),oq 55 (.buildS 41 1 [(0,tq 54)]),oq 56 (.app [tq 45,tq 55] [41,41]),oz 57 43 3 3,os (.sto 41 (tq 57) (tq 56))] [1,2,3,5,6] [1,2,3,6,9,12,30,56]/\SX 59 (YS 919) [om 37 5,oc 38 .add 3 37 1,om 5 38] [1,2,3,5] [1,2,3,9,12,30,56]/\SX 59 (YS 47) [ol 58 43 3,os (.sto 43 (tq 2) (tq 58))] [2,3] [1,2,3,9,12,30,56]/\LX 59 aD [1,2,3,4] [1,2,3,9,12,30,56]/\LX 59 aE [1,2,3,5] [1,2,3,9,12,30,56]:=by and_intros<;>first|exact rx|exact lx|exact fun _ _=>rfl
def g3:=rg Tryz.f3
@[simp] def AQR:bq:=(lp (g3 34303) 93 0 1 (.seq (g3 140799) (.seq (g3 337407) (.cond (.tmp 116) (.seq (g3 1254911) .ret) .skip))) (g3 58879))
def sX:=AQR
def c3:bq:=(.seq (g3 2) (.seq (.seq (g3 9) (.cond (.tmp 26) (.seq (g3 37) .ret) .skip)) (.seq (g3 11) (.seq (g3 23) (.seq (.seq (g3 79) (.cond (.tmp 44) (.seq (g3 303) .ret) .skip)) (.seq (.seq (g3 159) (.cond (.tmp 61) (g3 351) .skip)) (.seq (.seq (g3 319) (.cond (.tmp 63) (.seq (g3 1215) .ret) .skip)) (.seq (g3 383) (.seq (.seq (g3 1279) (.cond (.tmp 89) (.seq (g3 4863) .ret) .skip)) (.seq (.seq (g3 2559) (.block 0 (.loop sX))) (.seq (g3 3071) .ret)))))))))))
theorem b3:Tryz.f3.body=some c3:=by kernel_rfl
@[simp] theorem x3:UX 118 sX AQR/\LX 118 sX [1,3,7,10,11] [3,30,32,34,35,41,50,80]:=⟨fun _ _=>rfl,lx⟩
def nD:=rg Tryz.f103
def AT2:bq:=(.seq (nD 2) (.seq (.seq (nD 9) (.cond (.tmp 7) (.seq (nD 37) .ret) .skip)) (.seq (nD 11) .ret)))
theorem BII:Tryz.f103.body=some AT2:=by kernel_rfl
@[simp] theorem BRQ:SX 16 (nD 2) [ok 4 0] [0,1] []/\SX 16 (nD 9) [om 5 0,oe 6 5 101,oc 7 .eql 3 6 0] [0,1] []/\SX 16 (nD 37) [ok 4 0] [] []/\SX 16 (nD 11) [om 8 0,om 9 1,om 10 0,oe 11 10 101,ob 12 .rem 3 9 11,oi 13 101 8 12,ol 14 100 13,oq 15 (.oth (.convert 100 3 (tq 14))),om 4 15] [0,1] []:=⟨rx,rx,rx,rx⟩
def g54:=rg Tryz.f54
def c54:bq:=(.seq (g54 2) (.seq (g54 5) .ret))
theorem b54:Tryz.f54.body=some c54:=by kernel_rfl
@[simp] theorem x54:SX 10 (g54 2) [oq 1 (.box (tq 0)),ot 2 false] [0] [1]/\SX 10 (g54 5) [ol 3 31 1,od 4 18 [tq 3],om 5 4,gl 5 true 6 31 1,gd 5 true 7 70 [tq 6],gc 5 true 8 .eql 3 7 0,oq 9 (.pick (tq 5) (tq 8) (cb false)),om 2 9] [0,1,2] [1,2,3,4]:=⟨rx,rx⟩
def OQ:=rg Tryz.f56
@[simp] def AQS:bq:=(lp (OQ 272687) 35 2 3 (.seq (OQ 1124655) (.seq (OQ 2697519) (.seq (OQ 5843247) (.cond (.tmp 64) (OQ 12134703) .skip)))) (OQ 469295))
def aF:=AQS
@[simp] def AQT:bq:=(lp (OQ 1071) 26 0 1 (.seq (OQ 4399) (.seq (.seq (OQ 18735) (.block 2 (.loop aF))) (.seq (OQ 22831) (.cond (.tmp 67) (.seq (OQ 80175) .ret) .skip)))) (OQ 1839))
def RZ:=AQT
def c56:bq:=(.seq (OQ 2) (.seq (OQ 5) (.seq (OQ 11) (.seq (OQ 23) (.seq (.seq (OQ 79) (.block 0 (.loop RZ))) (.seq (OQ 95) .ret))))))
theorem b56:Tryz.f56.body=some c56:=by kernel_rfl
@[simp] theorem BIL(n:Nat)(st:XS):AE bk ann kn (n+1) 73 (OQ 5843247) st=OR (JM bk (BO bk ann kn n) (.str [ol 61 31 2,om 62 6,om 63 13,od 64 74 [tq 61,tq 62,tq 63]]) (CK (some ([1,2,6,7,8,9,10,11,13],[2,15,47,60])) (LU [47] st))) :=
 DG (by kernel_rfl) (by kernel_rfl) (by kernel_rfl) (by kernel_rfl) (by kernel_rfl)
@[simp] theorem x56:UX 73 aF AQS/\UX 73 RZ AQT/\SX 73 (OQ 2) [oq 2 (.box (tq 0)),oq 4 (.mv (.const (.slice none 0 0))),ot 5 false] [0,1] [2,15]/\SX 73 (OQ 5) [ol 14 31 2,od 15 26 [tq 14,ci 0],om 6 15] [1,2] [2,15]/\SX 73 (OQ 11) [oq 7 (.mv (.const (.slice none 0 0)))] [1,2,6] [2,15]/\SX 73 (OQ 23) [oz 16 31 2 0,oz 17 27 16 1,ol 18 3 17,oz 19 31 2 0,oz 20 27 19 2,ol 21 3 20,ob 22 .mul 3 18 21,om 8 22] [1,2,6,7] [2,15,47,60]/\SX 73 (OQ 79) [ok 9 0] [1,2,6,7,8] [2,15,47,60]/\SX 73 (OQ 1071) [om 23 9,om 24 6,oe 25 24 49,ob 26 .lss 3 23 25] [1,2,6,7,8,9] [2,15,47,60]/\SX 73 (OQ 4399) [ot 10 false] [1,2,6,7,8,9] [2,15,47,60]/\SX 73 (OQ 18735) [ok 11 0] [1,2,6,7,8,9,10] [2,15,47,60]/\SX 73 (OQ 272687) [om 29 11,om 30 8,ob 31 .lss 3 29 30,om 32 31,gm 32 true 33 10,og 32 true 34 (.oth (.unOp .not 4 (tq 33))),oq 35 (.pick (tq 32) (tq 34) (cb false))] [1,2,6,7,8,9,10,11] [2,15,47,60]/\SX 73 (OQ 1124655) [om 38 1,om 39 9,od 40 103 [tq 38,tq 39],om 41 11,ob 42 .add 3 40 41,om 43 8,ob 44 .rem 3 42 43,om 12 44] [1,2,6,7,8,9,10,11] [2,15,47,60]/\RX 73 (OQ 2697519) (.drw [⟨[],[oq 45 (.buildS 24 0 []),om 46 7,om 48 12,oz 49 31 2 0,oz 50 27 49 2,ol 51 3 50,ob 52 .quo 3 48 51,om 53 12,oz 54 31 2 0,oz 55 27 54 2,ol 56 3 55,ob 57 .rem 3 53 56,oq 58 (.build 59 [(0,tq 52),(1,tq 57)]),oq 59 (.buildS 24 1 [(0,tq 58)]),oq 47 (.app [tq 45,tq 46] [24,24]),oq 60 (.app [tq 47,tq 59] [24,24]),om 13 60],[]⟩]) (some ([1,2,6,7,8,9,10,11,12],[2,15,47,60]))/\SX 73 (OQ 12134703) [om 65 13,om 7 65,ot 10 true] [1,2,6,8,9,11,13] [2,15,47,60]/\SX 73 (OQ 469295) [om 36 11,oc 37 .add 3 36 1,om 11 37] [1,2,6,7,8,9,10,11] [2,15,47,60]/\SX 73 (OQ 22831) [om 66 10,ou 67 66] [1,2,6,7,8,9,10] [2,15,47,60]/\SX 73 (OQ 80175) [oq 4 (.mv (.const (.slice none 0 0))),ot 5 false] [] []/\SX 73 (OQ 1839) [om 27 9,oc 28 .add 3 27 1,om 9 28] [1,2,6,7,8,9] [2,15,47,60]/\SX 73 (OQ 95) [om 68 7,ol 69 31 2,om 70 6,om 71 7,od 72 25 [tq 69,tq 70,tq 71],om 4 68,om 5 72] [2,6,7] [2,15,47,60]/\LX 73 RZ [1,2,6,7,8,9] [2,15,47,60]/\LX 73 aF [1,2,6,7,8,9,10,11] [2,15,47,60]:=by and_intros<;>first|exact rx|exact lx|exact fun _ _=>rfl
def IG:=rg Tryz.f129
@[simp] def AFH:bq:=(lp (IG 4267) 32 0 1 (.seq (IG 17579) (.seq (IG 42155) (.seq (IG 91307) (.seq (IG 189611) (.cond (.tmp 82) (IG 386219) .skip))))) (IG 7339))
def UD:=AFH
def AT3:bq:=(.seq (IG 2) (.seq (IG 5) (.seq (.seq (IG 19) (.cond (.tmp 19) (.seq (IG 75) (.seq (.seq (IG 299) (.block 0 (.loop UD))) (IG 235))) .skip)) (.seq (IG 23) .ret))))
theorem b129:Tryz.f129.body=some AT3:=by kernel_rfl
@[simp] theorem BRT:UX 94 UD AFH/\SX 94 (IG 2) [oq 3 (.box (tq 1)),oq 4 (.alloc 158)] [0,1] []/\RX 94 (IG 5) (.drw [⟨[5],[om 10 0,oq 11 (.oth (.nilCheck (tq 10))),oz 12 175 11 2,oq 13 (.ldz 173 (tq 12)),oq 14 (.ldz 153 (tq 3)),oq 15 (.oth (.lookup 173 (tq 13) (tq 14) true)),om 9 15,oq 16 (.oth (.extract (tq 9) 0)),oq 17 (.oth (.extract (tq 9) 1)),oq 5 (.alloc 158),os (.sto 158 (tq 5) (tq 16)),om 6 17],[]⟩]) (some ([0,3,4],[3,4]))/\SX 94 (IG 19) [om 18 6,ou 19 18] [0,3,4,5,6] [3,4,5]/\SX 94 (IG 75) [oz 20 158 5 2,os (.sto 4 (tq 20) (cb true))] [0,3,4,5] [3,4,5]/\SX 94 (IG 299) [oz 21 153 3 1,oz 22 86 21 1,ol 23 3 22,om 7 23] [0,3,4,5] [3,4,5]/\SX 94 (IG 4267) [om 24 7,oz 25 153 3 1,oz 26 86 25 1,ol 27 3 26,oz 28 153 3 0,oz 29 151 28 1,ol 30 3 29,ob 31 .add 3 27 30,ob 32 .lss 3 24 31] [0,3,4,5,7] [3,4,5]/\RX 94 (IG 17579) (.drw [⟨[],[om 35 0,oq 36 (.oth (.nilCheck (tq 35))),oz 37 175 36 1,ol 38 172 37,oz 39 153 3 1,oz 40 86 39 0,ol 41 3 40,om 42 7,oi 43 172 38 41,oi 44 206 43 42,ol 45 3 44,om 8 45],[]⟩]) (some ([0,3,4,5,7],[3,4,5]))/\SX 94 (IG 42155) [oz 46 158 5 0,ol 47 3 46,om 48 8,ob 49 .add 3 47 48,oz 50 158 5 0,os (.sto 3 (tq 50) (tq 49))] [0,3,4,5,7,8] [3,4,5]/\RX 94 (IG 91307) (.drw [⟨[],[oz 51 158 5 2,oq 52 (.ldz 4 (tq 51)),om 53 52,gm 53 true 54 8,gm 53 true 55 0,og 53 true 56 (.oth (.nilCheck (tq 55))),gz 53 true 57 175 56 0,gz 53 true 58 43 57 3,og 53 true 59 (.ldz 41 (tq 58)),gz 53 true 60 153 3 0,gz 53 true 61 151 60 0,og 53 true 62 (.ldz 3 (tq 61)),gi 53 true 63 41 59 62,gz 53 true 64 94 63 1,og 53 true 65 (.ldz 3 (tq 64)),gb 53 true 66 .geq 3 54 65,oq 67 (.pick (tq 53) (tq 66) (cb false)),oz 68 158 5 2],[os (.sto 4 (tq 68) (tq 67))]⟩]) (some ([0,3,4,5,7,8],[3,4,5]))/\RX 94 (IG 189611) (.drw [⟨[],[om 69 0,oq 70 (.oth (.nilCheck (tq 69))),oz 71 175 70 0,oz 72 43 71 2,ol 73 28 72,oz 74 153 3 1,oz 75 86 74 0,ol 76 3 75,oi 77 28 73 76,ol 78 97 77,om 79 7,oi 80 97 78 79,ol 81 4 80,ou 82 81],[]⟩]) (some ([0,3,4,5,7],[3,4,5]))/\SX 94 (IG 386219) [oz 83 158 5 1,ol 84 3 83,oc 85 .add 3 84 1,oz 86 158 5 1,os (.sto 3 (tq 86) (tq 85))] [0,3,4,5,7] [3,4,5]/\SX 94 (IG 7339) [om 33 7,oc 34 .add 3 33 1,om 7 34] [0,3,4,5,7] [3,4,5]/\RX 94 (IG 235) (.drw [⟨[],[om 87 0,oq 88 (.oth (.nilCheck (tq 87))),oz 89 175 88 2,ol 90 173 89,ol 91 153 3,ol 92 158 5],[os (.upd 173 (tq 90) (tq 91) (tq 92))]⟩]) (some ([0,3,4,5],[3,4,5]))/\SX 94 (IG 23) [ol 93 158 5,os (.sto 158 (tq 4) (tq 93))] [4,5] [4,5]/\LX 94 UD [0,3,4,5,7] [3,4,5]:=by and_intros<;>first|exact rx|exact lx|exact fun _ _=>rfl
def mB:=rg Tryz.f86
@[simp] def AQU:bq:=(.seq (mB 139) (.seq (.cond (.tmp 13) .skip (.exit 0)) (.seq (.block 1 (.seq (mB 2251) (.seq (mB 5323) (mB 7371)))) (mB 971))))
def aG:=AQU
def c86:bq:=(.seq (mB 2) (.seq (mB 5) (.seq (.seq (mB 19) (.block 0 (.loop aG))) (.seq (mB 23) .ret))))
theorem b86:Tryz.f86.body=some c86:=by kernel_rfl
@[simp] theorem x86:UX 38 aG AQU/\SX 38 (mB 2) [oq 4 (.alloc 158)] [0,1] []/\SX 38 (mB 5) [oq 9 (.build 158 [(2,cb true)]),oq 5 (.alloc 158),os (.sto 158 (tq 5) (tq 9))] [0,1,4] [4]/\SX 38 (mB 19) [om 10 1,oe 11 10 120,ok 12 0] [0,1,4,5] [4,5]/\SX 38 (mB 139) [ob 13 .lss 3 12 11] [0,4,5,10,11,12] [4,5]/\SX 38 (mB 2251) [oi 14 120 10 12,ol 15 153 14,oq 7 (.alloc 153),os (.sto 153 (tq 7) (tq 15))] [0,4,5,10,11,12] [4,5]/\SX 38 (mB 5323) [om 16 0,ol 17 153 7,oq 18 (.call true none (.func 129) [tq 16,tq 17]),oq 8 (.alloc 158),os (.sto 158 (tq 8) (tq 18))] [0,4,5,7,10,11,12] [4,5,7]/\SX 38 (mB 7371) [oz 19 158 5 0,ol 20 3 19,oz 21 158 8 0,ol 22 3 21,ob 23 .add 3 20 22,oz 24 158 5 1,ol 25 3 24,oz 26 158 8 1,ol 27 3 26,ob 28 .add 3 25 27,oz 29 158 5 2,ol 30 4 29,om 31 30,gz 31 true 32 158 8 2,gl 31 true 33 4 32,oq 34 (.pick (tq 31) (tq 33) (cb false)),oq 35 (.build 158 [(0,tq 23),(1,tq 28),(2,tq 34)]),os (.sto 158 (tq 5) (tq 35))] [0,4,5,8,10,11,12] [4,5,8]/\SX 38 (mB 971) [oc 36 .add 3 12 1,om 12 36] [0,4,5,10,11,12] [4,5]/\SX 38 (mB 23) [ol 37 158 5,os (.sto 158 (tq 4) (tq 37))] [4,5] [4,5]/\LX 38 aG [0,4,5,10,11,12] [4,5]:=⟨fun _ _=>rfl,rx,rx,rx,rx,rx,rx,rx,rx,rx,lx⟩
def FV:=rg Tryz.f168
@[simp] def AFI:bq:=(.seq (FV 36043) (.seq (.cond (.tmp 41) .skip (.exit 2)) (.seq (.block 3 (.seq (FV 576715) (.seq (FV 1363147) (.seq (.seq (FV 5033163) (.cond (.tmp 61) (.exit 3) .skip)) (.seq (FV 6081739) (.seq (.seq (FV 20761803) (.cond (.tmp 70) (.seq (FV 79482059) .ret) .skip)) (FV 16567499))))))) (FV 249035))))
def UE:=AFI
@[simp] def AFJ:bq:=(.seq (FV 139) (.seq (.cond (.tmp 25) .skip (.exit 0)) (.seq (.block 1 (.seq (FV 2251) (.seq (FV 5323) (.block 2 (.loop UE))))) (FV 971))))
def UF:=AFJ
def sZ:bq:=(.seq (FV 2) (.seq (.seq (FV 9) (.cond (.tmp 14) (.seq (FV 37) .ret) .skip)) (.seq (.seq (FV 19) (.block 0 (.loop UF))) (.seq (FV 23) .ret))))
theorem b168:Tryz.f168.body=some sZ:=by kernel_rfl
@[simp] theorem BD2(n:Nat)(st:XS):AE bk ann kn (n+1) 76 (FV 20761803) st=OR (JM bk (BO bk ann kn n) (.str [ol 66 177 5,om 67 0,oc 68 .add 3 67 1,oq 69 (.call false none (tq 66) [tq 68]),ou 70 69]) (CK (some ([0,1,3,4,5,8,23,24,39,40],[10,65])) (LU [8004000922065] st))) :=
 DG (by kernel_rfl) (by kernel_rfl) (by kernel_rfl) (by kernel_rfl) (by kernel_rfl)
@[simp] theorem BRU:UX 76 UE AFI/\UX 76 UF AFJ/\SX 76 (FV 2) [ot 7 false] [0,1,2,3,4,5] [10,65]/\SX 76 (FV 9) [om 11 0,ol 12 170 1,oe 13 12 170,ob 14 .eql 3 11 13] [0,1,2,3,4,5] [10,65]/\SX 76 (FV 37) [ol 15 191 2,ol 16 120 3,oq 17 (.call false none (tq 15) [tq 16]),om 7 17] [2,3] [65]/\SX 76 (FV 19) [ol 18 130 4,oq 19 (.oth (.nilCheck (tq 18))),oz 20 175 19 0,oz 21 43 20 0,oz 22 40 21 1,ol 23 3 22,ok 24 0] [0,1,3,4,5] [10,65]/\SX 76 (FV 139) [ob 25 .lss 3 24 23] [0,1,3,4,5,23,24] [10,65]/\SX 76 (FV 2251) [om 26 24,om 8 26] [0,1,3,4,5,23,24] [10,65]/\RX 76 (FV 5323) (.drw [⟨[],[ol 27 130 4,oq 28 (.oth (.nilCheck (tq 27))),oz 29 175 28 0,oz 30 43 29 0,oz 31 40 30 2,ol 32 3 31,ol 33 170 1,om 34 0,oi 35 170 33 34,oz 36 151 35 1,ol 37 3 36,ob 38 .sub 3 32 37,oc 39 .add 3 38 1,ok 40 0],[]⟩]) (some ([0,1,3,4,5,8,23,24],[10,65]))/\SX 76 (FV 36043) [ob 41 .lss 3 40 39] [0,1,3,4,5,8,23,24,39,40] [10,65]/\SX 76 (FV 576715) [om 42 40,om 9 42] [0,1,3,4,5,8,23,24,39,40] [10,65]/\SX 76 (FV 1363147) [ol 43 170 1,om 44 0,oi 45 170 43 44,ol 46 151 45,om 47 8,om 48 9,oq 49 (.build 86 [(0,tq 47),(1,tq 48)]),oq 50 (.build 153 [(0,tq 46),(1,tq 49)]),oq 10 (.alloc 153),os (.sto 153 (tq 10) (tq 50))] [0,1,3,4,5,8,9,23,24,39,40] [10,65]/\SX 76 (FV 5033163) [ol 51 130 4,ol 52 153 10,od 53 129 [tq 51,tq 52],oq 54 (.oth (.field 158 (tq 53) 2)),ou 55 54,om 56 55,gl 56 false 57 120 3,og 56 false 58 (.oth (.makeFunc (.func 169) #[] #[tq 4,tq 10])),gd 56 false 59 137 [tq 57,tq 58],og 56 false 60 (.oth (.unOp .not 4 (tq 59))),oq 61 (.pick (tq 56) (cb true) (tq 60))] [0,1,3,4,5,8,10,23,24,39,40] [10,65]/\SX 76 (FV 6081739) [ol 62 120 3,ol 63 153 10,oq 64 (.buildS 120 1 [(0,tq 63)]),oq 65 (.app [tq 62,tq 64] [120,120]),os (.sto 120 (tq 3) (tq 65))] [0,1,3,4,5,8,10,23,24,39,40] [10,65]/\SX 76 (FV 79482059) [ot 7 false] [] []/\SX 76 (FV 16567499) [ol 71 120 3,om 72 0,oq 73 (.oth (.slice 120 (tq 71) none (some (tq 72)) none)),os (.sto 120 (tq 3) (tq 73))] [0,1,3,4,5,8,23,24,39,40] [10,65]/\SX 76 (FV 249035) [oc 74 .add 3 40 1,om 40 74] [0,1,3,4,5,8,23,24,39,40] [10,65]/\SX 76 (FV 971) [oc 75 .add 3 24 1,om 24 75] [0,1,3,4,5,23,24] [10,65]/\SX 76 (FV 23) [ot 7 true] [] []/\LX 76 UF [0,1,3,4,5,23,24] [10,65]/\LX 76 UE [0,1,3,4,5,8,23,24,39,40] [10,65]:=by and_intros<;>first|exact rx|exact lx|exact fun _ _=>rfl
def AMA:=rg Tryz.f169
def A69:bq:=(.seq (AMA 2) (.seq (AMA 5) .ret))
theorem b169:Tryz.f169.body=some A69:=by kernel_rfl
@[simp] theorem BRV:SX 12 (AMA 2) [oq 3 (.box (tq 0)),ot 4 false] [0,1,2] []/\RX 12 (AMA 5) (.drw [⟨[],[ol 5 130 1,oq 6 (.oth (.nilCheck (tq 5))),oz 7 175 6 0,ol 8 43 7,ol 9 153 2,ol 10 153 3],[od 11 139 [tq 8,tq 9,tq 10]]⟩,⟨[],[om 4 11],[]⟩]) (some ([1,2,3],[3])):=⟨rx,rx⟩
def AMB:=rg Tryz.f128
def AMC:bq:=(.seq (AMB 2) (.seq (AMB 5) .ret))
theorem b128:Tryz.f128.body=some AMC:=by kernel_rfl
@[simp] theorem BRW:SX 6 (AMB 2) [oq 2 (.box (tq 0)),oq 3 (.box (tq 1)),oq 4 (.mv (.const .nilFunc))] [0,1] [2,3]/\SX 6 (AMB 5) [oq 5 (.oth (.makeFunc (.func 167) #[] #[tq 3,tq 2])),om 4 5] [2,3] [2,3]:=⟨rx,rx⟩
def J6:=rg Tryz.f167
@[simp] def AFK:bq:=(.seq (J6 139) (.seq (.cond (.tmp 12) .skip (.exit 0)) (.seq (.block 1 (.seq (J6 2251) (J6 3275))) (J6 971))))
def UG:=AFK
def ABB:bq:=(.seq (J6 2) (.seq (J6 5) (.seq (.seq (J6 19) (.block 0 (.loop UG))) (.seq (.seq (J6 39) (.cond (.tmp 26) .ret .skip)) (.seq (J6 47) (.seq (J6 95) (.seq (J6 191) (J6 255))))))))
theorem b167:Tryz.f167.body=some ABB:=by kernel_rfl
@[simp] theorem BRX:UX 30 UG AFK/\SX 30 (J6 2) [oq 3 (.box (tq 0))] [0,1,2] [3,7,8]/\SX 30 (J6 5) [ok 4 0] [1,2,3] [3,7,8]/\SX 30 (J6 19) [ol 9 170 1,oe 10 9 170,ok 11 0] [1,2,3,4] [3,7,8]/\SX 30 (J6 139) [ob 12 .lss 3 11 10] [1,2,3,4,9,10,11] [3,7,8]/\SX 30 (J6 2251) [oi 13 170 9 11,ol 14 151 13,oq 6 (.alloc 151),os (.sto 151 (tq 6) (tq 14))] [1,2,3,4,9,10,11] [3,7,8]/\SX 30 (J6 3275) [om 15 4,oz 16 151 6 1,ol 17 3 16,ob 18 .add 3 15 17,om 4 18] [1,2,3,4,6,9,10,11] [3,6,7,8]/\SX 30 (J6 971) [oc 19 .add 3 11 1,om 11 19] [1,2,3,4,9,10,11] [3,7,8]/\SX 30 (J6 39) [om 20 4,ol 21 130 2,oq 22 (.oth (.nilCheck (tq 21))),oz 23 175 22 0,ol 24 43 23,od 25 140 [tq 24],ob 26 .gtr 3 20 25] [1,2,3,4] [3,7,8]/\SX 30 (J6 47) [oq 7 (.alloc 120)] [1,2,3] [3,7,8]/\SX 30 (J6 95) [oq 8 (.alloc 177)] [1,2,3,7] [3,7,8]/\SX 30 (J6 191) [oq 27 (.oth (.makeFunc (.func 168) #[] #[tq 1,tq 3,tq 7,tq 2,tq 8])),os (.sto 177 (tq 8) (tq 27))] [1,2,3,7,8] [3,7,8]/\SX 30 (J6 255) [ol 28 177 8,oq 29 (.call false none (tq 28) [ci 0])] [6,7,8,21,22] [1,3,4,6,7,8,11,910,911]/\LX 30 UG [1,2,3,4,9,10,11] [3,7,8]:=⟨fun _ _=>rfl,rx,rx,rx,rx,rx,rx,rx,rx,rx,rx,rx,rx,lx⟩
def g91:=rg Tryz.f91
def c91:bq:=(.seq (g91 2) (.seq (.seq (g91 9) (.block 0 (.rangeFunc (.tmp 7) #[8] .skip (.block 1 (.seq (g91 149) .ret))))) (.seq (g91 11) .ret)))
def I6:=rg Tryz.f85
@[simp] def AQV:bq:=(.seq (I6 17877) (.seq (.cond (.tmp 45) .skip (.exit 2)) (.seq (.block 3 (.seq (I6 288213) (I6 419285))) (I6 124373))))
def O3:=AQV
def c85:bq:=(.seq (I6 2) (.seq (.seq (I6 9) (.block 0 (.rangeFunc (.tmp 15) #[16] (I6 37) (.block 1 (.seq (I6 149) (.seq (.seq (I6 597) (.cond (.tmp 41) (.exit 1) .skip)) (.seq (I6 725) (.seq (.seq (I6 2517) (.block 2 (.loop O3))) (I6 2005))))))))) (.seq (I6 11) .ret)))
theorem b85:Tryz.f85.body=some c85:=by kernel_rfl
@[simp] theorem BIN(n:Nat)(st:XS):AE bk ann kn (n+1) 58 (I6 124373) st=OR (JM bk (BO bk ann kn n) (.str [oc 53 .add 3 44 1,om 44 53]) (CK (some ([2,3,4,6,42,43,44],[2,3,4,6,52,922])) (LU [3003000923052] st))) :=
 DG (by kernel_rfl) (by kernel_rfl) (by kernel_rfl) (by kernel_rfl) (by kernel_rfl)
@[simp] theorem BIO(n:Nat)(st:XS):AE bk ann kn (n+1) 58 (I6 11) st=OR (JM bk (BO bk ann kn n) (.cls [(37,(2,55)),(158,(3,56)),(4,(4,57))]) (CK (some ([2,3,4],[2,3,4,52,922])) (LU [922] st))) :=
 DG (by kernel_rfl) (by kernel_rfl) (by kernel_rfl) (by kernel_rfl) (by kernel_rfl)
@[simp] theorem x85:UX 58 O3 AQV/\SX 58 (I6 2) [oq 1 (.box (tq 0)),oq 2 (.alloc 37),oq 3 (.alloc 158),oq 4 (.alloc 4)] [0] [1,10,14,15,32,36]/\RX 58 (I6 9) (.drw [⟨[],[ol 9 130 1,ol 10 130 1,oq 11 (.oth (.nilCheck (tq 10))),oz 12 175 11 0,ol 13 43 12,od 14 92 [tq 13,.const (.slice none 0 0)]],[od 15 128 [tq 9,tq 14]]⟩,⟨[],[],[]⟩]) (some ([1,2,3,4],[1,2,3,4,52,922]))/\SX 58 (I6 37) [om 5 16] [1,2,3,4,16] [1,2,3,4,14,15,52,922]/\SX 58 (I6 149) [ol 17 130 1,om 18 5,oq 19 (.call true none (.func 86) [tq 17,tq 18]),oq 6 (.alloc 158),os (.sto 158 (tq 6) (tq 19))] [1,2,3,4,5] [1,2,3,4,14,15,52,922]/\SX 58 (I6 597) [ol 20 4 4,om 21 20,gz 21 true 22 158 6 0,gl 21 true 23 3 22,gz 21 true 24 158 3 0,gl 21 true 25 3 24,gb 21 true 26 .lss 3 23 25,gm 21 true 27 26,gz 27 false 28 158 6 0,gl 27 false 29 3 28,gz 27 false 30 158 3 0,gl 27 false 31 3 30,gb 27 false 32 .eql 3 29 31,gm 27 false 33 32,gz 33 true 34 158 6 1,gl 33 true 35 3 34,gz 33 true 36 158 3 1,gl 33 true 37 3 36,gb 33 true 38 .geq 3 35 37,og 27 false 39 (.pick (tq 33) (tq 38) (cb false)),og 21 true 40 (.pick (tq 27) (cb true) (tq 39)),oq 41 (.pick (tq 21) (tq 40) (cb false))] [2,3,4,5,6] [2,3,4,6,52,922]/\SX 58 (I6 725) [os (.sto 37 (tq 2) (.const (.slice none 0 0)))] [2,3,4,5,6] [2,3,4,6,52,922]/\SX 58 (I6 2517) [om 42 5,oe 43 42 120,ok 44 0] [2,3,4,5,6] [2,3,4,6,52,922]/\SX 58 (I6 17877) [ob 45 .lss 3 44 43] [2,3,4,6,42,43,44] [2,3,4,6,52,922]/\SX 58 (I6 288213) [oi 46 120 42 44,ol 47 153 46,oq 8 (.alloc 153),os (.sto 153 (tq 8) (tq 47))] [2,3,4,6,42,43,44] [2,3,4,6,52,922]/\SX 58 (I6 419285) [ol 48 37 2,oz 49 153 8 1,ol 50 86 49,oq 51 (.buildS 37 1 [(0,tq 50)]),oq 52 (.app [tq 48,tq 51] [37,37]),os (.sto 37 (tq 2) (tq 52))] [2,3,4,6,8,42,43,44] [2,3,4,6,8,52,922]/\SX 58 (I6 2005) [ol 54 158 6,os (.sto 158 (tq 3) (tq 54)),os (.sto 4 (tq 4) (cb true))] [3,4,6] [3,4,6]/\LX 58 O3 [2,3,4,6,42,43,44] [2,3,4,6,52,922]:=⟨fun _ _=>rfl,rx,rx,rx,rx,rx,rx,rx,rx,rx,rx,rx,lx⟩
def sG:=rg Tryz.f33
def c33:bq:=(.seq (sG 2) (.seq (sG 5) (.seq (.seq (sG 19) (.cond (.tmp 15) (.seq (sG 75) .ret) .skip)) (.seq (sG 23) (.seq (.seq (sG 79) (.cond (.tmp 24) (.seq (sG 303) .ret) .skip)) (.seq (sG 95) .ret))))))
theorem b33:Tryz.f33.body=some c33:=by kernel_rfl
@[simp] theorem x33:SX 30 (sG 2) [oq 1 (.box (tq 0)),oq 2 (.mv (.const (.slice none 0 0))),ok 3 0,ok 4 0,ok 5 0] [0] [1,11,19,910,911]/\SX 30 (sG 5) [ol 10 43 1,od 11 71 [tq 10],om 9 11,oq 12 (.oth (.extract (tq 9) 0)),oq 13 (.oth (.extract (tq 9) 1)),om 6 12,om 5 13] [1] [1,11,19,910,911]/\SX 30 (sG 19) [om 14 5,oc 15 .neq 34 14 0] [1,4,5,6] [1,4,6,7,11,19,910,911]/\SX 30 (sG 75) [om 16 5,oq 2 (.mv (.const (.slice none 0 0))),ok 3 0,ok 4 0,om 5 16] [5] []/\SX 30 (sG 23) [om 18 6,od 19 85 [tq 18],om 17 19,oq 20 (.oth (.extract (tq 17) 0)),oq 21 (.oth (.extract (tq 17) 1)),oq 22 (.oth (.extract (tq 17) 2)),oq 7 (.alloc 158),om 2 20,os (.sto 158 (tq 7) (tq 21)),om 8 22] [6] [1,11,19,910,911]/\SX 30 (sG 79) [om 23 8,ou 24 23] [2,7,8] [1,7,11,19,910,911]/\SX 30 (sG 303) [oq 2 (.mv (.const (.slice none 0 0))),ok 3 0,ok 4 0,ok 5 10] [] []/\RX 30 (sG 95) (.drw [⟨[],[om 25 2,oz 26 158 7 0,ol 27 3 26,oz 28 158 7 1,ol 29 3 28,om 2 25,om 3 27,om 4 29,ok 5 0],[]⟩]) (some ([2,7],[1,7,11,19,910,911])):=by and_intros<;>exact rx
def mC:=rg Tryz.f34
def c34:bq:=(.seq (mC 2) (.seq (mC 5) (.seq (.seq (mC 19) (.cond (.tmp 20) (.seq (mC 75) .ret) .skip)) (.seq (mC 23) (.seq (.seq (mC 79) (.cond (.tmp 28) (.seq (mC 303) .ret) .skip)) (.seq (mC 95) (.seq (mC 191) .ret)))))))
theorem b34:Tryz.f34.body=some c34:=by kernel_rfl
@[simp] theorem x34:SX 46 (mC 2) [oq 4 (.box (tq 0)),ot 8 false] [0,1,2,3] [4,16,24,910,911]/\SX 46 (mC 5) [ol 15 43 4,od 16 71 [tq 15],om 14 16,oq 17 (.oth (.extract (tq 14) 0)),oq 18 (.oth (.extract (tq 14) 1)),om 9 17,om 10 18] [1,2,3,4] [4,16,24,910,911]/\SX 46 (mC 19) [om 19 10,oc 20 .neq 34 19 0] [1,2,3,4,9,10] [4,16,24,910,911]/\SX 46 (mC 75) [ot 8 false] [] []/\SX 46 (mC 23) [ol 22 43 4,om 23 1,od 24 65 [tq 22,tq 23],om 21 24,oq 25 (.oth (.extract (tq 21) 0)),oq 26 (.oth (.extract (tq 21) 1)),om 11 25,om 12 26] [1,2,3,4,9] [4,16,24,910,911]/\SX 46 (mC 79) [om 27 12,ou 28 27] [2,3,9,11,12] [4,16,24,910,911]/\SX 46 (mC 303) [ot 8 false] [] []/\SX 46 (mC 95) [om 29 9,om 30 11,oq 31 (.call true none (.func 86) [tq 29,tq 30]),oq 13 (.alloc 158),os (.sto 158 (tq 13) (tq 31))] [2,3,9,11] [4,16,24,910,911]/\SX 46 (mC 191) [oz 32 158 13 2,ol 33 4 32,om 34 33,gz 34 true 35 158 13 0,gl 34 true 36 3 35,gm 34 true 37 2,gb 34 true 38 .geq 3 36 37,oq 39 (.pick (tq 34) (tq 38) (cb false)),om 40 39,gz 40 true 41 158 13 1,gl 40 true 42 3 41,gm 40 true 43 3,gb 40 true 44 .leq 3 42 43,oq 45 (.pick (tq 40) (tq 44) (cb false)),om 8 45] [2,3,13] [13]:=by and_intros<;>exact rx
def YT:=rg Tryz.f11
def c11:bq:=(.seq (YT 2) (.seq (.seq (YT 9) (.cond (.tmp 17) (.seq (YT 37) .ret) .skip)) (.seq (YT 11) (.seq (YT 23) (.seq (YT 47) (.seq (.seq (YT 159) (.cond (.tmp 38) (.seq (YT 607) .ret) .skip)) (.seq (.seq (YT 319) (.cond (.tmp 65) (.seq (YT 1215) .ret) .skip)) (.seq (YT 383) (.seq (YT 767) .ret)))))))))
theorem b11:Tryz.f11.body=some c11:=by kernel_rfl
@[simp] theorem x11:SX 112 (YT 2) [oq 2 (.box (tq 0)),ot 4 false] [0,1] [2,21,22,30,34,36,90,92,100,102]/\SX 112 (YT 9) [ol 15 31 2,od 16 54 [tq 15],ou 17 16] [1,2] [2,21,22,30,34,36,90,92,100,102]/\SX 112 (YT 37) [od 18 19 [],om 4 18] [] []/\SX 112 (YT 11) [ol 20 31 2,od 21 21 [tq 20],od 22 33 [tq 21],om 19 22,oq 23 (.oth (.extract (tq 19) 0)),oq 24 (.oth (.extract (tq 19) 1)),oq 25 (.oth (.extract (tq 19) 2)),oq 26 (.oth (.extract (tq 19) 3)),om 5 23,om 6 24,om 7 25,om 8 26] [1,2] [2,21,22,30,34,36,90,92,100,102]/\SX 112 (YT 23) [ol 28 31 2,om 29 1,od 30 56 [tq 28,tq 29],om 27 30,oq 31 (.oth (.extract (tq 27) 0)),oq 32 (.oth (.extract (tq 27) 1)),om 9 31,om 10 32] [1,2,6,7,8] [2,21,22,30,34,36,90,92,100,102]/\RX 112 (YT 47) (.drw [⟨[],[ol 33 31 2,od 34 35 [tq 33],ol 35 31 2],[od 36 26 [tq 35,ci 0]]⟩,⟨[],[om 11 34,om 12 36],[]⟩]) (some ([2,6,7,8,9,10],[2,21,22,30,90,92,100,102]))/\SX 112 (YT 159) [om 37 8,oc 38 .neq 34 37 0] [2,6,7,8,9,10,11,12] [2,21,22,30,34,36,90,92,100,102]/\SX 112 (YT 607) [om 39 8,oc 40 .eql 34 39 10,om 41 40,gm 41 true 42 10,og 41 true 43 (.oth (.unOp .not 4 (tq 42))),gm 41 true 44 43,gl 44 false 45 31 2,gm 44 false 46 11,gm 44 false 47 12,gm 44 false 48 9,gd 44 false 49 36 [tq 45,tq 46,tq 47,tq 48],og 44 false 50 (.oth (.unOp .not 4 (tq 49))),og 41 true 51 (.pick (tq 44) (cb true) (tq 50)),oq 52 (.pick (tq 41) (tq 51) (cb false)),om 53 52,gd 53 true 54 19 [],oq 55 (.pick (tq 53) (tq 54) (cb false)),om 4 55] [2,8,9,10,11,12] [2,21,22,30,34,36,90,92,100,102]/\SX 112 (YT 319) [om 56 10,ou 57 56,om 58 57,gl 58 false 59 31 2,gm 58 false 60 11,gm 58 false 61 12,gm 58 false 62 9,gd 58 false 63 36 [tq 59,tq 60,tq 61,tq 62],og 58 false 64 (.oth (.unOp .not 4 (tq 63))),oq 65 (.pick (tq 58) (cb true) (tq 64))] [2,6,7,9,10,11,12] [2,21,22,30,34,36,90,92,100,102]/\SX 112 (YT 1215) [od 66 19 [],om 4 66] [] []/\RX 112 (YT 383) (.drw [⟨[],[om 67 11,om 68 12,om 69 9,od 70 37 [tq 67,tq 68,tq 69],ol 71 31 2,om 72 12,om 73 9],[od 74 38 [tq 71,tq 72,tq 73]]⟩,⟨[],[om 13 70,om 14 74],[]⟩]) (some ([2,6,7,9,11,12],[2,21,22,30,34,36,90,92,100,102]))/\SX 112 (YT 767) [om 75 13,om 76 6,ob 77 .leq 3 75 76,om 78 77,gm 78 true 79 13,gm 78 true 80 6,gb 78 true 81 .lss 3 79 80,gm 78 true 82 81,gm 82 false 83 14,gm 82 false 84 7,gb 82 false 85 .geq 3 83 84,og 78 true 86 (.pick (tq 82) (cb true) (tq 85)),oq 87 (.pick (tq 78) (tq 86) (cb false)),om 88 87,gl 88 true 89 31 2,gd 88 true 90 21 [tq 89],gm 88 true 91 9,gd 88 true 92 22 [tq 91],gm 88 true 93 6,gc 88 true 94 .add 3 93 1,gd 88 true 95 34 [tq 90,tq 92,tq 94,ci 99],og 88 true 96 (.oth (.unOp .not 4 (tq 95))),oq 97 (.pick (tq 88) (tq 96) (cb false)),om 98 97,gl 98 true 99 31 2,gd 98 true 100 21 [tq 99],gm 98 true 101 9,gd 98 true 102 22 [tq 101],gm 98 true 103 6,gm 98 true 104 7,gc 98 true 105 .sub 3 104 1,gd 98 true 106 34 [tq 100,tq 102,tq 103,tq 105],og 98 true 107 (.oth (.unOp .not 4 (tq 106))),oq 108 (.pick (tq 98) (tq 107) (cb false)),om 109 108,gd 109 true 110 19 [],oq 111 (.pick (tq 109) (tq 110) (cb false)),om 4 111] [2,6,7,9,13,14] [2,21,22,30,34,36,90,92,100,102]:=by and_intros<;>exact rx
end
end Go.Proofs.Tryz.Op
