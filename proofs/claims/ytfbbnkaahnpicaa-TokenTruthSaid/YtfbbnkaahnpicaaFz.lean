/- The walk's ground of function 61: its regions worked out. No condition. -/
import Derived.Test.YtfbbnkaahnpicaaGa
set_option maxRecDepth 100000
namespace Go.Proofs.Try.Op
open Go Go.Pg
noncomputable section
def r61_0:=rg Try.f61 2
def r61_1:=rg Try.f61 5
def r61_2:=rg Try.f61 11
def r61_3:=rg Try.f61 23
def r61_4:=rg Try.f61 79
def r61_5:=rg Try.f61 1071
def r61_7:=rg Try.f61 4399
def r61_8:=rg Try.f61 10543
def r61_9:=rg Try.f61 39215
def r61_10:=rg Try.f61 547119
def r61_12:=rg Try.f61 2251055
def r61_13:=rg Try.f61 34756911
def r61_15:=rg Try.f61 143808815
def r61_16:=rg Try.f61 345135407
def r61_17:=rg Try.f61 747788591
def r61_14:=rg Try.f61 59922735
def r61_11:=rg Try.f61 940335
def r61_18:=rg Try.f61 80175
def r61_19:=rg Try.f61 96559
def r61_20:=rg Try.f61 194863
def r61_21:=rg Try.f61 391471
def r61_22:=rg Try.f61 1308975
def r61_23:=rg Try.f61 2881839
def r61_24:=rg Try.f61 2619695
def r61_25:=rg Try.f61 5765423
def r61_26:=rg Try.f61 5241135
def r61_27:=rg Try.f61 11532591
def r61_28:=rg Try.f61 6289711
def r61_29:=rg Try.f61 20969775
def r61_30:=rg Try.f61 46135599
def r61_31:=rg Try.f61 16775471
def r61_6:=rg Try.f61 1839
def r61_32:=rg Try.f61 159
def r61_33:=rg Try.f61 2143
def r61_35:=rg Try.f61 8799
def r61_36:=rg Try.f61 21087
def r61_37:=rg Try.f61 45663
def r61_38:=rg Try.f61 94815
def r61_39:=rg Try.f61 193119
def r61_40:=rg Try.f61 389727
def r61_34:=rg Try.f61 3679
def r61_41:=rg Try.f61 191
def lb61_13:Code:=(.seq (.seq r61_13 (.cond (.tmp 44) .skip (.exit 4))) (.seq (.block 5 (.seq r61_15 (.seq r61_16 (.cond (.tmp 63) r61_17 .skip)))) r61_14))
@[simp] theorem u61_13 (n:Nat) (st:XS):execA Try.prog ann kn n 175 lb61_13 st = execA Try.prog ann kn n 175 (.seq (.seq r61_13 (.cond (.tmp 44) .skip (.exit 4))) (.seq (.block 5 (.seq r61_15 (.seq r61_16 (.cond (.tmp 63) r61_17 .skip)))) r61_14)) st:=rfl
def lb61_10:Code:=(.seq (.seq r61_10 (.cond (.tmp 35) .skip (.exit 2))) (.seq (.block 3 (.seq r61_12 (.block 4 (.loop lb61_13)))) r61_11))
@[simp] theorem u61_10 (n:Nat) (st:XS):execA Try.prog ann kn n 175 lb61_10 st = execA Try.prog ann kn n 175 (.seq (.seq r61_10 (.cond (.tmp 35) .skip (.exit 2))) (.seq (.block 3 (.seq r61_12 (.block 4 (.loop lb61_13)))) r61_11)) st:=rfl
def lb61_5:Code:=(.seq (.seq r61_5 (.cond (.tmp 27) .skip (.exit 0))) (.seq (.block 1 (.seq r61_7 (.seq r61_8 (.seq (.seq r61_9 (.block 2 (.loop lb61_10))) (.seq (.seq r61_18 (.cond (.tmp 70) (.exit 0) .skip)) (.seq r61_19 (.seq r61_20 (.seq r61_21 (.seq (.seq r61_22 (.cond (.tmp 86) r61_23 .skip)) (.seq (.seq r61_24 (.cond (.tmp 91) r61_25 .skip)) (.seq (.seq r61_26 (.cond (.tmp 96) r61_27 .skip)) (.seq r61_28 (.seq (.seq r61_29 (.cond (.tmp 108) r61_30 .skip)) r61_31))))))))))))) r61_6))
@[simp] theorem u61_5 (n:Nat) (st:XS):execA Try.prog ann kn n 175 lb61_5 st = execA Try.prog ann kn n 175 (.seq (.seq r61_5 (.cond (.tmp 27) .skip (.exit 0))) (.seq (.block 1 (.seq r61_7 (.seq r61_8 (.seq (.seq r61_9 (.block 2 (.loop lb61_10))) (.seq (.seq r61_18 (.cond (.tmp 70) (.exit 0) .skip)) (.seq r61_19 (.seq r61_20 (.seq r61_21 (.seq (.seq r61_22 (.cond (.tmp 86) r61_23 .skip)) (.seq (.seq r61_24 (.cond (.tmp 91) r61_25 .skip)) (.seq (.seq r61_26 (.cond (.tmp 96) r61_27 .skip)) (.seq r61_28 (.seq (.seq r61_29 (.cond (.tmp 108) r61_30 .skip)) r61_31))))))))))))) r61_6)) st:=rfl
def lb61_33:Code:=(.seq (.seq r61_33 (.cond (.tmp 127) .skip (.exit 6))) (.seq (.block 7 (.seq r61_35 (.seq r61_36 (.seq r61_37 (.seq r61_38 (.seq r61_39 (.cond (.tmp 166) r61_40 .skip))))))) r61_34))
@[simp] theorem u61_33 (n:Nat) (st:XS):execA Try.prog ann kn n 175 lb61_33 st = execA Try.prog ann kn n 175 (.seq (.seq r61_33 (.cond (.tmp 127) .skip (.exit 6))) (.seq (.block 7 (.seq r61_35 (.seq r61_36 (.seq r61_37 (.seq r61_38 (.seq r61_39 (.cond (.tmp 166) r61_40 .skip))))))) r61_34)) st:=rfl
def c61:Code:=(.seq r61_0 (.seq r61_1 (.seq r61_2 (.seq r61_3 (.seq (.seq r61_4 (.block 0 (.loop lb61_5))) (.seq (.seq r61_32 (.block 6 (.loop lb61_33))) (.seq r61_41 .ret)))))))
theorem b61:Try.f61.body = some c61:=by kernel_rfl
@[simp] theorem x61_0:RX 175 r61_0 (.str [oq 2 (.box (tq 0)),oq 4 (.alloc 25),oq 5 (.mv (.const (.slice none 0 0)))]) (some ([0,1],[2,4,6,171])):=rx
@[simp] theorem x61_1:RX 175 r61_1 (.str [oq 20 (.ld 25 (tq 2)),oq 6 (.alloc 25),os (.sto 25 (tq 6) (tq 20))]) (some ([1,2,4],[2,4,6,171])):=rx
@[simp] theorem x61_2:RX 175 r61_2 (.str [oq 21 (.fa 25 (tq 6) 3),os (.sto 22 (tq 21) (.const (.slice none 0 0))),oq 22 (.fa 25 (tq 6) 4),os (.sto 23 (tq 22) (.const (.slice none 0 0)))]) (some ([1,2,4,6],[2,4,6,171])):=rx
@[simp] theorem x61_3:RX 175 r61_3 (.str [oq 7 (.mv (.const (.slice none 0 0)))]) (some ([1,2,4,6],[2,4,6,171])):=rx
@[simp] theorem x61_4:RX 175 r61_4 (.str [oq 8 (.mv (ci 0))]) (some ([1,2,4,6,7],[2,4,6,81,171])):=rx
@[simp] theorem x61_5:RX 175 r61_5 (.str [oq 23 (.mv (tq 8)),oq 24 (.mv (tq 1)),oq 25 (.call false none (.func 100) [tq 24,ci 0]),oq 26 (.bin .rem 3 (tq 25) (ci 9)),oq 27 (.bin .lss 3 (tq 23) (tq 26))]) (some ([1,2,4,6,7,8],[2,4,6,81,171])):=rx
@[simp] theorem x61_7:RX 175 r61_7 (.str [oq 30 (.mv (tq 1)),oq 31 (.mv (tq 8)),oq 32 (.bin .add 3 (tq 31) (ci 1)),oq 33 (.call false none (.func 100) [tq 30,tq 32]),oq 9 (.mv (tq 33))]) (some ([1,2,4,6,7,8],[2,4,6,81,171])):=rx
@[simp] theorem x61_8:RX 175 r61_8 (.str [oq 10 (.mv (.const (.slice none 0 0)))]) (some ([1,2,4,6,7,8,9],[2,4,6,81,171])):=rx
@[simp] theorem x61_9:RX 175 r61_9 (.str [oq 11 (.mv (ci 1))]) (some ([1,2,4,6,7,8,9,10],[2,4,6,67,81,171])):=rx
@[simp] theorem x61_10:RX 175 r61_10 (.str [oq 34 (.mv (tq 11)),oq 35 (.bin .leq 3 (tq 34) (ci 2))]) (some ([1,2,4,6,7,8,9,10,11],[2,4,6,67,81,171])):=rx
@[simp] theorem x61_12:RX 175 r61_12 (.str [oq 12 (.mv (ci 0))]) (some ([1,2,4,6,7,8,9,10,11],[2,4,6,67,81,171])):=rx
@[simp] theorem x61_13:RX 175 r61_13 (.str [oq 38 (.mv (tq 12)),oq 39 (.fa 25 (tq 2) 0),oq 40 (.ld 3 (tq 39)),oq 41 (.fa 25 (tq 2) 0),oq 42 (.ld 3 (tq 41)),oq 43 (.bin .mul 3 (tq 40) (tq 42)),oq 44 (.bin .lss 3 (tq 38) (tq 43))]) (some ([1,2,4,6,7,8,9,10,11,12],[2,4,6,67,81,171])):=rx
@[simp] theorem x61_15:RX 175 r61_15 (.drw [⟨[13],[oq 47 (.mv (tq 11)),oq 48 (.mv (tq 12)),oq 49 (.fa 25 (tq 2) 0),oq 50 (.ld 3 (tq 49)),oq 51 (.bin .rem 3 (tq 48) (tq 50)),oq 52 (.mv (tq 12)),oq 53 (.fa 25 (tq 2) 0),oq 54 (.ld 3 (tq 53)),oq 55 (.bin .quo 3 (tq 52) (tq 54)),oq 56 (.build 75 [(0,tq 47),(1,tq 51),(2,tq 55)]),oq 13 (.alloc 75)],[os (.sto 75 (tq 13) (tq 56))]⟩]) (some ([1,2,4,6,7,8,9,10,11,12],[2,4,6,67,81,171])):=rx
@[simp] theorem x61_16:RX 175 r61_16 (.drw [⟨[],[oq 57 (.buildS 22 0 []),oq 58 (.mv (tq 7)),oq 60 (.ld 75 (tq 13)),oq 61 (.buildS 22 1 [(0,tq 60)]),oq 59 (.app [tq 57,tq 58] [22,22]),oq 62 (.app [tq 59,tq 61] [22,22])],[oq 63 (.call false (some 62) (.func 58) [tq 62])]⟩,⟨[],[],[]⟩]) (some ([1,2,4,6,7,8,9,10,11,12,13],[2,4,6,13,67,81,171])):=rx
@[simp] theorem x61_17:RX 175 r61_17 (.str [oq 64 (.mv (tq 10)),oq 65 (.ld 75 (tq 13)),oq 66 (.buildS 22 1 [(0,tq 65)]),oq 67 (.app [tq 64,tq 66] [22,22]),oq 10 (.mv (tq 67))]) (some ([1,2,4,6,7,8,9,10,11,12,13],[2,4,6,13,67,81,171])):=rx
@[simp] theorem x61_14:RX 175 r61_14 (.str [oq 45 (.mv (tq 12)),oq 46 (.bin .add 3 (tq 45) (ci 1)),oq 12 (.mv (tq 46))]) (some ([1,2,4,6,7,8,9,10,11,12],[2,4,6,67,81,171])):=rx
@[simp] theorem x61_11:RX 175 r61_11 (.str [oq 36 (.mv (tq 11)),oq 37 (.bin .add 3 (tq 36) (ci 1)),oq 11 (.mv (tq 37))]) (some ([1,2,4,6,7,8,9,10,11],[2,4,6,67,81,171])):=rx
@[simp] theorem x61_18:RX 175 r61_18 (.str [oq 68 (.mv (tq 10)),oq 69 (.oth (.call ⟨.builtin .len,#[tq 68],#[22]⟩)),oq 70 (.bin .eql 3 (tq 69) (ci 0))]) (some ([1,2,4,6,7,8,9,10],[2,4,6,67,81,171])):=rx
@[simp] theorem x61_19:RX 175 r61_19 (.str [oq 71 (.mv (tq 10)),oq 72 (.mv (tq 9)),oq 73 (.mv (tq 10)),oq 74 (.oth (.call ⟨.builtin .len,#[tq 73],#[22]⟩)),oq 75 (.bin .rem 3 (tq 72) (tq 74)),oq 76 (.oth (.indexAddr 22 (tq 71) (tq 75))),oq 77 (.ld 75 (tq 76)),oq 14 (.alloc 75),os (.sto 75 (tq 14) (tq 77))]) (some ([1,2,4,6,7,8,9,10],[2,4,6,67,81,171])):=rx
@[simp] theorem x61_20:RX 175 r61_20 (.str [oq 78 (.mv (tq 7)),oq 79 (.ld 75 (tq 14)),oq 80 (.buildS 22 1 [(0,tq 79)]),oq 81 (.app [tq 78,tq 80] [22,22]),oq 7 (.mv (tq 81))]) (some ([1,2,4,6,7,8,9,14],[2,4,6,14,81,171])):=rx
@[simp] theorem x61_21:RX 175 r61_21 (.str [oq 82 (.ld 25 (tq 6)),oq 15 (.alloc 25),os (.sto 25 (tq 15) (tq 82))]) (some ([1,2,4,6,7,8,9,14],[2,4,6,14,81,171])):=rx
@[simp] theorem x61_22:RX 175 r61_22 (.str [oq 83 (.mv (tq 9)),oq 84 (.bin .quo 3 (tq 83) (ci 64)),oq 85 (.bin .rem 3 (tq 84) (ci 5)),oq 86 (.bin .eql 3 (tq 85) (ci 0))]) (some ([1,2,4,6,7,8,9,14,15],[2,4,6,14,15,81,101,171])):=rx
@[simp] theorem x61_23:RX 175 r61_23 (.str [oq 87 (.fa 75 (tq 14) 1),os (.sto 3 (tq 87) (.const (.int .i64 (Int.negSucc 0))))]) (some ([1,2,4,6,7,8,9,14,15],[2,4,6,14,15,81,101,171])):=rx
@[simp] theorem x61_24:RX 175 r61_24 (.str [oq 88 (.mv (tq 9)),oq 89 (.bin .quo 3 (tq 88) (ci 512)),oq 90 (.bin .rem 3 (tq 89) (ci 5)),oq 91 (.bin .eql 3 (tq 90) (ci 0))]) (some ([1,2,4,6,7,8,9,14,15],[2,4,6,14,15,81,101,171])):=rx
@[simp] theorem x61_25:RX 175 r61_25 (.str [oq 92 (.fa 75 (tq 14) 2),os (.sto 3 (tq 92) (.const (.int .i64 (Int.negSucc 0))))]) (some ([1,2,4,6,7,8,9,14,15],[2,4,6,14,15,81,101,171])):=rx
@[simp] theorem x61_26:RX 175 r61_26 (.str [oq 93 (.mv (tq 9)),oq 94 (.bin .quo 3 (tq 93) (ci 4096)),oq 95 (.bin .rem 3 (tq 94) (ci 5)),oq 96 (.bin .eql 3 (tq 95) (ci 0))]) (some ([1,2,4,6,7,8,9,14,15],[2,4,6,14,15,81,101,171])):=rx
@[simp] theorem x61_27:RX 175 r61_27 (.str [oq 97 (.fa 75 (tq 14) 0),os (.sto 3 (tq 97) (ci 0))]) (some ([1,2,4,6,7,8,14,15],[2,4,6,14,15,81,101,171])):=rx
@[simp] theorem x61_28:RX 175 r61_28 (.drw [⟨[],[oq 98 (.buildS 22 0 []),oq 99 (.fa 25 (tq 6) 3),oq 100 (.ld 22 (tq 99)),oq 102 (.ld 75 (tq 14)),oq 103 (.buildS 22 1 [(0,tq 102)]),oq 101 (.app [tq 98,tq 100] [22,22]),oq 104 (.app [tq 101,tq 103] [22,22]),oq 105 (.fa 25 (tq 15) 3)],[os (.sto 22 (tq 105) (tq 104))]⟩]) (some ([1,2,4,6,7,8,14,15],[2,4,6,14,15,81,101,171])):=rx
@[simp] theorem x61_29 (n:Nat) (st:XS):execA Try.prog ann kn (n + 1) 175 r61_29 st = toN (runR Try.prog (cfU [101] (envA Try.prog ann kn n)) (.str [oq 106 (.ld 25 (tq 15)),oq 107 (.call false none (.func 52) [tq 106]),oq 108 (.bin .gtr 3 (tq 107) (ci 100))]) (trimO (some ([1,2,4,6,7,8,15],[2,4,6,15,81,101,171])) (toldO [] st))) :=
 exec_regU (by kernel_rfl) (by kernel_rfl) (by kernel_rfl) (by kernel_rfl) (by kernel_rfl) (by kernel_rfl)
@[simp] theorem x61_30:RX 175 r61_30 (.drw [⟨[],[oq 109 (.fa 25 (tq 15) 3),oq 110 (.ld 22 (tq 109)),oq 111 (.fa 25 (tq 15) 3),oq 112 (.ld 22 (tq 111)),oq 113 (.oth (.call ⟨.builtin .len,#[tq 112],#[22]⟩)),oq 114 (.bin .sub 3 (tq 113) (ci 1)),oq 115 (.mv (tq 7)),oq 116 (.mv (tq 7)),oq 117 (.oth (.call ⟨.builtin .len,#[tq 116],#[22]⟩)),oq 118 (.bin .sub 3 (tq 117) (ci 1)),oq 119 (.oth (.indexAddr 22 (tq 115) (tq 118))),oq 120 (.ld 75 (tq 119)),oq 121 (.oth (.indexAddr 22 (tq 110) (tq 114)))],[os (.sto 75 (tq 121) (tq 120))]⟩]) (some ([1,2,4,6,7,8,15],[2,4,6,15,81,101,171])):=rx
@[simp] theorem x61_31:RX 175 r61_31 (.str [oq 122 (.ld 25 (tq 15)),os (.sto 25 (tq 6) (tq 122))]) (some ([1,2,4,6,7,8,15],[2,4,6,15,81,101,171])):=rx
@[simp] theorem x61_6 (n:Nat) (st:XS):execA Try.prog ann kn (n + 1) 175 r61_6 st = toN (runR Try.prog (envA Try.prog ann kn n) (.str [oq 28 (.mv (tq 8)),oq 29 (.bin .add 3 (tq 28) (ci 1)),oq 8 (.mv (tq 29))]) (trimO (some ([1,2,4,6,7,8],[2,4,6,81,101,171])) (toldO [101] st))) :=
 exec_regT (by kernel_rfl) (by kernel_rfl) (by kernel_rfl) (by kernel_rfl) (by kernel_rfl)
@[simp] theorem x61_32 (n:Nat) (st:XS):execA Try.prog ann kn (n + 1) 175 r61_32 st = toN (runR Try.prog (envA Try.prog ann kn n) (.str [oq 16 (.mv (ci 0))]) (trimO (some ([1,2,4,6,7],[2,4,6,81,171])) (toldO [81] st))) :=
 exec_regT (by kernel_rfl) (by kernel_rfl) (by kernel_rfl) (by kernel_rfl) (by kernel_rfl)
@[simp] theorem x61_33:RX 175 r61_33 (.str [oq 123 (.mv (tq 16)),oq 124 (.mv (tq 1)),oq 125 (.call false none (.func 100) [tq 124,ci 10]),oq 126 (.bin .rem 3 (tq 125) (ci 4)),oq 127 (.bin .lss 3 (tq 123) (tq 126))]) (some ([1,2,4,6,7,16],[2,4,6,81,171])):=rx
@[simp] theorem x61_35:RX 175 r61_35 (.str [oq 130 (.mv (tq 1)),oq 131 (.mv (tq 16)),oq 132 (.bin .add 3 (tq 131) (ci 11)),oq 133 (.call false none (.func 100) [tq 130,tq 132]),oq 17 (.mv (tq 133))]) (some ([1,2,4,6,7,16],[2,4,6,81,171])):=rx
@[simp] theorem x61_36:RX 175 r61_36 (.str [oq 134 (.mv (tq 17)),oq 135 (.mv (tq 7)),oq 136 (.oth (.call ⟨.builtin .len,#[tq 135],#[22]⟩)),oq 137 (.bin .add 3 (tq 136) (ci 1)),oq 138 (.bin .rem 3 (tq 134) (tq 137)),oq 139 (.build 78 [(0,tq 138)]),oq 18 (.alloc 78),os (.sto 78 (tq 18) (tq 139))]) (some ([1,2,4,6,7,16,17],[2,4,6,81,171])):=rx
@[simp] theorem x61_37:RX 175 r61_37 (.str [oq 140 (.ld 25 (tq 2)),oq 141 (.mv (tq 7)),oq 142 (.fa 78 (tq 18) 0),oq 143 (.ld 3 (tq 142)),oq 144 (.call false none (.func 44) [tq 140,tq 141,tq 143]),oq 19 (.mv (tq 144))]) (some ([1,2,4,6,7,16,17,18],[2,4,6,18,81,171])):=rx
@[simp] theorem x61_38:RX 175 r61_38 (.str [oq 145 (.mv (tq 19)),oq 146 (.mv (tq 17)),oq 147 (.bin .quo 3 (tq 146) (ci 16)),oq 148 (.bin .rem 3 (tq 147) (ci 8)),oq 149 (.bin .sub 3 (tq 145) (tq 148)),oq 150 (.oth (.call ⟨.builtin .max,#[ci 0,tq 149],#[3,3]⟩)),oq 151 (.mv (tq 19)),oq 152 (.mv (tq 17)),oq 153 (.bin .quo 3 (tq 152) (ci 128)),oq 154 (.bin .rem 3 (tq 153) (ci 8)),oq 155 (.bin .add 3 (tq 151) (tq 154)),oq 156 (.oth (.call ⟨.builtin .max,#[ci 0,tq 155],#[3,3]⟩)),oq 157 (.build 50 [(0,tq 150),(1,tq 156)]),oq 158 (.fa 78 (tq 18) 1),os (.sto 50 (tq 158) (tq 157))]) (some ([1,2,4,6,7,16,17,18,19],[2,4,6,18,81,171])):=rx
@[simp] theorem x61_39:RX 175 r61_39 (.str [oq 159 (.mv (tq 19)),oq 160 (.bin .geq 3 (tq 159) (ci 0)),oq 161 (.mv (tq 160)),og 161 true 162 (.fa 78 (tq 18) 1),og 161 true 163 (.fa 50 (tq 162) 1),og 161 true 164 (.ld 3 (tq 163)),og 161 true 165 (.bin .leq 3 (tq 164) (ci 2000)),oq 166 (.pick (tq 161) (tq 165) (cb false))]) (some ([1,2,4,6,7,16,18,19],[2,4,6,18,81,171])):=rx
@[simp] theorem x61_40:RX 175 r61_40 (.str [oq 167 (.fa 25 (tq 6) 4),oq 168 (.ld 23 (tq 167)),oq 169 (.ld 78 (tq 18)),oq 170 (.buildS 23 1 [(0,tq 169)]),oq 171 (.app [tq 168,tq 170] [23,23]),oq 172 (.fa 25 (tq 6) 4),os (.sto 23 (tq 172) (tq 171))]) (some ([1,2,4,6,7,16,18],[2,4,6,18,81,171])):=rx
@[simp] theorem x61_34:RX 175 r61_34 (.str [oq 128 (.mv (tq 16)),oq 129 (.bin .add 3 (tq 128) (ci 1)),oq 16 (.mv (tq 129))]) (some ([1,2,4,6,7,16],[2,4,6,81,171])):=rx
@[simp] theorem x61_41:RX 175 r61_41 (.str [oq 173 (.ld 25 (tq 6)),oq 174 (.mv (tq 7)),os (.sto 25 (tq 4) (tq 173)),oq 5 (.mv (tq 174))]) (some ([4,6,7],[2,4,6,81,171])):=rx
@[simp] theorem l61_5:ann 175 (fstR lb61_5) = some ([1,2,4,6,7,8],[2,4,6,81,171]):=by kernel_rfl
@[simp] theorem l61_10:ann 175 (fstR lb61_10) = some ([1,2,4,6,7,8,9,10,11],[2,4,6,67,81,171]):=by kernel_rfl
@[simp] theorem l61_13:ann 175 (fstR lb61_13) = some ([1,2,4,6,7,8,9,10,11,12],[2,4,6,67,81,171]):=by kernel_rfl
@[simp] theorem l61_33:ann 175 (fstR lb61_33) = some ([1,2,4,6,7,16],[2,4,6,81,171]):=by kernel_rfl
def r100_0:=rg Try.f100 2
def r100_1:=rg Try.f100 9
def r100_2:=rg Try.f100 37
def r100_3:=rg Try.f100 11
def c100:Code:=(.seq r100_0 (.seq (.seq r100_1 (.cond (.tmp 7) (.seq r100_2 .ret) .skip)) (.seq r100_3 .ret)))
theorem b100:Try.f100.body = some c100:=by kernel_rfl
@[simp] theorem x100_0:RX 16 r100_0 (.str [oq 4 (.mv (ci 0))]) (some ([0,1],[])):=rx
@[simp] theorem x100_1:RX 16 r100_1 (.str [oq 5 (.mv (tq 0)),oq 6 (.oth (.call ⟨.builtin .len,#[tq 5],#[72]⟩)),oq 7 (.bin .eql 3 (tq 6) (ci 0))]) (some ([0,1,2],[1,2])):=rx
@[simp] theorem x100_2:RX 16 r100_2 (.str [oq 4 (.mv (ci 0))]) (some ([],[])):=rx
@[simp] theorem x100_3:RX 16 r100_3 (.str [oq 8 (.mv (tq 0)),oq 9 (.mv (tq 1)),oq 10 (.mv (tq 0)),oq 11 (.oth (.call ⟨.builtin .len,#[tq 10],#[72]⟩)),oq 12 (.bin .rem 3 (tq 9) (tq 11)),oq 13 (.oth (.indexAddr 72 (tq 8) (tq 12))),oq 14 (.ld 73 (tq 13)),oq 15 (.oth (.convert 73 3 (tq 14))),oq 4 (.mv (tq 15))]) (some ([0,1],[])):=rx
def r118_0:=rg Try.f118 2
def r118_1:=rg Try.f118 9
def r118_2:=rg Try.f118 69
def r118_3:=rg Try.f118 1125
def r118_4:=rg Try.f118 1637
def r118_5:=rg Try.f118 485
def r118_6:=rg Try.f118 11
def lb118_2:Code:=(.seq r118_2 (.seq (.cond (.tmp 7) .skip (.exit 0)) (.seq (.block 1 (.seq r118_3 r118_4)) r118_5)))
@[simp] theorem u118_2 (n:Nat) (st:XS):execA Try.prog ann kn n 17 lb118_2 st = execA Try.prog ann kn n 17 (.seq r118_2 (.seq (.cond (.tmp 7) .skip (.exit 0)) (.seq (.block 1 (.seq r118_3 r118_4)) r118_5))) st:=rfl
def c118:Code:=(.seq r118_0 (.seq (.seq r118_1 (.block 0 (.loop lb118_2))) (.seq r118_6 .ret)))
theorem b118:Try.f118.body = some c118:=by kernel_rfl
@[simp] theorem x118_0:RX 17 r118_0 (.str [oq 1 (.box (tq 0)),oq 2 (.alloc 111)]) (some ([0],[])):=rx
@[simp] theorem x118_1:RX 17 r118_1 (.str [oq 5 (.ld 111 (tq 1)),oq 6 (.mv (ci 0))]) (some ([1,2],[1,2])):=rx
@[simp] theorem x118_2:RX 17 r118_2 (.str [oq 7 (.bin .lss 3 (tq 6) (ci 4))]) (some ([2,5,6],[2])):=rx
@[simp] theorem x118_3:RX 17 r118_3 (.str [oq 8 (.mv (tq 6)),oq 9 (.oth (.index 111 (tq 5) (tq 6))),oq 3 (.mv (tq 8)),oq 4 (.mv (tq 9))]) (some ([2,5,6],[2])):=rx
@[simp] theorem x118_4:RX 17 r118_4 (.str [oq 10 (.mv (tq 3)),oq 11 (.mv (tq 4)),oq 12 (.buildS 28 2 [(0,tq 11),(1,ci 1)]),oq 13 (.call true none (.func 98) [tq 12]),oq 14 (.oth (.indexAddr 111 (tq 2) (tq 10))),os (.sto 3 (tq 14) (tq 13))]) (some ([2,3,4,5,6],[2])):=rx
@[simp] theorem x118_5:RX 17 r118_5 (.str [oq 15 (.bin .add 3 (tq 6) (ci 1)),oq 6 (.mv (tq 15))]) (some ([2,5,6],[2])):=rx
@[simp] theorem x118_6:RX 17 r118_6 (.str [oq 16 (.ld 111 (tq 2)),os (.sto 111 (tq 2) (tq 16))]) (some ([2],[2])):=rx
@[simp] theorem l118_2:ann 17 (fstR lb118_2) = some ([2,5,6],[2]):=by kernel_rfl
def r108_0:=rg Try.f108 2
def r108_1:=rg Try.f108 9
def r108_2:=rg Try.f108 37
def r108_3:=rg Try.f108 19
def r108_4:=rg Try.f108 75
def r108_5:=rg Try.f108 23
def r108_6:=rg Try.f108 47
def r108_7:=rg Try.f108 159
def r108_8:=rg Try.f108 607
def r108_9:=rg Try.f108 319
def r108_10:=rg Try.f108 2239
def r108_11:=rg Try.f108 36031
def r108_12:=rg Try.f108 85183
def r108_13:=rg Try.f108 183487
def r108_14:=rg Try.f108 642239
def r108_15:=rg Try.f108 15551
def r108_16:=rg Try.f108 383
def r108_17:=rg Try.f108 767
def lb108_10:Code:=(.seq r108_10 (.seq (.cond (.tmp 64) .skip (.exit 0)) (.seq (.block 1 (.seq r108_11 (.seq r108_12 (.seq r108_13 (.cond (.tmp 85) (.seq r108_14 (.exit 0)) .skip))))) r108_15)))
@[simp] theorem u108_10 (n:Nat) (st:XS):execA Try.prog ann kn n 94 lb108_10 st = execA Try.prog ann kn n 94 (.seq r108_10 (.seq (.cond (.tmp 64) .skip (.exit 0)) (.seq (.block 1 (.seq r108_11 (.seq r108_12 (.seq r108_13 (.cond (.tmp 85) (.seq r108_14 (.exit 0)) .skip))))) r108_15))) st:=rfl
def c108:Code:=(.seq r108_0 (.seq (.seq r108_1 (.cond (.tmp 21) (.seq r108_2 .ret) .skip)) (.seq (.seq r108_3 (.cond (.tmp 29) (.seq r108_4 .ret) .skip)) (.seq r108_5 (.seq r108_6 (.seq (.seq r108_7 (.cond (.tmp 47) (.seq r108_8 .ret) .skip)) (.seq (.seq r108_9 (.block 0 (.loop lb108_10))) (.seq r108_16 (.seq r108_17 .ret)))))))))
theorem b108:Try.f108.body = some c108:=by kernel_rfl
@[simp] theorem x108_0:RX 94 r108_0 (.str [oq 4 (.box (tq 1)),oq 6 (.mv (cb false))]) (some ([0,1,2],[61])):=rx
@[simp] theorem x108_1:RX 94 r108_1 (.drw [⟨[],[oq 14 (.mv (tq 0)),oq 15 (.oth (.nilCheck (tq 14))),oq 16 (.fa 153 (tq 15) 0),oq 17 (.ld 35 (tq 16)),oq 18 (.ld 113 (tq 4)),oq 19 (.mv (tq 2))],[oq 20 (.call false none (.func 93) [tq 17,tq 18,tq 19])]⟩,⟨[],[oq 21 (.oth (.unOp .not 4 (tq 20)))],[]⟩]) (some ([0,2,4],[4,61])):=rx
@[simp] theorem x108_2:RX 94 r108_2 (.str [oq 6 (.mv (cb false))]) (some ([],[])):=rx
@[simp] theorem x108_3:RX 94 r108_3 (.str [oq 22 (.mv (tq 2)),oq 23 (.mv (tq 0)),oq 24 (.oth (.nilCheck (tq 23))),oq 25 (.fa 153 (tq 24) 0),oq 26 (.fa 35 (tq 25) 3),oq 27 (.ld 32 (tq 26)),oq 28 (.oth (.call ⟨.builtin .len,#[tq 27],#[32]⟩)),oq 29 (.bin .eql 3 (tq 22) (tq 28))]) (some ([0,2,4],[4,61])):=rx
@[simp] theorem x108_4:RX 94 r108_4 (.str [oq 6 (.mv (cb true))]) (some ([],[])):=rx
@[simp] theorem x108_5:RX 94 r108_5 (.drw [⟨[7],[oq 30 (.mv (tq 2)),oq 31 (.fa 113 (tq 4) 0),oq 32 (.ld 111 (tq 31)),oq 33 (.call false none (.func 118) [tq 32]),oq 34 (.fa 113 (tq 4) 1),oq 35 (.ld 111 (tq 34)),oq 36 (.call false none (.func 118) [tq 35]),oq 37 (.build 159 [(0,tq 30),(1,tq 33),(2,tq 36)]),oq 7 (.alloc 159)],[os (.sto 159 (tq 7) (tq 37))]⟩]) (some ([0,2,4],[4,61])):=rx
@[simp] theorem x108_6:RX 94 r108_6 (.drw [⟨[],[oq 39 (.mv (tq 0)),oq 40 (.oth (.nilCheck (tq 39))),oq 41 (.fa 153 (tq 40) 1),oq 42 (.ld 151 (tq 41)),oq 43 (.ld 159 (tq 7)),oq 44 (.oth (.lookup 151 (tq 42) (tq 43) true)),oq 38 (.mv (tq 44)),oq 45 (.oth (.extract (tq 38) 0)),oq 46 (.oth (.extract (tq 38) 1)),oq 8 (.mv (tq 45)),oq 9 (.mv (tq 46))],[]⟩]) (some ([0,2,4,7],[4,7,61])):=rx
@[simp] theorem x108_7:RX 94 r108_7 (.str [oq 47 (.mv (tq 9))]) (some ([0,2,4,7,8,9],[4,7,61])):=rx
@[simp] theorem x108_8:RX 94 r108_8 (.str [oq 48 (.mv (tq 8)),oq 6 (.mv (tq 48))]) (some ([8],[])):=rx
@[simp] theorem x108_9:RX 94 r108_9 (.drw [⟨[],[oq 49 (.mv (tq 0)),oq 50 (.oth (.nilCheck (tq 49))),oq 51 (.fa 153 (tq 50) 0),oq 52 (.ld 35 (tq 51)),oq 53 (.mv (tq 0)),oq 54 (.oth (.nilCheck (tq 53))),oq 55 (.fa 153 (tq 54) 0),oq 56 (.fa 35 (tq 55) 3),oq 57 (.ld 32 (tq 56)),oq 58 (.mv (tq 2)),oq 59 (.oth (.indexAddr 32 (tq 57) (tq 58))),oq 60 (.ld 96 (tq 59)),oq 61 (.call false none (.func 81) [tq 52,tq 60]),oq 62 (.oth (.call ⟨.builtin .len,#[tq 61],#[32]⟩)),oq 63 (.mv (ci 0))],[]⟩]) (some ([0,2,4,7,8],[4,7])):=rx
@[simp] theorem x108_10:RX 94 r108_10 (.str [oq 64 (.bin .lss 3 (tq 63) (tq 62))]) (some ([0,2,4,7,8,61,62,63],[4,7,61])):=rx
@[simp] theorem x108_11:RX 94 r108_11 (.str [oq 65 (.oth (.indexAddr 32 (tq 61) (tq 63))),oq 66 (.ld 96 (tq 65)),oq 11 (.alloc 96),os (.sto 96 (tq 11) (tq 66))]) (some ([0,2,4,7,8,61,62,63],[4,7,61])):=rx
@[simp] theorem x108_12:RX 94 r108_12 (.drw [⟨[12],[oq 68 (.mv (tq 0)),oq 69 (.oth (.nilCheck (tq 68))),oq 70 (.fa 153 (tq 69) 0),oq 71 (.ld 35 (tq 70)),oq 72 (.ld 113 (tq 4)),oq 73 (.mv (tq 2)),oq 74 (.ld 96 (tq 11)),oq 75 (.call false none (.func 104) [tq 71,tq 72,tq 73,tq 74]),oq 67 (.mv (tq 75)),oq 76 (.oth (.extract (tq 67) 0)),oq 77 (.oth (.extract (tq 67) 1)),oq 12 (.alloc 113),os (.sto 113 (tq 12) (tq 76)),oq 13 (.mv (tq 77))],[]⟩]) (some ([0,2,4,7,8,11,61,62,63],[4,7,11,61])):=rx
@[simp] theorem x108_13:RX 94 r108_13 (.str [oq 78 (.mv (tq 13)),oq 79 (.mv (tq 78)),og 79 true 80 (.mv (tq 0)),og 79 true 81 (.ld 113 (tq 12)),og 79 true 82 (.mv (tq 2)),og 79 true 83 (.bin .add 3 (tq 82) (ci 1)),og 79 true 84 (.call false none (.func 108) [tq 80,tq 81,tq 83]),oq 85 (.pick (tq 79) (tq 84) (cb false))]) (some ([0,2,4,7,8,12,13,61,62,63],[4,7,12,61])):=rx
@[simp] theorem x108_14:RX 94 r108_14 (.str [oq 8 (.mv (cb true))]) (some ([0,7],[7,61])):=rx
@[simp] theorem x108_15:RX 94 r108_15 (.str [oq 86 (.bin .add 3 (tq 63) (ci 1)),oq 63 (.mv (tq 86))]) (some ([0,2,4,7,8,61,62,63],[4,7,61])):=rx
@[simp] theorem x108_16:RX 94 r108_16 (.drw [⟨[],[oq 87 (.mv (tq 0)),oq 88 (.oth (.nilCheck (tq 87))),oq 89 (.fa 153 (tq 88) 1),oq 90 (.ld 151 (tq 89)),oq 91 (.ld 159 (tq 7)),oq 92 (.mv (tq 8))],[os (.upd 151 (tq 90) (tq 91) (tq 92))]⟩]) (some ([0,7,8],[7,61])):=rx
@[simp] theorem x108_17:RX 94 r108_17 (.str [oq 93 (.mv (tq 8)),oq 6 (.mv (tq 93))]) (some ([8],[])):=rx
@[simp] theorem l108_10:ann 94 (fstR lb108_10) = some ([0,2,4,7,8,61,62,63],[4,7,61]):=by kernel_rfl
def r84_0:=rg Try.f84 2
def r84_1:=rg Try.f84 5
def c84:Code:=(.seq r84_0 (.seq r84_1 .ret))
theorem b84:Try.f84.body = some c84:=by kernel_rfl
@[simp] theorem x84_0:RX 10 r84_0 (.str [oq 1 (.box (tq 0)),oq 2 (.mv (cb false))]) (some ([0],[1,4,6])):=rx
@[simp] theorem x84_1:RX 10 r84_1 (.drw [⟨[4,6],[oq 3 (.ld 35 (tq 1)),oq 7 (.ld 35 (tq 1)),oq 8 (.call false none (.func 105) [tq 7]),oq 4 (.mkM none),oq 5 (.build 153 [(0,tq 3),(1,tq 4)]),oq 6 (.box (tq 5))],[oq 9 (.call false none (.func 108) [tq 6,tq 8,ci 0])]⟩,⟨[],[oq 2 (.mv (tq 9))],[]⟩]) (some ([1],[1])):=rx
def r37_0:=rg Try.f37 2
def r37_1:=rg Try.f37 9
def r37_2:=rg Try.f37 21
def r37_3:=rg Try.f37 77
def r37_4:=rg Try.f37 11
def r37_5:=rg Try.f37 23
def r37_6:=rg Try.f37 79
def r37_7:=rg Try.f37 559
def r37_8:=rg Try.f37 9007
def r37_9:=rg Try.f37 21295
def r37_10:=rg Try.f37 45871
def r37_11:=rg Try.f37 160559
def r37_12:=rg Try.f37 3887
def r37_13:=rg Try.f37 95
def lb37_7:Code:=(.seq r37_7 (.seq (.cond (.tmp 18) .skip (.exit 0)) (.seq (.block 1 (.seq r37_8 (.seq r37_9 (.seq r37_10 (.cond (.tmp 28) (.seq r37_11 .ret) .skip))))) r37_12)))
@[simp] theorem u37_7 (n:Nat) (st:XS):execA Try.prog ann kn n 31 lb37_7 st = execA Try.prog ann kn n 31 (.seq r37_7 (.seq (.cond (.tmp 18) .skip (.exit 0)) (.seq (.block 1 (.seq r37_8 (.seq r37_9 (.seq r37_10 (.cond (.tmp 28) (.seq r37_11 .ret) .skip))))) r37_12))) st:=rfl
def c37:Code:=(.seq r37_0 (.seq (.seq r37_1 (.seq r37_2 (.cond (.tmp 10) (.seq r37_3 .ret) .skip))) (.seq r37_4 (.seq r37_5 (.seq (.seq r37_6 (.block 0 (.loop lb37_7))) (.seq r37_13 .ret))))))
theorem b37:Try.f37.body = some c37:=by kernel_rfl
@[simp] theorem x37_0:RX 31 r37_0 (.str [oq 1 (.box (tq 0)),oq 2 (.mv (ci 0)),oq 3 (.mv (ci 0))]) (some ([0],[1,5])):=rx
@[simp] theorem x37_1:RX 31 r37_1 (.str [oq 7 (.ld 35 (tq 1)),oq 8 (.call false none (.func 55) [tq 7]),oq 4 (.mv (tq 8))]) (some ([1],[1,5])):=rx
@[simp] theorem x37_2:RX 31 r37_2 (.str [oq 9 (.mv (tq 4)),oq 10 (.bin .neq 29 (tq 9) (ci 0))]) (some ([1,4],[1,5])):=rx
@[simp] theorem x37_3:RX 31 r37_3 (.str [oq 11 (.mv (tq 4)),oq 2 (.mv (ci 0)),oq 3 (.mv (tq 11))]) (some ([1,2,3,4,7,8],[3])):=rx
@[simp] theorem x37_4:RX 31 r37_4 (.str [oq 12 (.ld 35 (tq 1)),oq 5 (.alloc 35),os (.sto 35 (tq 5) (tq 12))]) (some ([1],[1,5])):=rx
@[simp] theorem x37_5:RX 31 r37_5 (.str [oq 13 (.fa 35 (tq 5) 4),os (.sto 33 (tq 13) (.const (.slice none 0 0)))]) (some ([1,5],[1,5])):=rx
@[simp] theorem x37_6:RX 31 r37_6 (.str [oq 14 (.fa 35 (tq 1) 3),oq 15 (.ld 32 (tq 14)),oq 16 (.oth (.call ⟨.builtin .len,#[tq 15],#[32]⟩)),oq 17 (.mv (ci 0))]) (some ([1,5],[1,5])):=rx
@[simp] theorem x37_7:RX 31 r37_7 (.str [oq 18 (.bin .lss 3 (tq 17) (tq 16))]) (some ([1,5,16,17],[1,5])):=rx
@[simp] theorem x37_8:RX 31 r37_8 (.str [oq 19 (.mv (tq 17)),oq 6 (.mv (tq 19))]) (some ([1,5,16,17],[1,5])):=rx
@[simp] theorem x37_9:RX 31 r37_9 (.str [oq 20 (.fa 35 (tq 1) 3),oq 21 (.ld 32 (tq 20)),oq 22 (.mv (tq 6)),oq 23 (.bin .add 3 (tq 22) (ci 1)),oq 24 (.oth (.slice 32 (tq 21) none (some (tq 23)) none)),oq 25 (.fa 35 (tq 5) 3),os (.sto 32 (tq 25) (tq 24))]) (some ([1,5,6,16,17],[1,5])):=rx
@[simp] theorem x37_10:RX 31 r37_10 (.str [oq 26 (.ld 35 (tq 5)),oq 27 (.call false none (.func 84) [tq 26]),oq 28 (.oth (.unOp .not 4 (tq 27)))]) (some ([1,5,6,16,17],[1,5])):=rx
@[simp] theorem x37_11:RX 31 r37_11 (.str [oq 29 (.mv (tq 6)),oq 2 (.mv (tq 29)),oq 3 (.mv (ci 0))]) (some ([6],[])):=rx
@[simp] theorem x37_12:RX 31 r37_12 (.str [oq 30 (.bin .add 3 (tq 17) (ci 1)),oq 17 (.mv (tq 30))]) (some ([1,5,16,17],[1,5])):=rx
@[simp] theorem x37_13:RX 31 r37_13 (.str [oq 2 (.mv (ci 0)),oq 3 (.mv (ci 7))]) (some ([],[])):=rx
@[simp] theorem l37_7:ann 31 (fstR lb37_7) = some ([1,5,16,17],[1,5]):=by kernel_rfl
def r68_0:=rg Try.f68 2
def r68_1:=rg Try.f68 9
def r68_2:=rg Try.f68 37
def r68_3:=rg Try.f68 149
def r68_4:=rg Try.f68 181
def r68_5:=rg Try.f68 629
def r68_6:=rg Try.f68 757
def r68_7:=rg Try.f68 2549
def r68_8:=rg Try.f68 11
def c68:Code:=(.seq r68_0 (.seq (.seq r68_1 (.block 0 (.seq r68_2 (.cond (.tmp 8) (.seq r68_3 .ret) (.seq r68_4 (.cond (.tmp 12) (.seq r68_5 .ret) (.seq r68_6 (.cond (.tmp 15) (.seq r68_7 .ret) .skip)))))))) (.seq r68_8 .ret)))
theorem b68:Try.f68.body = some c68:=by kernel_rfl
@[simp] theorem x68_0:RX 19 r68_0 (.str [oq 2 (.box (tq 0)),oq 4 (.mv (ci 0))]) (some ([0,1],[2])):=rx
@[simp] theorem x68_1:RX 19 r68_1 (.str [oq 6 (.ld 35 (tq 2)),oq 7 (.call false none (.func 55) [tq 6]),oq 5 (.mv (tq 7))]) (some ([0,1,2,3],[2,3])):=rx
@[simp] theorem x68_2:RX 19 r68_2 (.str [oq 9 (.mv (tq 5)),oq 10 (.bin .neq 29 (tq 9) (ci 0)),oq 8 (.mv (tq 10))]) (some ([1,2,5],[2])):=rx
@[simp] theorem x68_3:RX 19 r68_3 (.str [oq 11 (.mv (tq 5)),oq 4 (.mv (tq 11))]) (some ([5],[])):=rx
@[simp] theorem x68_4:RX 19 r68_4 (.str [oq 13 (.mv (tq 1)),oq 14 (.oth (.unOp .not 4 (tq 13))),oq 12 (.mv (tq 14))]) (some ([1,2],[2])):=rx
@[simp] theorem x68_5:RX 19 r68_5 (.str [oq 4 (.mv (ci 2))]) (some ([],[])):=rx
@[simp] theorem x68_6:RX 19 r68_6 (.str [oq 16 (.ld 35 (tq 2)),oq 17 (.call false none (.func 84) [tq 16]),oq 18 (.oth (.unOp .not 4 (tq 17))),oq 15 (.mv (tq 18))]) (some ([2],[2])):=rx
@[simp] theorem x68_7:RX 19 r68_7 (.str [oq 4 (.mv (ci 11))]) (some ([],[])):=rx
@[simp] theorem x68_8:RX 19 r68_8 (.str [oq 4 (.mv (ci 0))]) (some ([],[])):=rx
def r79_0:=rg Try.f79 2
def r79_1:=rg Try.f79 5
def c79:Code:=(.seq r79_0 (.seq r79_1 .ret))
theorem b79:Try.f79.body = some c79:=by kernel_rfl
@[simp] theorem x79_0:RX 4 r79_0 (.str [oq 1 (.box (tq 0)),oq 2 (.mv (.const .nilFunc))]) (some ([0],[1])):=rx
@[simp] theorem x79_1:RX 4 r79_1 (.str [oq 3 (.oth (.makeFunc (.func 102) #[] #[tq 1])),oq 2 (.mv (tq 3))]) (some ([1],[1])):=rx
def r102_0:=rg Try.f102 2
def r102_1:=rg Try.f102 5
def r102_2:=rg Try.f102 11
def r102_3:=rg Try.f102 23
def r102_4:=rg Try.f102 47
def r102_5:=rg Try.f102 63
def c102:Code:=(.seq r102_0 (.seq r102_1 (.seq r102_2 (.seq r102_3 (.seq r102_4 r102_5)))))
theorem b102:Try.f102.body = some c102:=by kernel_rfl
@[simp] theorem x102_0:RX 22 r102_0 (.str [oq 2 (.box (tq 0))]) (some ([0,1],[2,3,4,5,9,14])):=rx
@[simp] theorem x102_1:RX 22 r102_1 (.drw [⟨[9,14,3,4],[oq 6 (.fa 35 (tq 1) 3),oq 7 (.ld 32 (tq 6)),oq 8 (.oth (.call ⟨.builtin .len,#[tq 7],#[32]⟩)),oq 10 (.fa 35 (tq 1) 3),oq 11 (.ld 32 (tq 10)),oq 12 (.oth (.call ⟨.builtin .len,#[tq 11],#[32]⟩)),oq 13 (.bin .add 3 (tq 12) (ci 1)),oq 9 (.mkS 32 (tq 8) (tq 8)),oq 14 (.mkS 134 (tq 13) (tq 13)),oq 3 (.alloc 32),oq 4 (.alloc 134),os (.sto 32 (tq 3) (tq 9))],[os (.sto 134 (tq 4) (tq 14))]⟩]) (some ([1,2],[2,5])):=rx
@[simp] theorem x102_2:RX 22 r102_2 (.str [oq 5 (.alloc 109)]) (some ([1,2,3,4],[2,3,4,5,9,14])):=rx
@[simp] theorem x102_3:RX 22 r102_3 (.str [oq 15 (.oth (.makeFunc (.func 103) #[] #[tq 1,tq 4,tq 3,tq 2,tq 5])),os (.sto 109 (tq 5) (tq 15))]) (some ([1,2,3,4,5],[2,3,4,5,9,14])):=rx
@[simp] theorem x102_4:RX 22 r102_4 (.drw [⟨[18],[oq 16 (.ld 134 (tq 4)),oq 17 (.ld 35 (tq 1)),oq 18 (.call true none (.func 105) [tq 17]),oq 19 (.oth (.indexAddr 134 (tq 16) (ci 0)))],[os (.sto 113 (tq 19) (tq 18))]⟩]) (some ([1,4,5],[2,3,4,5,9,14])):=rx
@[simp] theorem x102_5:RX 22 r102_5 (.str [oq 20 (.ld 109 (tq 5)),oq 21 (.call false none (tq 20) [ci 0])]) (some ([5],[2,3,4,5,9,14])):=rx
def r103_0:=rg Try.f103 2
def r103_1:=rg Try.f103 9
def r103_2:=rg Try.f103 37
def r103_3:=rg Try.f103 19
def r103_4:=rg Try.f103 75
def r103_5:=rg Try.f103 39
def r103_6:=rg Try.f103 279
def r103_7:=rg Try.f103 4503
def r103_8:=rg Try.f103 10647
def r103_9:=rg Try.f103 39319
def r103_10:=rg Try.f103 47511
def r103_11:=rg Try.f103 96663
def r103_12:=rg Try.f103 326039
def r103_13:=rg Try.f103 1943
def r103_14:=rg Try.f103 47
def lb103_6:Code:=(.seq r103_6 (.seq (.cond (.tmp 37) .skip (.exit 0)) (.seq (.block 1 (.seq r103_7 (.seq r103_8 (.seq (.seq r103_9 (.cond (.tmp 52) (.exit 1) .skip)) (.seq r103_10 (.seq r103_11 (.cond (.tmp 66) (.seq r103_12 .ret) .skip))))))) r103_13)))
@[simp] theorem u103_6 (n:Nat) (st:XS):execA Try.prog ann kn n 68 lb103_6 st = execA Try.prog ann kn n 68 (.seq r103_6 (.seq (.cond (.tmp 37) .skip (.exit 0)) (.seq (.block 1 (.seq r103_7 (.seq r103_8 (.seq (.seq r103_9 (.cond (.tmp 52) (.exit 1) .skip)) (.seq r103_10 (.seq r103_11 (.cond (.tmp 66) (.seq r103_12 .ret) .skip))))))) r103_13))) st:=rfl
def c103:Code:=(.seq r103_0 (.seq (.seq r103_1 (.cond (.tmp 19) (.seq r103_2 .ret) .skip)) (.seq (.seq r103_3 (.cond (.tmp 23) (.seq r103_4 .ret) .skip)) (.seq (.seq r103_5 (.block 0 (.loop lb103_6))) (.seq r103_14 .ret)))))
theorem b103:Try.f103.body = some c103:=by kernel_rfl
@[simp] theorem x103_0:RX 68 r103_0 (.str [oq 7 (.mv (cb false))]) (some ([0,1,2,3,4,5],[34])):=rx
@[simp] theorem x103_1:RX 68 r103_1 (.drw [⟨[],[oq 12 (.ld 35 (tq 1)),oq 13 (.ld 134 (tq 2)),oq 14 (.mv (tq 0)),oq 15 (.oth (.indexAddr 134 (tq 13) (tq 14))),oq 16 (.ld 113 (tq 15)),oq 17 (.mv (tq 0))],[oq 18 (.call false none (.func 93) [tq 12,tq 16,tq 17])]⟩,⟨[],[oq 19 (.oth (.unOp .not 4 (tq 18)))],[]⟩]) (some ([0,1,2,3,4,5],[34])):=rx
@[simp] theorem x103_2:RX 68 r103_2 (.str [oq 7 (.mv (cb true))]) (some ([],[])):=rx
@[simp] theorem x103_3:RX 68 r103_3 (.str [oq 20 (.mv (tq 0)),oq 21 (.ld 32 (tq 3)),oq 22 (.oth (.call ⟨.builtin .len,#[tq 21],#[32]⟩)),oq 23 (.bin .eql 3 (tq 20) (tq 22))]) (some ([0,1,2,3,4,5],[34])):=rx
@[simp] theorem x103_4:RX 68 r103_4 (.str [oq 24 (.ld 144 (tq 4)),oq 25 (.ld 32 (tq 3)),oq 26 (.ld 134 (tq 2)),oq 27 (.call false none (tq 24) [tq 25,tq 26]),oq 7 (.mv (tq 27))]) (some ([2,3,4],[])):=rx
@[simp] theorem x103_5:RX 68 r103_5 (.drw [⟨[],[oq 28 (.ld 35 (tq 1)),oq 29 (.fa 35 (tq 1) 3),oq 30 (.ld 32 (tq 29)),oq 31 (.mv (tq 0)),oq 32 (.oth (.indexAddr 32 (tq 30) (tq 31))),oq 33 (.ld 96 (tq 32)),oq 34 (.call false none (.func 81) [tq 28,tq 33]),oq 35 (.oth (.call ⟨.builtin .len,#[tq 34],#[32]⟩)),oq 36 (.mv (ci 0))],[]⟩]) (some ([0,1,2,3,5],[])):=rx
@[simp] theorem x103_6:RX 68 r103_6 (.str [oq 37 (.bin .lss 3 (tq 36) (tq 35))]) (some ([0,1,2,3,5,34,35,36],[34])):=rx
@[simp] theorem x103_7:RX 68 r103_7 (.str [oq 38 (.oth (.indexAddr 32 (tq 34) (tq 36))),oq 39 (.ld 96 (tq 38)),oq 9 (.alloc 96),os (.sto 96 (tq 9) (tq 39))]) (some ([0,1,2,3,5,34,35,36],[34])):=rx
@[simp] theorem x103_8:RX 68 r103_8 (.drw [⟨[10],[oq 41 (.ld 35 (tq 1)),oq 42 (.ld 134 (tq 2)),oq 43 (.mv (tq 0)),oq 44 (.oth (.indexAddr 134 (tq 42) (tq 43))),oq 45 (.ld 113 (tq 44)),oq 46 (.mv (tq 0)),oq 47 (.ld 96 (tq 9)),oq 48 (.call false none (.func 104) [tq 41,tq 45,tq 46,tq 47]),oq 40 (.mv (tq 48)),oq 49 (.oth (.extract (tq 40) 0)),oq 50 (.oth (.extract (tq 40) 1)),oq 10 (.alloc 113),os (.sto 113 (tq 10) (tq 49)),oq 11 (.mv (tq 50))],[]⟩]) (some ([0,1,2,3,5,9,34,35,36],[9,34])):=rx
@[simp] theorem x103_9:RX 68 r103_9 (.str [oq 51 (.mv (tq 11)),oq 52 (.oth (.unOp .not 4 (tq 51)))]) (some ([0,1,2,3,5,9,10,11,34,35,36],[9,10,34])):=rx
@[simp] theorem x103_10:RX 68 r103_10 (.drw [⟨[],[oq 53 (.ld 32 (tq 3)),oq 54 (.mv (tq 0)),oq 55 (.ld 134 (tq 2)),oq 56 (.mv (tq 0)),oq 57 (.bin .add 3 (tq 56) (ci 1)),oq 58 (.ld 96 (tq 9)),oq 59 (.ld 113 (tq 10)),oq 60 (.oth (.indexAddr 32 (tq 53) (tq 54))),os (.sto 96 (tq 60) (tq 58)),oq 61 (.oth (.indexAddr 134 (tq 55) (tq 57)))],[os (.sto 113 (tq 61) (tq 59))]⟩]) (some ([0,1,2,3,5,9,10,34,35,36],[9,10,34])):=rx
@[simp] theorem x103_11:RX 68 r103_11 (.str [oq 62 (.ld 109 (tq 5)),oq 63 (.mv (tq 0)),oq 64 (.bin .add 3 (tq 63) (ci 1)),oq 65 (.call false none (tq 62) [tq 64]),oq 66 (.oth (.unOp .not 4 (tq 65)))]) (some ([0,1,2,3,5,34,35,36],[34])):=rx
@[simp] theorem x103_13:RX 68 r103_13 (.str [oq 67 (.bin .add 3 (tq 36) (ci 1)),oq 36 (.mv (tq 67))]) (some ([0,1,2,3,5,34,35,36],[34])):=rx
@[simp] theorem x103_14:RX 68 r103_14 (.str [oq 7 (.mv (cb true))]) (some ([],[])):=rx
@[simp] theorem l103_6:ann 68 (fstR lb103_6) = some ([0,1,2,3,5,34,35,36],[34]):=by kernel_rfl
def r74_0:=rg Try.f74 2
def r74_1:=rg Try.f74 5
def r74_2:=rg Try.f74 19
def r74_3:=rg Try.f74 75
def r74_4:=rg Try.f74 299
def r74_5:=rg Try.f74 1195
def r74_6:=rg Try.f74 2731
def r74_7:=rg Try.f74 939
def r74_8:=rg Try.f74 23
def c74:Code:=(.seq r74_0 (.seq r74_1 (.seq (.seq r74_2 (.block 0 (.rangeFunc (.tmp 12) #[13,14] r74_3 (.block 1 (.seq r74_4 (.seq (.seq r74_5 (.cond (.tmp 21) r74_6 .skip)) r74_7)))))) (.seq r74_8 .ret))))
theorem b74:Try.f74.body = some c74:=by kernel_rfl
@[simp] theorem x74_0:RX 29 r74_0 (.str [oq 3 (.box (tq 0)),oq 4 (.box (tq 1)),oq 5 (.box (tq 2)),oq 6 (.alloc 45)]) (some ([0,1,2],[3,5,12])):=rx
@[simp] theorem x74_1:RX 29 r74_1 (.str [oq 7 (.alloc 4),os (.sto 4 (tq 7) (cb true))]) (some ([3,4,5,6],[3,4,5,6,12])):=rx
@[simp] theorem x74_2:RX 29 r74_2 (.str [oq 11 (.ld 35 (tq 3)),oq 12 (.call false none (.func 79) [tq 11])]) (some ([3,4,5,6,7],[3,4,5,6,7,12])):=rx
@[simp] theorem x74_3:RX 29 r74_3 (.str [oq 9 (.mv (tq 14))]) (some ([4,5,6,7,14],[4,5,6,7])):=rx
@[simp] theorem x74_4:RX 29 r74_4 (.drw [⟨[],[oq 15 (.ld 119 (tq 5)),oq 16 (.mv (tq 9)),oq 17 (.ld 3 (tq 4)),oq 18 (.oth (.indexAddr 134 (tq 16) (tq 17))),oq 19 (.ld 113 (tq 18))],[oq 20 (.call false none (tq 15) [tq 19])]⟩,⟨[],[oq 10 (.mv (tq 20))],[]⟩]) (some ([4,5,6,7,9],[4,5,6,7])):=rx
@[simp] theorem x74_5:RX 29 r74_5 (.str [oq 21 (.ld 4 (tq 7))]) (some ([6,7,10],[6,7])):=rx
@[simp] theorem x74_6:RX 29 r74_6 (.str [oq 22 (.mv (tq 10)),oq 23 (.mv (tq 10)),oq 24 (.build 45 [(0,tq 22),(1,tq 23)]),os (.sto 45 (tq 6) (tq 24)),os (.sto 4 (tq 7) (cb false))]) (some ([6,7,10],[6,7])):=rx
@[simp] theorem x74_7:RX 29 r74_7 (.str [oq 25 (.ld 45 (tq 6)),oq 26 (.mv (tq 10)),oq 27 (.call true none (.func 101) [tq 25,tq 26]),os (.sto 45 (tq 6) (tq 27))]) (some ([6,10],[6])):=rx
@[simp] theorem x74_8:RX 29 r74_8 (.str [oq 28 (.ld 45 (tq 6)),os (.sto 45 (tq 6) (tq 28))]) (some ([6],[6])):=rx
def r75_0:=rg Try.f75 2
def r75_1:=rg Try.f75 5
def c75:Code:=(.seq r75_0 (.seq r75_1 .ret))
theorem b75:Try.f75.body = some c75:=by kernel_rfl
@[simp] theorem x75_0:RX 5 r75_0 (.str [oq 1 (.box (tq 0)),oq 2 (.mv (ci 0))]) (some ([0],[1])):=rx
@[simp] theorem x75_1:RX 5 r75_1 (.str [oq 3 (.fa 113 (tq 1) 2),oq 4 (.ld 3 (tq 3)),oq 2 (.mv (tq 4))]) (some ([0,1],[1])):=rx
def r76_0:=rg Try.f76 2
def r76_1:=rg Try.f76 5
def c76:Code:=(.seq r76_0 (.seq r76_1 .ret))
theorem b76:Try.f76.body = some c76:=by kernel_rfl
@[simp] theorem x76_0:RX 5 r76_0 (.str [oq 1 (.box (tq 0)),oq 2 (.mv (ci 0))]) (some ([0],[1])):=rx
@[simp] theorem x76_1:RX 5 r76_1 (.str [oq 3 (.fa 113 (tq 1) 3),oq 4 (.ld 3 (tq 3)),oq 2 (.mv (tq 4))]) (some ([0,1],[1])):=rx
def r101_0:=rg Try.f101 2
def r101_1:=rg Try.f101 5
def c101:Code:=(.seq r101_0 (.seq r101_1 .ret))
theorem b101:Try.f101.body = some c101:=by kernel_rfl
@[simp] theorem x101_0:RX 15 r101_0 (.str [oq 2 (.box (tq 0)),oq 4 (.alloc 45)]) (some ([0,1],[])):=rx
@[simp] theorem x101_1:RX 15 r101_1 (.drw [⟨[],[oq 5 (.fa 45 (tq 2) 0),oq 6 (.ld 3 (tq 5)),oq 7 (.mv (tq 1)),oq 8 (.buildS 28 2 [(0,tq 6),(1,tq 7)]),oq 9 (.call false none (.func 98) [tq 8]),oq 10 (.fa 45 (tq 2) 1),oq 11 (.ld 3 (tq 10)),oq 12 (.mv (tq 1)),oq 13 (.oth (.call ⟨.builtin .max,#[tq 11,tq 12],#[3,3]⟩)),oq 14 (.build 45 [(0,tq 9),(1,tq 13)])],[os (.sto 45 (tq 4) (tq 14))]⟩]) (some ([0,1,2,3,4],[2,3,4])):=rx
def r70_0:=rg Try.f70 2
def r70_1:=rg Try.f70 5
def c70:Code:=(.seq r70_0 (.seq r70_1 .ret))
theorem b70:Try.f70.body = some c70:=by kernel_rfl
@[simp] theorem x70_0:RX 10 r70_0 (.str [oq 2 (.box (tq 0)),oq 4 (.mv (cb false))]) (some ([0,1],[])):=rx
@[simp] theorem x70_1:RX 10 r70_1 (.str [oq 5 (.mv (tq 1)),oq 6 (.fa 113 (tq 2) 0),oq 7 (.oth (.indexAddr 111 (tq 6) (tq 5))),oq 8 (.ld 3 (tq 7)),oq 9 (.bin .neq 3 (tq 8) (ci 0)),oq 4 (.mv (tq 9))]) (some ([1,2],[2])):=rx
def r71_0:=rg Try.f71 2
def r71_1:=rg Try.f71 5
def r71_2:=rg Try.f71 11
def r71_3:=rg Try.f71 39
def r71_4:=rg Try.f71 151
def r71_5:=rg Try.f71 599
def r71_6:=rg Try.f71 2391
def r71_7:=rg Try.f71 2903
def r71_8:=rg Try.f71 5975
def r71_9:=rg Try.f71 12119
def r71_10:=rg Try.f71 73559
def r71_11:=rg Try.f71 1154903
def r71_12:=rg Try.f71 2727767
def r71_13:=rg Try.f71 5873495
def r71_14:=rg Try.f71 499543
def r71_15:=rg Try.f71 79
def r71_16:=rg Try.f71 559
def r71_17:=rg Try.f71 9007
def r71_18:=rg Try.f71 21295
def r71_20:=rg Try.f71 78639
def r71_21:=rg Try.f71 176943
def r71_22:=rg Try.f71 373551
def r71_23:=rg Try.f71 766767
def r71_19:=rg Try.f71 1028911
def r71_24:=rg Try.f71 3887
def r71_25:=rg Try.f71 95
def lb71_10:Code:=(.seq r71_10 (.seq (.cond (.tmp 49) .skip (.exit 2)) (.seq (.block 3 (.seq r71_11 (.seq r71_12 (.cond (.tmp 55) r71_13 .skip)))) r71_14)))
@[simp] theorem u71_10 (n:Nat) (st:XS):execA Try.prog ann kn n 87 lb71_10 st = execA Try.prog ann kn n 87 (.seq r71_10 (.seq (.cond (.tmp 49) .skip (.exit 2)) (.seq (.block 3 (.seq r71_11 (.seq r71_12 (.cond (.tmp 55) r71_13 .skip)))) r71_14))) st:=rfl
def lb71_16:Code:=(.seq r71_16 (.seq (.cond (.tmp 66) .skip (.exit 4)) (.seq (.block 5 (.seq r71_17 (.seq r71_18 (.block 6 (.seq r71_20 (.cond (.tmp 74) r71_21 (.seq r71_22 (.cond (.tmp 80) r71_23 r71_19)))))))) r71_24)))
@[simp] theorem u71_16 (n:Nat) (st:XS):execA Try.prog ann kn n 87 lb71_16 st = execA Try.prog ann kn n 87 (.seq r71_16 (.seq (.cond (.tmp 66) .skip (.exit 4)) (.seq (.block 5 (.seq r71_17 (.seq r71_18 (.block 6 (.seq r71_20 (.cond (.tmp 74) r71_21 (.seq r71_22 (.cond (.tmp 80) r71_23 r71_19)))))))) r71_24))) st:=rfl
def c71:Code:=(.seq r71_0 (.seq r71_1 (.seq r71_2 (.seq (.seq r71_3 (.block 0 (.rangeFunc (.tmp 20) #[21,22] r71_4 (.block 1 (.seq r71_5 (.seq (.seq r71_6 (.cond (.tmp 42) (.exit 1) .skip)) (.seq r71_7 (.seq r71_8 (.seq r71_9 (.block 2 (.loop lb71_10))))))))))) (.seq (.seq r71_15 (.block 4 (.loop lb71_16))) (.seq r71_25 .ret))))))
theorem b71:Try.f71.body = some c71:=by kernel_rfl
@[simp] theorem x71_0:RX 87 r71_0 (.str [oq 3 (.box (tq 0)),oq 4 (.box (tq 1)),oq 5 (.box (tq 2)),oq 6 (.mv (.const (.slice none 0 0)))]) (some ([0,1,2],[3,4,20])):=rx
@[simp] theorem x71_1:RX 87 r71_1 (.str [oq 16 (.fa 35 (tq 4) 0),oq 17 (.ld 3 (tq 16)),oq 18 (.mkS 28 (tq 17) (tq 17)),oq 7 (.alloc 28),oq 8 (.alloc 3),os (.sto 28 (tq 7) (tq 18)),os (.sto 3 (tq 8) (ci 0))]) (some ([3,4,5],[3,4,5,20])):=rx
@[simp] theorem x71_2:RX 87 r71_2 (.str [oq 9 (.alloc 113)]) (some ([3,4,5,7,8],[3,4,5,7,8,18,20])):=rx
@[simp] theorem x71_3:RX 87 r71_3 (.str [oq 19 (.ld 35 (tq 4)),oq 20 (.call false none (.func 79) [tq 19])]) (some ([3,4,5,7,8,9],[3,4,5,7,8,9,18,20])):=rx
@[simp] theorem x71_4:RX 87 r71_4 (.str [oq 11 (.mv (tq 22))]) (some ([3,5,7,8,9,22],[3,5,7,8,9,18])):=rx
@[simp] theorem x71_5:RX 87 r71_5 (.str [oq 23 (.mv (tq 11)),oq 24 (.ld 3 (tq 5)),oq 25 (.oth (.indexAddr 134 (tq 23) (tq 24))),oq 26 (.ld 113 (tq 25)),oq 12 (.alloc 113),os (.sto 113 (tq 12) (tq 26))]) (some ([3,5,7,8,9,11],[3,5,7,8,9,18])):=rx
@[simp] theorem x71_6:RX 87 r71_6 (.str [oq 27 (.ld 3 (tq 8)),oq 28 (.bin .gtr 3 (tq 27) (ci 0)),oq 29 (.mv (tq 28)),og 29 true 30 (.fa 113 (tq 12) 0),og 29 true 31 (.ld 111 (tq 30)),og 29 true 32 (.fa 113 (tq 9) 0),og 29 true 33 (.ld 111 (tq 32)),og 29 true 34 (.bin .eql 111 (tq 31) (tq 33)),oq 35 (.pick (tq 29) (tq 34) (cb false)),oq 36 (.mv (tq 35)),og 36 true 37 (.fa 113 (tq 12) 1),og 36 true 38 (.ld 111 (tq 37)),og 36 true 39 (.fa 113 (tq 9) 1),og 36 true 40 (.ld 111 (tq 39)),og 36 true 41 (.bin .eql 111 (tq 38) (tq 40)),oq 42 (.pick (tq 36) (tq 41) (cb false))]) (some ([3,7,8,9,12],[3,7,8,9,12,18])):=rx
@[simp] theorem x71_7:RX 87 r71_7 (.str [oq 43 (.ld 113 (tq 12)),os (.sto 113 (tq 9) (tq 43))]) (some ([3,7,8,9,12],[3,7,8,9,12,18])):=rx
@[simp] theorem x71_8:RX 87 r71_8 (.str [oq 44 (.ld 3 (tq 8)),oq 45 (.bin .add 3 (tq 44) (ci 1)),os (.sto 3 (tq 8) (tq 45))]) (some ([3,7,8,12],[3,7,8,12,18])):=rx
@[simp] theorem x71_9:RX 87 r71_9 (.str [oq 46 (.ld 28 (tq 7)),oq 47 (.oth (.call ⟨.builtin .len,#[tq 46],#[28]⟩)),oq 48 (.mv (ci 0))]) (some ([3,7,12],[3,7,12,18])):=rx
@[simp] theorem x71_10:RX 87 r71_10 (.str [oq 49 (.bin .lss 3 (tq 48) (tq 47))]) (some ([3,7,12,47,48],[3,7,12,18])):=rx
@[simp] theorem x71_11:RX 87 r71_11 (.str [oq 50 (.mv (tq 48)),oq 13 (.mv (tq 50))]) (some ([3,7,12,47,48],[3,7,12,18])):=rx
@[simp] theorem x71_12:RX 87 r71_12 (.str [oq 51 (.fa 115 (tq 3) 0),oq 52 (.ld 108 (tq 51)),oq 53 (.ld 113 (tq 12)),oq 54 (.mv (tq 13)),oq 55 (.call false none (tq 52) [tq 53,tq 54])]) (some ([3,7,12,13,47,48],[3,7,12,18])):=rx
@[simp] theorem x71_13:RX 87 r71_13 (.str [oq 56 (.ld 28 (tq 7)),oq 57 (.mv (tq 13)),oq 58 (.oth (.indexAddr 28 (tq 56) (tq 57))),oq 59 (.ld 3 (tq 58)),oq 60 (.bin .add 3 (tq 59) (ci 1)),oq 61 (.oth (.indexAddr 28 (tq 56) (tq 57))),os (.sto 3 (tq 61) (tq 60))]) (some ([3,7,12,13,47,48],[3,7,12,18])):=rx
@[simp] theorem x71_14:RX 87 r71_14 (.str [oq 62 (.bin .add 3 (tq 48) (ci 1)),oq 48 (.mv (tq 62))]) (some ([3,7,12,47,48],[3,7,12,18])):=rx
@[simp] theorem x71_15:RX 87 r71_15 (.str [oq 63 (.ld 28 (tq 7)),oq 64 (.oth (.call ⟨.builtin .len,#[tq 63],#[28]⟩)),oq 65 (.mv (ci 0))]) (some ([7,8],[7,8,18])):=rx
@[simp] theorem x71_16:RX 87 r71_16 (.str [oq 66 (.bin .lss 3 (tq 65) (tq 64))]) (some ([7,8,63,64,65],[7,8,18])):=rx
@[simp] theorem x71_17:RX 87 r71_17 (.str [oq 67 (.mv (tq 65)),oq 68 (.oth (.indexAddr 28 (tq 63) (tq 65))),oq 69 (.ld 3 (tq 68)),oq 14 (.mv (tq 67)),oq 15 (.mv (tq 69))]) (some ([7,8,63,64,65],[7,8,18])):=rx
@[simp] theorem x71_18:RX 87 r71_18 (.str [oq 70 (.mv (tq 15))]) (some ([7,8,14,15,63,64,65],[7,8,18])):=rx
@[simp] theorem x71_20:RX 87 r71_20 (.str [oq 75 (.ld 3 (tq 8)),oq 76 (.bin .eql 3 (tq 70) (tq 75)),oq 74 (.mv (tq 76))]) (some ([7,8,14,63,64,65,70],[7,8,18])):=rx
@[simp] theorem x71_21:RX 87 r71_21 (.str [oq 77 (.ld 28 (tq 7)),oq 78 (.mv (tq 14)),oq 79 (.oth (.indexAddr 28 (tq 77) (tq 78))),os (.sto 3 (tq 79) (ci 1))]) (some ([7,8,14,63,64,65],[7,8,18])):=rx
@[simp] theorem x71_22:RX 87 r71_22 (.str [oq 81 (.bin .eql 3 (tq 70) (ci 0)),oq 80 (.mv (tq 81))]) (some ([7,8,14,63,64,65,70],[7,8,18])):=rx
@[simp] theorem x71_23:RX 87 r71_23 (.str [oq 82 (.ld 28 (tq 7)),oq 83 (.mv (tq 14)),oq 84 (.oth (.indexAddr 28 (tq 82) (tq 83))),os (.sto 3 (tq 84) (ci 2))]) (some ([7,8,14,63,64,65],[7,8,18])):=rx
@[simp] theorem x71_19:RX 87 r71_19 (.str [oq 71 (.ld 28 (tq 7)),oq 72 (.mv (tq 14)),oq 73 (.oth (.indexAddr 28 (tq 71) (tq 72))),os (.sto 3 (tq 73) (ci 3))]) (some ([7,8,14,63,64,65],[7,8,18])):=rx
@[simp] theorem x71_24:RX 87 r71_24 (.str [oq 85 (.bin .add 3 (tq 65) (ci 1)),oq 65 (.mv (tq 85))]) (some ([7,8,63,64,65],[7,8,18])):=rx
@[simp] theorem x71_25:RX 87 r71_25 (.str [oq 86 (.ld 28 (tq 7)),oq 6 (.mv (tq 86))]) (some ([7],[7,18])):=rx
@[simp] theorem l71_10:ann 87 (fstR lb71_10) = some ([3,7,12,47,48],[3,7,12,18]):=by kernel_rfl
@[simp] theorem l71_16:ann 87 (fstR lb71_16) = some ([7,8,63,64,65],[7,8,18]):=by kernel_rfl
def r72_0:=rg Try.f72 2
def r72_1:=rg Try.f72 5
def c72:Code:=(.seq r72_0 (.seq r72_1 .ret))
theorem b72:Try.f72.body = some c72:=by kernel_rfl
@[simp] theorem x72_0:RX 10 r72_0 (.str [oq 2 (.box (tq 0)),oq 4 (.mv (cb false))]) (some ([0,1],[])):=rx
@[simp] theorem x72_1:RX 10 r72_1 (.str [oq 5 (.mv (tq 1)),oq 6 (.fa 113 (tq 2) 1),oq 7 (.oth (.indexAddr 111 (tq 6) (tq 5))),oq 8 (.ld 3 (tq 7)),oq 9 (.bin .neq 3 (tq 8) (ci 0)),oq 4 (.mv (tq 9))]) (some ([1,2],[2])):=rx
def r21_0:=rg Try.f21 2
def r21_1:=rg Try.f21 9
def r21_2:=rg Try.f21 21
def r21_3:=rg Try.f21 77
def r21_4:=rg Try.f21 11
def c21:Code:=(.seq r21_0 (.seq (.seq r21_1 (.seq r21_2 (.cond (.tmp 16) (.seq r21_3 .ret) .skip))) (.seq r21_4 .ret)))
theorem b21:Try.f21.body = some c21:=by kernel_rfl
@[simp] theorem x21_0:RX 26 r21_0 (.str [oq 2 (.box (tq 0)),oq 4 (.mv (.const (.slice none 0 0))),oq 5 (.mv (.const (.slice none 0 0))),oq 6 (.mv (ci 0))]) (some ([0,1],[2,21,25])):=rx
@[simp] theorem x21_1:RX 26 r21_1 (.drw [⟨[],[oq 8 (.ld 35 (tq 2)),oq 9 (.mv (tq 1)),oq 10 (.fa 35 (tq 2) 3),oq 11 (.ld 32 (tq 10)),oq 12 (.oth (.call ⟨.builtin .len,#[tq 11],#[32]⟩)),oq 13 (.call false none (.func 69) [tq 9,ci 0,tq 12])],[oq 14 (.call false none (.func 68) [tq 8,tq 13])]⟩,⟨[],[oq 7 (.mv (tq 14))],[]⟩]) (some ([1,2],[2,21,25])):=rx
@[simp] theorem x21_2:RX 26 r21_2 (.str [oq 15 (.mv (tq 7)),oq 16 (.bin .neq 29 (tq 15) (ci 0))]) (some ([1,2,7],[2,21,25])):=rx
@[simp] theorem x21_3:RX 26 r21_3 (.str [oq 17 (.mv (tq 7)),oq 4 (.mv (.const (.slice none 0 0))),oq 5 (.mv (.const (.slice none 0 0))),oq 6 (.mv (tq 17))]) (some ([7],[])):=rx
@[simp] theorem x21_4:RX 26 r21_4 (.drw [⟨[],[oq 18 (.build 115 [(0,.func 70)]),oq 19 (.ld 35 (tq 2)),oq 20 (.mv (tq 1)),oq 21 (.call false none (.func 71) [tq 18,tq 19,tq 20]),oq 22 (.build 115 [(0,.func 72)]),oq 23 (.ld 35 (tq 2)),oq 24 (.mv (tq 1))],[oq 25 (.call false none (.func 71) [tq 22,tq 23,tq 24])]⟩,⟨[],[oq 4 (.mv (tq 21)),oq 5 (.mv (tq 25)),oq 6 (.mv (ci 0))],[]⟩]) (some ([1,2],[2])):=rx
def r28_0:=rg Try.f28 2
def r28_1:=rg Try.f28 9
def r28_2:=rg Try.f28 21
def r28_3:=rg Try.f28 77
def r28_4:=rg Try.f28 11
def c28:Code:=(.seq r28_0 (.seq (.seq r28_1 (.seq r28_2 (.cond (.tmp 15) (.seq r28_3 .ret) .skip))) (.seq r28_4 .ret)))
theorem b28:Try.f28.body = some c28:=by kernel_rfl
@[simp] theorem x28_0:RX 21 r28_0 (.str [oq 2 (.box (tq 0)),oq 4 (.alloc 45),oq 5 (.mv (ci 0))]) (some ([0,1],[2])):=rx
@[simp] theorem x28_1:RX 21 r28_1 (.drw [⟨[],[oq 7 (.ld 35 (tq 2)),oq 8 (.mv (tq 1)),oq 9 (.fa 35 (tq 2) 3),oq 10 (.ld 32 (tq 9)),oq 11 (.oth (.call ⟨.builtin .len,#[tq 10],#[32]⟩)),oq 12 (.call false none (.func 69) [tq 8,ci 0,tq 11])],[oq 13 (.call false none (.func 68) [tq 7,tq 12])]⟩,⟨[],[oq 6 (.mv (tq 13))],[]⟩]) (some ([1,2,4],[2,4])):=rx
@[simp] theorem x28_2:RX 21 r28_2 (.str [oq 14 (.mv (tq 6)),oq 15 (.bin .neq 29 (tq 14) (ci 0))]) (some ([1,2,4,6],[2,4])):=rx
@[simp] theorem x28_3:RX 21 r28_3 (.str [oq 16 (.build 45 []),oq 17 (.mv (tq 6)),os (.sto 45 (tq 4) (tq 16)),oq 5 (.mv (tq 17))]) (some ([4,6],[4])):=rx
@[simp] theorem x28_4:RX 21 r28_4 (.str [oq 18 (.ld 35 (tq 2)),oq 19 (.mv (tq 1)),oq 20 (.call true none (.func 74) [tq 18,tq 19,.func 75]),os (.sto 45 (tq 4) (tq 20)),oq 5 (.mv (ci 0))]) (some ([1,2,4],[2,4])):=rx
def r29_0:=rg Try.f29 2
def r29_1:=rg Try.f29 9
def r29_2:=rg Try.f29 21
def r29_3:=rg Try.f29 77
def r29_4:=rg Try.f29 11
def c29:Code:=(.seq r29_0 (.seq (.seq r29_1 (.seq r29_2 (.cond (.tmp 8) (.seq r29_3 .ret) .skip))) (.seq r29_4 .ret)))
theorem b29:Try.f29.body = some c29:=by kernel_rfl
@[simp] theorem x29_0:RX 16 r29_0 (.str [oq 1 (.box (tq 0)),oq 2 (.alloc 45),oq 3 (.mv (ci 0))]) (some ([0],[1])):=rx
@[simp] theorem x29_1:RX 16 r29_1 (.str [oq 5 (.ld 35 (tq 1)),oq 6 (.call false none (.func 68) [tq 5,cb true]),oq 4 (.mv (tq 6))]) (some ([0,1,2],[1,2])):=rx
@[simp] theorem x29_2:RX 16 r29_2 (.str [oq 7 (.mv (tq 4)),oq 8 (.bin .neq 29 (tq 7) (ci 0))]) (some ([1,2,4],[1,2])):=rx
@[simp] theorem x29_3:RX 16 r29_3 (.str [oq 9 (.build 45 []),oq 10 (.mv (tq 4)),os (.sto 45 (tq 2) (tq 9)),oq 3 (.mv (tq 10))]) (some ([2,4],[2])):=rx
@[simp] theorem x29_4:RX 16 r29_4 (.str [oq 11 (.ld 35 (tq 1)),oq 12 (.fa 35 (tq 1) 3),oq 13 (.ld 32 (tq 12)),oq 14 (.oth (.call ⟨.builtin .len,#[tq 13],#[32]⟩)),oq 15 (.call true none (.func 74) [tq 11,tq 14,.func 76]),os (.sto 45 (tq 2) (tq 15)),oq 3 (.mv (ci 0))]) (some ([1,2],[1,2])):=rx
def r51_0:=rg Try.f51 2
def r51_1:=rg Try.f51 5
def r51_2:=rg Try.f51 19
def r51_3:=rg Try.f51 267
def r51_5:=rg Try.f51 1099
def r51_6:=rg Try.f51 1611
def r51_4:=rg Try.f51 459
def r51_7:=rg Try.f51 23
def lb51_3:Code:=(.seq (.seq r51_3 (.cond (.tmp 12) .skip (.exit 0))) (.seq (.block 1 (.seq r51_5 r51_6)) r51_4))
@[simp] theorem u51_3 (n:Nat) (st:XS):execA Try.prog ann kn n 37 lb51_3 st = execA Try.prog ann kn n 37 (.seq (.seq r51_3 (.cond (.tmp 12) .skip (.exit 0))) (.seq (.block 1 (.seq r51_5 r51_6)) r51_4)) st:=rfl
def c51:Code:=(.seq r51_0 (.seq r51_1 (.seq (.seq r51_2 (.block 0 (.loop lb51_3))) (.seq r51_7 .ret))))
@[simp] theorem x51_0:RX 37 r51_0 (.str [oq 2 (.box (tq 0)),oq 4 (.mv (.const (.slice none 0 0)))]) (some ([0,1],[2,21])):=rx
@[simp] theorem x51_1:RX 37 r51_1 (.str [oq 5 (.mv (.const (.slice none 0 0)))]) (some ([1,2],[2,21])):=rx
@[simp] theorem x51_2:RX 37 r51_2 (.str [oq 6 (.mv (ci 0))]) (some ([1,2,5],[2,21,31])):=rx
@[simp] theorem x51_3:RX 37 r51_3 (.str [oq 8 (.mv (tq 6)),oq 9 (.fa 25 (tq 2) 3),oq 10 (.ld 22 (tq 9)),oq 11 (.oth (.call ⟨.builtin .len,#[tq 10],#[22]⟩)),oq 12 (.bin .lss 3 (tq 8) (tq 11))]) (some ([1,2,5,6],[2,21,31])):=rx
@[simp] theorem x51_5:RX 37 r51_5 (.drw [⟨[],[oq 15 (.ld 25 (tq 2)),oq 16 (.fa 25 (tq 2) 3),oq 17 (.ld 22 (tq 16)),oq 18 (.mv (tq 6)),oq 19 (.oth (.indexAddr 22 (tq 17) (tq 18))),oq 20 (.ld 75 (tq 19))],[oq 21 (.call false none (.func 83) [tq 15,tq 20])]⟩,⟨[],[oq 7 (.mv (tq 21))],[]⟩]) (some ([1,2,5,6],[2,31])):=rx
@[simp] theorem x51_6:RX 37 r51_6 (.drw [⟨[],[oq 22 (.mv (tq 5)),oq 23 (.mv (tq 7)),oq 24 (.mv (tq 1)),oq 25 (.mv (tq 7)),oq 26 (.oth (.call ⟨.builtin .len,#[tq 25],#[22]⟩)),oq 27 (.bin .rem 3 (tq 24) (tq 26)),oq 28 (.oth (.indexAddr 22 (tq 23) (tq 27))),oq 29 (.ld 75 (tq 28)),oq 30 (.buildS 22 1 [(0,tq 29)]),oq 32 (.mv (tq 1)),oq 33 (.mv (tq 7)),oq 34 (.oth (.call ⟨.builtin .len,#[tq 33],#[22]⟩)),oq 35 (.bin .quo 3 (tq 32) (tq 34)),oq 31 (.app [tq 22,tq 30] [22,22]),oq 5 (.mv (tq 31)),oq 1 (.mv (tq 35))],[]⟩]) (some ([1,2,5,6,7],[2,21,31])):=rx
@[simp] theorem x51_4:RX 37 r51_4 (.str [oq 13 (.mv (tq 6)),oq 14 (.bin .add 3 (tq 13) (ci 1)),oq 6 (.mv (tq 14))]) (some ([1,2,5,6],[2,21,31])):=rx
@[simp] theorem x51_7:RX 37 r51_7 (.str [oq 36 (.mv (tq 5)),oq 4 (.mv (tq 36))]) (some ([5],[31])):=rx
@[simp] theorem l51_3:ann 37 (fstR lb51_3) = some ([1,2,5,6],[2,21,31]):=by kernel_rfl
def r43_0:=rg Try.f43 2
def r43_1:=rg Try.f43 5
def r43_2:=rg Try.f43 19
def r43_3:=rg Try.f43 267
def r43_5:=rg Try.f43 1099
def r43_6:=rg Try.f43 2635
def r43_7:=rg Try.f43 5707
def r43_4:=rg Try.f43 459
def r43_8:=rg Try.f43 23
def lb43_3:Code:=(.seq (.seq r43_3 (.cond (.tmp 9) .skip (.exit 0))) (.seq (.block 1 (.seq r43_5 (.seq r43_6 (.cond (.tmp 21) r43_7 .skip)))) r43_4))
@[simp] theorem u43_3 (n:Nat) (st:XS):execA Try.prog ann kn n 27 lb43_3 st = execA Try.prog ann kn n 27 (.seq (.seq r43_3 (.cond (.tmp 9) .skip (.exit 0))) (.seq (.block 1 (.seq r43_5 (.seq r43_6 (.cond (.tmp 21) r43_7 .skip)))) r43_4)) st:=rfl
def c43:Code:=(.seq r43_0 (.seq r43_1 (.seq (.seq r43_2 (.block 0 (.loop lb43_3))) (.seq r43_8 .ret))))
@[simp] theorem x43_0:RX 27 r43_0 (.str [oq 1 (.box (tq 0)),oq 2 (.mv (.const (.slice none 0 0)))]) (some ([0],[1,14])):=rx
@[simp] theorem x43_1:RX 27 r43_1 (.str [oq 3 (.mv (.const (.slice none 0 0)))]) (some ([1],[1,14])):=rx
@[simp] theorem x43_2:RX 27 r43_2 (.str [oq 4 (.mv (ci 0))]) (some ([1,3],[1,14,25])):=rx
@[simp] theorem x43_3:RX 27 r43_3 (.str [oq 6 (.mv (tq 4)),oq 7 (.ld 25 (tq 1)),oq 8 (.call false none (.func 52) [tq 7]),oq 9 (.bin .lss 3 (tq 6) (tq 8))]) (some ([1,3,4],[1,14,25])):=rx
@[simp] theorem x43_5:RX 27 r43_5 (.str [oq 12 (.ld 25 (tq 1)),oq 13 (.mv (tq 4)),oq 14 (.call false none (.func 51) [tq 12,tq 13]),oq 5 (.mv (tq 14))]) (some ([1,3,4],[1,14,25])):=rx
@[simp] theorem x43_6:RX 27 r43_6 (.str [oq 15 (.mv (tq 5)),oq 16 (.call false none (.func 58) [tq 15]),oq 17 (.mv (tq 16)),og 17 true 18 (.ld 25 (tq 1)),og 17 true 19 (.mv (tq 5)),og 17 true 20 (.call false none (.func 89) [tq 18,tq 19]),oq 21 (.pick (tq 17) (tq 20) (cb false))]) (some ([1,3,4,5],[1,14,25])):=rx
@[simp] theorem x43_7:RX 27 r43_7 (.str [oq 22 (.mv (tq 3)),oq 23 (.mv (tq 5)),oq 24 (.buildS 37 1 [(0,tq 23)]),oq 25 (.app [tq 22,tq 24] [37,37]),oq 3 (.mv (tq 25))]) (some ([1,3,4,5],[1,14,25])):=rx
@[simp] theorem x43_4:RX 27 r43_4 (.str [oq 10 (.mv (tq 4)),oq 11 (.bin .add 3 (tq 10) (ci 1)),oq 4 (.mv (tq 11))]) (some ([1,3,4],[1,14,25])):=rx
@[simp] theorem x43_8:RX 27 r43_8 (.str [oq 26 (.mv (tq 3)),oq 2 (.mv (tq 26))]) (some ([3],[25])):=rx
@[simp] theorem l43_3:ann 27 (fstR lb43_3) = some ([1,3,4],[1,14,25]):=by kernel_rfl
def r23_0:=rg Try.f23 2
def r23_1:=rg Try.f23 9
def r23_2:=rg Try.f23 21
def r23_3:=rg Try.f23 77
def r23_4:=rg Try.f23 11
def r23_5:=rg Try.f23 39
def r23_6:=rg Try.f23 151
def r23_7:=rg Try.f23 47
def c23:Code:=(.seq r23_0 (.seq (.seq r23_1 (.seq r23_2 (.cond (.tmp 9) (.seq r23_3 .ret) .skip))) (.seq r23_4 (.seq (.seq r23_5 (.cond (.tmp 15) (.seq r23_6 .ret) .skip)) (.seq r23_7 .ret)))))
def r119_0:=rg Try.f119 2
def r119_1:=rg Try.f119 9
def r119_2:=rg Try.f119 69
def r119_3:=rg Try.f119 1125
def r119_4:=rg Try.f119 2661
def r119_5:=rg Try.f119 9829
def r119_6:=rg Try.f119 485
def r119_7:=rg Try.f119 11
def lb119_2:Code:=(.seq r119_2 (.seq (.cond (.tmp 9) .skip (.exit 0)) (.seq (.block 1 (.seq r119_3 (.seq r119_4 (.cond (.tmp 16) (.seq r119_5 .ret) .skip)))) r119_6)))
@[simp] theorem u119_2 (n:Nat) (st:XS):execA Try.prog ann kn n 19 lb119_2 st = execA Try.prog ann kn n 19 (.seq r119_2 (.seq (.cond (.tmp 9) .skip (.exit 0)) (.seq (.block 1 (.seq r119_3 (.seq r119_4 (.cond (.tmp 16) (.seq r119_5 .ret) .skip)))) r119_6))) st:=rfl
def c119:Code:=(.seq r119_0 (.seq (.seq r119_1 (.block 0 (.loop lb119_2))) (.seq r119_7 .ret)))
theorem b119:Try.f119.body = some c119:=by kernel_rfl
@[simp] theorem x119_0:RX 19 r119_0 (.str [oq 4 (.mv (ci 0))]) (some ([0,1],[])):=rx
@[simp] theorem x119_1:RX 19 r119_1 (.str [oq 6 (.mv (tq 0)),oq 7 (.oth (.call ⟨.builtin .len,#[tq 6],#[28]⟩)),oq 8 (.mv (ci 0))]) (some ([0,1,2,3],[2,3])):=rx
@[simp] theorem x119_2:RX 19 r119_2 (.str [oq 9 (.bin .lss 3 (tq 8) (tq 7))]) (some ([0,1,3,7,8],[3])):=rx
@[simp] theorem x119_3:RX 19 r119_3 (.str [oq 10 (.mv (tq 8)),oq 5 (.mv (tq 10))]) (some ([0,1,3,7,8],[3])):=rx
@[simp] theorem x119_4:RX 19 r119_4 (.str [oq 11 (.mv (tq 1)),oq 12 (.mv (tq 0)),oq 13 (.mv (tq 5)),oq 14 (.oth (.indexAddr 28 (tq 12) (tq 13))),oq 15 (.ld 3 (tq 14)),oq 16 (.bin .eql 3 (tq 11) (tq 15))]) (some ([0,1,3,5,7,8],[3])):=rx
@[simp] theorem x119_5:RX 19 r119_5 (.str [oq 17 (.mv (tq 5)),oq 4 (.mv (tq 17))]) (some ([5],[])):=rx
@[simp] theorem x119_6:RX 19 r119_6 (.str [oq 18 (.bin .add 3 (tq 8) (ci 1)),oq 8 (.mv (tq 18))]) (some ([0,1,3,7,8],[3])):=rx
@[simp] theorem x119_7:RX 19 r119_7 (.str [oq 4 (.mv (.const (.int .i64 (Int.negSucc 0))))]) (some ([],[])):=rx
@[simp] theorem l119_2:ann 19 (fstR lb119_2) = some ([0,1,3,7,8],[3]):=by kernel_rfl
def r109_0:=rg Try.f109 2
def r109_1:=rg Try.f109 5
def c109:Code:=(.seq r109_0 (.seq r109_1 .ret))
theorem b109:Try.f109.body = some c109:=by kernel_rfl
@[simp] theorem x109_0:RX 9 r109_0 (.str [oq 4 (.mv (cb false))]) (some ([0,1],[])):=rx
@[simp] theorem x109_1:RX 9 r109_1 (.str [oq 5 (.mv (tq 0)),oq 6 (.mv (tq 1)),oq 7 (.call false none (.func 119) [tq 5,tq 6]),oq 8 (.bin .geq 3 (tq 7) (ci 0)),oq 4 (.mv (tq 8))]) (some ([0,1,3],[3])):=rx
def r87_0:=rg Try.f87 2
def r87_1:=rg Try.f87 9
def r87_2:=rg Try.f87 37
def r87_3:=rg Try.f87 11
def c87:Code:=(.seq r87_0 (.seq (.seq r87_1 (.cond (.tmp 4) (.seq r87_2 .ret) .skip)) (.seq r87_3 .ret)))
theorem b87:Try.f87.body = some c87:=by kernel_rfl
@[simp] theorem x87_0:RX 8 r87_0 (.str [oq 2 (.mv (.const (.slice none 0 0)))]) (some ([0],[])):=rx
@[simp] theorem x87_1:RX 8 r87_1 (.str [oq 3 (.mv (tq 0)),oq 4 (.bin .eql 28 (tq 3) (.const (.slice none 0 0)))]) (some ([0],[])):=rx
@[simp] theorem x87_2:RX 8 r87_2 (.str [oq 2 (.mv (.const (.slice none 0 0)))]) (some ([],[])):=rx
@[simp] theorem x87_3:RX 8 r87_3 (.str [oq 5 (.buildS 28 0 []),oq 6 (.mv (tq 0)),oq 7 (.app [tq 5,tq 6] [28,28]),oq 2 (.mv (tq 7))]) (some ([0],[])):=rx
def r86_0:=rg Try.f86 2
def r86_1:=rg Try.f86 5
def r86_2:=rg Try.f86 11
def r86_3:=rg Try.f86 39
def r86_4:=rg Try.f86 279
def r86_5:=rg Try.f86 4503
def r86_6:=rg Try.f86 10647
def r86_7:=rg Try.f86 22935
def r86_8:=rg Try.f86 1943
def r86_9:=rg Try.f86 79
def r86_10:=rg Try.f86 559
def r86_11:=rg Try.f86 9007
def r86_12:=rg Try.f86 21295
def r86_13:=rg Try.f86 78639
def r86_14:=rg Try.f86 570159
def r86_15:=rg Try.f86 9220911
def r86_16:=rg Try.f86 21803823
def r86_17:=rg Try.f86 46969647
def r86_18:=rg Try.f86 3978031
def r86_19:=rg Try.f86 62255
def r86_20:=rg Try.f86 3887
def r86_21:=rg Try.f86 95
def lb86_4:Code:=(.seq r86_4 (.seq (.cond (.tmp 20) .skip (.exit 0)) (.seq (.block 1 (.seq r86_5 (.seq r86_6 (.cond (.tmp 27) r86_7 .skip)))) r86_8)))
@[simp] theorem u86_4 (n:Nat) (st:XS):execA Try.prog ann kn n 69 lb86_4 st = execA Try.prog ann kn n 69 (.seq r86_4 (.seq (.cond (.tmp 20) .skip (.exit 0)) (.seq (.block 1 (.seq r86_5 (.seq r86_6 (.cond (.tmp 27) r86_7 .skip)))) r86_8))) st:=rfl
def lb86_14:Code:=(.seq r86_14 (.seq (.cond (.tmp 45) .skip (.exit 4)) (.seq (.block 5 (.seq r86_15 (.seq r86_16 (.cond (.tmp 51) r86_17 .skip)))) r86_18)))
@[simp] theorem u86_14 (n:Nat) (st:XS):execA Try.prog ann kn n 69 lb86_14 st = execA Try.prog ann kn n 69 (.seq r86_14 (.seq (.cond (.tmp 45) .skip (.exit 4)) (.seq (.block 5 (.seq r86_15 (.seq r86_16 (.cond (.tmp 51) r86_17 .skip)))) r86_18))) st:=rfl
def lb86_10:Code:=(.seq r86_10 (.seq (.cond (.tmp 39) .skip (.exit 2)) (.seq (.block 3 (.seq r86_11 (.seq r86_12 (.seq (.seq r86_13 (.block 4 (.loop lb86_14))) r86_19)))) r86_20)))
@[simp] theorem u86_10 (n:Nat) (st:XS):execA Try.prog ann kn n 69 lb86_10 st = execA Try.prog ann kn n 69 (.seq r86_10 (.seq (.cond (.tmp 39) .skip (.exit 2)) (.seq (.block 3 (.seq r86_11 (.seq r86_12 (.seq (.seq r86_13 (.block 4 (.loop lb86_14))) r86_19)))) r86_20))) st:=rfl
def c86:Code:=(.seq r86_0 (.seq r86_1 (.seq r86_2 (.seq (.seq r86_3 (.block 0 (.loop lb86_4))) (.seq (.seq r86_9 (.block 2 (.loop lb86_10))) (.seq r86_21 .ret))))))
theorem b86:Try.f86.body = some c86:=by kernel_rfl
@[simp] theorem x86_0:RX 69 r86_0 (.str [oq 2 (.box (tq 0)),oq 4 (.alloc 35)]) (some ([0,1],[2,4,5,32,65])):=rx
@[simp] theorem x86_1:RX 69 r86_1 (.str [oq 13 (.ld 35 (tq 2)),oq 5 (.alloc 35),os (.sto 35 (tq 5) (tq 13))]) (some ([1,2,4],[2,4,5,32,65])):=rx
@[simp] theorem x86_2:RX 69 r86_2 (.str [oq 14 (.fa 35 (tq 5) 3),os (.sto 32 (tq 14) (.const (.slice none 0 0))),oq 15 (.fa 35 (tq 5) 4),os (.sto 33 (tq 15) (.const (.slice none 0 0)))]) (some ([1,2,4,5],[2,4,5,32,65])):=rx
@[simp] theorem x86_3:RX 69 r86_3 (.str [oq 16 (.fa 35 (tq 2) 3),oq 17 (.ld 32 (tq 16)),oq 18 (.oth (.call ⟨.builtin .len,#[tq 17],#[32]⟩)),oq 19 (.mv (ci 0))]) (some ([1,2,4,5],[2,4,5,32,65])):=rx
@[simp] theorem x86_4:RX 69 r86_4 (.str [oq 20 (.bin .lss 3 (tq 19) (tq 18))]) (some ([1,2,4,5,17,18,19],[2,4,5,32,65])):=rx
@[simp] theorem x86_5:RX 69 r86_5 (.str [oq 21 (.mv (tq 19)),oq 22 (.oth (.indexAddr 32 (tq 17) (tq 19))),oq 23 (.ld 96 (tq 22)),oq 7 (.alloc 96),oq 6 (.mv (tq 21)),os (.sto 96 (tq 7) (tq 23))]) (some ([1,2,4,5,17,18,19],[2,4,5,32,65])):=rx
@[simp] theorem x86_6:RX 69 r86_6 (.str [oq 24 (.mv (tq 1)),oq 25 (.mv (tq 6)),oq 26 (.call false none (.func 109) [tq 24,tq 25]),oq 27 (.oth (.unOp .not 4 (tq 26)))]) (some ([1,2,4,5,6,7,17,18,19],[2,4,5,7,32,65])):=rx
@[simp] theorem x86_7:RX 69 r86_7 (.str [oq 28 (.fa 35 (tq 5) 3),oq 29 (.ld 32 (tq 28)),oq 30 (.ld 96 (tq 7)),oq 31 (.buildS 32 1 [(0,tq 30)]),oq 32 (.app [tq 29,tq 31] [32,32]),oq 33 (.fa 35 (tq 5) 3),os (.sto 32 (tq 33) (tq 32))]) (some ([1,2,4,5,7,17,18,19],[2,4,5,7,32,65])):=rx
@[simp] theorem x86_8:RX 69 r86_8 (.str [oq 34 (.bin .add 3 (tq 19) (ci 1)),oq 19 (.mv (tq 34))]) (some ([1,2,4,5,17,18,19],[2,4,5,32,65])):=rx
@[simp] theorem x86_9:RX 69 r86_9 (.str [oq 35 (.fa 35 (tq 2) 4),oq 36 (.ld 33 (tq 35)),oq 37 (.oth (.call ⟨.builtin .len,#[tq 36],#[33]⟩)),oq 38 (.mv (ci 0))]) (some ([1,2,4,5],[2,4,5,32,65])):=rx
@[simp] theorem x86_10:RX 69 r86_10 (.str [oq 39 (.bin .lss 3 (tq 38) (tq 37))]) (some ([1,4,5,36,37,38],[2,4,5,32,65])):=rx
@[simp] theorem x86_11:RX 69 r86_11 (.str [oq 40 (.oth (.indexAddr 33 (tq 36) (tq 38))),oq 41 (.ld 99 (tq 40)),oq 9 (.alloc 99),os (.sto 99 (tq 9) (tq 41))]) (some ([1,4,5,36,37,38],[2,4,5,32,65])):=rx
@[simp] theorem x86_12:RX 69 r86_12 (.str [oq 10 (.mv (ci 0))]) (some ([1,4,5,9,36,37,38],[2,4,5,9,32,65])):=rx
@[simp] theorem x86_13:RX 69 r86_13 (.str [oq 42 (.mv (tq 1)),oq 43 (.oth (.call ⟨.builtin .len,#[tq 42],#[28]⟩)),oq 44 (.mv (ci 0))]) (some ([1,4,5,9,10,36,37,38],[2,4,5,9,32,65])):=rx
@[simp] theorem x86_14:RX 69 r86_14 (.str [oq 45 (.bin .lss 3 (tq 44) (tq 43))]) (some ([1,4,5,9,10,36,37,38,42,43,44],[2,4,5,9,32,65])):=rx
@[simp] theorem x86_15:RX 69 r86_15 (.str [oq 46 (.oth (.indexAddr 28 (tq 42) (tq 44))),oq 47 (.ld 3 (tq 46)),oq 12 (.mv (tq 47))]) (some ([1,4,5,9,10,36,37,38,42,43,44],[2,4,5,9,32,65])):=rx
@[simp] theorem x86_16:RX 69 r86_16 (.str [oq 48 (.mv (tq 12)),oq 49 (.fa 99 (tq 9) 0),oq 50 (.ld 3 (tq 49)),oq 51 (.bin .lss 3 (tq 48) (tq 50))]) (some ([1,4,5,9,10,12,36,37,38,42,43,44],[2,4,5,9,32,65])):=rx
@[simp] theorem x86_17:RX 69 r86_17 (.str [oq 52 (.mv (tq 10)),oq 53 (.bin .add 3 (tq 52) (ci 1)),oq 10 (.mv (tq 53))]) (some ([1,4,5,9,10,36,37,38,42,43,44],[2,4,5,9,32,65])):=rx
@[simp] theorem x86_18:RX 69 r86_18 (.str [oq 54 (.bin .add 3 (tq 44) (ci 1)),oq 44 (.mv (tq 54))]) (some ([1,4,5,9,10,36,37,38,42,43,44],[2,4,5,9,32,65])):=rx
@[simp] theorem x86_19:RX 69 r86_19 (.str [oq 55 (.fa 35 (tq 5) 4),oq 56 (.ld 33 (tq 55)),oq 57 (.fa 99 (tq 9) 0),oq 58 (.ld 3 (tq 57)),oq 59 (.mv (tq 10)),oq 60 (.bin .sub 3 (tq 58) (tq 59)),oq 61 (.fa 99 (tq 9) 1),oq 62 (.ld 45 (tq 61)),oq 63 (.build 99 [(0,tq 60),(1,tq 62)]),oq 64 (.buildS 33 1 [(0,tq 63)]),oq 65 (.app [tq 56,tq 64] [33,33]),oq 66 (.fa 35 (tq 5) 4),os (.sto 33 (tq 66) (tq 65))]) (some ([1,4,5,9,10,36,37,38],[2,4,5,9,32,65])):=rx
@[simp] theorem x86_20:RX 69 r86_20 (.str [oq 67 (.bin .add 3 (tq 38) (ci 1)),oq 38 (.mv (tq 67))]) (some ([1,4,5,36,37,38],[2,4,5,32,65])):=rx
@[simp] theorem x86_21:RX 69 r86_21 (.str [oq 68 (.ld 35 (tq 5)),os (.sto 35 (tq 4) (tq 68))]) (some ([4,5],[2,4,5,32,65])):=rx
@[simp] theorem l86_4:ann 69 (fstR lb86_4) = some ([1,2,4,5,17,18,19],[2,4,5,32,65]):=by kernel_rfl
@[simp] theorem l86_10:ann 69 (fstR lb86_10) = some ([1,4,5,36,37,38],[2,4,5,32,65]):=by kernel_rfl
@[simp] theorem l86_14:ann 69 (fstR lb86_14) = some ([1,4,5,9,10,36,37,38,42,43,44],[2,4,5,9,32,65]):=by kernel_rfl
def r85_0:=rg Try.f85 2
def r85_1:=rg Try.f85 9
def r85_2:=rg Try.f85 37
def r85_3:=rg Try.f85 85
def r85_4:=rg Try.f85 19
def r85_5:=rg Try.f85 267
def r85_7:=rg Try.f85 1099
def r85_8:=rg Try.f85 4683
def r85_6:=rg Try.f85 459
def r85_9:=rg Try.f85 23
def lb85_5:Code:=(.seq (.seq r85_5 (.cond (.tmp 25) .skip (.exit 0))) (.seq (.block 1 (.seq r85_7 (.cond (.tmp 38) (.seq r85_8 .ret) .skip))) r85_6))
@[simp] theorem u85_5 (n:Nat) (st:XS):execA Try.prog ann kn n 39 lb85_5 st = execA Try.prog ann kn n 39 (.seq (.seq r85_5 (.cond (.tmp 25) .skip (.exit 0))) (.seq (.block 1 (.seq r85_7 (.cond (.tmp 38) (.seq r85_8 .ret) .skip))) r85_6)) st:=rfl
def c85:Code:=(.seq r85_0 (.seq (.seq r85_1 (.cond (.tmp 12) (.seq r85_2 (.seq r85_3 .ret)) .skip)) (.seq (.seq r85_4 (.block 0 (.loop lb85_5))) (.seq r85_9 .ret))))
theorem b85:Try.f85.body = some c85:=by kernel_rfl
@[simp] theorem x85_0:RX 39 r85_0 (.str [oq 9 (.mv (cb false))]) (some ([0,1,2,3,4,5],[16,30,33])):=rx
@[simp] theorem x85_1:RX 39 r85_1 (.str [oq 11 (.mv (tq 2)),oq 12 (.bin .eql 3 (tq 11) (ci 0))]) (some ([0,1,2,3,4,5],[16,30,33])):=rx
@[simp] theorem x85_2:RX 39 r85_2 (.str [oq 13 (.mv (tq 0)),os (.sto 28 (tq 3) (tq 13))]) (some ([0,3,4],[16,30,33])):=rx
@[simp] theorem x85_3:RX 39 r85_3 (.str [oq 14 (.ld 35 (tq 4)),oq 15 (.mv (tq 0)),oq 16 (.call false none (.func 86) [tq 14,tq 15]),oq 17 (.call false none (.func 84) [tq 16]),oq 9 (.mv (tq 17))]) (some ([0,4],[16,30,33])):=rx
@[simp] theorem x85_4:RX 39 r85_4 (.str [oq 18 (.mv (tq 1)),oq 10 (.mv (tq 18))]) (some ([0,1,2,4,5],[16,30,33])):=rx
@[simp] theorem x85_5:RX 39 r85_5 (.str [oq 19 (.mv (tq 10)),oq 20 (.fa 35 (tq 4) 3),oq 21 (.ld 32 (tq 20)),oq 22 (.oth (.call ⟨.builtin .len,#[tq 21],#[32]⟩)),oq 23 (.mv (tq 2)),oq 24 (.bin .sub 3 (tq 22) (tq 23)),oq 25 (.bin .leq 3 (tq 19) (tq 24))]) (some ([0,2,4,5,10],[16,30,33])):=rx
@[simp] theorem x85_7:RX 39 r85_7 (.drw [⟨[30],[oq 28 (.ld 130 (tq 5)),oq 29 (.mv (tq 0)),oq 31 (.mv (tq 10)),oq 32 (.buildS 28 1 [(0,tq 31)]),oq 34 (.mv (tq 10)),oq 35 (.bin .add 3 (tq 34) (ci 1)),oq 36 (.mv (tq 2)),oq 37 (.bin .sub 3 (tq 36) (ci 1)),oq 30 (.call true none (.func 87) [tq 29]),oq 33 (.app [tq 30,tq 32] [28,28])],[oq 38 (.call false (some 33) (tq 28) [tq 33,tq 35,tq 37])]⟩,⟨[],[],[]⟩]) (some ([0,2,4,5,10],[16,33])):=rx
@[simp] theorem x85_8:RX 39 r85_8 (.str [oq 9 (.mv (cb true))]) (some ([],[])):=rx
@[simp] theorem x85_6:RX 39 r85_6 (.str [oq 26 (.mv (tq 10)),oq 27 (.bin .add 3 (tq 26) (ci 1)),oq 10 (.mv (tq 27))]) (some ([0,2,4,5,10],[16,30,33])):=rx
@[simp] theorem x85_9:RX 39 r85_9 (.str [oq 9 (.mv (cb false))]) (some ([],[])):=rx
@[simp] theorem l85_5:ann 39 (fstR lb85_5) = some ([0,2,4,5,10],[16,30,33]):=by kernel_rfl
def r38_0:=rg Try.f38 2
def r38_1:=rg Try.f38 17
def r38_2:=rg Try.f38 41
def r38_3:=rg Try.f38 153
def r38_4:=rg Try.f38 21
def r38_5:=rg Try.f38 45
def r38_6:=rg Try.f38 93
def r38_7:=rg Try.f38 189
def r38_8:=rg Try.f38 1277
def r38_9:=rg Try.f38 8957
def r38_10:=rg Try.f38 144125
def r38_11:=rg Try.f38 340733
def r38_12:=rg Try.f38 733949
def r38_13:=rg Try.f38 62205
def r38_14:=rg Try.f38 2557
def r38_15:=rg Try.f38 9725
def r38_16:=rg Try.f38 3069
def lb38_9:Code:=(.seq r38_9 (.seq (.cond (.tmp 20) .skip (.exit 0)) (.seq (.block 1 (.seq r38_10 (.seq r38_11 (.seq r38_12 (.cond (.tmp 25) (.exit 0) .skip))))) r38_13)))
@[simp] theorem u38_9 (n:Nat) (st:XS):execA Try.prog ann kn n 30 lb38_9 st = execA Try.prog ann kn n 30 (.seq r38_9 (.seq (.cond (.tmp 20) .skip (.exit 0)) (.seq (.block 1 (.seq r38_10 (.seq r38_11 (.seq r38_12 (.cond (.tmp 25) (.exit 0) .skip))))) r38_13))) st:=rfl
def c38:Code:=(.seq r38_0 (.scope (.seq (.seq r38_1 (.seq r38_2 (.cond (.tmp 12) (.seq r38_3 .ret) .skip))) (.seq r38_4 (.seq r38_5 (.seq r38_6 (.seq r38_7 (.seq (.label 0) (.seq (.seq r38_8 (.block 0 (.loop lb38_9))) (.seq (.seq r38_14 (.cond (.tmp 28) (.seq r38_15 .ret) .skip)) (.seq r38_16 .ret)))))))))))
theorem b38:Try.f38.body = some c38:=by kernel_rfl
@[simp] theorem x38_0:RX 30 r38_0 (.str [oq 1 (.box (tq 0)),oq 2 (.mv (.const (.slice none 0 0))),oq 3 (.mv (ci 0))]) (some ([0],[1,5,6])):=rx
@[simp] theorem x38_1:RX 30 r38_1 (.str [oq 9 (.ld 35 (tq 1)),oq 10 (.call false none (.func 55) [tq 9]),oq 4 (.mv (tq 10))]) (some ([1],[1,5,6])):=rx
@[simp] theorem x38_2:RX 30 r38_2 (.str [oq 11 (.mv (tq 4)),oq 12 (.bin .neq 29 (tq 11) (ci 0))]) (some ([1,4],[1,5,6])):=rx
@[simp] theorem x38_3:RX 30 r38_3 (.str [oq 13 (.mv (tq 4)),oq 2 (.mv (.const (.slice none 0 0))),oq 3 (.mv (tq 13))]) (some ([4],[])):=rx
@[simp] theorem x38_4:RX 30 r38_4 (.str [oq 5 (.alloc 28)]) (some ([1],[1,5,6])):=rx
@[simp] theorem x38_5:RX 30 r38_5 (.str [oq 6 (.alloc 130)]) (some ([1,5],[1,5,6])):=rx
@[simp] theorem x38_6:RX 30 r38_6 (.str [oq 14 (.oth (.makeFunc (.func 85) #[] #[tq 5,tq 1,tq 6])),os (.sto 130 (tq 6) (tq 14))]) (some ([1,5,6],[1,5,6])):=rx
@[simp] theorem x38_7:RX 30 r38_7 (.str [oq 7 (.mv (cb false))]) (some ([1,5,6],[1,5,6])):=rx
@[simp] theorem x38_8:RX 30 r38_8 (.str [oq 15 (.fa 35 (tq 1) 3),oq 16 (.ld 32 (tq 15)),oq 17 (.oth (.call ⟨.builtin .len,#[tq 16],#[32]⟩)),oq 18 (.bin .add 3 (tq 17) (ci 1)),oq 19 (.mv (ci 0))]) (some ([1,5,6,7],[1,5,6])):=rx
@[simp] theorem x38_9:RX 30 r38_9 (.str [oq 20 (.bin .lss 3 (tq 19) (tq 18))]) (some ([5,6,7,18,19],[1,5,6])):=rx
@[simp] theorem x38_10:RX 30 r38_10 (.str [oq 21 (.mv (tq 19)),oq 8 (.mv (tq 21))]) (some ([5,6,18,19],[1,5,6])):=rx
@[simp] theorem x38_11:RX 30 r38_11 (.str [oq 22 (.ld 130 (tq 6)),oq 23 (.mv (tq 8)),oq 24 (.call false none (tq 22) [.const (.slice none 0 0),ci 0,tq 23]),oq 7 (.mv (tq 24))]) (some ([5,6,8,18,19],[1,5,6])):=rx
@[simp] theorem x38_12:RX 30 r38_12 (.str [oq 25 (.mv (tq 7))]) (some ([5,6,7,18,19],[1,5,6])):=rx
@[simp] theorem x38_13:RX 30 r38_13 (.str [oq 26 (.bin .add 3 (tq 19) (ci 1)),oq 19 (.mv (tq 26))]) (some ([5,6,7,18,19],[1,5,6])):=rx
@[simp] theorem x38_14:RX 30 r38_14 (.str [oq 27 (.mv (tq 7)),oq 28 (.oth (.unOp .not 4 (tq 27)))]) (some ([5,7],[1,5,6])):=rx
@[simp] theorem x38_15:RX 30 r38_15 (.str [oq 2 (.mv (.const (.slice none 0 0))),oq 3 (.mv (ci 10))]) (some ([],[])):=rx
@[simp] theorem x38_16:RX 30 r38_16 (.str [oq 29 (.ld 28 (tq 5)),oq 2 (.mv (tq 29)),oq 3 (.mv (ci 0))]) (some ([5],[1,5,6])):=rx
@[simp] theorem l38_9:ann 30 (fstR lb38_9) = some ([5,6,7,18,19],[1,5,6]):=by kernel_rfl
def r73_0:=rg Try.f73 2
def r73_1:=rg Try.f73 9
def r73_2:=rg Try.f73 37
def r73_3:=rg Try.f73 19
def r73_4:=rg Try.f73 75
def r73_5:=rg Try.f73 23
def c73:Code:=(.seq r73_0 (.seq (.seq r73_1 (.cond (.tmp 7) (.seq r73_2 .ret) .skip)) (.seq (.seq r73_3 (.cond (.tmp 9) (.seq r73_4 .ret) .skip)) (.seq r73_5 .ret))))
def r26_0:=rg Try.f26 2
def r26_1:=rg Try.f26 5
def r26_2:=rg Try.f26 19
def r26_3:=rg Try.f26 267
def r26_5:=rg Try.f26 1099
def r26_6:=rg Try.f26 2635
def r26_4:=rg Try.f26 459
def r26_7:=rg Try.f26 23
def lb26_3:Code:=(.seq (.seq r26_3 (.cond (.tmp 12) .skip (.exit 0))) (.seq (.block 1 (.seq r26_5 (.cond (.tmp 22) r26_6 .skip))) r26_4))
@[simp] theorem u26_3 (n:Nat) (st:XS):execA Try.prog ann kn n 29 lb26_3 st = execA Try.prog ann kn n 29 (.seq (.seq r26_3 (.cond (.tmp 12) .skip (.exit 0))) (.seq (.block 1 (.seq r26_5 (.cond (.tmp 22) r26_6 .skip))) r26_4)) st:=rfl
def c26:Code:=(.seq r26_0 (.seq r26_1 (.seq (.seq r26_2 (.block 0 (.loop lb26_3))) (.seq r26_7 .ret))))
@[simp] theorem x26_0:RX 29 r26_0 (.str [oq 6 (.mv (ci 0))]) (some ([0,1,2],[])):=rx
@[simp] theorem x26_1:RX 29 r26_1 (.str [oq 7 (.mv (ci 0))]) (some ([0,1,2],[])):=rx
@[simp] theorem x26_2:RX 29 r26_2 (.str [oq 8 (.mv (ci 0))]) (some ([0,1,2,7],[])):=rx
@[simp] theorem x26_3:RX 29 r26_3 (.str [oq 9 (.mv (tq 8)),oq 10 (.mv (tq 0)),oq 11 (.oth (.call ⟨.builtin .len,#[tq 10],#[37]⟩)),oq 12 (.bin .lss 3 (tq 9) (tq 11))]) (some ([0,1,2,7,8],[])):=rx
@[simp] theorem x26_5:RX 29 r26_5 (.str [oq 15 (.mv (tq 0)),oq 16 (.mv (tq 8)),oq 17 (.oth (.indexAddr 37 (tq 15) (tq 16))),oq 18 (.ld 22 (tq 17)),oq 19 (.mv (tq 1)),oq 20 (.mv (tq 2)),oq 21 (.call false none (.func 63) [tq 18,tq 19,tq 20]),oq 22 (.bin .geq 3 (tq 21) (ci 0))]) (some ([0,1,2,7,8],[])):=rx
@[simp] theorem x26_6:RX 29 r26_6 (.str [oq 23 (.mv (tq 7)),oq 24 (.bin .add 3 (tq 23) (ci 1)),oq 7 (.mv (tq 24))]) (some ([0,1,2,7,8],[])):=rx
@[simp] theorem x26_4:RX 29 r26_4 (.str [oq 13 (.mv (tq 8)),oq 14 (.bin .add 3 (tq 13) (ci 1)),oq 8 (.mv (tq 14))]) (some ([0,1,2,7,8],[])):=rx
@[simp] theorem x26_7:RX 29 r26_7 (.str [oq 25 (.mv (tq 7)),oq 26 (.mv (tq 0)),oq 27 (.oth (.call ⟨.builtin .len,#[tq 26],#[37]⟩)),oq 28 (.call false none (.func 73) [tq 25,tq 27]),oq 6 (.mv (tq 28))]) (some ([0,7],[])):=rx
@[simp] theorem l26_3:ann 29 (fstR lb26_3) = some ([0,1,2,7,8],[]):=by kernel_rfl
def r27_0:=rg Try.f27 2
def r27_1:=rg Try.f27 5
def r27_2:=rg Try.f27 19
def r27_3:=rg Try.f27 267
def r27_5:=rg Try.f27 1099
def r27_6:=rg Try.f27 2635
def r27_4:=rg Try.f27 459
def r27_7:=rg Try.f27 23
def lb27_3:Code:=(.seq (.seq r27_3 (.cond (.tmp 12) .skip (.exit 0))) (.seq (.block 1 (.seq r27_5 (.cond (.tmp 22) r27_6 .skip))) r27_4))
@[simp] theorem u27_3 (n:Nat) (st:XS):execA Try.prog ann kn n 29 lb27_3 st = execA Try.prog ann kn n 29 (.seq (.seq r27_3 (.cond (.tmp 12) .skip (.exit 0))) (.seq (.block 1 (.seq r27_5 (.cond (.tmp 22) r27_6 .skip))) r27_4)) st:=rfl
def c27:Code:=(.seq r27_0 (.seq r27_1 (.seq (.seq r27_2 (.block 0 (.loop lb27_3))) (.seq r27_7 .ret))))
@[simp] theorem x27_0:RX 29 r27_0 (.str [oq 6 (.mv (ci 0))]) (some ([0,1,2],[])):=rx
@[simp] theorem x27_1:RX 29 r27_1 (.str [oq 7 (.mv (ci 0))]) (some ([0,1,2],[])):=rx
@[simp] theorem x27_2:RX 29 r27_2 (.str [oq 8 (.mv (ci 0))]) (some ([0,1,2,7],[])):=rx
@[simp] theorem x27_3:RX 29 r27_3 (.str [oq 9 (.mv (tq 8)),oq 10 (.mv (tq 0)),oq 11 (.oth (.call ⟨.builtin .len,#[tq 10],#[37]⟩)),oq 12 (.bin .lss 3 (tq 9) (tq 11))]) (some ([0,1,2,7,8],[])):=rx
@[simp] theorem x27_5:RX 29 r27_5 (.str [oq 15 (.mv (tq 0)),oq 16 (.mv (tq 8)),oq 17 (.oth (.indexAddr 37 (tq 15) (tq 16))),oq 18 (.ld 22 (tq 17)),oq 19 (.mv (tq 1)),oq 20 (.mv (tq 2)),oq 21 (.call false none (.func 64) [tq 18,tq 19,tq 20]),oq 22 (.bin .geq 3 (tq 21) (ci 0))]) (some ([0,1,2,7,8],[])):=rx
@[simp] theorem x27_6:RX 29 r27_6 (.str [oq 23 (.mv (tq 7)),oq 24 (.bin .add 3 (tq 23) (ci 1)),oq 7 (.mv (tq 24))]) (some ([0,1,2,7,8],[])):=rx
@[simp] theorem x27_4:RX 29 r27_4 (.str [oq 13 (.mv (tq 8)),oq 14 (.bin .add 3 (tq 13) (ci 1)),oq 8 (.mv (tq 14))]) (some ([0,1,2,7,8],[])):=rx
@[simp] theorem x27_7:RX 29 r27_7 (.str [oq 25 (.mv (tq 7)),oq 26 (.mv (tq 0)),oq 27 (.oth (.call ⟨.builtin .len,#[tq 26],#[37]⟩)),oq 28 (.call false none (.func 73) [tq 25,tq 27]),oq 6 (.mv (tq 28))]) (some ([0,7],[])):=rx
@[simp] theorem l27_3:ann 29 (fstR lb27_3) = some ([0,1,2,7,8],[]):=by kernel_rfl
def r3_0:=rg Try.f3 2
def r3_1:=rg Try.f3 9
def r3_2:=rg Try.f3 37
def r3_3:=rg Try.f3 11
def r3_4:=rg Try.f3 23
def r3_5:=rg Try.f3 79
def r3_6:=rg Try.f3 175
def r3_7:=rg Try.f3 159
def r3_8:=rg Try.f3 607
def r3_9:=rg Try.f3 319
def r3_10:=rg Try.f3 1215
def r3_11:=rg Try.f3 639
def r3_12:=rg Try.f3 8575
def r3_14:=rg Try.f3 35199
def r3_15:=rg Try.f3 149887
def r3_13:=rg Try.f3 14719
def r3_16:=rg Try.f3 767
def lb3_12:Code:=(.seq (.seq r3_12 (.cond (.tmp 74) .skip (.exit 0))) (.seq (.block 1 (.seq r3_14 (.cond (.tmp 96) (.seq r3_15 .ret) .skip))) r3_13))
@[simp] theorem u3_12 (n:Nat) (st:XS):execA Try.prog ann kn n 98 lb3_12 st = execA Try.prog ann kn n 98 (.seq (.seq r3_12 (.cond (.tmp 74) .skip (.exit 0))) (.seq (.block 1 (.seq r3_14 (.cond (.tmp 96) (.seq r3_15 .ret) .skip))) r3_13)) st:=rfl
def c3:Code:=(.seq r3_0 (.seq (.seq r3_1 (.cond (.tmp 13) (.seq r3_2 .ret) .skip)) (.seq r3_3 (.seq r3_4 (.seq (.seq r3_5 (.cond (.tmp 38) r3_6 .skip)) (.seq (.seq r3_7 (.cond (.tmp 40) (.seq r3_8 .ret) .skip)) (.seq (.seq r3_9 (.cond (.tmp 70) (.seq r3_10 .ret) .skip)) (.seq (.seq r3_11 (.block 0 (.loop lb3_12))) (.seq r3_16 .ret)))))))))
theorem b3:Try.f3.body = some c3:=by kernel_rfl
@[simp] theorem x3_0:RX 98 r3_0 (.str [oq 2 (.box (tq 0)),oq 4 (.mv (cb false))]) (some ([0,1],[2,17,19,25])):=rx
@[simp] theorem x3_1:RX 98 r3_1 (.str [oq 11 (.ld 25 (tq 2)),oq 12 (.call false none (.func 19) [tq 11]),oq 13 (.oth (.unOp .not 4 (tq 12)))]) (some ([1,2],[2,17,19,25])):=rx
@[simp] theorem x3_2:RX 98 r3_2 (.str [oq 14 (.call false none (.func 20) []),oq 4 (.mv (tq 14))]) (some ([],[])):=rx
@[simp] theorem x3_3:RX 98 r3_3 (.str [oq 16 (.ld 25 (tq 2)),oq 17 (.call false none (.func 22) [tq 16]),oq 18 (.mv (tq 1)),oq 19 (.call false none (.func 21) [tq 17,tq 18]),oq 15 (.mv (tq 19)),oq 20 (.oth (.extract (tq 15) 0)),oq 21 (.oth (.extract (tq 15) 1)),oq 22 (.oth (.extract (tq 15) 2)),oq 5 (.mv (tq 20)),oq 6 (.mv (tq 21)),oq 7 (.mv (tq 22))]) (some ([1,2],[2,17,19,25])):=rx
@[simp] theorem x3_4:RX 98 r3_4 (.str [oq 24 (.ld 25 (tq 2)),oq 25 (.call false none (.func 23) [tq 24]),oq 23 (.mv (tq 25)),oq 26 (.oth (.extract (tq 23) 0)),oq 27 (.oth (.extract (tq 23) 1)),oq 8 (.mv (tq 26)),oq 9 (.mv (tq 27))]) (some ([1,2,5,6,7],[2,17,19,25])):=rx
@[simp] theorem x3_5:RX 98 r3_5 (.str [oq 28 (.ld 25 (tq 2)),oq 29 (.call false none (.func 24) [tq 28]),oq 30 (.bin .eql 29 (tq 29) (ci 0)),oq 31 (.mv (tq 30)),og 31 true 32 (.mv (tq 1)),og 31 true 33 (.fa 25 (tq 2) 3),og 31 true 34 (.ld 22 (tq 33)),og 31 true 35 (.oth (.call ⟨.builtin .len,#[tq 34],#[22]⟩)),og 31 true 36 (.call false none (.func 25) [tq 32,ci 0,tq 35]),og 31 true 37 (.oth (.unOp .not 4 (tq 36))),oq 38 (.pick (tq 31) (tq 37) (cb false))]) (some ([1,2,5,6,7,8,9],[2,17,19,25])):=rx
@[simp] theorem x3_6:RX 98 r3_6 (.str [oq 9 (.mv (ci 2))]) (some ([1,2,5,6,7,8],[2,17,19,25])):=rx
@[simp] theorem x3_7:RX 98 r3_7 (.str [oq 39 (.mv (tq 9)),oq 40 (.bin .neq 29 (tq 39) (ci 0))]) (some ([1,2,5,6,7,8,9],[2,17,19,25])):=rx
@[simp] theorem x3_8:RX 98 r3_8 (.str [oq 41 (.mv (tq 7)),oq 42 (.mv (tq 9)),oq 43 (.bin .eql 29 (tq 41) (tq 42)),oq 44 (.mv (tq 43)),og 44 true 45 (.mv (tq 5)),og 44 true 46 (.oth (.call ⟨.builtin .len,#[tq 45],#[28]⟩)),og 44 true 47 (.mv (tq 6)),og 44 true 48 (.oth (.call ⟨.builtin .len,#[tq 47],#[28]⟩)),og 44 true 49 (.bin .add 3 (tq 46) (tq 48)),og 44 true 50 (.bin .eql 3 (tq 49) (ci 0)),oq 51 (.pick (tq 44) (tq 50) (cb false)),oq 52 (.mv (tq 51)),og 52 true 53 (.call false none (.func 20) []),oq 54 (.pick (tq 52) (tq 53) (cb false)),oq 4 (.mv (tq 54))]) (some ([5,6,7,9],[2,17,19,25])):=rx
@[simp] theorem x3_9:RX 98 r3_9 (.str [oq 55 (.mv (tq 7)),oq 56 (.bin .neq 29 (tq 55) (ci 0)),oq 57 (.mv (tq 56)),og 57 false 58 (.mv (tq 5)),og 57 false 59 (.oth (.call ⟨.builtin .len,#[tq 58],#[28]⟩)),og 57 false 60 (.fa 25 (tq 2) 0),og 57 false 61 (.ld 3 (tq 60)),og 57 false 62 (.bin .neq 3 (tq 59) (tq 61)),oq 63 (.pick (tq 57) (cb true) (tq 62)),oq 64 (.mv (tq 63)),og 64 false 65 (.mv (tq 6)),og 64 false 66 (.oth (.call ⟨.builtin .len,#[tq 65],#[28]⟩)),og 64 false 67 (.fa 25 (tq 2) 0),og 64 false 68 (.ld 3 (tq 67)),og 64 false 69 (.bin .neq 3 (tq 66) (tq 68)),oq 70 (.pick (tq 64) (cb true) (tq 69))]) (some ([1,2,5,6,7,8],[2,17,19,25])):=rx
@[simp] theorem x3_10:RX 98 r3_10 (.str [oq 4 (.mv (cb false))]) (some ([],[])):=rx
@[simp] theorem x3_11:RX 98 r3_11 (.str [oq 10 (.mv (ci 0))]) (some ([1,2,5,6,8],[2,17,19,25])):=rx
@[simp] theorem x3_12:RX 98 r3_12 (.str [oq 71 (.mv (tq 10)),oq 72 (.fa 25 (tq 2) 0),oq 73 (.ld 3 (tq 72)),oq 74 (.bin .lss 3 (tq 71) (tq 73))]) (some ([1,2,5,6,8,10],[2,17,19,25])):=rx
@[simp] theorem x3_14:RX 98 r3_14 (.drw [⟨[],[oq 77 (.mv (tq 5)),oq 78 (.mv (tq 10)),oq 79 (.oth (.indexAddr 28 (tq 77) (tq 78))),oq 80 (.ld 3 (tq 79)),oq 81 (.mv (tq 8)),oq 82 (.mv (tq 1)),oq 83 (.mv (tq 10)),oq 84 (.call false none (.func 26) [tq 81,tq 82,tq 83]),oq 85 (.bin .neq 3 (tq 80) (tq 84)),oq 86 (.mv (tq 85)),og 86 false 87 (.mv (tq 6)),og 86 false 88 (.mv (tq 10)),og 86 false 89 (.oth (.indexAddr 28 (tq 87) (tq 88))),og 86 false 90 (.ld 3 (tq 89)),og 86 false 91 (.mv (tq 8)),og 86 false 92 (.mv (tq 1)),og 86 false 93 (.mv (tq 10)),og 86 false 94 (.call false none (.func 27) [tq 91,tq 92,tq 93]),og 86 false 95 (.bin .neq 3 (tq 90) (tq 94)),oq 96 (.pick (tq 86) (cb true) (tq 95))],[]⟩]) (some ([1,2,5,6,8,10],[2,17,19,25])):=rx
@[simp] theorem x3_15:RX 98 r3_15 (.str [oq 4 (.mv (cb false))]) (some ([],[])):=rx
@[simp] theorem x3_13:RX 98 r3_13 (.str [oq 75 (.mv (tq 10)),oq 76 (.bin .add 3 (tq 75) (ci 1)),oq 10 (.mv (tq 76))]) (some ([1,2,5,6,8,10],[2,17,19,25])):=rx
@[simp] theorem x3_16:RX 98 r3_16 (.str [oq 97 (.call false none (.func 20) []),oq 4 (.mv (tq 97))]) (some ([],[])):=rx
@[simp] theorem l3_12:ann 98 (fstR lb3_12) = some ([1,2,5,6,8,10],[2,17,19,25]):=by kernel_rfl
def r31_0:=rg Try.f31 2
def r31_1:=rg Try.f31 5
def r31_2:=rg Try.f31 19
def r31_3:=rg Try.f31 267
def r31_5:=rg Try.f31 587
def r31_4:=rg Try.f31 459
def r31_6:=rg Try.f31 23
def lb31_3:Code:=(.seq (.seq r31_3 (.cond (.tmp 13) .skip (.exit 0))) (.seq (.block 1 r31_5) r31_4))
@[simp] theorem u31_3 (n:Nat) (st:XS):execA Try.prog ann kn n 26 lb31_3 st = execA Try.prog ann kn n 26 (.seq (.seq r31_3 (.cond (.tmp 13) .skip (.exit 0))) (.seq (.block 1 r31_5) r31_4)) st:=rfl
def c31:Code:=(.seq r31_0 (.seq r31_1 (.seq (.seq r31_2 (.block 0 (.loop lb31_3))) (.seq r31_6 .ret))))
@[simp] theorem x31_0:RX 26 r31_0 (.str [oq 3 (.box (tq 0)),oq 6 (.alloc 50)]) (some ([0,1,2],[3])):=rx
@[simp] theorem x31_1:RX 26 r31_1 (.str [oq 9 (.call true none (.func 77) []),oq 7 (.alloc 50),os (.sto 50 (tq 7) (tq 9))]) (some ([1,2,3,6],[3,6])):=rx
@[simp] theorem x31_2:RX 26 r31_2 (.str [oq 8 (.mv (ci 0))]) (some ([1,2,3,6,7],[3,6,7])):=rx
@[simp] theorem x31_3:RX 26 r31_3 (.str [oq 10 (.mv (tq 8)),oq 11 (.mv (tq 1)),oq 12 (.oth (.call ⟨.builtin .len,#[tq 11],#[37]⟩)),oq 13 (.bin .lss 3 (tq 10) (tq 12))]) (some ([1,2,3,6,7,8],[3,6,7])):=rx
@[simp] theorem x31_5:RX 26 r31_5 (.drw [⟨[],[oq 16 (.ld 50 (tq 7)),oq 17 (.ld 25 (tq 3)),oq 18 (.mv (tq 1)),oq 19 (.mv (tq 8)),oq 20 (.oth (.indexAddr 37 (tq 18) (tq 19))),oq 21 (.ld 22 (tq 20)),oq 22 (.mv (tq 2)),oq 23 (.call false none (.func 44) [tq 17,tq 21,tq 22])],[oq 24 (.call true none (.func 78) [tq 16,tq 23])]⟩,⟨[],[],[os (.sto 50 (tq 7) (tq 24))]⟩]) (some ([1,2,3,6,7,8],[3,6,7])):=rx
@[simp] theorem x31_4:RX 26 r31_4 (.str [oq 14 (.mv (tq 8)),oq 15 (.bin .add 3 (tq 14) (ci 1)),oq 8 (.mv (tq 15))]) (some ([1,2,3,6,7,8],[3,6,7])):=rx
@[simp] theorem x31_6:RX 26 r31_6 (.str [oq 25 (.ld 50 (tq 7)),os (.sto 50 (tq 6) (tq 25))]) (some ([6,7],[6,7])):=rx
@[simp] theorem l31_3:ann 26 (fstR lb31_3) = some ([1,2,3,6,7,8],[3,6,7]):=by kernel_rfl
def r32_0:=rg Try.f32 2
def r32_1:=rg Try.f32 5
def r32_2:=rg Try.f32 19
def r32_3:=rg Try.f32 267
def r32_5:=rg Try.f32 587
def r32_4:=rg Try.f32 459
def r32_6:=rg Try.f32 23
def lb32_3:Code:=(.seq (.seq r32_3 (.cond (.tmp 9) .skip (.exit 0))) (.seq (.block 1 r32_5) r32_4))
@[simp] theorem u32_3 (n:Nat) (st:XS):execA Try.prog ann kn n 20 lb32_3 st = execA Try.prog ann kn n 20 (.seq (.seq r32_3 (.cond (.tmp 9) .skip (.exit 0))) (.seq (.block 1 r32_5) r32_4)) st:=rfl
def c32:Code:=(.seq r32_0 (.seq r32_1 (.seq (.seq r32_2 (.block 0 (.loop lb32_3))) (.seq r32_6 .ret))))
@[simp] theorem x32_0:RX 20 r32_0 (.str [oq 2 (.alloc 50)]) (some ([0],[])):=rx
@[simp] theorem x32_1:RX 20 r32_1 (.str [oq 5 (.call true none (.func 77) []),oq 3 (.alloc 50),os (.sto 50 (tq 3) (tq 5))]) (some ([0,2],[2])):=rx
@[simp] theorem x32_2:RX 20 r32_2 (.str [oq 4 (.mv (ci 0))]) (some ([0,2,3],[2,3])):=rx
@[simp] theorem x32_3:RX 20 r32_3 (.str [oq 6 (.mv (tq 4)),oq 7 (.mv (tq 0)),oq 8 (.oth (.call ⟨.builtin .len,#[tq 7],#[37]⟩)),oq 9 (.bin .lss 3 (tq 6) (tq 8))]) (some ([0,2,3,4],[2,3])):=rx
@[simp] theorem x32_5:RX 20 r32_5 (.drw [⟨[],[oq 12 (.ld 50 (tq 3)),oq 13 (.mv (tq 0)),oq 14 (.mv (tq 4)),oq 15 (.oth (.indexAddr 37 (tq 13) (tq 14))),oq 16 (.ld 22 (tq 15)),oq 17 (.call false none (.func 45) [tq 16])],[oq 18 (.call true none (.func 78) [tq 12,tq 17])]⟩,⟨[],[],[os (.sto 50 (tq 3) (tq 18))]⟩]) (some ([0,2,3,4],[2,3])):=rx
@[simp] theorem x32_4:RX 20 r32_4 (.str [oq 10 (.mv (tq 4)),oq 11 (.bin .add 3 (tq 10) (ci 1)),oq 4 (.mv (tq 11))]) (some ([0,2,3,4],[2,3])):=rx
@[simp] theorem x32_6:RX 20 r32_6 (.str [oq 19 (.ld 50 (tq 3)),os (.sto 50 (tq 2) (tq 19))]) (some ([2,3],[2,3])):=rx
@[simp] theorem l32_3:ann 20 (fstR lb32_3) = some ([0,2,3,4],[2,3]):=by kernel_rfl
def r77_0:=rg Try.f77 2
def r77_1:=rg Try.f77 5
def c77:Code:=(.seq r77_0 (.seq r77_1 .ret))
def r78_0:=rg Try.f78 2
def r78_1:=rg Try.f78 5
def c78:Code:=(.seq r78_0 (.seq r78_1 .ret))
def r4_0:=rg Try.f4 2
def r4_1:=rg Try.f4 9
def r4_2:=rg Try.f4 37
def r4_3:=rg Try.f4 11
def r4_4:=rg Try.f4 23
def r4_5:=rg Try.f4 47
def r4_6:=rg Try.f4 95
def r4_7:=rg Try.f4 319
def r4_8:=rg Try.f4 703
def r4_9:=rg Try.f4 639
def r4_10:=rg Try.f4 2431
def r4_11:=rg Try.f4 767
def c4:Code:=(.seq r4_0 (.seq (.seq r4_1 (.cond (.tmp 14) (.seq r4_2 .ret) .skip)) (.seq r4_3 (.seq r4_4 (.seq r4_5 (.seq r4_6 (.seq (.seq r4_7 (.cond (.tmp 45) r4_8 .skip)) (.seq (.seq r4_9 (.cond (.tmp 71) (.seq r4_10 .ret) .skip)) (.seq r4_11 .ret)))))))))
theorem b4:Try.f4.body = some c4:=by kernel_rfl
def r7_0:=rg Try.f7 2
def r7_1:=rg Try.f7 9
def r7_2:=rg Try.f7 37
def r7_3:=rg Try.f7 11
def r7_4:=rg Try.f7 23
def r7_5:=rg Try.f7 47
def r7_6:=rg Try.f7 95
def r7_7:=rg Try.f7 319
def r7_8:=rg Try.f7 1215
def r7_9:=rg Try.f7 383
def r7_10:=rg Try.f7 1279
def r7_11:=rg Try.f7 17151
def r7_13:=rg Try.f7 70399
def r7_14:=rg Try.f7 168703
def r7_15:=rg Try.f7 365311
def r7_16:=rg Try.f7 4428543
def r7_18:=rg Try.f7 18060031
def r7_19:=rg Try.f7 43225855
def r7_17:=rg Try.f7 7574271
def r7_12:=rg Try.f7 29439
def r7_20:=rg Try.f7 1535
def lb7_16:Code:=(.seq (.seq r7_16 (.cond (.tmp 96) .skip (.exit 2))) (.seq (.block 3 (.seq r7_18 (.cond (.tmp 101) r7_19 .skip))) r7_17))
@[simp] theorem u7_16 (n:Nat) (st:XS):execA Try.prog ann kn n 116 lb7_16 st = execA Try.prog ann kn n 116 (.seq (.seq r7_16 (.cond (.tmp 96) .skip (.exit 2))) (.seq (.block 3 (.seq r7_18 (.cond (.tmp 101) r7_19 .skip))) r7_17)) st:=rfl
def lb7_11:Code:=(.seq (.seq r7_11 (.cond (.tmp 63) .skip (.exit 0))) (.seq (.block 1 (.seq r7_13 (.seq r7_14 (.seq r7_15 (.block 2 (.loop lb7_16)))))) r7_12))
@[simp] theorem u7_11 (n:Nat) (st:XS):execA Try.prog ann kn n 116 lb7_11 st = execA Try.prog ann kn n 116 (.seq (.seq r7_11 (.cond (.tmp 63) .skip (.exit 0))) (.seq (.block 1 (.seq r7_13 (.seq r7_14 (.seq r7_15 (.block 2 (.loop lb7_16)))))) r7_12)) st:=rfl
def c7:Code:=(.seq r7_0 (.seq (.seq r7_1 (.cond (.tmp 19) (.seq r7_2 .ret) .skip)) (.seq r7_3 (.seq r7_4 (.seq r7_5 (.seq r7_6 (.seq (.seq r7_7 (.cond (.tmp 44) (.seq r7_8 .ret) .skip)) (.seq r7_9 (.seq (.seq r7_10 (.block 0 (.loop lb7_11))) (.seq r7_20 .ret))))))))))
theorem b7:Try.f7.body = some c7:=by kernel_rfl
@[simp] theorem x7_0:RX 116 r7_0 (.str [oq 2 (.box (tq 0)),oq 4 (.mv (cb false))]) (some ([0,1],[2,30,37,42])):=rx
@[simp] theorem x7_1:RX 116 r7_1 (.str [oq 17 (.ld 25 (tq 2)),oq 18 (.call false none (.func 42) [tq 17]),oq 19 (.oth (.unOp .not 4 (tq 18)))]) (some ([1,2],[2,30,37,42])):=rx
@[simp] theorem x7_2:RX 116 r7_2 (.str [oq 20 (.call false none (.func 20) []),oq 4 (.mv (tq 20))]) (some ([],[])):=rx
@[simp] theorem x7_3:RX 116 r7_3 (.str [oq 21 (.mv (tq 1)),oq 22 (.oth (.convert 5 3 (tq 21))),oq 23 (.fa 25 (tq 2) 3),oq 24 (.ld 22 (tq 23)),oq 25 (.oth (.call ⟨.builtin .len,#[tq 24],#[22]⟩)),oq 26 (.bin .add 3 (tq 25) (ci 1)),oq 27 (.bin .rem 3 (tq 22) (tq 26)),oq 5 (.mv (tq 27))]) (some ([1,2],[2,30,37,42])):=rx
@[simp] theorem x7_4:RX 116 r7_4 (.str [oq 29 (.ld 25 (tq 2)),oq 30 (.call false none (.func 22) [tq 29]),oq 31 (.mv (tq 5)),oq 32 (.call false none (.func 28) [tq 30,tq 31]),oq 28 (.mv (tq 32)),oq 33 (.oth (.extract (tq 28) 0)),oq 34 (.oth (.extract (tq 28) 1)),oq 6 (.alloc 45),os (.sto 45 (tq 6) (tq 33)),oq 7 (.mv (tq 34))]) (some ([2,5],[2,30,37,42])):=rx
@[simp] theorem x7_5:RX 116 r7_5 (.str [oq 36 (.ld 25 (tq 2)),oq 37 (.call false none (.func 22) [tq 36]),oq 38 (.call false none (.func 29) [tq 37]),oq 35 (.mv (tq 38)),oq 39 (.oth (.extract (tq 35) 0)),oq 40 (.oth (.extract (tq 35) 1)),oq 8 (.alloc 45),os (.sto 45 (tq 8) (tq 39)),oq 9 (.mv (tq 40))]) (some ([2,5,6,7],[2,6,30,37,42])):=rx
@[simp] theorem x7_6:RX 116 r7_6 (.str [oq 41 (.ld 25 (tq 2)),oq 42 (.call false none (.func 43) [tq 41]),oq 10 (.mv (tq 42))]) (some ([2,5,6,7,8,9],[2,6,8,30,37,42])):=rx
@[simp] theorem x7_7:RX 116 r7_7 (.str [oq 43 (.mv (tq 7)),oq 44 (.bin .neq 29 (tq 43) (ci 0))]) (some ([2,5,6,7,8,9,10],[2,6,8,30,37,42])):=rx
@[simp] theorem x7_8:RX 116 r7_8 (.str [oq 45 (.mv (tq 7)),oq 46 (.bin .eql 29 (tq 45) (ci 11)),oq 47 (.mv (tq 46)),og 47 true 48 (.mv (tq 9)),og 47 true 49 (.mv (tq 7)),og 47 true 50 (.bin .eql 29 (tq 48) (tq 49)),oq 51 (.pick (tq 47) (tq 50) (cb false)),oq 52 (.mv (tq 51)),og 52 true 53 (.mv (tq 10)),og 52 true 54 (.oth (.call ⟨.builtin .len,#[tq 53],#[37]⟩)),og 52 true 55 (.bin .eql 3 (tq 54) (ci 0)),oq 56 (.pick (tq 52) (tq 55) (cb false)),oq 57 (.mv (tq 56)),og 57 true 58 (.call false none (.func 20) []),oq 59 (.pick (tq 57) (tq 58) (cb false)),oq 4 (.mv (tq 59))]) (some ([7,9,10],[2,30,37,42])):=rx
@[simp] theorem x7_9:RX 116 r7_9 (.str [oq 11 (.mv (ci 0))]) (some ([2,5,6,8,9,10],[2,6,8,30,37,42])):=rx
@[simp] theorem x7_10:RX 116 r7_10 (.str [oq 12 (.mv (ci 0))]) (some ([2,5,6,8,9,10,11],[2,6,8,30,37,42])):=rx
@[simp] theorem x7_11:RX 116 r7_11 (.str [oq 60 (.mv (tq 12)),oq 61 (.mv (tq 10)),oq 62 (.oth (.call ⟨.builtin .len,#[tq 61],#[37]⟩)),oq 63 (.bin .lss 3 (tq 60) (tq 62))]) (some ([2,5,6,8,9,10,11,12],[2,6,8,30,37,42])):=rx
@[simp] theorem x7_13:RX 116 r7_13 (.drw [⟨[],[oq 66 (.ld 25 (tq 2)),oq 67 (.mv (tq 10)),oq 68 (.mv (tq 12)),oq 69 (.oth (.indexAddr 37 (tq 67) (tq 68))),oq 70 (.ld 22 (tq 69)),oq 71 (.mv (tq 5)),oq 72 (.call false none (.func 44) [tq 66,tq 70,tq 71]),oq 73 (.mv (tq 10)),oq 74 (.mv (tq 12)),oq 75 (.oth (.indexAddr 37 (tq 73) (tq 74))),oq 76 (.ld 22 (tq 75))],[oq 77 (.call false none (.func 45) [tq 76])]⟩,⟨[],[oq 13 (.mv (tq 72)),oq 14 (.mv (tq 77))],[]⟩]) (some ([2,5,6,8,9,10,11,12],[2,6,8,30,37,42])):=rx
@[simp] theorem x7_14:RX 116 r7_14 (.str [oq 78 (.mv (tq 13)),oq 79 (.fa 45 (tq 6) 0),oq 80 (.ld 3 (tq 79)),oq 81 (.bin .eql 3 (tq 78) (tq 80)),oq 82 (.mv (tq 13)),oq 83 (.fa 45 (tq 6) 1),oq 84 (.ld 3 (tq 83)),oq 85 (.bin .eql 3 (tq 82) (tq 84)),oq 86 (.mv (tq 14)),oq 87 (.fa 45 (tq 8) 0),oq 88 (.ld 3 (tq 87)),oq 89 (.bin .eql 3 (tq 86) (tq 88)),oq 90 (.mv (tq 14)),oq 91 (.fa 45 (tq 8) 1),oq 92 (.ld 3 (tq 91)),oq 93 (.bin .eql 3 (tq 90) (tq 92)),oq 94 (.build 69 [(0,tq 81),(1,tq 85),(2,tq 89),(3,tq 93)]),oq 15 (.alloc 69),os (.sto 69 (tq 15) (tq 94))]) (some ([2,5,6,8,9,10,11,12,13,14],[2,6,8,30,37,42])):=rx
@[simp] theorem x7_15:RX 116 r7_15 (.str [oq 16 (.mv (ci 0))]) (some ([2,5,6,8,9,10,11,12,15],[2,6,8,15,30,37,42])):=rx
@[simp] theorem x7_16:RX 116 r7_16 (.str [oq 95 (.mv (tq 16)),oq 96 (.bin .lss 3 (tq 95) (ci 4))]) (some ([2,5,6,8,9,10,11,12,15,16],[2,6,8,15,30,37,42])):=rx
@[simp] theorem x7_18:RX 116 r7_18 (.str [oq 99 (.mv (tq 16)),oq 100 (.oth (.indexAddr 69 (tq 15) (tq 99))),oq 101 (.ld 4 (tq 100))]) (some ([2,5,6,8,9,10,11,12,15,16],[2,6,8,15,30,37,42])):=rx
@[simp] theorem x7_19:RX 116 r7_19 (.str [oq 102 (.mv (tq 11)),oq 103 (.mv (tq 16)),oq 104 (.oth (.convert 3 70 (tq 103))),oq 105 (.bin .shl 3 (ci 1) (tq 104)),oq 106 (.bin .or 3 (tq 102) (tq 105)),oq 11 (.mv (tq 106))]) (some ([2,5,6,8,9,10,11,12,15,16],[2,6,8,15,30,37,42])):=rx
@[simp] theorem x7_17:RX 116 r7_17 (.str [oq 97 (.mv (tq 16)),oq 98 (.bin .add 3 (tq 97) (ci 1)),oq 16 (.mv (tq 98))]) (some ([2,5,6,8,9,10,11,12,15,16],[2,6,8,15,30,37,42])):=rx
@[simp] theorem x7_12:RX 116 r7_12 (.str [oq 64 (.mv (tq 12)),oq 65 (.bin .add 3 (tq 64) (ci 1)),oq 12 (.mv (tq 65))]) (some ([2,5,6,8,9,10,11,12],[2,6,8,30,37,42])):=rx
@[simp] theorem x7_20:RX 116 r7_20 (.str [oq 107 (.mv (tq 9)),oq 108 (.bin .eql 29 (tq 107) (ci 0)),oq 109 (.mv (tq 108)),og 109 true 110 (.mv (tq 11)),og 109 true 111 (.bin .eql 3 (tq 110) (ci 15)),oq 112 (.pick (tq 109) (tq 111) (cb false)),oq 113 (.mv (tq 112)),og 113 true 114 (.call false none (.func 20) []),oq 115 (.pick (tq 113) (tq 114) (cb false)),oq 4 (.mv (tq 115))]) (some ([9,11],[])):=rx
@[simp] theorem l7_11:ann 116 (fstR lb7_11) = some ([2,5,6,8,9,10,11,12],[2,6,8,30,37,42]):=by kernel_rfl
@[simp] theorem l7_16:ann 116 (fstR lb7_16) = some ([2,5,6,8,9,10,11,12,15,16],[2,6,8,15,30,37,42]):=by kernel_rfl
def r42_0:=rg Try.f42 2
def r42_1:=rg Try.f42 5
def c42:Code:=(.seq r42_0 (.seq r42_1 .ret))
theorem b42:Try.f42.body = some c42:=by kernel_rfl
@[simp] theorem x42_0:RX 10 r42_0 (.str [oq 1 (.box (tq 0)),oq 2 (.mv (cb false))]) (some ([0],[1,4,6])):=rx
@[simp] theorem x42_1:RX 10 r42_1 (.str [oq 3 (.ld 25 (tq 1)),oq 4 (.call false none (.func 19) [tq 3]),oq 5 (.mv (tq 4)),og 5 true 6 (.ld 25 (tq 1)),og 5 true 7 (.call false none (.func 67) [tq 6]),og 5 true 8 (.bin .eql 3 (tq 7) (ci 0)),oq 9 (.pick (tq 5) (tq 8) (cb false)),oq 2 (.mv (tq 9))]) (some ([1],[1])):=rx
def r50_0:=rg Try.f50 2
def r50_1:=rg Try.f50 5
def r50_2:=rg Try.f50 19
def r50_3:=rg Try.f50 267
def r50_5:=rg Try.f50 1099
def r50_6:=rg Try.f50 2635
def r50_4:=rg Try.f50 459
def r50_7:=rg Try.f50 23
def lb50_3:Code:=(.seq (.seq r50_3 (.cond (.tmp 9) .skip (.exit 0))) (.seq (.block 1 (.seq r50_5 (.cond (.tmp 17) r50_6 .skip))) r50_4))
@[simp] theorem u50_3 (n:Nat) (st:XS):execA Try.prog ann kn n 23 lb50_3 st = execA Try.prog ann kn n 23 (.seq (.seq r50_3 (.cond (.tmp 9) .skip (.exit 0))) (.seq (.block 1 (.seq r50_5 (.cond (.tmp 17) r50_6 .skip))) r50_4)) st:=rfl
def c50:Code:=(.seq r50_0 (.seq r50_1 (.seq (.seq r50_2 (.block 0 (.loop lb50_3))) (.seq r50_7 .ret))))
@[simp] theorem x50_0:RX 23 r50_0 (.str [oq 2 (.mv (.const (.slice none 0 0)))]) (some ([0],[])):=rx
@[simp] theorem x50_1:RX 23 r50_1 (.str [oq 3 (.mv (.const (.slice none 0 0)))]) (some ([0],[])):=rx
@[simp] theorem x50_2:RX 23 r50_2 (.str [oq 4 (.mv (ci 0))]) (some ([0,3],[21])):=rx
@[simp] theorem x50_3:RX 23 r50_3 (.str [oq 5 (.mv (tq 0)),oq 6 (.mv (tq 4)),oq 7 (.oth (.convert 3 70 (tq 6))),oq 8 (.bin .shr 3 (tq 5) (tq 7)),oq 9 (.bin .gtr 3 (tq 8) (ci 0))]) (some ([0,3,4],[21])):=rx
@[simp] theorem x50_5:RX 23 r50_5 (.str [oq 12 (.mv (tq 0)),oq 13 (.mv (tq 4)),oq 14 (.oth (.convert 3 70 (tq 13))),oq 15 (.bin .shr 3 (tq 12) (tq 14)),oq 16 (.bin .rem 3 (tq 15) (ci 2)),oq 17 (.bin .eql 3 (tq 16) (ci 1))]) (some ([0,3,4],[21])):=rx
@[simp] theorem x50_6:RX 23 r50_6 (.str [oq 18 (.mv (tq 3)),oq 19 (.mv (tq 4)),oq 20 (.buildS 28 1 [(0,tq 19)]),oq 21 (.app [tq 18,tq 20] [28,28]),oq 3 (.mv (tq 21))]) (some ([0,3,4],[21])):=rx
@[simp] theorem x50_4:RX 23 r50_4 (.str [oq 10 (.mv (tq 4)),oq 11 (.bin .add 3 (tq 10) (ci 1)),oq 4 (.mv (tq 11))]) (some ([0,3,4],[21])):=rx
@[simp] theorem x50_7:RX 23 r50_7 (.str [oq 22 (.mv (tq 3)),oq 2 (.mv (tq 22))]) (some ([3,4],[21])):=rx
@[simp] theorem l50_3:ann 23 (fstR lb50_3) = some ([0,3,4],[21]):=by kernel_rfl
def r47_0:=rg Try.f47 2
def r47_1:=rg Try.f47 5
def r47_2:=rg Try.f47 11
def r47_3:=rg Try.f47 39
def r47_4:=rg Try.f47 535
def r47_6:=rg Try.f47 2199
def r47_7:=rg Try.f47 5271
def r47_5:=rg Try.f47 919
def r47_8:=rg Try.f47 79
def r47_9:=rg Try.f47 1071
def r47_11:=rg Try.f47 4399
def r47_12:=rg Try.f47 10543
def r47_13:=rg Try.f47 14639
def r47_10:=rg Try.f47 1839
def r47_14:=rg Try.f47 95
def lb47_4:Code:=(.seq (.seq r47_4 (.cond (.tmp 16) .skip (.exit 0))) (.seq (.block 1 (.seq r47_6 (.cond (.tmp 24) r47_7 .skip))) r47_5))
@[simp] theorem u47_4 (n:Nat) (st:XS):execA Try.prog ann kn n 64 lb47_4 st = execA Try.prog ann kn n 64 (.seq (.seq r47_4 (.cond (.tmp 16) .skip (.exit 0))) (.seq (.block 1 (.seq r47_6 (.cond (.tmp 24) r47_7 .skip))) r47_5)) st:=rfl
def lb47_9:Code:=(.seq (.seq r47_9 (.cond (.tmp 39) .skip (.exit 2))) (.seq (.block 3 (.seq r47_11 (.seq r47_12 r47_13))) r47_10))
@[simp] theorem u47_9 (n:Nat) (st:XS):execA Try.prog ann kn n 64 lb47_9 st = execA Try.prog ann kn n 64 (.seq (.seq r47_9 (.cond (.tmp 39) .skip (.exit 2))) (.seq (.block 3 (.seq r47_11 (.seq r47_12 r47_13))) r47_10)) st:=rfl
def c47:Code:=(.seq r47_0 (.seq r47_1 (.seq r47_2 (.seq (.seq r47_3 (.block 0 (.loop lb47_4))) (.seq (.seq r47_8 (.block 2 (.loop lb47_9))) (.seq r47_14 .ret))))))
@[simp] theorem x47_0:RX 64 r47_0 (.str [oq 2 (.box (tq 0)),oq 4 (.alloc 25)]) (some ([0,1],[2,4,5,15,17,22,33,57,58,61])):=rx
@[simp] theorem x47_1:RX 64 r47_1 (.str [oq 9 (.ld 25 (tq 2)),oq 5 (.alloc 25),os (.sto 25 (tq 5) (tq 9))]) (some ([1,2,4],[2,4,5,15,17,22,33,57,58,61])):=rx
@[simp] theorem x47_2:RX 64 r47_2 (.str [oq 10 (.fa 25 (tq 5) 3),os (.sto 22 (tq 10) (.const (.slice none 0 0))),oq 11 (.fa 25 (tq 5) 4),os (.sto 23 (tq 11) (.const (.slice none 0 0)))]) (some ([1,2,4,5],[2,4,5,33,61])):=rx
@[simp] theorem x47_3:RX 64 r47_3 (.str [oq 6 (.mv (ci 0))]) (some ([1,2,4,5],[2,4,5,33,61])):=rx
@[simp] theorem x47_4:RX 64 r47_4 (.str [oq 12 (.mv (tq 6)),oq 13 (.fa 25 (tq 2) 3),oq 14 (.ld 22 (tq 13)),oq 15 (.oth (.call ⟨.builtin .len,#[tq 14],#[22]⟩)),oq 16 (.bin .lss 3 (tq 12) (tq 15))]) (some ([1,2,4,5,6],[2,4,5,33,61])):=rx
@[simp] theorem x47_6:RX 64 r47_6 (.str [oq 19 (.mv (tq 1)),oq 20 (.mv (tq 6)),oq 21 (.oth (.convert 3 70 (tq 20))),oq 22 (.bin .shr 3 (tq 19) (tq 21)),oq 23 (.bin .rem 3 (tq 22) (ci 2)),oq 24 (.bin .eql 3 (tq 23) (ci 1))]) (some ([1,2,4,5,6],[2,4,5,33,61])):=rx
@[simp] theorem x47_7:RX 64 r47_7 (.drw [⟨[],[oq 25 (.fa 25 (tq 5) 3),oq 26 (.ld 22 (tq 25)),oq 27 (.fa 25 (tq 2) 3),oq 28 (.ld 22 (tq 27)),oq 29 (.mv (tq 6)),oq 30 (.oth (.indexAddr 22 (tq 28) (tq 29))),oq 31 (.ld 75 (tq 30)),oq 32 (.buildS 22 1 [(0,tq 31)]),oq 33 (.app [tq 26,tq 32] [22,22]),oq 34 (.fa 25 (tq 5) 3)],[os (.sto 22 (tq 34) (tq 33))]⟩]) (some ([1,2,4,5,6],[2,4,5,33,61])):=rx
@[simp] theorem x47_5:RX 64 r47_5 (.str [oq 17 (.mv (tq 6)),oq 18 (.bin .add 3 (tq 17) (ci 1)),oq 6 (.mv (tq 18))]) (some ([1,2,4,5,6],[2,4,5,33,61])):=rx
@[simp] theorem x47_8:RX 64 r47_8 (.str [oq 7 (.mv (ci 0))]) (some ([1,2,4,5],[2,4,5,33,61])):=rx
@[simp] theorem x47_9:RX 64 r47_9 (.str [oq 35 (.mv (tq 7)),oq 36 (.fa 25 (tq 2) 4),oq 37 (.ld 23 (tq 36)),oq 38 (.oth (.call ⟨.builtin .len,#[tq 37],#[23]⟩)),oq 39 (.bin .lss 3 (tq 35) (tq 38))]) (some ([1,2,4,5,7],[2,4,5,33,61])):=rx
@[simp] theorem x47_11:RX 64 r47_11 (.str [oq 42 (.fa 25 (tq 2) 4),oq 43 (.ld 23 (tq 42)),oq 44 (.mv (tq 7)),oq 45 (.oth (.indexAddr 23 (tq 43) (tq 44))),oq 46 (.ld 78 (tq 45)),oq 8 (.alloc 78),os (.sto 78 (tq 8) (tq 46))]) (some ([1,2,4,5,7],[2,4,5,33,61])):=rx
@[simp] theorem x47_12:RX 64 r47_12 (.str [oq 47 (.mv (tq 1)),oq 48 (.fa 78 (tq 8) 0),oq 49 (.ld 3 (tq 48)),oq 50 (.oth (.convert 3 70 (tq 49))),oq 51 (.bin .shl 3 (ci 1) (tq 50)),oq 52 (.bin .sub 3 (tq 51) (ci 1)),oq 53 (.bin .and 3 (tq 47) (tq 52)),oq 54 (.call false none (.func 50) [tq 53]),oq 55 (.oth (.call ⟨.builtin .len,#[tq 54],#[28]⟩)),oq 56 (.fa 78 (tq 8) 0),os (.sto 3 (tq 56) (tq 55))]) (some ([1,2,4,5,7,8],[2,4,5,8,33,61])):=rx
@[simp] theorem x47_13:RX 64 r47_13 (.str [oq 57 (.fa 25 (tq 5) 4),oq 58 (.ld 23 (tq 57)),oq 59 (.ld 78 (tq 8)),oq 60 (.buildS 23 1 [(0,tq 59)]),oq 61 (.app [tq 58,tq 60] [23,23]),oq 62 (.fa 25 (tq 5) 4),os (.sto 23 (tq 62) (tq 61))]) (some ([1,2,4,5,7,8],[2,4,5,8,33,61])):=rx
@[simp] theorem x47_10:RX 64 r47_10 (.str [oq 40 (.mv (tq 7)),oq 41 (.bin .add 3 (tq 40) (ci 1)),oq 7 (.mv (tq 41))]) (some ([1,2,4,5,7],[2,4,5,33,61])):=rx
@[simp] theorem x47_14:RX 64 r47_14 (.str [oq 63 (.ld 25 (tq 5)),os (.sto 25 (tq 4) (tq 63))]) (some ([4,5],[2,4,5,33,61])):=rx
@[simp] theorem l47_4:ann 64 (fstR lb47_4) = some ([1,2,4,5,6],[2,4,5,33,61]):=by kernel_rfl
@[simp] theorem l47_9:ann 64 (fstR lb47_9) = some ([1,2,4,5,7],[2,4,5,33,61]):=by kernel_rfl
def r48_0:=rg Try.f48 2
def r48_1:=rg Try.f48 5
def c48:Code:=(.seq r48_0 (.seq r48_1 .ret))
def r88_0:=rg Try.f88 2
def r88_1:=rg Try.f88 9
def r88_2:=rg Try.f88 133
def r88_4:=rg Try.f88 549
def r88_5:=rg Try.f88 1317
def r88_6:=rg Try.f88 4901
def r88_3:=rg Try.f88 229
def r88_7:=rg Try.f88 11
def lb88_2:Code:=(.seq (.seq r88_2 (.cond (.tmp 8) .skip (.exit 0))) (.seq (.block 1 (.seq r88_4 (.seq r88_5 (.cond (.tmp 20) (.seq r88_6 .ret) .skip)))) r88_3))
@[simp] theorem u88_2 (n:Nat) (st:XS):execA Try.prog ann kn n 21 lb88_2 st = execA Try.prog ann kn n 21 (.seq (.seq r88_2 (.cond (.tmp 8) .skip (.exit 0))) (.seq (.block 1 (.seq r88_4 (.seq r88_5 (.cond (.tmp 20) (.seq r88_6 .ret) .skip)))) r88_3)) st:=rfl
def c88:Code:=(.seq r88_0 (.seq (.seq r88_1 (.block 0 (.loop lb88_2))) (.seq r88_7 .ret)))
@[simp] theorem x88_0:RX 21 r88_0 (.str [oq 1 (.box (tq 0)),oq 2 (.mv (cb false))]) (some ([0],[1,13])):=rx
@[simp] theorem x88_1:RX 21 r88_1 (.str [oq 3 (.mv (ci 0))]) (some ([1],[1,13])):=rx
@[simp] theorem x88_2:RX 21 r88_2 (.str [oq 5 (.mv (tq 3)),oq 6 (.ld 25 (tq 1)),oq 7 (.call false none (.func 52) [tq 6]),oq 8 (.bin .lss 3 (tq 5) (tq 7))]) (some ([1,3],[1,13])):=rx
@[simp] theorem x88_4:RX 21 r88_4 (.str [oq 11 (.ld 25 (tq 1)),oq 12 (.mv (tq 3)),oq 13 (.call false none (.func 51) [tq 11,tq 12]),oq 4 (.mv (tq 13))]) (some ([1,3],[1,13])):=rx
@[simp] theorem x88_5:RX 21 r88_5 (.str [oq 14 (.mv (tq 4)),oq 15 (.call false none (.func 58) [tq 14]),oq 16 (.mv (tq 15)),og 16 true 17 (.ld 25 (tq 1)),og 16 true 18 (.mv (tq 4)),og 16 true 19 (.call false none (.func 89) [tq 17,tq 18]),oq 20 (.pick (tq 16) (tq 19) (cb false))]) (some ([1,3,4],[1,13])):=rx
@[simp] theorem x88_6:RX 21 r88_6 (.str [oq 2 (.mv (cb true))]) (some ([],[])):=rx
@[simp] theorem x88_3:RX 21 r88_3 (.str [oq 9 (.mv (tq 3)),oq 10 (.bin .add 3 (tq 9) (ci 1)),oq 3 (.mv (tq 10))]) (some ([1,3],[1,13])):=rx
@[simp] theorem x88_7:RX 21 r88_7 (.str [oq 2 (.mv (cb false))]) (some ([],[])):=rx
@[simp] theorem l88_2:ann 21 (fstR lb88_2) = some ([1,3],[1,13]):=by kernel_rfl
def r41_0:=rg Try.f41 2
def r41_1:=rg Try.f41 5
def r41_2:=rg Try.f41 11
def r41_3:=rg Try.f41 39
def r41_4:=rg Try.f41 535
def r41_6:=rg Try.f41 2199
def r41_7:=rg Try.f41 9367
def r41_5:=rg Try.f41 919
def r41_8:=rg Try.f41 47
def lb41_4:Code:=(.seq (.seq r41_4 (.cond (.tmp 11) .skip (.exit 0))) (.seq (.block 1 (.seq r41_6 (.cond (.tmp 21) (.seq r41_7 .ret) .skip))) r41_5))
@[simp] theorem u41_4 (n:Nat) (st:XS):execA Try.prog ann kn n 23 lb41_4 st = execA Try.prog ann kn n 23 (.seq (.seq r41_4 (.cond (.tmp 11) .skip (.exit 0))) (.seq (.block 1 (.seq r41_6 (.cond (.tmp 21) (.seq r41_7 .ret) .skip))) r41_5)) st:=rfl
def c41:Code:=(.seq r41_0 (.seq r41_1 (.seq r41_2 (.seq (.seq r41_3 (.block 0 (.loop lb41_4))) (.seq r41_8 .ret)))))
@[simp] theorem x41_0:RX 23 r41_0 (.str [oq 1 (.box (tq 0)),oq 2 (.mv (ci 0))]) (some ([0],[1,3,19])):=rx
@[simp] theorem x41_1:RX 23 r41_1 (.str [oq 5 (.ld 25 (tq 1)),oq 3 (.alloc 25),os (.sto 25 (tq 3) (tq 5))]) (some ([1],[1,3,19])):=rx
@[simp] theorem x41_2:RX 23 r41_2 (.str [oq 6 (.fa 25 (tq 3) 4),os (.sto 23 (tq 6) (.const (.slice none 0 0)))]) (some ([1,3],[1,3,19])):=rx
@[simp] theorem x41_3:RX 23 r41_3 (.str [oq 4 (.mv (ci 0))]) (some ([1,3],[1,3,19])):=rx
@[simp] theorem x41_4:RX 23 r41_4 (.str [oq 7 (.mv (tq 4)),oq 8 (.fa 25 (tq 1) 3),oq 9 (.ld 22 (tq 8)),oq 10 (.oth (.call ⟨.builtin .len,#[tq 9],#[22]⟩)),oq 11 (.bin .lss 3 (tq 7) (tq 10))]) (some ([1,3,4],[1,3,19])):=rx
@[simp] theorem x41_6:RX 23 r41_6 (.str [oq 14 (.ld 25 (tq 3)),oq 15 (.mv (tq 4)),oq 16 (.oth (.convert 3 70 (tq 15))),oq 17 (.bin .shl 3 (ci 2) (tq 16)),oq 18 (.bin .sub 3 (tq 17) (ci 1)),oq 19 (.call false none (.func 47) [tq 14,tq 18]),oq 20 (.call false none (.func 88) [tq 19]),oq 21 (.oth (.unOp .not 4 (tq 20)))]) (some ([1,3,4],[1,3,19])):=rx
@[simp] theorem x41_7:RX 23 r41_7 (.str [oq 22 (.mv (tq 4)),oq 2 (.mv (tq 22))]) (some ([3,4],[21])):=rx
@[simp] theorem x41_5:RX 23 r41_5 (.str [oq 12 (.mv (tq 4)),oq 13 (.bin .add 3 (tq 12) (ci 1)),oq 4 (.mv (tq 13))]) (some ([1,3,4],[1,3,19])):=rx
@[simp] theorem x41_8:RX 23 r41_8 (.str [oq 2 (.mv (.const (.int .i64 (Int.negSucc 0))))]) (some ([],[])):=rx
@[simp] theorem l41_4:ann 23 (fstR lb41_4) = some ([1,3,4],[1,3,19]):=by kernel_rfl
def r91_0:=rg Try.f91 2
def r91_1:=rg Try.f91 9
def r91_2:=rg Try.f91 133
def r91_4:=rg Try.f91 549
def r91_5:=rg Try.f91 2341
def r91_3:=rg Try.f91 229
def r91_6:=rg Try.f91 11
def lb91_2:Code:=(.seq (.seq r91_2 (.cond (.tmp 15) .skip (.exit 0))) (.seq (.block 1 (.seq r91_4 (.cond (.tmp 26) (.seq r91_5 .ret) .skip))) r91_3))
@[simp] theorem u91_2 (n:Nat) (st:XS):execA Try.prog ann kn n 41 lb91_2 st = execA Try.prog ann kn n 41 (.seq (.seq r91_2 (.cond (.tmp 15) .skip (.exit 0))) (.seq (.block 1 (.seq r91_4 (.cond (.tmp 26) (.seq r91_5 .ret) .skip))) r91_3)) st:=rfl
def c91:Code:=(.seq r91_0 (.seq (.seq r91_1 (.block 0 (.loop lb91_2))) (.seq r91_6 .ret)))
@[simp] theorem x91_0:RX 41 r91_0 (.str [oq 4 (.mv (cb false))]) (some ([0,1],[])):=rx
@[simp] theorem x91_1:RX 41 r91_1 (.str [oq 5 (.mv (ci 0))]) (some ([0,1],[])):=rx
@[simp] theorem x91_2:RX 41 r91_2 (.str [oq 6 (.mv (tq 5)),oq 7 (.mv (tq 0)),oq 8 (.oth (.call ⟨.builtin .len,#[tq 7],#[28]⟩)),oq 9 (.bin .lss 3 (tq 6) (tq 8)),oq 10 (.mv (tq 9)),og 10 true 11 (.mv (tq 5)),og 10 true 12 (.mv (tq 1)),og 10 true 13 (.oth (.call ⟨.builtin .len,#[tq 12],#[28]⟩)),og 10 true 14 (.bin .lss 3 (tq 11) (tq 13)),oq 15 (.pick (tq 10) (tq 14) (cb false))]) (some ([0,1,5],[])):=rx
@[simp] theorem x91_4:RX 41 r91_4 (.drw [⟨[],[oq 18 (.mv (tq 0)),oq 19 (.mv (tq 5)),oq 20 (.oth (.indexAddr 28 (tq 18) (tq 19))),oq 21 (.ld 3 (tq 20)),oq 22 (.mv (tq 1)),oq 23 (.mv (tq 5)),oq 24 (.oth (.indexAddr 28 (tq 22) (tq 23))),oq 25 (.ld 3 (tq 24)),oq 26 (.bin .neq 3 (tq 21) (tq 25))],[]⟩]) (some ([0,1,5],[])):=rx
@[simp] theorem x91_5:RX 41 r91_5 (.drw [⟨[],[oq 27 (.mv (tq 0)),oq 28 (.mv (tq 5)),oq 29 (.oth (.indexAddr 28 (tq 27) (tq 28))),oq 30 (.ld 3 (tq 29)),oq 31 (.mv (tq 1)),oq 32 (.mv (tq 5)),oq 33 (.oth (.indexAddr 28 (tq 31) (tq 32))),oq 34 (.ld 3 (tq 33)),oq 35 (.bin .lss 3 (tq 30) (tq 34)),oq 4 (.mv (tq 35))],[]⟩]) (some ([0,1,5],[])):=rx
@[simp] theorem x91_3:RX 41 r91_3 (.str [oq 16 (.mv (tq 5)),oq 17 (.bin .add 3 (tq 16) (ci 1)),oq 5 (.mv (tq 17))]) (some ([0,1,5],[])):=rx
@[simp] theorem x91_6:RX 41 r91_6 (.str [oq 36 (.mv (tq 0)),oq 37 (.oth (.call ⟨.builtin .len,#[tq 36],#[28]⟩)),oq 38 (.mv (tq 1)),oq 39 (.oth (.call ⟨.builtin .len,#[tq 38],#[28]⟩)),oq 40 (.bin .lss 3 (tq 37) (tq 39)),oq 4 (.mv (tq 40))]) (some ([0,1],[])):=rx
@[simp] theorem l91_2:ann 41 (fstR lb91_2) = some ([0,1,5],[]):=by kernel_rfl
def r49_0:=rg Try.f49 2
def r49_1:=rg Try.f49 5
def c49:Code:=(.seq r49_0 (.seq r49_1 .ret))
def r39_0:=rg Try.f39 2
def r39_1:=rg Try.f39 5
def r39_2:=rg Try.f39 11
def r39_3:=rg Try.f39 39
def r39_4:=rg Try.f39 535
def r39_6:=rg Try.f39 2199
def r39_7:=rg Try.f39 5271
def r39_8:=rg Try.f39 11415
def r39_5:=rg Try.f39 919
def r39_9:=rg Try.f39 47
def lb39_4:Code:=(.seq (.seq r39_4 (.cond (.tmp 11) .skip (.exit 0))) (.seq (.block 1 (.seq r39_6 (.seq r39_7 (.cond (.tmp 31) r39_8 .skip)))) r39_5))
@[simp] theorem u39_4 (n:Nat) (st:XS):execA Try.prog ann kn n 35 lb39_4 st = execA Try.prog ann kn n 35 (.seq (.seq r39_4 (.cond (.tmp 11) .skip (.exit 0))) (.seq (.block 1 (.seq r39_6 (.seq r39_7 (.cond (.tmp 31) r39_8 .skip)))) r39_5)) st:=rfl
def c39:Code:=(.seq r39_0 (.seq r39_1 (.seq r39_2 (.seq (.seq r39_3 (.block 0 (.loop lb39_4))) (.seq r39_9 .ret)))))
@[simp] theorem x39_0:RX 35 r39_0 (.str [oq 1 (.box (tq 0)),oq 2 (.mv (.const (.slice none 0 0))),oq 3 (.mv (cb false))]) (some ([0],[1,29])):=rx
@[simp] theorem x39_1:RX 35 r39_1 (.str [oq 4 (.mv (.const (.slice none 0 0)))]) (some ([1],[1,29])):=rx
@[simp] theorem x39_2:RX 35 r39_2 (.str [oq 5 (.mv (cb false))]) (some ([1,4],[1,15,29])):=rx
@[simp] theorem x39_3:RX 35 r39_3 (.str [oq 6 (.mv (ci 0))]) (some ([1,4,5],[1,15,29])):=rx
@[simp] theorem x39_4:RX 35 r39_4 (.str [oq 8 (.mv (tq 6)),oq 9 (.ld 25 (tq 1)),oq 10 (.call false none (.func 48) [tq 9]),oq 11 (.bin .leq 3 (tq 8) (tq 10))]) (some ([1,4,5,6],[1,15,29])):=rx
@[simp] theorem x39_6:RX 35 r39_6 (.str [oq 14 (.mv (tq 6)),oq 15 (.call false none (.func 50) [tq 14]),oq 7 (.mv (tq 15))]) (some ([1,4,5,6],[1,15,29])):=rx
@[simp] theorem x39_7:RX 35 r39_7 (.drw [⟨[],[oq 16 (.mv (tq 5)),oq 17 (.oth (.unOp .not 4 (tq 16))),oq 18 (.mv (tq 17)),og 18 false 19 (.mv (tq 7)),og 18 false 20 (.mv (tq 4))],[og 18 false 21 (.call false none (.func 49) [tq 19,tq 20])]⟩,⟨[],[oq 22 (.pick (tq 18) (cb true) (tq 21)),oq 23 (.mv (tq 22)),og 23 true 24 (.ld 25 (tq 1)),og 23 true 25 (.ld 25 (tq 1)),og 23 true 26 (.call false none (.func 48) [tq 25]),og 23 true 27 (.mv (tq 6)),og 23 true 28 (.bin .andNot 3 (tq 26) (tq 27))],[og 23 true 29 (.call false none (.func 47) [tq 24,tq 28])]⟩,⟨[],[],[og 23 true 30 (.call false none (.func 88) [tq 29])]⟩,⟨[],[oq 31 (.pick (tq 23) (tq 30) (cb false))],[]⟩]) (some ([1,4,5,6,7],[1,15])):=rx
@[simp] theorem x39_8:RX 35 r39_8 (.str [oq 32 (.mv (tq 7)),oq 4 (.mv (tq 32)),oq 5 (.mv (cb true))]) (some ([1,6,7],[1,15,29])):=rx
@[simp] theorem x39_5:RX 35 r39_5 (.str [oq 12 (.mv (tq 6)),oq 13 (.bin .add 3 (tq 12) (ci 1)),oq 6 (.mv (tq 13))]) (some ([1,4,5,6],[1,15,29])):=rx
@[simp] theorem x39_9:RX 35 r39_9 (.str [oq 33 (.mv (tq 4)),oq 34 (.mv (tq 5)),oq 2 (.mv (tq 33)),oq 3 (.mv (tq 34))]) (some ([4,5],[15])):=rx
@[simp] theorem l39_4:ann 35 (fstR lb39_4) = some ([1,4,5,6],[1,15,29]):=by kernel_rfl
def r33_0:=rg Try.f33 2
def r33_1:=rg Try.f33 9
def r33_2:=rg Try.f33 21
def r33_3:=rg Try.f33 77
def r33_4:=rg Try.f33 11
def r33_5:=rg Try.f33 39
def r33_6:=rg Try.f33 151
def r33_7:=rg Try.f33 343
def r33_8:=rg Try.f33 47
def c33:Code:=(.seq r33_0 (.seq (.seq r33_1 (.seq r33_2 (.cond (.tmp 18) (.seq r33_3 .ret) .skip))) (.seq r33_4 (.seq (.seq r33_5 (.block 0 (.rangeFunc (.tmp 22) #[23,24] r33_6 (.block 1 r33_7)))) (.seq r33_8 .ret)))))
theorem b33:Try.f33.body = some c33:=by kernel_rfl
@[simp] theorem x33_0:RX 39 r33_0 (.str [oq 2 (.box (tq 0)),oq 3 (.box (tq 1)),oq 4 (.mv (.const (.slice none 0 0))),oq 5 (.mv (ci 0))]) (some ([0,1],[2,7,20,22,36,38])):=rx
@[simp] theorem x33_1:RX 39 r33_1 (.drw [⟨[],[oq 9 (.ld 35 (tq 2)),oq 10 (.ld 3 (tq 3)),oq 11 (.fa 35 (tq 2) 3),oq 12 (.ld 32 (tq 11)),oq 13 (.oth (.call ⟨.builtin .len,#[tq 12],#[32]⟩)),oq 14 (.bin .sub 3 (tq 13) (ci 1)),oq 15 (.call false none (.func 69) [tq 10,ci 0,tq 14])],[oq 16 (.call false none (.func 68) [tq 9,tq 15])]⟩,⟨[],[oq 6 (.mv (tq 16))],[]⟩]) (some ([2,3],[2,3,7,20,22,36,38])):=rx
@[simp] theorem x33_2:RX 39 r33_2 (.str [oq 17 (.mv (tq 6)),oq 18 (.bin .neq 29 (tq 17) (ci 0))]) (some ([2,3,6],[2,3,7,20,22,36,38])):=rx
@[simp] theorem x33_3:RX 39 r33_3 (.str [oq 19 (.mv (tq 6)),oq 4 (.mv (.const (.slice none 0 0))),oq 5 (.mv (tq 19))]) (some ([6],[])):=rx
@[simp] theorem x33_4:RX 39 r33_4 (.str [oq 20 (.mkM none),oq 7 (.alloc 122),os (.sto 122 (tq 7) (tq 20))]) (some ([2,3],[2,3,7,20,22,36,38])):=rx
@[simp] theorem x33_5:RX 39 r33_5 (.str [oq 21 (.ld 35 (tq 2)),oq 22 (.call false none (.func 79) [tq 21])]) (some ([2,3,7],[2,3,7,20,22,36,38])):=rx
@[simp] theorem x33_6:RX 39 r33_6 (.str [oq 8 (.mv (tq 23))]) (some ([3,7,23],[2,3,7,20,22,36,38])):=rx
@[simp] theorem x33_7:RX 39 r33_7 (.drw [⟨[],[oq 25 (.ld 122 (tq 7)),oq 26 (.mv (tq 8)),oq 27 (.ld 3 (tq 3)),oq 28 (.oth (.indexAddr 32 (tq 26) (tq 27))),oq 29 (.ld 96 (tq 28))],[os (.upd 122 (tq 25) (tq 29) (cb true))]⟩]) (some ([3,7,8],[2,3,7,20,22,36,38])):=rx
@[simp] theorem x33_8:RX 39 r33_8 (.drw [⟨[36],[oq 30 (.ld 35 (tq 2)),oq 31 (.fa 35 (tq 2) 3),oq 32 (.ld 32 (tq 31)),oq 33 (.ld 3 (tq 3)),oq 34 (.oth (.indexAddr 32 (tq 32) (tq 33))),oq 35 (.ld 96 (tq 34)),oq 37 (.oth (.makeFunc (.func 82) #[] #[tq 7])),oq 36 (.call true none (.func 81) [tq 30,tq 35])],[oq 38 (.call false none (.func 80) [tq 36,tq 37])]⟩,⟨[],[oq 4 (.mv (tq 38)),oq 5 (.mv (ci 0))],[]⟩]) (some ([2,3,7],[2,3,7,20,22])):=rx
def r82_0:=rg Try.f82 2
def r82_1:=rg Try.f82 5
def c82:Code:=(.seq r82_0 (.seq r82_1 .ret))
theorem b82:Try.f82.body = some c82:=by kernel_rfl
@[simp] theorem x82_0:RX 8 r82_0 (.str [oq 2 (.box (tq 0)),oq 3 (.mv (cb false))]) (some ([0,1],[])):=rx
@[simp] theorem x82_1:RX 8 r82_1 (.str [oq 4 (.ld 122 (tq 1)),oq 5 (.ld 96 (tq 2)),oq 6 (.oth (.lookup 122 (tq 4) (tq 5) false)),oq 7 (.oth (.unOp .not 4 (tq 6))),oq 3 (.mv (tq 7))]) (some ([1,2],[2])):=rx
def r80_0:=rg Try.f80 2
def r80_1:=rg Try.f80 5
def r80_2:=rg Try.f80 19
def r80_3:=rg Try.f80 75
def r80_4:=rg Try.f80 39
def r80_5:=rg Try.f80 535
def r80_7:=rg Try.f80 2199
def r80_8:=rg Try.f80 5271
def r80_9:=rg Try.f80 19607
def r80_10:=rg Try.f80 27799
def r80_6:=rg Try.f80 919
def r80_11:=rg Try.f80 47
def r80_12:=rg Try.f80 95
def lb80_5:Code:=(.seq (.seq r80_5 (.cond (.tmp 19) .skip (.exit 0))) (.seq (.block 1 (.seq r80_7 (.seq r80_8 (.cond (.tmp 29) (.seq r80_9 r80_10) .skip)))) r80_6))
@[simp] theorem u80_5 (n:Nat) (st:XS):execA Try.prog ann kn n 42 lb80_5 st = execA Try.prog ann kn n 42 (.seq (.seq r80_5 (.cond (.tmp 19) .skip (.exit 0))) (.seq (.block 1 (.seq r80_7 (.seq r80_8 (.cond (.tmp 29) (.seq r80_9 r80_10) .skip)))) r80_6)) st:=rfl
def c80:Code:=(.seq r80_0 (.seq r80_1 (.seq (.seq r80_2 (.cond (.tmp 12) (.seq r80_3 .ret) .skip)) (.seq (.seq r80_4 (.block 0 (.loop lb80_5))) (.seq r80_11 (.seq r80_12 .ret))))))
theorem b80:Try.f80.body = some c80:=by kernel_rfl
@[simp] theorem x80_0:RX 42 r80_0 (.str [oq 4 (.mv (.const (.slice none 0 0)))]) (some ([0,1],[])):=rx
@[simp] theorem x80_1:RX 42 r80_1 (.str [oq 8 (.mv (tq 0)),oq 9 (.mv (tq 1)),oq 10 (.call false none (.func 106) [tq 8,tq 9]),oq 5 (.mv (tq 10))]) (some ([0,1],[])):=rx
@[simp] theorem x80_2:RX 42 r80_2 (.str [oq 11 (.mv (tq 5)),oq 12 (.bin .eql 3 (tq 11) (.const (.int .i64 (Int.negSucc 0))))]) (some ([0,1,5],[])):=rx
@[simp] theorem x80_3:RX 42 r80_3 (.str [oq 13 (.mv (tq 0)),oq 4 (.mv (tq 13))]) (some ([0],[])):=rx
@[simp] theorem x80_4:RX 42 r80_4 (.str [oq 14 (.mv (tq 5)),oq 15 (.bin .add 3 (tq 14) (ci 1)),oq 6 (.mv (tq 15))]) (some ([0,1,5],[])):=rx
@[simp] theorem x80_5:RX 42 r80_5 (.str [oq 16 (.mv (tq 6)),oq 17 (.mv (tq 0)),oq 18 (.oth (.call ⟨.builtin .len,#[tq 17],#[32]⟩)),oq 19 (.bin .lss 3 (tq 16) (tq 18))]) (some ([0,1,5,6],[])):=rx
@[simp] theorem x80_7:RX 42 r80_7 (.str [oq 22 (.mv (tq 0)),oq 23 (.mv (tq 6)),oq 24 (.oth (.indexAddr 32 (tq 22) (tq 23))),oq 25 (.ld 96 (tq 24)),oq 7 (.alloc 96),os (.sto 96 (tq 7) (tq 25))]) (some ([0,1,5,6],[])):=rx
@[simp] theorem x80_8:RX 42 r80_8 (.str [oq 26 (.mv (tq 1)),oq 27 (.ld 96 (tq 7)),oq 28 (.call false none (tq 26) [tq 27]),oq 29 (.oth (.unOp .not 4 (tq 28)))]) (some ([0,1,5,6,7],[7])):=rx
@[simp] theorem x80_9:RX 42 r80_9 (.str [oq 30 (.mv (tq 0)),oq 31 (.mv (tq 5)),oq 32 (.ld 96 (tq 7)),oq 33 (.oth (.indexAddr 32 (tq 30) (tq 31))),os (.sto 96 (tq 33) (tq 32))]) (some ([0,1,5,6,7],[7])):=rx
@[simp] theorem x80_10:RX 42 r80_10 (.str [oq 34 (.mv (tq 5)),oq 35 (.bin .add 3 (tq 34) (ci 1)),oq 5 (.mv (tq 35))]) (some ([0,1,5,6],[])):=rx
@[simp] theorem x80_6:RX 42 r80_6 (.str [oq 20 (.mv (tq 6)),oq 21 (.bin .add 3 (tq 20) (ci 1)),oq 6 (.mv (tq 21))]) (some ([0,1,5,6],[])):=rx
@[simp] theorem x80_11:RX 42 r80_11 (.str [oq 36 (.mv (tq 0)),oq 37 (.mv (tq 5)),oq 38 (.oth (.slice 32 (tq 36) (some (tq 37)) none none)),os (.clr [tq 38] [32])]) (some ([0,5],[])):=rx
@[simp] theorem x80_12:RX 42 r80_12 (.str [oq 39 (.mv (tq 0)),oq 40 (.mv (tq 5)),oq 41 (.oth (.slice 32 (tq 39) none (some (tq 40)) none)),oq 4 (.mv (tq 41))]) (some ([0,5],[])):=rx
@[simp] theorem l80_5:ann 42 (fstR lb80_5) = some ([0,1,5,6],[]):=by kernel_rfl
def r36_0:=rg Try.f36 2
def r36_1:=rg Try.f36 5
def r36_2:=rg Try.f36 11
def r36_3:=rg Try.f36 39
def r36_4:=rg Try.f36 535
def r36_6:=rg Try.f36 2199
def r36_7:=rg Try.f36 9367
def r36_8:=rg Try.f36 136343
def r36_10:=rg Try.f36 300183
def r36_9:=rg Try.f36 234647
def r36_11:=rg Try.f36 11415
def r36_12:=rg Try.f36 23703
def r36_5:=rg Try.f36 919
def r36_13:=rg Try.f36 47
def lb36_8:Code:=(.seq (.seq r36_8 (.cond (.tmp 28) .skip (.exit 2))) (.seq (.block 3 r36_10) r36_9))
@[simp] theorem u36_8 (n:Nat) (st:XS):execA Try.prog ann kn n 55 lb36_8 st = execA Try.prog ann kn n 55 (.seq (.seq r36_8 (.cond (.tmp 28) .skip (.exit 2))) (.seq (.block 3 r36_10) r36_9)) st:=rfl
def lb36_4:Code:=(.seq (.seq r36_4 (.cond (.tmp 22) .skip (.exit 0))) (.seq (.block 1 (.seq r36_6 (.seq (.seq r36_7 (.block 2 (.loop lb36_8))) (.seq r36_11 (.cond (.tmp 46) r36_12 .skip))))) r36_5))
@[simp] theorem u36_4 (n:Nat) (st:XS):execA Try.prog ann kn n 55 lb36_4 st = execA Try.prog ann kn n 55 (.seq (.seq r36_4 (.cond (.tmp 22) .skip (.exit 0))) (.seq (.block 1 (.seq r36_6 (.seq (.seq r36_7 (.block 2 (.loop lb36_8))) (.seq r36_11 (.cond (.tmp 46) r36_12 .skip))))) r36_5)) st:=rfl
def c36:Code:=(.seq r36_0 (.seq r36_1 (.seq r36_2 (.seq (.seq r36_3 (.block 0 (.loop lb36_4))) (.seq r36_13 .ret)))))
@[simp] theorem x36_0:RX 55 r36_0 (.str [oq 3 (.box (tq 0)),oq 6 (.mv (.const (.slice none 0 0)))]) (some ([0,1,2],[3,18])):=rx
@[simp] theorem x36_1:RX 55 r36_1 (.str [oq 7 (.mv (.const (.slice none 0 0)))]) (some ([1,2,3],[3,18])):=rx
@[simp] theorem x36_2:RX 55 r36_2 (.drw [⟨[],[oq 12 (.ld 25 (tq 3)),oq 13 (.fa 25 (tq 3) 3),oq 14 (.ld 22 (tq 13)),oq 15 (.mv (tq 2)),oq 16 (.oth (.indexAddr 22 (tq 14) (tq 15))),oq 17 (.ld 75 (tq 16))],[oq 18 (.call false none (.func 83) [tq 12,tq 17])]⟩,⟨[],[oq 8 (.mv (tq 18))],[]⟩]) (some ([1,2,3,7],[3,53])):=rx
@[simp] theorem x36_3:RX 55 r36_3 (.str [oq 9 (.mv (ci 0))]) (some ([1,2,7,8],[3,18,53])):=rx
@[simp] theorem x36_4:RX 55 r36_4 (.str [oq 19 (.mv (tq 9)),oq 20 (.mv (tq 8)),oq 21 (.oth (.call ⟨.builtin .len,#[tq 20],#[22]⟩)),oq 22 (.bin .lss 3 (tq 19) (tq 21))]) (some ([1,2,7,8,9],[3,18,53])):=rx
@[simp] theorem x36_6:RX 55 r36_6 (.str [oq 10 (.mv (cb false))]) (some ([1,2,7,8,9],[3,18,53])):=rx
@[simp] theorem x36_7:RX 55 r36_7 (.str [oq 11 (.mv (ci 0))]) (some ([1,2,7,8,9,10],[3,18,53])):=rx
@[simp] theorem x36_8:RX 55 r36_8 (.str [oq 25 (.mv (tq 11)),oq 26 (.mv (tq 1)),oq 27 (.oth (.call ⟨.builtin .len,#[tq 26],#[37]⟩)),oq 28 (.bin .lss 3 (tq 25) (tq 27))]) (some ([1,2,7,8,9,10,11],[3,18,53])):=rx
@[simp] theorem x36_10:RX 55 r36_10 (.drw [⟨[],[oq 31 (.mv (tq 10)),oq 32 (.mv (tq 31)),og 32 false 33 (.mv (tq 1)),og 32 false 34 (.mv (tq 11)),og 32 false 35 (.oth (.indexAddr 37 (tq 33) (tq 34))),og 32 false 36 (.ld 22 (tq 35)),og 32 false 37 (.mv (tq 2)),og 32 false 38 (.oth (.indexAddr 22 (tq 36) (tq 37))),og 32 false 39 (.ld 75 (tq 38)),og 32 false 40 (.mv (tq 8)),og 32 false 41 (.mv (tq 9)),og 32 false 42 (.oth (.indexAddr 22 (tq 40) (tq 41))),og 32 false 43 (.ld 75 (tq 42)),og 32 false 44 (.bin .eql 75 (tq 39) (tq 43)),oq 45 (.pick (tq 32) (cb true) (tq 44)),oq 10 (.mv (tq 45))],[]⟩]) (some ([1,2,7,8,9,10,11],[3,18,53])):=rx
@[simp] theorem x36_9:RX 55 r36_9 (.str [oq 29 (.mv (tq 11)),oq 30 (.bin .add 3 (tq 29) (ci 1)),oq 11 (.mv (tq 30))]) (some ([1,2,7,8,9,10,11],[3,18,53])):=rx
@[simp] theorem x36_11:RX 55 r36_11 (.str [oq 46 (.mv (tq 10))]) (some ([1,2,7,8,9,10],[3,18,53])):=rx
@[simp] theorem x36_12:RX 55 r36_12 (.str [oq 47 (.mv (tq 7)),oq 48 (.mv (tq 8)),oq 49 (.mv (tq 9)),oq 50 (.oth (.indexAddr 22 (tq 48) (tq 49))),oq 51 (.ld 75 (tq 50)),oq 52 (.buildS 22 1 [(0,tq 51)]),oq 53 (.app [tq 47,tq 52] [22,22]),oq 7 (.mv (tq 53))]) (some ([1,2,7,8,9],[3,18,53])):=rx
@[simp] theorem x36_5:RX 55 r36_5 (.str [oq 23 (.mv (tq 9)),oq 24 (.bin .add 3 (tq 23) (ci 1)),oq 9 (.mv (tq 24))]) (some ([1,2,7,8,9],[3,18,53])):=rx
@[simp] theorem x36_13:RX 55 r36_13 (.str [oq 54 (.mv (tq 7)),oq 6 (.mv (tq 54))]) (some ([7],[53])):=rx
@[simp] theorem l36_4:ann 55 (fstR lb36_4) = some ([1,2,7,8,9],[3,18,53]):=by kernel_rfl
@[simp] theorem l36_8:ann 55 (fstR lb36_8) = some ([1,2,7,8,9,10,11],[3,18,53]):=by kernel_rfl
def r34_0:=rg Try.f34 2
def r34_1:=rg Try.f34 9
def r34_2:=rg Try.f34 37
def r34_3:=rg Try.f34 19
def r34_4:=rg Try.f34 267
def r34_6:=rg Try.f34 1099
def r34_7:=rg Try.f34 4683
def r34_5:=rg Try.f34 459
def r34_8:=rg Try.f34 23
def lb34_4:Code:=(.seq (.seq r34_4 (.cond (.tmp 14) .skip (.exit 0))) (.seq (.block 1 (.seq r34_6 (.cond (.tmp 25) (.seq r34_7 .ret) .skip))) r34_5))
@[simp] theorem u34_4 (n:Nat) (st:XS):execA Try.prog ann kn n 26 lb34_4 st = execA Try.prog ann kn n 26 (.seq (.seq r34_4 (.cond (.tmp 14) .skip (.exit 0))) (.seq (.block 1 (.seq r34_6 (.cond (.tmp 25) (.seq r34_7 .ret) .skip))) r34_5)) st:=rfl
def c34:Code:=(.seq r34_0 (.seq (.seq r34_1 (.cond (.tmp 10) (.seq r34_2 .ret) .skip)) (.seq (.seq r34_3 (.block 0 (.loop lb34_4))) (.seq r34_8 .ret))))
@[simp] theorem x34_0:RX 26 r34_0 (.str [oq 4 (.mv (cb false))]) (some ([0,1],[])):=rx
@[simp] theorem x34_1:RX 26 r34_1 (.str [oq 6 (.mv (tq 0)),oq 7 (.oth (.call ⟨.builtin .len,#[tq 6],#[32]⟩)),oq 8 (.mv (tq 1)),oq 9 (.oth (.call ⟨.builtin .len,#[tq 8],#[32]⟩)),oq 10 (.bin .neq 3 (tq 7) (tq 9))]) (some ([0,1],[])):=rx
@[simp] theorem x34_2:RX 26 r34_2 (.str [oq 4 (.mv (cb false))]) (some ([],[])):=rx
@[simp] theorem x34_3:RX 26 r34_3 (.str [oq 5 (.mv (ci 0))]) (some ([0,1],[])):=rx
@[simp] theorem x34_4:RX 26 r34_4 (.str [oq 11 (.mv (tq 5)),oq 12 (.mv (tq 0)),oq 13 (.oth (.call ⟨.builtin .len,#[tq 12],#[32]⟩)),oq 14 (.bin .lss 3 (tq 11) (tq 13))]) (some ([0,1,5],[])):=rx
@[simp] theorem x34_6:RX 26 r34_6 (.drw [⟨[],[oq 17 (.mv (tq 0)),oq 18 (.mv (tq 5)),oq 19 (.oth (.indexAddr 32 (tq 17) (tq 18))),oq 20 (.ld 96 (tq 19)),oq 21 (.mv (tq 1)),oq 22 (.mv (tq 5)),oq 23 (.oth (.indexAddr 32 (tq 21) (tq 22))),oq 24 (.ld 96 (tq 23)),oq 25 (.bin .neq 96 (tq 20) (tq 24))],[]⟩]) (some ([0,1,5],[])):=rx
@[simp] theorem x34_7:RX 26 r34_7 (.str [oq 4 (.mv (cb false))]) (some ([],[])):=rx
@[simp] theorem x34_5:RX 26 r34_5 (.str [oq 15 (.mv (tq 5)),oq 16 (.bin .add 3 (tq 15) (ci 1)),oq 5 (.mv (tq 16))]) (some ([0,1,5],[])):=rx
@[simp] theorem x34_8:RX 26 r34_8 (.str [oq 4 (.mv (cb true))]) (some ([],[])):=rx
@[simp] theorem l34_4:ann 26 (fstR lb34_4) = some ([0,1,5],[]):=by kernel_rfl
def r5_0:=rg Try.f5 2
def r5_1:=rg Try.f5 9
def r5_2:=rg Try.f5 37
def r5_3:=rg Try.f5 11
def r5_4:=rg Try.f5 23
def r5_5:=rg Try.f5 79
def r5_6:=rg Try.f5 175
def r5_7:=rg Try.f5 159
def r5_8:=rg Try.f5 607
def r5_9:=rg Try.f5 191
def c5:Code:=(.seq r5_0 (.seq (.seq r5_1 (.cond (.tmp 11) (.seq r5_2 .ret) .skip)) (.seq r5_3 (.seq r5_4 (.seq (.seq r5_5 (.cond (.tmp 36) r5_6 .skip)) (.seq (.seq r5_7 (.cond (.tmp 38) (.seq r5_8 .ret) .skip)) (.seq r5_9 .ret)))))))
theorem b5:Try.f5.body = some c5:=by kernel_rfl
def r66_0:=rg Try.f66 2
def r66_1:=rg Try.f66 9
def r66_2:=rg Try.f66 133
def r66_4:=rg Try.f66 549
def r66_5:=rg Try.f66 2341
def r66_3:=rg Try.f66 229
def r66_6:=rg Try.f66 11
def lb66_2:Code:=(.seq (.seq r66_2 (.cond (.tmp 9) .skip (.exit 0))) (.seq (.block 1 (.seq r66_4 (.cond (.tmp 23) (.seq r66_5 .ret) .skip))) r66_3))
@[simp] theorem u66_2 (n:Nat) (st:XS):execA Try.prog ann kn n 24 lb66_2 st = execA Try.prog ann kn n 24 (.seq (.seq r66_2 (.cond (.tmp 9) .skip (.exit 0))) (.seq (.block 1 (.seq r66_4 (.cond (.tmp 23) (.seq r66_5 .ret) .skip))) r66_3)) st:=rfl
def c66:Code:=(.seq r66_0 (.seq (.seq r66_1 (.block 0 (.loop lb66_2))) (.seq r66_6 .ret)))
theorem b66:Try.f66.body = some c66:=by kernel_rfl
@[simp] theorem x66_0:RX 24 r66_0 (.str [oq 3 (.box (tq 1)),oq 4 (.mv (cb false))]) (some ([0,1],[])):=rx
@[simp] theorem x66_1:RX 24 r66_1 (.str [oq 5 (.mv (ci 0))]) (some ([0,3],[3])):=rx
@[simp] theorem x66_2:RX 24 r66_2 (.str [oq 6 (.mv (tq 5)),oq 7 (.mv (tq 0)),oq 8 (.oth (.call ⟨.builtin .len,#[tq 7],#[32]⟩)),oq 9 (.bin .lss 3 (tq 6) (tq 8))]) (some ([0,3,5],[3])):=rx
@[simp] theorem x66_4:RX 24 r66_4 (.drw [⟨[],[oq 12 (.mv (tq 0)),oq 13 (.mv (tq 5)),oq 14 (.oth (.indexAddr 32 (tq 12) (tq 13))),oq 15 (.ld 96 (tq 14)),oq 16 (.fa 75 (tq 3) 0),oq 17 (.ld 3 (tq 16)),oq 18 (.fa 75 (tq 3) 1),oq 19 (.ld 3 (tq 18)),oq 20 (.fa 75 (tq 3) 2),oq 21 (.ld 3 (tq 20)),oq 22 (.build 96 [(0,tq 17),(1,tq 19),(2,tq 21)]),oq 23 (.bin .eql 96 (tq 15) (tq 22))],[]⟩]) (some ([0,3,5],[3])):=rx
@[simp] theorem x66_5:RX 24 r66_5 (.str [oq 4 (.mv (cb true))]) (some ([],[])):=rx
@[simp] theorem x66_3:RX 24 r66_3 (.str [oq 10 (.mv (tq 5)),oq 11 (.bin .add 3 (tq 10) (ci 1)),oq 5 (.mv (tq 11))]) (some ([0,3,5],[3])):=rx
@[simp] theorem x66_6:RX 24 r66_6 (.str [oq 4 (.mv (cb false))]) (some ([],[])):=rx
@[simp] theorem l66_2:ann 24 (fstR lb66_2) = some ([0,3,5],[3]):=by kernel_rfl
def r90_0:=rg Try.f90 2
def r90_1:=rg Try.f90 5
def c90:Code:=(.seq r90_0 (.seq r90_1 .ret))
def r46_0:=rg Try.f46 2
def r46_1:=rg Try.f46 5
def r46_2:=rg Try.f46 11
def r46_3:=rg Try.f46 23
def r46_4:=rg Try.f46 47
def r46_5:=rg Try.f46 159
def r46_6:=rg Try.f46 607
def r46_7:=rg Try.f46 319
def r46_8:=rg Try.f46 4287
def r46_10:=rg Try.f46 17599
def r46_11:=rg Try.f46 74943
def r46_9:=rg Try.f46 7359
def r46_12:=rg Try.f46 639
def r46_13:=rg Try.f46 2431
def r46_14:=rg Try.f46 767
def r46_15:=rg Try.f46 1535
def r46_16:=rg Try.f46 5119
def r46_17:=rg Try.f46 68607
def r46_19:=rg Try.f46 281599
def r46_20:=rg Try.f46 1199103
def r46_18:=rg Try.f46 117759
def r46_21:=rg Try.f46 6143
def lb46_8:Code:=(.seq (.seq r46_8 (.cond (.tmp 106) .skip (.exit 0))) (.seq (.block 1 (.seq r46_10 (.cond (.tmp 142) (.seq r46_11 .ret) .skip))) r46_9))
@[simp] theorem u46_8 (n:Nat) (st:XS):execA Try.prog ann kn n 190 lb46_8 st = execA Try.prog ann kn n 190 (.seq (.seq r46_8 (.cond (.tmp 106) .skip (.exit 0))) (.seq (.block 1 (.seq r46_10 (.cond (.tmp 142) (.seq r46_11 .ret) .skip))) r46_9)) st:=rfl
def lb46_17:Code:=(.seq (.seq r46_17 (.cond (.tmp 162) .skip (.exit 2))) (.seq (.block 3 (.seq r46_19 (.cond (.tmp 183) (.seq r46_20 .ret) .skip))) r46_18))
@[simp] theorem u46_17 (n:Nat) (st:XS):execA Try.prog ann kn n 190 lb46_17 st = execA Try.prog ann kn n 190 (.seq (.seq r46_17 (.cond (.tmp 162) .skip (.exit 2))) (.seq (.block 3 (.seq r46_19 (.cond (.tmp 183) (.seq r46_20 .ret) .skip))) r46_18)) st:=rfl
def c46:Code:=(.seq r46_0 (.seq r46_1 (.seq r46_2 (.seq r46_3 (.seq r46_4 (.seq (.seq r46_5 (.cond (.tmp 102) (.seq r46_6 .ret) .skip)) (.seq (.seq r46_7 (.block 0 (.loop lb46_8))) (.seq (.seq r46_12 (.cond (.tmp 144) (.seq r46_13 .ret) .skip)) (.seq r46_14 (.seq r46_15 (.seq (.seq r46_16 (.block 2 (.loop lb46_17))) (.seq r46_21 .ret))))))))))))
@[simp] theorem x46_0:RX 190 r46_0 (.str [oq 4 (.box (tq 0)),oq 5 (.box (tq 1)),oq 8 (.mv (cb false))]) (some ([0,1,2,3],[4,5,27,34,41,43,49,51,147,149,154,156])):=rx
@[simp] theorem x46_1:RX 190 r46_1 (.str [oq 26 (.ld 25 (tq 4)),oq 27 (.call false none (.func 22) [tq 26]),oq 28 (.mv (tq 2)),oq 29 (.call false none (.func 28) [tq 27,tq 28]),oq 25 (.mv (tq 29)),oq 30 (.oth (.extract (tq 25) 0)),oq 31 (.oth (.extract (tq 25) 1)),oq 9 (.alloc 45),os (.sto 45 (tq 9) (tq 30)),oq 10 (.mv (tq 31))]) (some ([2,3,4,5],[4,5,27,34,41,43,49,51,147,149,154,156])):=rx
@[simp] theorem x46_2:RX 190 r46_2 (.str [oq 33 (.ld 25 (tq 5)),oq 34 (.call false none (.func 22) [tq 33]),oq 35 (.mv (tq 2)),oq 36 (.call false none (.func 28) [tq 34,tq 35]),oq 32 (.mv (tq 36)),oq 37 (.oth (.extract (tq 32) 0)),oq 38 (.oth (.extract (tq 32) 1)),oq 11 (.alloc 45),os (.sto 45 (tq 11) (tq 37)),oq 12 (.mv (tq 38))]) (some ([2,3,4,5,9,10],[4,5,9,27,34,41,43,49,51,147,149,154,156])):=rx
@[simp] theorem x46_3:RX 190 r46_3 (.str [oq 40 (.ld 25 (tq 4)),oq 41 (.call false none (.func 22) [tq 40]),oq 42 (.mv (tq 2)),oq 43 (.call false none (.func 21) [tq 41,tq 42]),oq 39 (.mv (tq 43)),oq 44 (.oth (.extract (tq 39) 0)),oq 45 (.oth (.extract (tq 39) 1)),oq 46 (.oth (.extract (tq 39) 2)),oq 13 (.mv (tq 44)),oq 14 (.mv (tq 45)),oq 15 (.mv (tq 46))]) (some ([2,3,4,5,9,10,11,12],[4,5,9,11,27,34,41,43,49,51,147,149,154,156])):=rx
@[simp] theorem x46_4:RX 190 r46_4 (.str [oq 48 (.ld 25 (tq 5)),oq 49 (.call false none (.func 22) [tq 48]),oq 50 (.mv (tq 2)),oq 51 (.call false none (.func 21) [tq 49,tq 50]),oq 47 (.mv (tq 51)),oq 52 (.oth (.extract (tq 47) 0)),oq 53 (.oth (.extract (tq 47) 1)),oq 54 (.oth (.extract (tq 47) 2)),oq 16 (.mv (tq 52)),oq 17 (.mv (tq 53)),oq 18 (.mv (tq 54))]) (some ([2,3,4,5,9,10,11,12,13,14,15],[4,5,9,11,27,34,41,43,49,51,147,149,154,156])):=rx
@[simp] theorem x46_5:RX 190 r46_5 (.str [oq 55 (.mv (tq 10)),oq 56 (.bin .neq 29 (tq 55) (ci 0)),oq 57 (.mv (tq 56)),og 57 false 58 (.mv (tq 12)),og 57 false 59 (.bin .neq 29 (tq 58) (ci 0)),oq 60 (.pick (tq 57) (cb true) (tq 59)),oq 61 (.mv (tq 60)),og 61 false 62 (.ld 45 (tq 9)),og 61 false 63 (.ld 45 (tq 11)),og 61 false 64 (.call false none (.func 90) [tq 62,tq 63]),og 61 false 65 (.oth (.unOp .not 4 (tq 64))),oq 66 (.pick (tq 61) (cb true) (tq 65)),oq 67 (.mv (tq 66)),og 67 false 68 (.mv (tq 15)),og 67 false 69 (.bin .neq 29 (tq 68) (ci 0)),oq 70 (.pick (tq 67) (cb true) (tq 69)),oq 71 (.mv (tq 70)),og 71 false 72 (.mv (tq 18)),og 71 false 73 (.bin .neq 29 (tq 72) (ci 0)),oq 74 (.pick (tq 71) (cb true) (tq 73)),oq 75 (.mv (tq 74)),og 75 false 76 (.mv (tq 13)),og 75 false 77 (.oth (.call ⟨.builtin .len,#[tq 76],#[28]⟩)),og 75 false 78 (.fa 25 (tq 5) 0),og 75 false 79 (.ld 3 (tq 78)),og 75 false 80 (.bin .neq 3 (tq 77) (tq 79)),oq 81 (.pick (tq 75) (cb true) (tq 80)),oq 82 (.mv (tq 81)),og 82 false 83 (.mv (tq 14)),og 82 false 84 (.oth (.call ⟨.builtin .len,#[tq 83],#[28]⟩)),og 82 false 85 (.fa 25 (tq 5) 0),og 82 false 86 (.ld 3 (tq 85)),og 82 false 87 (.bin .neq 3 (tq 84) (tq 86)),oq 88 (.pick (tq 82) (cb true) (tq 87)),oq 89 (.mv (tq 88)),og 89 false 90 (.mv (tq 16)),og 89 false 91 (.oth (.call ⟨.builtin .len,#[tq 90],#[28]⟩)),og 89 false 92 (.fa 25 (tq 5) 0),og 89 false 93 (.ld 3 (tq 92)),og 89 false 94 (.bin .neq 3 (tq 91) (tq 93)),oq 95 (.pick (tq 89) (cb true) (tq 94)),oq 96 (.mv (tq 95)),og 96 false 97 (.mv (tq 17)),og 96 false 98 (.oth (.call ⟨.builtin .len,#[tq 97],#[28]⟩)),og 96 false 99 (.fa 25 (tq 5) 0),og 96 false 100 (.ld 3 (tq 99)),og 96 false 101 (.bin .neq 3 (tq 98) (tq 100)),oq 102 (.pick (tq 96) (cb true) (tq 101))]) (some ([3,4,5,9,10,11,12,13,14,15,16,17,18],[4,5,9,11,27,34,41,43,49,51,147,149,154,156])):=rx
@[simp] theorem x46_6:RX 190 r46_6 (.str [oq 8 (.mv (cb false))]) (some ([],[])):=rx
@[simp] theorem x46_7:RX 190 r46_7 (.str [oq 19 (.mv (ci 0))]) (some ([3,4,5,13,14,16,17],[4,5,27,34,41,43,49,51,147,149,154,156])):=rx
@[simp] theorem x46_8:RX 190 r46_8 (.str [oq 103 (.mv (tq 19)),oq 104 (.mv (tq 13)),oq 105 (.oth (.call ⟨.builtin .len,#[tq 104],#[28]⟩)),oq 106 (.bin .lss 3 (tq 103) (tq 105))]) (some ([3,4,5,13,14,16,17,19],[4,5,27,34,41,43,49,51,147,149,154,156])):=rx
@[simp] theorem x46_10:RX 190 r46_10 (.drw [⟨[],[oq 109 (.mv (tq 16)),oq 110 (.mv (tq 19)),oq 111 (.oth (.indexAddr 28 (tq 109) (tq 110))),oq 112 (.ld 3 (tq 111)),oq 113 (.bin .neq 3 (tq 112) (ci 3)),oq 114 (.mv (tq 113)),og 114 true 115 (.mv (tq 13)),og 114 true 116 (.mv (tq 19)),og 114 true 117 (.oth (.indexAddr 28 (tq 115) (tq 116))),og 114 true 118 (.ld 3 (tq 117)),og 114 true 119 (.mv (tq 16)),og 114 true 120 (.mv (tq 19)),og 114 true 121 (.oth (.indexAddr 28 (tq 119) (tq 120))),og 114 true 122 (.ld 3 (tq 121)),og 114 true 123 (.bin .neq 3 (tq 118) (tq 122)),oq 124 (.pick (tq 114) (tq 123) (cb false)),oq 125 (.mv (tq 124)),og 125 false 126 (.mv (tq 17)),og 125 false 127 (.mv (tq 19)),og 125 false 128 (.oth (.indexAddr 28 (tq 126) (tq 127))),og 125 false 129 (.ld 3 (tq 128)),og 125 false 130 (.bin .neq 3 (tq 129) (ci 3)),og 125 false 131 (.mv (tq 130)),og 131 true 132 (.mv (tq 14)),og 131 true 133 (.mv (tq 19)),og 131 true 134 (.oth (.indexAddr 28 (tq 132) (tq 133))),og 131 true 135 (.ld 3 (tq 134)),og 131 true 136 (.mv (tq 17)),og 131 true 137 (.mv (tq 19)),og 131 true 138 (.oth (.indexAddr 28 (tq 136) (tq 137))),og 131 true 139 (.ld 3 (tq 138)),og 131 true 140 (.bin .neq 3 (tq 135) (tq 139)),og 125 false 141 (.pick (tq 131) (tq 140) (cb false)),oq 142 (.pick (tq 125) (cb true) (tq 141))],[]⟩]) (some ([3,4,5,13,14,16,17,19],[4,5,27,34,41,43,49,51,147,149,154,156])):=rx
@[simp] theorem x46_11:RX 190 r46_11 (.str [oq 8 (.mv (cb false))]) (some ([],[])):=rx
@[simp] theorem x46_9:RX 190 r46_9 (.str [oq 107 (.mv (tq 19)),oq 108 (.bin .add 3 (tq 107) (ci 1)),oq 19 (.mv (tq 108))]) (some ([3,4,5,13,14,16,17,19],[4,5,27,34,41,43,49,51,147,149,154,156])):=rx
@[simp] theorem x46_12:RX 190 r46_12 (.str [oq 143 (.mv (tq 3)),oq 144 (.bin .lss 3 (tq 143) (ci 0))]) (some ([3,4,5],[4,5,27,34,41,43,49,51,147,149,154,156])):=rx
@[simp] theorem x46_13:RX 190 r46_13 (.str [oq 8 (.mv (cb true))]) (some ([],[])):=rx
@[simp] theorem x46_14:RX 190 r46_14 (.str [oq 146 (.ld 25 (tq 4)),oq 147 (.call false none (.func 22) [tq 146]),oq 148 (.mv (tq 3)),oq 149 (.call false none (.func 33) [tq 147,tq 148]),oq 145 (.mv (tq 149)),oq 150 (.oth (.extract (tq 145) 0)),oq 151 (.oth (.extract (tq 145) 1)),oq 20 (.mv (tq 150)),oq 21 (.mv (tq 151))]) (some ([3,4,5],[4,5,27,34,41,43,49,51,147,149,154,156])):=rx
@[simp] theorem x46_15:RX 190 r46_15 (.str [oq 153 (.ld 25 (tq 5)),oq 154 (.call false none (.func 22) [tq 153]),oq 155 (.mv (tq 3)),oq 156 (.call false none (.func 33) [tq 154,tq 155]),oq 152 (.mv (tq 156)),oq 157 (.oth (.extract (tq 152) 0)),oq 158 (.oth (.extract (tq 152) 1)),oq 22 (.mv (tq 157)),oq 23 (.mv (tq 158))]) (some ([3,5,20,21],[4,5,27,34,41,43,49,51,147,149,154,156])):=rx
@[simp] theorem x46_16:RX 190 r46_16 (.str [oq 24 (.mv (ci 0))]) (some ([20,21,22,23],[4,5,27,34,41,43,49,51,147,149,154,156])):=rx
@[simp] theorem x46_17:RX 190 r46_17 (.str [oq 159 (.mv (tq 24)),oq 160 (.mv (tq 20)),oq 161 (.oth (.call ⟨.builtin .len,#[tq 160],#[32]⟩)),oq 162 (.bin .lss 3 (tq 159) (tq 161))]) (some ([20,21,22,23,24],[4,5,27,34,41,43,49,51,147,149,154,156])):=rx
@[simp] theorem x46_19:RX 190 r46_19 (.drw [⟨[],[oq 165 (.mv (tq 22)),oq 166 (.mv (tq 20)),oq 167 (.mv (tq 24)),oq 168 (.oth (.indexAddr 32 (tq 166) (tq 167))),oq 169 (.fa 96 (tq 168) 0),oq 170 (.ld 3 (tq 169)),oq 171 (.mv (tq 20)),oq 172 (.mv (tq 24)),oq 173 (.oth (.indexAddr 32 (tq 171) (tq 172))),oq 174 (.fa 96 (tq 173) 1),oq 175 (.ld 3 (tq 174)),oq 176 (.mv (tq 20)),oq 177 (.mv (tq 24)),oq 178 (.oth (.indexAddr 32 (tq 176) (tq 177))),oq 179 (.fa 96 (tq 178) 2),oq 180 (.ld 3 (tq 179)),oq 181 (.build 75 [(0,tq 170),(1,tq 175),(2,tq 180)])],[oq 182 (.call false none (.func 66) [tq 165,tq 181])]⟩,⟨[],[oq 183 (.oth (.unOp .not 4 (tq 182)))],[]⟩]) (some ([20,21,22,23,24],[4,5,27,34,41,43,49,51,147,149,154,156])):=rx
@[simp] theorem x46_20:RX 190 r46_20 (.str [oq 8 (.mv (cb false))]) (some ([],[])):=rx
@[simp] theorem x46_18:RX 190 r46_18 (.str [oq 163 (.mv (tq 24)),oq 164 (.bin .add 3 (tq 163) (ci 1)),oq 24 (.mv (tq 164))]) (some ([20,21,22,23,24],[4,5,27,34,41,43,49,51,147,149,154,156])):=rx
@[simp] theorem x46_21:RX 190 r46_21 (.str [oq 184 (.mv (tq 21)),oq 185 (.bin .eql 29 (tq 184) (ci 0)),oq 186 (.mv (tq 185)),og 186 true 187 (.mv (tq 23)),og 186 true 188 (.bin .eql 29 (tq 187) (ci 0)),oq 189 (.pick (tq 186) (tq 188) (cb false)),oq 8 (.mv (tq 189))]) (some ([21,23],[])):=rx
@[simp] theorem l46_8:ann 190 (fstR lb46_8) = some ([3,4,5,13,14,16,17,19],[4,5,27,34,41,43,49,51,147,149,154,156]):=by kernel_rfl
@[simp] theorem l46_17:ann 190 (fstR lb46_17) = some ([20,21,22,23,24],[4,5,27,34,41,43,49,51,147,149,154,156]):=by kernel_rfl
def r18_0:=rg Try.f18 2
def r18_1:=rg Try.f18 9
def r18_2:=rg Try.f18 37
def r18_3:=rg Try.f18 11
def r18_4:=rg Try.f18 39
def r18_5:=rg Try.f18 151
def r18_6:=rg Try.f18 47
def r18_7:=rg Try.f18 95
def r18_8:=rg Try.f18 191
def r18_9:=rg Try.f18 383
def r18_10:=rg Try.f18 767
def r18_11:=rg Try.f18 1535
def r18_12:=rg Try.f18 3071
def r18_13:=rg Try.f18 10239
def r18_14:=rg Try.f18 38911
def r18_15:=rg Try.f18 12287
def r18_16:=rg Try.f18 40959
def r18_17:=rg Try.f18 548863
def r18_19:=rg Try.f18 2252799
def r18_20:=rg Try.f18 9592831
def r18_21:=rg Try.f18 38952959
def r18_22:=rg Try.f18 20078591
def r18_23:=rg Try.f18 45244415
def r18_24:=rg Try.f18 24272895
def r18_25:=rg Try.f18 49438719
def r18_18:=rg Try.f18 942079
def r18_26:=rg Try.f18 81919
def r18_27:=rg Try.f18 1097727
def r18_29:=rg Try.f18 4505599
def r18_30:=rg Try.f18 10797055
def r18_31:=rg Try.f18 40157183
def r18_28:=rg Try.f18 1884159
def r18_32:=rg Try.f18 98303
def lb18_17:Code:=(.seq (.seq r18_17 (.cond (.tmp 182) .skip (.exit 0))) (.seq (.block 1 (.seq r18_19 (.seq (.seq r18_20 (.cond (.tmp 210) (.seq r18_21 .ret) .skip)) (.seq (.seq r18_22 (.cond (.tmp 211) r18_23 .skip)) (.seq r18_24 (.cond (.tmp 214) r18_25 .skip)))))) r18_18))
@[simp] theorem u18_17 (n:Nat) (st:XS):execA Try.prog ann kn n 261 lb18_17 st = execA Try.prog ann kn n 261 (.seq (.seq r18_17 (.cond (.tmp 182) .skip (.exit 0))) (.seq (.block 1 (.seq r18_19 (.seq (.seq r18_20 (.cond (.tmp 210) (.seq r18_21 .ret) .skip)) (.seq (.seq r18_22 (.cond (.tmp 211) r18_23 .skip)) (.seq r18_24 (.cond (.tmp 214) r18_25 .skip)))))) r18_18)) st:=rfl
def lb18_27:Code:=(.seq (.seq r18_27 (.cond (.tmp 220) .skip (.exit 2))) (.seq (.block 3 (.seq r18_29 (.seq r18_30 (.cond (.tmp 240) (.seq r18_31 .ret) .skip)))) r18_28))
@[simp] theorem u18_27 (n:Nat) (st:XS):execA Try.prog ann kn n 261 lb18_27 st = execA Try.prog ann kn n 261 (.seq (.seq r18_27 (.cond (.tmp 220) .skip (.exit 2))) (.seq (.block 3 (.seq r18_29 (.seq r18_30 (.cond (.tmp 240) (.seq r18_31 .ret) .skip)))) r18_28)) st:=rfl
def c18:Code:=(.seq r18_0 (.seq (.seq r18_1 (.cond (.tmp 47) (.seq r18_2 .ret) .skip)) (.seq r18_3 (.seq (.seq r18_4 (.cond (.tmp 57) (.seq r18_5 .ret) .skip)) (.seq r18_6 (.seq r18_7 (.seq r18_8 (.seq r18_9 (.seq r18_10 (.seq r18_11 (.seq r18_12 (.seq (.seq r18_13 (.cond (.tmp 178) (.seq r18_14 .ret) .skip)) (.seq r18_15 (.seq (.seq r18_16 (.block 0 (.loop lb18_17))) (.seq (.seq r18_26 (.block 2 (.loop lb18_27))) (.seq r18_32 .ret))))))))))))))))
theorem b18:Try.f18.body = some c18:=by kernel_rfl
@[simp] theorem x18_0:RX 261 r18_0 (.str [oq 3 (.box (tq 0)),oq 6 (.mv (cb false))]) (some ([0,1,2],[3,7,52,67,69,70,76,78,84,91,97,98,103,158,160,225,227])):=rx
@[simp] theorem x18_1:RX 261 r18_1 (.str [oq 32 (.fa 25 (tq 3) 0),oq 33 (.ld 3 (tq 32)),oq 34 (.call false none (.func 25) [tq 33,ci 1,ci 4]),oq 35 (.oth (.unOp .not 4 (tq 34))),oq 36 (.mv (tq 35)),og 36 false 37 (.fa 25 (tq 3) 1),og 36 false 38 (.ld 3 (tq 37)),og 36 false 39 (.call false none (.func 25) [tq 38,ci 1,ci 99]),og 36 false 40 (.oth (.unOp .not 4 (tq 39))),oq 41 (.pick (tq 36) (cb true) (tq 40)),oq 42 (.mv (tq 41)),og 42 false 43 (.fa 25 (tq 3) 2),og 42 false 44 (.ld 3 (tq 43)),og 42 false 45 (.call false none (.func 25) [tq 44,ci 0,ci 999]),og 42 false 46 (.oth (.unOp .not 4 (tq 45))),oq 47 (.pick (tq 42) (cb true) (tq 46))]) (some ([1,2,3],[3,7,52,67,69,70,76,78,84,91,97,98,103,158,160,225,227])):=rx
@[simp] theorem x18_2:RX 261 r18_2 (.str [oq 48 (.call false none (.func 20) []),oq 6 (.mv (tq 48))]) (some ([],[])):=rx
@[simp] theorem x18_3:RX 261 r18_3 (.str [oq 50 (.ld 25 (tq 3)),oq 51 (.mv (tq 1)),oq 52 (.call false none (.func 61) [tq 50,tq 51]),oq 49 (.mv (tq 52)),oq 53 (.oth (.extract (tq 49) 0)),oq 54 (.oth (.extract (tq 49) 1)),oq 7 (.alloc 25),os (.sto 25 (tq 7) (tq 53)),oq 8 (.mv (tq 54))]) (some ([1,2,3],[3,7,52,67,69,70,76,78,84,91,97,98,103,158,160,225,227])):=rx
@[simp] theorem x18_4:RX 261 r18_4 (.str [oq 55 (.ld 25 (tq 7)),oq 56 (.call false none (.func 42) [tq 55]),oq 57 (.oth (.unOp .not 4 (tq 56)))]) (some ([2,3,7,8],[3,7,52,67,69,70,76,78,84,91,97,98,103,158,160,225,227])):=rx
@[simp] theorem x18_5:RX 261 r18_5 (.str [oq 58 (.call false none (.func 20) []),oq 6 (.mv (tq 58))]) (some ([],[])):=rx
@[simp] theorem x18_6:RX 261 r18_6 (.str [oq 59 (.mv (tq 2)),oq 60 (.oth (.convert 5 3 (tq 59))),oq 61 (.mv (tq 8)),oq 62 (.oth (.call ⟨.builtin .len,#[tq 61],#[22]⟩)),oq 63 (.bin .add 3 (tq 62) (ci 1)),oq 64 (.bin .rem 3 (tq 60) (tq 63)),oq 9 (.mv (tq 64))]) (some ([2,3,7,8],[3,7,52,67,69,70,76,78,84,91,97,98,103,158,160,225,227])):=rx
@[simp] theorem x18_7:RX 261 r18_7 (.str [oq 66 (.ld 25 (tq 7)),oq 67 (.call false none (.func 22) [tq 66]),oq 68 (.mv (tq 8)),oq 69 (.call false none (.func 35) [tq 68]),oq 70 (.call false none (.func 54) [tq 67,tq 69]),oq 65 (.mv (tq 70)),oq 71 (.oth (.extract (tq 65) 0)),oq 72 (.oth (.extract (tq 65) 1)),oq 73 (.oth (.extract (tq 65) 2)),oq 10 (.mv (tq 71)),oq 11 (.mv (tq 72)),oq 12 (.mv (tq 73))]) (some ([3,7,8,9],[3,7,52,67,69,70,76,78,84,91,97,98,103,158,160,225,227])):=rx
@[simp] theorem x18_8:RX 261 r18_8 (.str [oq 75 (.ld 25 (tq 7)),oq 76 (.call false none (.func 22) [tq 75]),oq 77 (.mv (tq 9)),oq 78 (.call false none (.func 21) [tq 76,tq 77]),oq 74 (.mv (tq 78)),oq 79 (.oth (.extract (tq 74) 0)),oq 80 (.oth (.extract (tq 74) 1)),oq 81 (.oth (.extract (tq 74) 2)),oq 13 (.mv (tq 79)),oq 14 (.mv (tq 80)),oq 15 (.mv (tq 81))]) (some ([3,7,8,9,10,11,12],[3,7,52,67,69,70,76,78,84,91,97,98,103,158,160,225,227])):=rx
@[simp] theorem x18_9:RX 261 r18_9 (.str [oq 83 (.ld 25 (tq 7)),oq 84 (.call false none (.func 22) [tq 83]),oq 85 (.mv (tq 9)),oq 86 (.call false none (.func 28) [tq 84,tq 85]),oq 82 (.mv (tq 86)),oq 87 (.oth (.extract (tq 82) 0)),oq 88 (.oth (.extract (tq 82) 1)),oq 16 (.alloc 45),os (.sto 45 (tq 16) (tq 87)),oq 17 (.mv (tq 88))]) (some ([3,7,8,9,10,11,12,13,14,15],[3,7,52,67,69,70,76,78,84,91,97,98,103,158,160,225,227])):=rx
@[simp] theorem x18_10:RX 261 r18_10 (.str [oq 90 (.ld 25 (tq 7)),oq 91 (.call false none (.func 22) [tq 90]),oq 92 (.call false none (.func 29) [tq 91]),oq 89 (.mv (tq 92)),oq 93 (.oth (.extract (tq 89) 0)),oq 94 (.oth (.extract (tq 89) 1)),oq 18 (.alloc 45),os (.sto 45 (tq 18) (tq 93)),oq 19 (.mv (tq 94))]) (some ([3,7,8,9,10,11,12,13,14,15,16,17],[3,7,16,52,67,69,70,76,78,84,91,97,98,103,158,160,225,227])):=rx
@[simp] theorem x18_11:RX 261 r18_11 (.str [oq 96 (.ld 25 (tq 7)),oq 97 (.call false none (.func 22) [tq 96]),oq 98 (.call false none (.func 38) [tq 97]),oq 95 (.mv (tq 98)),oq 99 (.oth (.extract (tq 95) 0)),oq 100 (.oth (.extract (tq 95) 1)),oq 20 (.mv (tq 99)),oq 21 (.mv (tq 100))]) (some ([3,7,8,9,10,11,12,13,14,15,16,17,18,19],[3,7,16,18,52,67,69,70,76,78,84,91,97,98,103,158,160,225,227])):=rx
@[simp] theorem x18_12:RX 261 r18_12 (.str [oq 102 (.ld 25 (tq 7)),oq 103 (.call false none (.func 22) [tq 102]),oq 104 (.call false none (.func 37) [tq 103]),oq 101 (.mv (tq 104)),oq 105 (.oth (.extract (tq 101) 0)),oq 106 (.oth (.extract (tq 101) 1)),oq 22 (.mv (tq 105)),oq 23 (.mv (tq 106))]) (some ([3,7,8,9,10,11,12,13,14,15,16,17,18,19,20,21],[3,7,16,18,52,67,69,70,76,78,84,91,97,98,103,158,160,225,227])):=rx
@[simp] theorem x18_13:RX 261 r18_13 (.drw [⟨[],[oq 107 (.mv (tq 12)),oq 108 (.bin .neq 29 (tq 107) (ci 0)),oq 109 (.mv (tq 108)),og 109 false 110 (.mv (tq 15)),og 109 false 111 (.bin .neq 29 (tq 110) (ci 0)),oq 112 (.pick (tq 109) (cb true) (tq 111)),oq 113 (.mv (tq 112)),og 113 false 114 (.mv (tq 17)),og 113 false 115 (.bin .neq 29 (tq 114) (ci 0)),oq 116 (.pick (tq 113) (cb true) (tq 115)),oq 117 (.mv (tq 116)),og 117 false 118 (.mv (tq 19)),og 117 false 119 (.bin .neq 29 (tq 118) (ci 0)),oq 120 (.pick (tq 117) (cb true) (tq 119)),oq 121 (.mv (tq 120)),og 121 false 122 (.mv (tq 21)),og 121 false 123 (.bin .neq 29 (tq 122) (ci 0)),oq 124 (.pick (tq 121) (cb true) (tq 123)),oq 125 (.mv (tq 124)),og 125 false 126 (.mv (tq 20)),og 125 false 127 (.oth (.call ⟨.builtin .len,#[tq 126],#[28]⟩)),og 125 false 128 (.bin .neq 3 (tq 127) (ci 0)),oq 129 (.pick (tq 125) (cb true) (tq 128)),oq 130 (.mv (tq 129)),og 130 false 131 (.mv (tq 23)),og 130 false 132 (.bin .neq 29 (tq 131) (ci 7)),oq 133 (.pick (tq 130) (cb true) (tq 132)),oq 134 (.mv (tq 133)),og 134 false 135 (.mv (tq 10)),og 134 false 136 (.oth (.call ⟨.builtin .len,#[tq 135],#[28]⟩)),og 134 false 137 (.mv (tq 8)),og 134 false 138 (.oth (.call ⟨.builtin .len,#[tq 137],#[22]⟩)),og 134 false 139 (.bin .add 3 (tq 138) (ci 1)),og 134 false 140 (.bin .neq 3 (tq 136) (tq 139)),oq 141 (.pick (tq 134) (cb true) (tq 140)),oq 142 (.mv (tq 141)),og 142 false 143 (.mv (tq 13)),og 142 false 144 (.oth (.call ⟨.builtin .len,#[tq 143],#[28]⟩)),og 142 false 145 (.fa 25 (tq 3) 0),og 142 false 146 (.ld 3 (tq 145)),og 142 false 147 (.bin .neq 3 (tq 144) (tq 146)),oq 148 (.pick (tq 142) (cb true) (tq 147)),oq 149 (.mv (tq 148)),og 149 false 150 (.mv (tq 14)),og 149 false 151 (.oth (.call ⟨.builtin .len,#[tq 150],#[28]⟩)),og 149 false 152 (.fa 25 (tq 3) 0),og 149 false 153 (.ld 3 (tq 152)),og 149 false 154 (.bin .neq 3 (tq 151) (tq 153)),oq 155 (.pick (tq 149) (cb true) (tq 154)),oq 156 (.mv (tq 155)),og 156 false 157 (.ld 25 (tq 7)),og 156 false 158 (.call false none (.func 22) [tq 157]),og 156 false 159 (.mv (tq 8))],[og 156 false 160 (.call false none (.func 35) [tq 159])]⟩,⟨[],[],[og 156 false 161 (.call false none (.func 53) [tq 158,tq 160])]⟩,⟨[],[og 156 false 162 (.oth (.unOp .not 4 (tq 161))),oq 163 (.pick (tq 156) (cb true) (tq 162)),oq 164 (.mv (tq 163)),og 164 false 165 (.mv (tq 10)),og 164 false 166 (.mv (tq 9)),og 164 false 167 (.oth (.indexAddr 28 (tq 165) (tq 166))),og 164 false 168 (.ld 3 (tq 167)),og 164 false 169 (.ld 45 (tq 16))],[og 164 false 170 (.call false none (.func 62) [tq 168,tq 169])]⟩,⟨[],[og 164 false 171 (.oth (.unOp .not 4 (tq 170))),oq 172 (.pick (tq 164) (cb true) (tq 171)),oq 173 (.mv (tq 172)),og 173 false 174 (.mv (tq 11)),og 173 false 175 (.ld 45 (tq 18))],[og 173 false 176 (.call false none (.func 62) [tq 174,tq 175])]⟩,⟨[],[og 173 false 177 (.oth (.unOp .not 4 (tq 176))),oq 178 (.pick (tq 173) (cb true) (tq 177))],[]⟩]) (some ([3,7,8,9,10,11,12,13,14,15,16,17,18,19,20,21,23],[3,7,16,18,52,67,69,70,76,78,84,91,97,98,103,225,227])):=rx
@[simp] theorem x18_15:RX 261 r18_15 (.str [oq 24 (.mv (ci 0)),oq 25 (.mv (ci 0))]) (some ([3,7,8,9,10,13,14],[3,7,52,67,69,70,76,78,84,91,97,98,103,158,160,225,227])):=rx
@[simp] theorem x18_16:RX 261 r18_16 (.str [oq 26 (.mv (ci 0))]) (some ([3,7,8,9,10,13,14,24,25],[3,7,52,67,69,70,76,78,84,91,97,98,103,158,160,225,227])):=rx
@[simp] theorem x18_17:RX 261 r18_17 (.str [oq 179 (.mv (tq 26)),oq 180 (.fa 25 (tq 3) 0),oq 181 (.ld 3 (tq 180)),oq 182 (.bin .lss 3 (tq 179) (tq 181))]) (some ([3,7,8,9,10,13,14,24,25,26],[3,7,52,67,69,70,76,78,84,91,97,98,103,158,160,225,227])):=rx
@[simp] theorem x18_19:RX 261 r18_19 (.str [oq 185 (.mv (tq 8)),oq 186 (.mv (tq 9)),oq 187 (.mv (tq 26)),oq 188 (.call false none (.func 63) [tq 185,tq 186,tq 187]),oq 189 (.bin .geq 3 (tq 188) (ci 0)),oq 190 (.mv (tq 8)),oq 191 (.mv (tq 9)),oq 192 (.mv (tq 26)),oq 193 (.call false none (.func 64) [tq 190,tq 191,tq 192]),oq 194 (.bin .geq 3 (tq 193) (ci 0)),oq 27 (.mv (tq 189)),oq 28 (.mv (tq 194))]) (some ([3,7,8,9,10,13,14,24,25,26],[3,7,52,67,69,70,76,78,84,91,97,98,103,158,160,225,227])):=rx
@[simp] theorem x18_20:RX 261 r18_20 (.str [oq 195 (.mv (tq 13)),oq 196 (.mv (tq 26)),oq 197 (.oth (.indexAddr 28 (tq 195) (tq 196))),oq 198 (.ld 3 (tq 197)),oq 199 (.mv (tq 27)),oq 200 (.call false none (.func 65) [tq 198,tq 199]),oq 201 (.oth (.unOp .not 4 (tq 200))),oq 202 (.mv (tq 201)),og 202 false 203 (.mv (tq 14)),og 202 false 204 (.mv (tq 26)),og 202 false 205 (.oth (.indexAddr 28 (tq 203) (tq 204))),og 202 false 206 (.ld 3 (tq 205)),og 202 false 207 (.mv (tq 28)),og 202 false 208 (.call false none (.func 65) [tq 206,tq 207]),og 202 false 209 (.oth (.unOp .not 4 (tq 208))),oq 210 (.pick (tq 202) (cb true) (tq 209))]) (some ([3,7,8,9,10,13,14,24,25,26,27,28],[3,7,52,67,69,70,76,78,84,91,97,98,103,158,160,225,227])):=rx
@[simp] theorem x18_22:RX 261 r18_22 (.str [oq 211 (.mv (tq 27))]) (some ([3,7,8,9,10,13,14,24,25,26,27,28],[3,7,52,67,69,70,76,78,84,91,97,98,103,158,160,225,227])):=rx
@[simp] theorem x18_23:RX 261 r18_23 (.str [oq 212 (.mv (tq 24)),oq 213 (.bin .add 3 (tq 212) (ci 1)),oq 24 (.mv (tq 213))]) (some ([3,7,8,9,10,13,14,24,25,26,28],[3,7,52,67,69,70,76,78,84,91,97,98,103,158,160,225,227])):=rx
@[simp] theorem x18_24:RX 261 r18_24 (.str [oq 214 (.mv (tq 28))]) (some ([3,7,8,9,10,13,14,24,25,26,28],[3,7,52,67,69,70,76,78,84,91,97,98,103,158,160,225,227])):=rx
@[simp] theorem x18_25:RX 261 r18_25 (.str [oq 215 (.mv (tq 25)),oq 216 (.bin .add 3 (tq 215) (ci 1)),oq 25 (.mv (tq 216))]) (some ([3,7,8,9,10,13,14,24,25,26],[3,7,52,67,69,70,76,78,84,91,97,98,103,158,160,225,227])):=rx
@[simp] theorem x18_18:RX 261 r18_18 (.str [oq 183 (.mv (tq 26)),oq 184 (.bin .add 3 (tq 183) (ci 1)),oq 26 (.mv (tq 184))]) (some ([3,7,8,9,10,13,14,24,25,26],[3,7,52,67,69,70,76,78,84,91,97,98,103,158,160,225,227])):=rx
@[simp] theorem x18_26:RX 261 r18_26 (.str [oq 29 (.mv (ci 0))]) (some ([3,7,8,9,10,24,25],[3,7,52,67,69,70,76,78,84,91,97,98,103,158,160,225,227])):=rx
@[simp] theorem x18_27:RX 261 r18_27 (.str [oq 217 (.mv (tq 29)),oq 218 (.mv (tq 8)),oq 219 (.oth (.call ⟨.builtin .len,#[tq 218],#[22]⟩)),oq 220 (.bin .lss 3 (tq 217) (tq 219))]) (some ([3,7,8,9,10,24,25,29],[3,7,52,67,69,70,76,78,84,91,97,98,103,158,160,225,227])):=rx
@[simp] theorem x18_29:RX 261 r18_29 (.str [oq 224 (.ld 25 (tq 7)),oq 225 (.call false none (.func 22) [tq 224]),oq 226 (.mv (tq 29)),oq 227 (.call false none (.func 33) [tq 225,tq 226]),oq 223 (.mv (tq 227)),oq 228 (.oth (.extract (tq 223) 0)),oq 229 (.oth (.extract (tq 223) 1)),oq 30 (.mv (tq 228)),oq 31 (.mv (tq 229))]) (some ([3,7,8,9,10,24,25,29],[3,7,52,67,69,70,76,78,84,91,97,98,103,158,160,225,227])):=rx
@[simp] theorem x18_30:RX 261 r18_30 (.str [oq 230 (.mv (tq 31)),oq 231 (.bin .neq 29 (tq 230) (ci 0)),oq 232 (.mv (tq 231)),og 232 false 233 (.mv (tq 30)),og 232 false 234 (.mv (tq 8)),og 232 false 235 (.mv (tq 29)),og 232 false 236 (.oth (.indexAddr 22 (tq 234) (tq 235))),og 232 false 237 (.ld 75 (tq 236)),og 232 false 238 (.call false none (.func 66) [tq 233,tq 237]),og 232 false 239 (.oth (.unOp .not 4 (tq 238))),oq 240 (.pick (tq 232) (cb true) (tq 239))]) (some ([3,7,8,9,10,24,25,29,30,31],[3,7,52,67,69,70,76,78,84,91,97,98,103,158,160,225,227])):=rx
@[simp] theorem x18_28:RX 261 r18_28 (.str [oq 221 (.mv (tq 29)),oq 222 (.bin .add 3 (tq 221) (ci 1)),oq 29 (.mv (tq 222))]) (some ([3,7,8,9,10,24,25,29],[3,7,52,67,69,70,76,78,84,91,97,98,103,158,160,225,227])):=rx
@[simp] theorem x18_32:RX 261 r18_32 (.drw [⟨[],[oq 241 (.mv (tq 24)),oq 242 (.mv (tq 25)),oq 243 (.bin .eql 3 (tq 241) (tq 242)),oq 244 (.mv (tq 243)),og 244 true 245 (.mv (tq 10)),og 244 true 246 (.mv (tq 9)),og 244 true 247 (.oth (.indexAddr 28 (tq 245) (tq 246))),og 244 true 248 (.ld 3 (tq 247)),og 244 true 249 (.fa 25 (tq 3) 2),og 244 true 250 (.ld 3 (tq 249)),og 244 true 251 (.fa 25 (tq 3) 1),og 244 true 252 (.ld 3 (tq 251)),og 244 true 253 (.mv (tq 24)),og 244 true 254 (.bin .mul 3 (tq 252) (tq 253)),og 244 true 255 (.bin .add 3 (tq 250) (tq 254)),og 244 true 256 (.bin .eql 3 (tq 248) (tq 255)),oq 257 (.pick (tq 244) (tq 256) (cb false)),oq 258 (.mv (tq 257))],[og 258 true 259 (.call false none (.func 20) [])]⟩,⟨[],[oq 260 (.pick (tq 258) (tq 259) (cb false)),oq 6 (.mv (tq 260))],[]⟩]) (some ([3,9,10,24,25],[3,7,52,67,69,70,76,78,84,91,97,98,103,158,160,225,227])):=rx
@[simp] theorem l18_17:ann 261 (fstR lb18_17) = some ([3,7,8,9,10,13,14,24,25,26],[3,7,52,67,69,70,76,78,84,91,97,98,103,158,160,225,227]):=by kernel_rfl
@[simp] theorem l18_27:ann 261 (fstR lb18_27) = some ([3,7,8,9,10,24,25,29],[3,7,52,67,69,70,76,78,84,91,97,98,103,158,160,225,227]):=by kernel_rfl
def r62_0:=rg Try.f62 2
def r62_1:=rg Try.f62 5
def c62:Code:=(.seq r62_0 (.seq r62_1 .ret))
theorem b62:Try.f62.body = some c62:=by kernel_rfl
@[simp] theorem x62_0:RX 15 r62_0 (.str [oq 3 (.box (tq 1)),oq 4 (.mv (cb false))]) (some ([0,1],[])):=rx
@[simp] theorem x62_1:RX 15 r62_1 (.str [oq 5 (.mv (tq 0)),oq 6 (.fa 45 (tq 3) 0),oq 7 (.ld 3 (tq 6)),oq 8 (.bin .geq 3 (tq 5) (tq 7)),oq 9 (.mv (tq 8)),og 9 true 10 (.mv (tq 0)),og 9 true 11 (.fa 45 (tq 3) 1),og 9 true 12 (.ld 3 (tq 11)),og 9 true 13 (.bin .leq 3 (tq 10) (tq 12)),oq 14 (.pick (tq 9) (tq 13) (cb false)),oq 4 (.mv (tq 14))]) (some ([0,1,2,3,4],[2,3,4])):=rx
def r65_0:=rg Try.f65 2
def r65_1:=rg Try.f65 5
def c65:Code:=(.seq r65_0 (.seq r65_1 .ret))
theorem b65:Try.f65.body = some c65:=by kernel_rfl
@[simp] theorem x65_0:RX 22 r65_0 (.str [oq 4 (.mv (cb false))]) (some ([0,1],[])):=rx
@[simp] theorem x65_1:RX 22 r65_1 (.str [oq 5 (.mv (tq 0)),oq 6 (.call false none (.func 25) [tq 5,ci 1,ci 3]),oq 7 (.mv (tq 6)),og 7 true 8 (.mv (tq 0)),og 7 true 9 (.bin .neq 3 (tq 8) (ci 1)),og 7 true 10 (.mv (tq 9)),og 10 false 11 (.mv (tq 1)),og 7 true 12 (.pick (tq 10) (cb true) (tq 11)),oq 13 (.pick (tq 7) (tq 12) (cb false)),oq 14 (.mv (tq 13)),og 14 true 15 (.mv (tq 0)),og 14 true 16 (.bin .neq 3 (tq 15) (ci 2)),og 14 true 17 (.mv (tq 16)),og 17 false 18 (.mv (tq 1)),og 17 false 19 (.oth (.unOp .not 4 (tq 18))),og 14 true 20 (.pick (tq 17) (cb true) (tq 19)),oq 21 (.pick (tq 14) (tq 20) (cb false)),oq 4 (.mv (tq 21))]) (some ([0,1],[])):=rx
def r8_0:=rg Try.f8 2
def r8_1:=rg Try.f8 5
def r8_2:=rg Try.f8 11
def r8_3:=rg Try.f8 23
def r8_4:=rg Try.f8 47
def r8_5:=rg Try.f8 159
def r8_6:=rg Try.f8 2143
def r8_8:=rg Try.f8 8799
def r8_9:=rg Try.f8 21087
def r8_10:=rg Try.f8 78431
def r8_11:=rg Try.f8 176735
def r8_12:=rg Try.f8 94815
def r8_13:=rg Try.f8 127583
def r8_7:=rg Try.f8 3679
def r8_14:=rg Try.f8 191
def r8_15:=rg Try.f8 639
def r8_16:=rg Try.f8 2431
def r8_17:=rg Try.f8 767
def lb8_6:Code:=(.seq (.seq r8_6 (.cond (.tmp 24) .skip (.exit 0))) (.seq (.block 1 (.seq r8_8 (.seq r8_9 (.seq (.seq r8_10 (.cond (.tmp 59) r8_11 .skip)) (.seq r8_12 r8_13))))) r8_7))
@[simp] theorem u8_6 (n:Nat) (st:XS):execA Try.prog ann kn n 97 lb8_6 st = execA Try.prog ann kn n 97 (.seq (.seq r8_6 (.cond (.tmp 24) .skip (.exit 0))) (.seq (.block 1 (.seq r8_8 (.seq r8_9 (.seq (.seq r8_10 (.cond (.tmp 59) r8_11 .skip)) (.seq r8_12 r8_13))))) r8_7)) st:=rfl
def c8:Code:=(.seq r8_0 (.seq r8_1 (.seq r8_2 (.seq r8_3 (.seq r8_4 (.seq (.seq r8_5 (.block 0 (.loop lb8_6))) (.seq r8_14 (.seq (.seq r8_15 (.cond (.tmp 77) (.seq r8_16 .ret) .skip)) (.seq r8_17 .ret)))))))))
theorem b8:Try.f8.body = some c8:=by kernel_rfl
@[simp] theorem x8_0:RX 97 r8_0 (.str [oq 4 (.mv (cb false))]) (some ([0,1],[])):=rx
@[simp] theorem x8_1:RX 97 r8_1 (.str [oq 14 (.mv (tq 0)),oq 15 (.oth (.convert 5 3 (tq 14))),oq 16 (.bin .rem 3 (tq 15) (ci 4)),oq 17 (.bin .add 3 (tq 16) (ci 1)),oq 5 (.mv (tq 17))]) (some ([0,1],[])):=rx
@[simp] theorem x8_2:RX 97 r8_2 (.str [oq 18 (.mv (tq 5)),oq 19 (.build 25 [(0,tq 18),(1,ci 1)]),oq 6 (.alloc 25),os (.sto 25 (tq 6) (tq 19))]) (some ([1,5],[])):=rx
@[simp] theorem x8_3:RX 97 r8_3 (.str [oq 7 (.mv (.const (.int .i64 (Int.negSucc 0))))]) (some ([1,5,6],[6,68,72])):=rx
@[simp] theorem x8_4:RX 97 r8_4 (.str [oq 8 (.mv (ci 0))]) (some ([1,5,6,7],[6,68,72])):=rx
@[simp] theorem x8_5:RX 97 r8_5 (.str [oq 9 (.mv (ci 0))]) (some ([1,5,6,7,8],[6,68,72])):=rx
@[simp] theorem x8_6:RX 97 r8_6 (.str [oq 20 (.mv (tq 9)),oq 21 (.mv (tq 1)),oq 22 (.oth (.call ⟨.builtin .len,#[tq 21],#[72]⟩)),oq 23 (.oth (.call ⟨.builtin .min,#[ci 8,tq 22],#[3,3]⟩)),oq 24 (.bin .lss 3 (tq 20) (tq 23))]) (some ([1,5,6,7,8,9],[6,68,72])):=rx
@[simp] theorem x8_8:RX 97 r8_8 (.drw [⟨[10],[oq 27 (.mv (tq 1)),oq 28 (.mv (tq 9)),oq 29 (.oth (.indexAddr 72 (tq 27) (tq 28))),oq 30 (.ld 73 (tq 29)),oq 31 (.oth (.convert 73 3 (tq 30))),oq 32 (.mv (tq 5)),oq 33 (.bin .rem 3 (tq 31) (tq 32)),oq 34 (.mv (tq 1)),oq 35 (.mv (tq 9)),oq 36 (.oth (.indexAddr 72 (tq 34) (tq 35))),oq 37 (.ld 73 (tq 36)),oq 38 (.oth (.convert 73 3 (tq 37))),oq 39 (.bin .quo 3 (tq 38) (ci 8)),oq 40 (.mv (tq 5)),oq 41 (.bin .rem 3 (tq 39) (tq 40)),oq 42 (.build 75 [(0,ci 1),(1,tq 33),(2,tq 41)]),oq 10 (.alloc 75)],[os (.sto 75 (tq 10) (tq 42))]⟩]) (some ([1,5,6,7,8,9],[6,68,72])):=rx
@[simp] theorem x8_9:RX 97 r8_9 (.str [oq 43 (.fa 75 (tq 10) 1),oq 44 (.ld 3 (tq 43)),oq 45 (.oth (.convert 3 70 (tq 44))),oq 46 (.bin .shl 3 (ci 1) (tq 45)),oq 47 (.fa 75 (tq 10) 2),oq 48 (.ld 3 (tq 47)),oq 49 (.oth (.convert 3 70 (tq 48))),oq 50 (.bin .shl 3 (ci 16) (tq 49)),oq 51 (.bin .or 3 (tq 46) (tq 50)),oq 11 (.mv (tq 51))]) (some ([1,5,6,7,8,9,10],[6,10,68,72])):=rx
@[simp] theorem x8_10:RX 97 r8_10 (.str [oq 52 (.mv (tq 7)),oq 53 (.bin .lss 3 (tq 52) (ci 0)),oq 54 (.mv (tq 53)),og 54 true 55 (.mv (tq 8)),og 54 true 56 (.mv (tq 11)),og 54 true 57 (.bin .and 3 (tq 55) (tq 56)),og 54 true 58 (.bin .neq 3 (tq 57) (ci 0)),oq 59 (.pick (tq 54) (tq 58) (cb false))]) (some ([1,5,6,7,8,9,10,11],[6,10,68,72])):=rx
@[simp] theorem x8_11:RX 97 r8_11 (.str [oq 60 (.mv (tq 9)),oq 7 (.mv (tq 60))]) (some ([1,5,6,8,9,10,11],[6,10,68,72])):=rx
@[simp] theorem x8_12:RX 97 r8_12 (.str [oq 61 (.mv (tq 8)),oq 62 (.mv (tq 11)),oq 63 (.bin .or 3 (tq 61) (tq 62)),oq 8 (.mv (tq 63))]) (some ([1,5,6,7,8,9,10,11],[6,10,68,72])):=rx
@[simp] theorem x8_13:RX 97 r8_13 (.str [oq 64 (.fa 25 (tq 6) 3),oq 65 (.ld 22 (tq 64)),oq 66 (.ld 75 (tq 10)),oq 67 (.buildS 22 1 [(0,tq 66)]),oq 68 (.app [tq 65,tq 67] [22,22]),oq 69 (.fa 25 (tq 6) 3),os (.sto 22 (tq 69) (tq 68))]) (some ([1,5,6,7,8,9,10],[6,10,68,72])):=rx
@[simp] theorem x8_7:RX 97 r8_7 (.str [oq 25 (.mv (tq 9)),oq 26 (.bin .add 3 (tq 25) (ci 1)),oq 9 (.mv (tq 26))]) (some ([1,5,6,7,8,9],[6,68,72])):=rx
@[simp] theorem x8_14 (n:Nat) (st:XS):execA Try.prog ann kn (n + 1) 97 r8_14 st = toN (runR Try.prog (envA Try.prog ann kn n) (.str [oq 71 (.ld 25 (tq 6)),oq 72 (.call false none (.func 22) [tq 71]),oq 73 (.call false none (.func 37) [tq 72]),oq 70 (.mv (tq 73)),oq 74 (.oth (.extract (tq 70) 0)),oq 75 (.oth (.extract (tq 70) 1)),oq 12 (.mv (tq 74)),oq 13 (.mv (tq 75))]) (trimO (some ([6,7],[6,68,72])) (toldO [68] st))) :=
 exec_regT (by kernel_rfl) (by kernel_rfl) (by kernel_rfl) (by kernel_rfl) (by kernel_rfl)
@[simp] theorem x8_15:RX 97 r8_15 (.str [oq 76 (.mv (tq 7)),oq 77 (.bin .lss 3 (tq 76) (ci 0))]) (some ([7,12,13],[])):=rx
@[simp] theorem x8_16:RX 97 r8_16 (.str [oq 78 (.mv (tq 13)),oq 79 (.bin .eql 29 (tq 78) (ci 7)),oq 80 (.mv (tq 79)),og 80 true 81 (.mv (tq 12)),og 80 true 82 (.bin .eql 3 (tq 81) (ci 0)),oq 83 (.pick (tq 80) (tq 82) (cb false)),oq 84 (.mv (tq 83)),og 84 true 85 (.call false none (.func 20) []),oq 86 (.pick (tq 84) (tq 85) (cb false)),oq 4 (.mv (tq 86))]) (some ([12,13],[])):=rx
@[simp] theorem x8_17:RX 97 r8_17 (.str [oq 87 (.mv (tq 13)),oq 88 (.bin .eql 29 (tq 87) (ci 0)),oq 89 (.mv (tq 88)),og 89 true 90 (.mv (tq 12)),og 89 true 91 (.mv (tq 7)),og 89 true 92 (.bin .eql 3 (tq 90) (tq 91)),oq 93 (.pick (tq 89) (tq 92) (cb false)),oq 94 (.mv (tq 93)),og 94 true 95 (.call false none (.func 20) []),oq 96 (.pick (tq 94) (tq 95) (cb false)),oq 4 (.mv (tq 96))]) (some ([7,12,13],[])):=rx
@[simp] theorem l8_6:ann 97 (fstR lb8_6) = some ([1,5,6,7,8,9],[6,68,72]):=by kernel_rfl
end
end Go.Proofs.Try.Op
