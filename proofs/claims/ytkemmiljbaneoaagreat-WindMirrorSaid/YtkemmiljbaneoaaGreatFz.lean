/- The walk's ground of function 31: its regions worked out. No condition. -/
import Derived.Test.YtkemmiljbaneoaaGreatGa
set_option maxRecDepth 100000
namespace Go.Proofs.Tryz.Op
open Go Go.Pg
noncomputable section
def r31_0:=rg Tryz.f31 2
def r31_1:=rg Tryz.f31 5
def c31:Code:=(.seq r31_0 (.seq r31_1 .ret))
theorem b31:Tryz.f31.body = some c31:=by kernel_rfl
@[simp] theorem x31_0:RX 15 r31_0 (.str [oq 6 (.mv (cb false))]) (some ([0,1,2],[])):=rx
@[simp] theorem x31_1:RX 15 r31_1 (.str [oq 7 (.mv (tq 0)),oq 8 (.mv (tq 1)),oq 9 (.bin .geq 3 (tq 7) (tq 8)),oq 10 (.mv (tq 9)),og 10 true 11 (.mv (tq 0)),og 10 true 12 (.mv (tq 2)),og 10 true 13 (.bin .leq 3 (tq 11) (tq 12)),oq 14 (.pick (tq 10) (tq 13) (cb false)),oq 6 (.mv (tq 14))]) (some ([0,1,2],[])):=rx
def r82_0:=rg Tryz.f82 2
def r82_1:=rg Tryz.f82 9
def r82_2:=rg Tryz.f82 133
def r82_4:=rg Tryz.f82 549
def r82_5:=rg Tryz.f82 2341
def r82_3:=rg Tryz.f82 229
def r82_6:=rg Tryz.f82 11
def lb82_2:Code:=(.seq (.seq r82_2 (.cond (.tmp 9) .skip (.exit 0))) (.seq (.block 1 (.seq r82_4 (.cond (.tmp 18) (.seq r82_5 .ret) .skip))) r82_3))
@[simp] theorem u82_2 (n:Nat) (st:XS):execA Tryz.prog ann kn n 19 lb82_2 st = execA Tryz.prog ann kn n 19 (.seq (.seq r82_2 (.cond (.tmp 9) .skip (.exit 0))) (.seq (.block 1 (.seq r82_4 (.cond (.tmp 18) (.seq r82_5 .ret) .skip))) r82_3)) st:=rfl
def c82:Code:=(.seq r82_0 (.seq (.seq r82_1 (.block 0 (.loop lb82_2))) (.seq r82_6 .ret)))
theorem b82:Tryz.f82.body = some c82:=by kernel_rfl
@[simp] theorem x82_0:RX 19 r82_0 (.str [oq 4 (.mv (cb false))]) (some ([0,1],[])):=rx
@[simp] theorem x82_1:RX 19 r82_1 (.str [oq 5 (.mv (ci 0))]) (some ([0,1],[])):=rx
@[simp] theorem x82_2:RX 19 r82_2 (.str [oq 6 (.mv (tq 5)),oq 7 (.mv (tq 0)),oq 8 (.oth (.call ⟨.builtin .len,#[tq 7],#[22]⟩)),oq 9 (.bin .lss 3 (tq 6) (tq 8))]) (some ([0,1,5],[])):=rx
@[simp] theorem x82_4:RX 19 r82_4 (.str [oq 12 (.mv (tq 0)),oq 13 (.mv (tq 5)),oq 14 (.oth (.indexAddr 22 (tq 12) (tq 13))),oq 15 (.ld 3 (tq 14)),oq 16 (.mv (tq 1)),oq 17 (.call false none (.func 31) [tq 15,tq 16,ci 3]),oq 18 (.oth (.unOp .not 4 (tq 17)))]) (some ([0,1,5],[])):=rx
@[simp] theorem x82_5:RX 19 r82_5 (.str [oq 4 (.mv (cb false))]) (some ([],[])):=rx
@[simp] theorem x82_3:RX 19 r82_3 (.str [oq 10 (.mv (tq 5)),oq 11 (.bin .add 3 (tq 10) (ci 1)),oq 5 (.mv (tq 11))]) (some ([0,1,5],[])):=rx
@[simp] theorem x82_6:RX 19 r82_6 (.str [oq 4 (.mv (cb true))]) (some ([],[])):=rx
@[simp] theorem l82_2:ann 19 (fstR lb82_2) = some ([0,1,5],[]):=by kernel_rfl
def r30_0:=rg Tryz.f30 2
def r30_1:=rg Tryz.f30 5
def c30:Code:=(.seq r30_0 (.seq r30_1 .ret))
theorem b30:Tryz.f30.body = some c30:=by kernel_rfl
@[simp] theorem x30_0:RX 19 r30_0 (.str [oq 2 (.box (tq 0)),oq 3 (.box (tq 1)),oq 4 (.mv (cb false))]) (some ([0,1],[2])):=rx
@[simp] theorem x30_1:RX 19 r30_1 (.str [oq 5 (.fa 50 (tq 3) 0),oq 6 (.ld 3 (tq 5)),oq 7 (.fa 27 (tq 2) 1),oq 8 (.ld 3 (tq 7)),oq 9 (.bin .sub 3 (tq 8) (ci 1)),oq 10 (.call false none (.func 31) [tq 6,ci 0,tq 9]),oq 11 (.mv (tq 10)),og 11 true 12 (.fa 50 (tq 3) 1),og 11 true 13 (.ld 3 (tq 12)),og 11 true 14 (.fa 27 (tq 2) 2),og 11 true 15 (.ld 3 (tq 14)),og 11 true 16 (.bin .sub 3 (tq 15) (ci 1)),og 11 true 17 (.call false none (.func 31) [tq 13,ci 0,tq 16]),oq 18 (.pick (tq 11) (tq 17) (cb false)),oq 4 (.mv (tq 18))]) (some ([2,3],[2,3])):=rx
def r51_0:=rg Tryz.f51 2
def r51_1:=rg Tryz.f51 9
def r51_2:=rg Tryz.f51 133
def r51_4:=rg Tryz.f51 549
def r51_5:=rg Tryz.f51 2341
def r51_3:=rg Tryz.f51 229
def r51_6:=rg Tryz.f51 11
def lb51_2:Code:=(.seq (.seq r51_2 (.cond (.tmp 9) .skip (.exit 0))) (.seq (.block 1 (.seq r51_4 (.cond (.tmp 17) (.seq r51_5 .ret) .skip))) r51_3))
@[simp] theorem u51_2 (n:Nat) (st:XS):execA Tryz.prog ann kn n 18 lb51_2 st = execA Tryz.prog ann kn n 18 (.seq (.seq r51_2 (.cond (.tmp 9) .skip (.exit 0))) (.seq (.block 1 (.seq r51_4 (.cond (.tmp 17) (.seq r51_5 .ret) .skip))) r51_3)) st:=rfl
def c51:Code:=(.seq r51_0 (.seq (.seq r51_1 (.block 0 (.loop lb51_2))) (.seq r51_6 .ret)))
theorem b51:Tryz.f51.body = some c51:=by kernel_rfl
@[simp] theorem x51_0:RX 18 r51_0 (.str [oq 4 (.mv (cb false))]) (some ([0,1,2,3],[])):=rx
@[simp] theorem x51_1:RX 18 r51_1 (.str [oq 5 (.mv (ci 0))]) (some ([0,1],[])):=rx
@[simp] theorem x51_2:RX 18 r51_2 (.str [oq 6 (.mv (tq 5)),oq 7 (.mv (tq 0)),oq 8 (.oth (.call ⟨.builtin .len,#[tq 7],#[22]⟩)),oq 9 (.bin .lss 3 (tq 6) (tq 8))]) (some ([0,1,5],[])):=rx
@[simp] theorem x51_4:RX 18 r51_4 (.str [oq 12 (.mv (tq 0)),oq 13 (.mv (tq 5)),oq 14 (.oth (.indexAddr 22 (tq 12) (tq 13))),oq 15 (.ld 3 (tq 14)),oq 16 (.mv (tq 1)),oq 17 (.bin .eql 3 (tq 15) (tq 16))]) (some ([0,1,5],[])):=rx
@[simp] theorem x51_5:RX 18 r51_5 (.str [oq 4 (.mv (cb true))]) (some ([],[])):=rx
@[simp] theorem x51_3:RX 18 r51_3 (.str [oq 10 (.mv (tq 5)),oq 11 (.bin .add 3 (tq 10) (ci 1)),oq 5 (.mv (tq 11))]) (some ([0,1,5],[])):=rx
@[simp] theorem x51_6:RX 18 r51_6 (.str [oq 4 (.mv (cb false))]) (some ([],[])):=rx
@[simp] theorem l51_2:ann 18 (fstR lb51_2) = some ([0,1,5],[]):=by kernel_rfl
def r55_0:=rg Tryz.f55 2
def r55_1:=rg Tryz.f55 5
def c55:Code:=(.seq r55_0 (.seq r55_1 .ret))
theorem b55:Tryz.f55.body = some c55:=by kernel_rfl
@[simp] theorem x55_0:RX 6 r55_0 (.str [oq 2 (.mv (.const (.slice none 0 0)))]) (some ([0,1],[])):=rx
@[simp] theorem x55_1:RX 6 r55_1 (.str [oq 3 (.buildS 22 0 []),oq 4 (.mv (tq 0)),oq 5 (.app [tq 3,tq 4] [22,22]),oq 2 (.mv (tq 5))]) (some ([0,1],[])):=rx
def r18_0:=rg Tryz.f18 2
def r18_1:=rg Tryz.f18 5
def r18_2:=rg Tryz.f18 19
def r18_3:=rg Tryz.f18 267
def r18_5:=rg Tryz.f18 587
def r18_4:=rg Tryz.f18 459
def r18_6:=rg Tryz.f18 23
def lb18_3:Code:=(.seq (.seq r18_3 (.cond (.tmp 9) .skip (.exit 0))) (.seq (.block 1 r18_5) r18_4))
@[simp] theorem u18_3 (n:Nat) (st:XS):execA Tryz.prog ann kn n 21 lb18_3 st = execA Tryz.prog ann kn n 21 (.seq (.seq r18_3 (.cond (.tmp 9) .skip (.exit 0))) (.seq (.block 1 r18_5) r18_4)) st:=rfl
def c18:Code:=(.seq r18_0 (.seq r18_1 (.seq (.seq r18_2 (.block 0 (.loop lb18_3))) (.seq r18_6 .ret))))
theorem b18:Tryz.f18.body = some c18:=by kernel_rfl
@[simp] theorem x18_0:RX 21 r18_0 (.str [oq 2 (.mv (.const (.slice none 0 0)))]) (some ([0],[17])):=rx
@[simp] theorem x18_1:RX 21 r18_1 (.str [oq 5 (.buildS 23 0 []),oq 3 (.mv (tq 5))]) (some ([0],[17])):=rx
@[simp] theorem x18_2:RX 21 r18_2 (.str [oq 4 (.mv (ci 0))]) (some ([0,1,3],[1,17,19])):=rx
@[simp] theorem x18_3:RX 21 r18_3 (.str [oq 6 (.mv (tq 4)),oq 7 (.mv (tq 0)),oq 8 (.oth (.call ⟨.builtin .len,#[tq 7],#[23]⟩)),oq 9 (.bin .lss 3 (tq 6) (tq 8))]) (some ([0,3,4],[17,19])):=rx
@[simp] theorem x18_5:RX 21 r18_5 (.str [oq 12 (.mv (tq 3)),oq 13 (.mv (tq 0)),oq 14 (.mv (tq 4)),oq 15 (.oth (.indexAddr 23 (tq 13) (tq 14))),oq 16 (.ld 22 (tq 15)),oq 17 (.call false none (.func 55) [tq 16]),oq 18 (.buildS 23 1 [(0,tq 17)]),oq 19 (.app [tq 12,tq 18] [23,23]),oq 3 (.mv (tq 19))]) (some ([0,1,3,4],[1,17,19])):=rx
@[simp] theorem x18_4:RX 21 r18_4 (.str [oq 10 (.mv (tq 4)),oq 11 (.bin .add 3 (tq 10) (ci 1)),oq 4 (.mv (tq 11))]) (some ([0,1,3,4],[1,17,19])):=rx
@[simp] theorem x18_6:RX 21 r18_6 (.str [oq 20 (.mv (tq 3)),oq 2 (.mv (tq 20))]) (some ([3],[19])):=rx
@[simp] theorem l18_3:ann 21 (fstR lb18_3) = some ([0,3,4],[17,19]):=by kernel_rfl
def r28_0:=rg Tryz.f28 2
def r28_1:=rg Tryz.f28 5
def c28:Code:=(.seq r28_0 (.seq r28_1 .ret))
theorem b28:Tryz.f28.body = some c28:=by kernel_rfl
@[simp] theorem x28_0:RX 8 r28_0 (.str [oq 1 (.box (tq 0)),oq 2 (.alloc 65)]) (some ([0],[])):=rx
@[simp] theorem x28_1:RX 8 r28_1 (.str [oq 3 (.fa 50 (tq 1) 0),oq 4 (.ld 3 (tq 3)),oq 5 (.fa 50 (tq 1) 1),oq 6 (.ld 3 (tq 5)),oq 7 (.build 65 [(0,tq 4),(1,tq 6)]),os (.sto 65 (tq 2) (tq 7))]) (some ([1,2],[1,2])):=rx
def r14_0:=rg Tryz.f14 2
def r14_1:=rg Tryz.f14 9
def r14_2:=rg Tryz.f14 133
def r14_4:=rg Tryz.f14 549
def r14_5:=rg Tryz.f14 2341
def r14_3:=rg Tryz.f14 229
def r14_6:=rg Tryz.f14 11
def lb14_2:Code:=(.seq (.seq r14_2 (.cond (.tmp 11) .skip (.exit 0))) (.seq (.block 1 (.seq r14_4 (.cond (.tmp 19) (.seq r14_5 .ret) .skip))) r14_3))
@[simp] theorem u14_2 (n:Nat) (st:XS):execA Tryz.prog ann kn n 23 lb14_2 st = execA Tryz.prog ann kn n 23 (.seq (.seq r14_2 (.cond (.tmp 11) .skip (.exit 0))) (.seq (.block 1 (.seq r14_4 (.cond (.tmp 19) (.seq r14_5 .ret) .skip))) r14_3)) st:=rfl
def c14:Code:=(.seq r14_0 (.seq (.seq r14_1 (.block 0 (.loop lb14_2))) (.seq r14_6 .ret)))
theorem b14:Tryz.f14.body = some c14:=by kernel_rfl
@[simp] theorem x14_0:RX 23 r14_0 (.str [oq 2 (.mv (cb false))]) (some ([0],[])):=rx
@[simp] theorem x14_1:RX 23 r14_1 (.str [oq 3 (.mv (ci 0))]) (some ([0,1],[1,14])):=rx
@[simp] theorem x14_2:RX 23 r14_2 (.str [oq 4 (.mv (tq 3)),oq 5 (.mv (tq 0)),oq 6 (.oth (.call ⟨.builtin .len,#[tq 5],#[23]⟩)),oq 7 (.bin .lss 3 (tq 4) (tq 6)),oq 8 (.mv (tq 7)),og 8 true 9 (.mv (tq 3)),og 8 true 10 (.bin .lss 3 (tq 9) (ci 8)),oq 11 (.pick (tq 8) (tq 10) (cb false))]) (some ([0,3],[])):=rx
@[simp] theorem x14_4:RX 23 r14_4 (.str [oq 14 (.mv (tq 0)),oq 15 (.mv (tq 3)),oq 16 (.oth (.indexAddr 23 (tq 14) (tq 15))),oq 17 (.ld 22 (tq 16)),oq 18 (.oth (.call ⟨.builtin .len,#[tq 17],#[22]⟩)),oq 19 (.bin .gtr 3 (tq 18) (ci 5))]) (some ([0,3],[])):=rx
@[simp] theorem x14_5:RX 23 r14_5 (.str [oq 2 (.mv (cb false))]) (some ([],[])):=rx
@[simp] theorem x14_3:RX 23 r14_3 (.str [oq 12 (.mv (tq 3)),oq 13 (.bin .add 3 (tq 12) (ci 1)),oq 3 (.mv (tq 13))]) (some ([0,3],[])):=rx
@[simp] theorem x14_6:RX 23 r14_6 (.str [oq 20 (.mv (tq 0)),oq 21 (.oth (.call ⟨.builtin .len,#[tq 20],#[23]⟩)),oq 22 (.bin .leq 3 (tq 21) (ci 7)),oq 2 (.mv (tq 22))]) (some ([0],[])):=rx
@[simp] theorem l14_2:ann 23 (fstR lb14_2) = some ([0,3],[]):=by kernel_rfl
def r35_0:=rg Tryz.f35 2
def r35_1:=rg Tryz.f35 5
def r35_2:=rg Tryz.f35 19
def r35_3:=rg Tryz.f35 267
def r35_5:=rg Tryz.f35 587
def r35_4:=rg Tryz.f35 459
def r35_6:=rg Tryz.f35 23
def lb35_3:Code:=(.seq (.seq r35_3 (.cond (.tmp 9) .skip (.exit 0))) (.seq (.block 1 r35_5) r35_4))
@[simp] theorem u35_3 (n:Nat) (st:XS):execA Tryz.prog ann kn n 21 lb35_3 st = execA Tryz.prog ann kn n 21 (.seq (.seq r35_3 (.cond (.tmp 9) .skip (.exit 0))) (.seq (.block 1 r35_5) r35_4)) st:=rfl
def c35:Code:=(.seq r35_0 (.seq r35_1 (.seq (.seq r35_2 (.block 0 (.loop lb35_3))) (.seq r35_6 .ret))))
theorem b35:Tryz.f35.body = some c35:=by kernel_rfl
@[simp] theorem x35_0:RX 21 r35_0 (.str [oq 1 (.box (tq 0)),oq 2 (.mv (ci 0))]) (some ([0],[1])):=rx
@[simp] theorem x35_1:RX 21 r35_1 (.str [oq 3 (.mv (ci 1))]) (some ([1],[1])):=rx
@[simp] theorem x35_2:RX 21 r35_2 (.str [oq 4 (.mv (ci 0))]) (some ([0,1,3],[1,17,19])):=rx
@[simp] theorem x35_3:RX 21 r35_3 (.str [oq 5 (.mv (tq 4)),oq 6 (.fa 27 (tq 1) 6),oq 7 (.ld 23 (tq 6)),oq 8 (.oth (.call ⟨.builtin .len,#[tq 7],#[23]⟩)),oq 9 (.bin .lss 3 (tq 5) (tq 8))]) (some ([1,3,4],[1])):=rx
@[simp] theorem x35_5:RX 21 r35_5 (.str [oq 12 (.mv (tq 3)),oq 13 (.fa 27 (tq 1) 6),oq 14 (.ld 23 (tq 13)),oq 15 (.mv (tq 4)),oq 16 (.oth (.indexAddr 23 (tq 14) (tq 15))),oq 17 (.ld 22 (tq 16)),oq 18 (.oth (.call ⟨.builtin .len,#[tq 17],#[22]⟩)),oq 19 (.bin .mul 3 (tq 12) (tq 18)),oq 3 (.mv (tq 19))]) (some ([0,1,3,4],[1,17,19])):=rx
@[simp] theorem x35_4:RX 21 r35_4 (.str [oq 10 (.mv (tq 4)),oq 11 (.bin .add 3 (tq 10) (ci 1)),oq 4 (.mv (tq 11))]) (some ([0,1,3,4],[1,17,19])):=rx
@[simp] theorem x35_6:RX 21 r35_6 (.str [oq 20 (.mv (tq 3)),oq 2 (.mv (tq 20))]) (some ([3],[19])):=rx
@[simp] theorem l35_3:ann 21 (fstR lb35_3) = some ([1,3,4],[1]):=by kernel_rfl
def r69_0:=rg Tryz.f69 2
def r69_1:=rg Tryz.f69 9
def r69_2:=rg Tryz.f69 37
def r69_3:=rg Tryz.f69 19
def r69_4:=rg Tryz.f69 75
def r69_5:=rg Tryz.f69 39
def r69_6:=rg Tryz.f69 535
def r69_8:=rg Tryz.f69 4247
def r69_9:=rg Tryz.f69 18583
def r69_10:=rg Tryz.f69 5271
def r69_11:=rg Tryz.f69 68759
def r69_13:=rg Tryz.f69 281751
def r69_14:=rg Tryz.f69 1199255
def r69_12:=rg Tryz.f69 117911
def r69_7:=rg Tryz.f69 919
def r69_15:=rg Tryz.f69 79
def r69_16:=rg Tryz.f69 1071
def r69_18:=rg Tryz.f69 4399
def r69_19:=rg Tryz.f69 18735
def r69_17:=rg Tryz.f69 1839
def r69_20:=rg Tryz.f69 159
def r69_21:=rg Tryz.f69 2143
def r69_23:=rg Tryz.f69 8799
def r69_24:=rg Tryz.f69 37471
def r69_22:=rg Tryz.f69 3679
def r69_25:=rg Tryz.f69 191
def lb69_11:Code:=(.seq (.seq r69_11 (.cond (.tmp 118) .skip (.exit 2))) (.seq (.block 3 (.seq r69_13 (.cond (.tmp 138) (.seq r69_14 .ret) .skip))) r69_12))
@[simp] theorem u69_11 (n:Nat) (st:XS):execA Tryz.prog ann kn n 181 lb69_11 st = execA Tryz.prog ann kn n 181 (.seq (.seq r69_11 (.cond (.tmp 118) .skip (.exit 2))) (.seq (.block 3 (.seq r69_13 (.cond (.tmp 138) (.seq r69_14 .ret) .skip))) r69_12)) st:=rfl
def lb69_6:Code:=(.seq (.seq r69_6 (.cond (.tmp 92) .skip (.exit 0))) (.seq (.block 1 (.seq (.seq r69_8 (.cond (.tmp 110) (.seq r69_9 .ret) .skip)) (.seq r69_10 (.block 2 (.loop lb69_11))))) r69_7))
@[simp] theorem u69_6 (n:Nat) (st:XS):execA Tryz.prog ann kn n 181 lb69_6 st = execA Tryz.prog ann kn n 181 (.seq (.seq r69_6 (.cond (.tmp 92) .skip (.exit 0))) (.seq (.block 1 (.seq (.seq r69_8 (.cond (.tmp 110) (.seq r69_9 .ret) .skip)) (.seq r69_10 (.block 2 (.loop lb69_11))))) r69_7)) st:=rfl
def lb69_16:Code:=(.seq (.seq r69_16 (.cond (.tmp 143) .skip (.exit 4))) (.seq (.block 5 (.seq r69_18 (.cond (.tmp 153) (.seq r69_19 .ret) .skip))) r69_17))
@[simp] theorem u69_16 (n:Nat) (st:XS):execA Tryz.prog ann kn n 181 lb69_16 st = execA Tryz.prog ann kn n 181 (.seq (.seq r69_16 (.cond (.tmp 143) .skip (.exit 4))) (.seq (.block 5 (.seq r69_18 (.cond (.tmp 153) (.seq r69_19 .ret) .skip))) r69_17)) st:=rfl
def lb69_21:Code:=(.seq (.seq r69_21 (.cond (.tmp 158) .skip (.exit 6))) (.seq (.block 7 (.seq r69_23 (.cond (.tmp 180) (.seq r69_24 .ret) .skip))) r69_22))
@[simp] theorem u69_21 (n:Nat) (st:XS):execA Tryz.prog ann kn n 181 lb69_21 st = execA Tryz.prog ann kn n 181 (.seq (.seq r69_21 (.cond (.tmp 158) .skip (.exit 6))) (.seq (.block 7 (.seq r69_23 (.cond (.tmp 180) (.seq r69_24 .ret) .skip))) r69_22)) st:=rfl
def c69:Code:=(.seq r69_0 (.seq (.seq r69_1 (.cond (.tmp 31) (.seq r69_2 .ret) .skip)) (.seq (.seq r69_3 (.cond (.tmp 88) (.seq r69_4 .ret) .skip)) (.seq (.seq r69_5 (.block 0 (.loop lb69_6))) (.seq (.seq r69_15 (.block 4 (.loop lb69_16))) (.seq (.seq r69_20 (.block 6 (.loop lb69_21))) (.seq r69_25 .ret)))))))
theorem b69:Tryz.f69.body = some c69:=by kernel_rfl
@[simp] theorem x69_0:RX 181 r69_0 (.str [oq 1 (.box (tq 0)),oq 2 (.mv (ci 0))]) (some ([0],[1])):=rx
@[simp] theorem x69_1:RX 181 r69_1 (.str [oq 7 (.fa 27 (tq 1) 0),oq 8 (.ld 3 (tq 7)),oq 9 (.bin .gtr 3 (tq 8) (ci 4)),oq 10 (.mv (tq 9)),og 10 false 11 (.fa 27 (tq 1) 1),og 10 false 12 (.ld 3 (tq 11)),og 10 false 13 (.bin .gtr 3 (tq 12) (ci 3)),oq 14 (.pick (tq 10) (cb true) (tq 13)),oq 15 (.mv (tq 14)),og 15 false 16 (.fa 27 (tq 1) 2),og 15 false 17 (.ld 3 (tq 16)),og 15 false 18 (.bin .gtr 3 (tq 17) (ci 5)),oq 19 (.pick (tq 15) (cb true) (tq 18)),oq 20 (.mv (tq 19)),og 20 false 21 (.fa 27 (tq 1) 7),og 20 false 22 (.ld 24 (tq 21)),og 20 false 23 (.oth (.call ⟨.builtin .len,#[tq 22],#[24]⟩)),og 20 false 24 (.bin .gtr 3 (tq 23) (ci 4)),oq 25 (.pick (tq 20) (cb true) (tq 24)),oq 26 (.mv (tq 25)),og 26 false 27 (.fa 27 (tq 1) 8),og 26 false 28 (.ld 25 (tq 27)),og 26 false 29 (.oth (.call ⟨.builtin .len,#[tq 28],#[25]⟩)),og 26 false 30 (.bin .gtr 3 (tq 29) (ci 5)),oq 31 (.pick (tq 26) (cb true) (tq 30))]) (some ([1],[1])):=rx
@[simp] theorem x69_2:RX 181 r69_2 (.str [oq 2 (.mv (ci 3))]) (some ([],[])):=rx
@[simp] theorem x69_3:RX 181 r69_3 (.str [oq 32 (.fa 27 (tq 1) 0),oq 33 (.ld 3 (tq 32)),oq 34 (.bin .lss 3 (tq 33) (ci 0)),oq 35 (.mv (tq 34)),og 35 false 36 (.fa 27 (tq 1) 1),og 35 false 37 (.ld 3 (tq 36)),og 35 false 38 (.bin .lss 3 (tq 37) (ci 1)),oq 39 (.pick (tq 35) (cb true) (tq 38)),oq 40 (.mv (tq 39)),og 40 false 41 (.fa 27 (tq 1) 2),og 40 false 42 (.ld 3 (tq 41)),og 40 false 43 (.bin .lss 3 (tq 42) (ci 1)),oq 44 (.pick (tq 40) (cb true) (tq 43)),oq 45 (.mv (tq 44)),og 45 false 46 (.fa 27 (tq 1) 3),og 45 false 47 (.ld 3 (tq 46)),og 45 false 48 (.call false none (.func 31) [tq 47,ci 0,ci 4]),og 45 false 49 (.oth (.unOp .not 4 (tq 48))),oq 50 (.pick (tq 45) (cb true) (tq 49)),oq 51 (.mv (tq 50)),og 51 false 52 (.fa 27 (tq 1) 4),og 51 false 53 (.ld 22 (tq 52)),og 51 false 54 (.oth (.call ⟨.builtin .len,#[tq 53],#[22]⟩)),og 51 false 55 (.fa 27 (tq 1) 1),og 51 false 56 (.ld 3 (tq 55)),og 51 false 57 (.bin .neq 3 (tq 54) (tq 56)),oq 58 (.pick (tq 51) (cb true) (tq 57)),oq 59 (.mv (tq 58)),og 59 false 60 (.fa 27 (tq 1) 5),og 59 false 61 (.ld 22 (tq 60)),og 59 false 62 (.oth (.call ⟨.builtin .len,#[tq 61],#[22]⟩)),og 59 false 63 (.fa 27 (tq 1) 0),og 59 false 64 (.ld 3 (tq 63)),og 59 false 65 (.bin .add 3 (tq 64) (ci 1)),og 59 false 66 (.bin .neq 3 (tq 62) (tq 65)),oq 67 (.pick (tq 59) (cb true) (tq 66)),oq 68 (.mv (tq 67)),og 68 false 69 (.fa 27 (tq 1) 6),og 68 false 70 (.ld 23 (tq 69)),og 68 false 71 (.oth (.call ⟨.builtin .len,#[tq 70],#[23]⟩)),og 68 false 72 (.fa 27 (tq 1) 0),og 68 false 73 (.ld 3 (tq 72)),og 68 false 74 (.bin .add 3 (tq 73) (ci 1)),og 68 false 75 (.bin .neq 3 (tq 71) (tq 74)),oq 76 (.pick (tq 68) (cb true) (tq 75)),oq 77 (.mv (tq 76)),og 77 false 78 (.fa 27 (tq 1) 4),og 77 false 79 (.ld 22 (tq 78)),og 77 false 80 (.call false none (.func 82) [tq 79,ci 0]),og 77 false 81 (.oth (.unOp .not 4 (tq 80))),oq 82 (.pick (tq 77) (cb true) (tq 81)),oq 83 (.mv (tq 82)),og 83 false 84 (.fa 27 (tq 1) 5),og 83 false 85 (.ld 22 (tq 84)),og 83 false 86 (.call false none (.func 82) [tq 85,.const (.int .i64 (Int.negSucc 0))]),og 83 false 87 (.oth (.unOp .not 4 (tq 86))),oq 88 (.pick (tq 83) (cb true) (tq 87))]) (some ([1],[1])):=rx
@[simp] theorem x69_4:RX 181 r69_4 (.str [oq 2 (.mv (ci 1))]) (some ([],[])):=rx
@[simp] theorem x69_5:RX 181 r69_5 (.str [oq 3 (.mv (ci 0))]) (some ([1],[1])):=rx
@[simp] theorem x69_6:RX 181 r69_6 (.str [oq 89 (.mv (tq 3)),oq 90 (.fa 27 (tq 1) 0),oq 91 (.ld 3 (tq 90)),oq 92 (.bin .leq 3 (tq 89) (tq 91))]) (some ([1,3],[1])):=rx
@[simp] theorem x69_8:RX 181 r69_8 (.str [oq 95 (.fa 27 (tq 1) 6),oq 96 (.ld 23 (tq 95)),oq 97 (.mv (tq 3)),oq 98 (.oth (.indexAddr 23 (tq 96) (tq 97))),oq 99 (.ld 22 (tq 98)),oq 100 (.oth (.call ⟨.builtin .len,#[tq 99],#[22]⟩)),oq 101 (.bin .eql 3 (tq 100) (ci 0)),oq 102 (.mv (tq 101)),og 102 false 103 (.fa 27 (tq 1) 6),og 102 false 104 (.ld 23 (tq 103)),og 102 false 105 (.mv (tq 3)),og 102 false 106 (.oth (.indexAddr 23 (tq 104) (tq 105))),og 102 false 107 (.ld 22 (tq 106)),og 102 false 108 (.call false none (.func 82) [tq 107,ci 0]),og 102 false 109 (.oth (.unOp .not 4 (tq 108))),oq 110 (.pick (tq 102) (cb true) (tq 109))]) (some ([1,3],[1])):=rx
@[simp] theorem x69_9:RX 181 r69_9 (.str [oq 2 (.mv (ci 1))]) (some ([],[])):=rx
@[simp] theorem x69_10:RX 181 r69_10 (.str [oq 4 (.mv (ci 1))]) (some ([1,3],[1])):=rx
@[simp] theorem x69_11:RX 181 r69_11 (.str [oq 111 (.mv (tq 4)),oq 112 (.fa 27 (tq 1) 6),oq 113 (.ld 23 (tq 112)),oq 114 (.mv (tq 3)),oq 115 (.oth (.indexAddr 23 (tq 113) (tq 114))),oq 116 (.ld 22 (tq 115)),oq 117 (.oth (.call ⟨.builtin .len,#[tq 116],#[22]⟩)),oq 118 (.bin .lss 3 (tq 111) (tq 117))]) (some ([1,3,4],[1])):=rx
@[simp] theorem x69_13:RX 181 r69_13 (.drw [⟨[],[oq 121 (.fa 27 (tq 1) 6),oq 122 (.ld 23 (tq 121)),oq 123 (.mv (tq 3)),oq 124 (.oth (.indexAddr 23 (tq 122) (tq 123))),oq 125 (.ld 22 (tq 124)),oq 126 (.mv (tq 4)),oq 127 (.oth (.indexAddr 22 (tq 125) (tq 126))),oq 128 (.ld 3 (tq 127)),oq 129 (.fa 27 (tq 1) 6),oq 130 (.ld 23 (tq 129)),oq 131 (.mv (tq 3)),oq 132 (.oth (.indexAddr 23 (tq 130) (tq 131))),oq 133 (.ld 22 (tq 132)),oq 134 (.mv (tq 4)),oq 135 (.bin .sub 3 (tq 134) (ci 1)),oq 136 (.oth (.indexAddr 22 (tq 133) (tq 135))),oq 137 (.ld 3 (tq 136)),oq 138 (.bin .leq 3 (tq 128) (tq 137))],[]⟩]) (some ([1,3,4],[1])):=rx
@[simp] theorem x69_14:RX 181 r69_14 (.str [oq 2 (.mv (ci 1))]) (some ([],[])):=rx
@[simp] theorem x69_12:RX 181 r69_12 (.str [oq 119 (.mv (tq 4)),oq 120 (.bin .add 3 (tq 119) (ci 1)),oq 4 (.mv (tq 120))]) (some ([1,3,4],[1])):=rx
@[simp] theorem x69_7:RX 181 r69_7 (.str [oq 93 (.mv (tq 3)),oq 94 (.bin .add 3 (tq 93) (ci 1)),oq 3 (.mv (tq 94))]) (some ([1,3],[1])):=rx
@[simp] theorem x69_15:RX 181 r69_15 (.str [oq 5 (.mv (ci 0))]) (some ([1],[1])):=rx
@[simp] theorem x69_16:RX 181 r69_16 (.str [oq 139 (.mv (tq 5)),oq 140 (.fa 27 (tq 1) 7),oq 141 (.ld 24 (tq 140)),oq 142 (.oth (.call ⟨.builtin .len,#[tq 141],#[24]⟩)),oq 143 (.bin .lss 3 (tq 139) (tq 142))]) (some ([1,5],[1])):=rx
@[simp] theorem x69_18:RX 181 r69_18 (.drw [⟨[],[oq 146 (.ld 27 (tq 1)),oq 147 (.fa 27 (tq 1) 7),oq 148 (.ld 24 (tq 147)),oq 149 (.mv (tq 5)),oq 150 (.oth (.indexAddr 24 (tq 148) (tq 149))),oq 151 (.ld 50 (tq 150))],[oq 152 (.call false none (.func 30) [tq 146,tq 151])]⟩,⟨[],[oq 153 (.oth (.unOp .not 4 (tq 152)))],[]⟩]) (some ([1,5],[1])):=rx
@[simp] theorem x69_19:RX 181 r69_19 (.str [oq 2 (.mv (ci 1))]) (some ([],[])):=rx
@[simp] theorem x69_17:RX 181 r69_17 (.str [oq 144 (.mv (tq 5)),oq 145 (.bin .add 3 (tq 144) (ci 1)),oq 5 (.mv (tq 145))]) (some ([1,5],[1])):=rx
@[simp] theorem x69_20:RX 181 r69_20 (.str [oq 6 (.mv (ci 0))]) (some ([1],[1])):=rx
@[simp] theorem x69_21:RX 181 r69_21 (.str [oq 154 (.mv (tq 6)),oq 155 (.fa 27 (tq 1) 8),oq 156 (.ld 25 (tq 155)),oq 157 (.oth (.call ⟨.builtin .len,#[tq 156],#[25]⟩)),oq 158 (.bin .lss 3 (tq 154) (tq 157))]) (some ([1,6],[1])):=rx
@[simp] theorem x69_23:RX 181 r69_23 (.drw [⟨[],[oq 161 (.fa 27 (tq 1) 8),oq 162 (.ld 25 (tq 161)),oq 163 (.mv (tq 6)),oq 164 (.oth (.indexAddr 25 (tq 162) (tq 163))),oq 165 (.fa 101 (tq 164) 0),oq 166 (.ld 3 (tq 165)),oq 167 (.fa 27 (tq 1) 0),oq 168 (.ld 3 (tq 167))],[oq 169 (.call false none (.func 31) [tq 166,ci 0,tq 168])]⟩,⟨[],[oq 170 (.oth (.unOp .not 4 (tq 169))),oq 171 (.mv (tq 170)),og 171 false 172 (.fa 27 (tq 1) 8),og 171 false 173 (.ld 25 (tq 172)),og 171 false 174 (.mv (tq 6)),og 171 false 175 (.oth (.indexAddr 25 (tq 173) (tq 174))),og 171 false 176 (.fa 101 (tq 175) 1),og 171 false 177 (.ld 3 (tq 176))],[og 171 false 178 (.call false none (.func 31) [tq 177,ci 0,ci 3])]⟩,⟨[],[og 171 false 179 (.oth (.unOp .not 4 (tq 178))),oq 180 (.pick (tq 171) (cb true) (tq 179))],[]⟩]) (some ([1,6],[1])):=rx
@[simp] theorem x69_24:RX 181 r69_24 (.str [oq 2 (.mv (ci 1))]) (some ([],[])):=rx
@[simp] theorem x69_22:RX 181 r69_22 (.str [oq 159 (.mv (tq 6)),oq 160 (.bin .add 3 (tq 159) (ci 1)),oq 6 (.mv (tq 160))]) (some ([1,6],[1])):=rx
@[simp] theorem x69_25:RX 181 r69_25 (.str [oq 2 (.mv (ci 0))]) (some ([],[])):=rx
@[simp] theorem l69_6:ann 181 (fstR lb69_6) = some ([1,3],[1]):=by kernel_rfl
@[simp] theorem l69_11:ann 181 (fstR lb69_11) = some ([1,3,4],[1]):=by kernel_rfl
@[simp] theorem l69_16:ann 181 (fstR lb69_16) = some ([1,5],[1]):=by kernel_rfl
@[simp] theorem l69_21:ann 181 (fstR lb69_21) = some ([1,6],[1]):=by kernel_rfl
def r13_0:=rg Tryz.f13 2
def r13_1:=rg Tryz.f13 9
def r13_2:=rg Tryz.f13 37
def r13_3:=rg Tryz.f13 11
def c13:Code:=(.seq r13_0 (.seq (.seq r13_1 (.cond (.tmp 30) (.seq r13_2 .ret) .skip)) (.seq r13_3 .ret)))
theorem b13:Tryz.f13.body = some c13:=by kernel_rfl
@[simp] theorem x13_0:RX 39 r13_0 (.str [oq 1 (.box (tq 0)),oq 2 (.mv (cb false))]) (some ([0],[1])):=rx
@[simp] theorem x13_1:RX 39 r13_1 (.str [oq 3 (.fa 27 (tq 1) 4),oq 4 (.ld 22 (tq 3)),oq 5 (.oth (.call ⟨.builtin .len,#[tq 4],#[22]⟩)),oq 6 (.bin .gtr 3 (tq 5) (ci 5)),oq 7 (.mv (tq 6)),og 7 false 8 (.fa 27 (tq 1) 5),og 7 false 9 (.ld 22 (tq 8)),og 7 false 10 (.oth (.call ⟨.builtin .len,#[tq 9],#[22]⟩)),og 7 false 11 (.bin .gtr 3 (tq 10) (ci 7)),oq 12 (.pick (tq 7) (cb true) (tq 11)),oq 13 (.mv (tq 12)),og 13 false 14 (.fa 27 (tq 1) 6),og 13 false 15 (.ld 23 (tq 14)),og 13 false 16 (.call false none (.func 14) [tq 15]),og 13 false 17 (.oth (.unOp .not 4 (tq 16))),oq 18 (.pick (tq 13) (cb true) (tq 17)),oq 19 (.mv (tq 18)),og 19 false 20 (.fa 27 (tq 1) 7),og 19 false 21 (.ld 24 (tq 20)),og 19 false 22 (.oth (.call ⟨.builtin .len,#[tq 21],#[24]⟩)),og 19 false 23 (.bin .gtr 3 (tq 22) (ci 6)),oq 24 (.pick (tq 19) (cb true) (tq 23)),oq 25 (.mv (tq 24)),og 25 false 26 (.fa 27 (tq 1) 8),og 25 false 27 (.ld 25 (tq 26)),og 25 false 28 (.oth (.call ⟨.builtin .len,#[tq 27],#[25]⟩)),og 25 false 29 (.bin .gtr 3 (tq 28) (ci 7)),oq 30 (.pick (tq 25) (cb true) (tq 29))]) (some ([1],[1])):=rx
@[simp] theorem x13_2:RX 39 r13_2 (.str [oq 2 (.mv (cb false))]) (some ([],[])):=rx
@[simp] theorem x13_3:RX 39 r13_3 (.str [oq 31 (.ld 27 (tq 1)),oq 32 (.call false none (.func 69) [tq 31]),oq 33 (.bin .neq 3 (tq 32) (ci 0)),oq 34 (.mv (tq 33)),og 34 false 35 (.ld 27 (tq 1)),og 34 false 36 (.call false none (.func 35) [tq 35]),og 34 false 37 (.bin .leq 3 (tq 36) (ci 80)),oq 38 (.pick (tq 34) (cb true) (tq 37)),oq 2 (.mv (tq 38))]) (some ([1],[1])):=rx
def r21_0:=rg Tryz.f21 2
def r21_1:=rg Tryz.f21 5
def c21:Code:=(.seq r21_0 (.seq r21_1 .ret))
theorem b21:Tryz.f21.body = some c21:=by kernel_rfl
@[simp] theorem x21_0:RX 5 r21_0 (.str [oq 1 (.box (tq 0)),oq 2 (.mv (ci 0))]) (some ([0],[1])):=rx
@[simp] theorem x21_1:RX 5 r21_1 (.str [oq 3 (.ld 27 (tq 1)),oq 4 (.call false none (.func 69) [tq 3]),oq 2 (.mv (tq 4))]) (some ([0,1],[1])):=rx
def r45_0:=rg Tryz.f45 2
def r45_1:=rg Tryz.f45 5
def c45:Code:=(.seq r45_0 (.seq r45_1 .ret))
theorem b45:Tryz.f45.body = some c45:=by kernel_rfl
@[simp] theorem x45_0:RX 10 r45_0 (.str [oq 1 (.box (tq 0)),oq 2 (.mv (cb false))]) (some ([0],[1])):=rx
@[simp] theorem x45_1:RX 10 r45_1 (.str [oq 3 (.ld 27 (tq 1)),oq 4 (.call false none (.func 13) [tq 3]),oq 5 (.mv (tq 4)),og 5 true 6 (.ld 27 (tq 1)),og 5 true 7 (.call false none (.func 21) [tq 6]),og 5 true 8 (.bin .eql 31 (tq 7) (ci 0)),oq 9 (.pick (tq 5) (tq 8) (cb false)),oq 2 (.mv (tq 9))]) (some ([1],[1])):=rx
def r143_0:=rg Tryz.f143 2
def r143_1:=rg Tryz.f143 9
def r143_2:=rg Tryz.f143 69
def r143_3:=rg Tryz.f143 1125
def r143_4:=rg Tryz.f143 2661
def r143_5:=rg Tryz.f143 9829
def r143_6:=rg Tryz.f143 485
def r143_7:=rg Tryz.f143 11
def lb143_2:Code:=(.seq r143_2 (.seq (.cond (.tmp 9) .skip (.exit 0)) (.seq (.block 1 (.seq r143_3 (.seq r143_4 (.cond (.tmp 16) (.seq r143_5 .ret) .skip)))) r143_6)))
@[simp] theorem u143_2 (n:Nat) (st:XS):execA Tryz.prog ann kn n 19 lb143_2 st = execA Tryz.prog ann kn n 19 (.seq r143_2 (.seq (.cond (.tmp 9) .skip (.exit 0)) (.seq (.block 1 (.seq r143_3 (.seq r143_4 (.cond (.tmp 16) (.seq r143_5 .ret) .skip)))) r143_6))) st:=rfl
def c143:Code:=(.seq r143_0 (.seq (.seq r143_1 (.block 0 (.loop lb143_2))) (.seq r143_7 .ret)))
theorem b143:Tryz.f143.body = some c143:=by kernel_rfl
@[simp] theorem x143_0:RX 19 r143_0 (.str [oq 4 (.mv (ci 0))]) (some ([0,1],[])):=rx
@[simp] theorem x143_1:RX 19 r143_1 (.str [oq 6 (.mv (tq 0)),oq 7 (.oth (.call ⟨.builtin .len,#[tq 6],#[22]⟩)),oq 8 (.mv (ci 0))]) (some ([0,1],[])):=rx
@[simp] theorem x143_2:RX 19 r143_2 (.str [oq 9 (.bin .lss 3 (tq 8) (tq 7))]) (some ([0,1,7,8],[])):=rx
@[simp] theorem x143_3:RX 19 r143_3 (.str [oq 10 (.mv (tq 8)),oq 5 (.mv (tq 10))]) (some ([0,1,7,8],[])):=rx
@[simp] theorem x143_4:RX 19 r143_4 (.str [oq 11 (.mv (tq 1)),oq 12 (.mv (tq 0)),oq 13 (.mv (tq 5)),oq 14 (.oth (.indexAddr 22 (tq 12) (tq 13))),oq 15 (.ld 3 (tq 14)),oq 16 (.call false none (tq 11) [tq 15])]) (some ([0,1,5,7,8],[])):=rx
@[simp] theorem x143_5:RX 19 r143_5 (.str [oq 17 (.mv (tq 5)),oq 4 (.mv (tq 17))]) (some ([5],[])):=rx
@[simp] theorem x143_6:RX 19 r143_6 (.str [oq 18 (.bin .add 3 (tq 8) (ci 1)),oq 8 (.mv (tq 18))]) (some ([0,1,3,7,8],[])):=rx
@[simp] theorem x143_7:RX 19 r143_7 (.str [oq 4 (.mv (.const (.int .i64 (Int.negSucc 0))))]) (some ([],[])):=rx
@[simp] theorem l143_2:ann 19 (fstR lb143_2) = some ([0,1,7,8],[]):=by kernel_rfl
def r128_0:=rg Tryz.f128 2
def r128_1:=rg Tryz.f128 5
def c128:Code:=(.seq r128_0 (.seq r128_1 .ret))
theorem b128:Tryz.f128.body = some c128:=by kernel_rfl
@[simp] theorem x128_0:RX 9 r128_0 (.str [oq 4 (.mv (cb false))]) (some ([0,1],[])):=rx
@[simp] theorem x128_1:RX 9 r128_1 (.str [oq 5 (.mv (tq 0)),oq 6 (.mv (tq 1)),oq 7 (.call false none (.func 143) [tq 5,tq 6]),oq 8 (.bin .geq 3 (tq 7) (ci 0)),oq 4 (.mv (tq 8))]) (some ([0,1,2,3],[2,3])):=rx
def r109_0:=rg Tryz.f109 2
def r109_1:=rg Tryz.f109 5
def c109:Code:=(.seq r109_0 (.seq r109_1 .ret))
theorem b109:Tryz.f109.body = some c109:=by kernel_rfl
@[simp] theorem x109_0:RX 9 r109_0 (.str [oq 3 (.box (tq 1)),oq 4 (.mv (cb false))]) (some ([0,1],[3])):=rx
@[simp] theorem x109_1:RX 9 r109_1 (.str [oq 5 (.mv (tq 0)),oq 6 (.oth (.makeFunc (.func 129) #[] #[tq 3])),oq 7 (.call false none (.func 128) [tq 5,tq 6]),oq 8 (.oth (.unOp .not 4 (tq 7))),oq 4 (.mv (tq 8))]) (some ([0,1,2,3],[2,3])):=rx
def r129_0:=rg Tryz.f129 2
def r129_1:=rg Tryz.f129 5
def c129:Code:=(.seq r129_0 (.seq r129_1 .ret))
theorem b129:Tryz.f129.body = some c129:=by kernel_rfl
@[simp] theorem x129_0:RX 8 r129_0 (.str [oq 3 (.mv (cb false))]) (some ([0,1],[])):=rx
@[simp] theorem x129_1:RX 8 r129_1 (.str [oq 4 (.ld 141 (tq 1)),oq 5 (.mv (tq 0)),oq 6 (.call false none (tq 4) [tq 5]),oq 7 (.oth (.unOp .not 4 (tq 6))),oq 3 (.mv (tq 7))]) (some ([0,1,2],[2])):=rx
def r144_0:=rg Tryz.f144 2
def r144_1:=rg Tryz.f144 9
def r144_2:=rg Tryz.f144 69
def r144_3:=rg Tryz.f144 1125
def r144_4:=rg Tryz.f144 2661
def r144_5:=rg Tryz.f144 9829
def r144_6:=rg Tryz.f144 485
def r144_7:=rg Tryz.f144 11
def lb144_2:Code:=(.seq r144_2 (.seq (.cond (.tmp 9) .skip (.exit 0)) (.seq (.block 1 (.seq r144_3 (.seq r144_4 (.cond (.tmp 16) (.seq r144_5 .ret) .skip)))) r144_6)))
@[simp] theorem u144_2 (n:Nat) (st:XS):execA Tryz.prog ann kn n 19 lb144_2 st = execA Tryz.prog ann kn n 19 (.seq r144_2 (.seq (.cond (.tmp 9) .skip (.exit 0)) (.seq (.block 1 (.seq r144_3 (.seq r144_4 (.cond (.tmp 16) (.seq r144_5 .ret) .skip)))) r144_6))) st:=rfl
def c144:Code:=(.seq r144_0 (.seq (.seq r144_1 (.block 0 (.loop lb144_2))) (.seq r144_7 .ret)))
theorem b144:Tryz.f144.body = some c144:=by kernel_rfl
@[simp] theorem x144_0:RX 19 r144_0 (.str [oq 4 (.mv (ci 0))]) (some ([0,1],[])):=rx
@[simp] theorem x144_1:RX 19 r144_1 (.str [oq 6 (.mv (tq 0)),oq 7 (.oth (.call ⟨.builtin .len,#[tq 6],#[23]⟩)),oq 8 (.mv (ci 0))]) (some ([0,1],[])):=rx
@[simp] theorem x144_2:RX 19 r144_2 (.str [oq 9 (.bin .lss 3 (tq 8) (tq 7))]) (some ([0,1,7,8],[])):=rx
@[simp] theorem x144_3:RX 19 r144_3 (.str [oq 10 (.mv (tq 8)),oq 5 (.mv (tq 10))]) (some ([0,1,7,8],[])):=rx
@[simp] theorem x144_4:RX 19 r144_4 (.str [oq 11 (.mv (tq 1)),oq 12 (.mv (tq 0)),oq 13 (.mv (tq 5)),oq 14 (.oth (.indexAddr 23 (tq 12) (tq 13))),oq 15 (.ld 22 (tq 14)),oq 16 (.call false none (tq 11) [tq 15])]) (some ([0,1,5,7,8],[])):=rx
@[simp] theorem x144_5:RX 19 r144_5 (.str [oq 17 (.mv (tq 5)),oq 4 (.mv (tq 17))]) (some ([5],[])):=rx
@[simp] theorem x144_6:RX 19 r144_6 (.str [oq 18 (.bin .add 3 (tq 8) (ci 1)),oq 8 (.mv (tq 18))]) (some ([0,1,3,7,8],[])):=rx
@[simp] theorem x144_7:RX 19 r144_7 (.str [oq 4 (.mv (.const (.int .i64 (Int.negSucc 0))))]) (some ([],[])):=rx
@[simp] theorem l144_2:ann 19 (fstR lb144_2) = some ([0,1,7,8],[]):=by kernel_rfl
def r130_0:=rg Tryz.f130 2
def r130_1:=rg Tryz.f130 5
def c130:Code:=(.seq r130_0 (.seq r130_1 .ret))
theorem b130:Tryz.f130.body = some c130:=by kernel_rfl
@[simp] theorem x130_0:RX 9 r130_0 (.str [oq 4 (.mv (cb false))]) (some ([0,1],[])):=rx
@[simp] theorem x130_1:RX 9 r130_1 (.str [oq 5 (.mv (tq 0)),oq 6 (.mv (tq 1)),oq 7 (.call false none (.func 144) [tq 5,tq 6]),oq 8 (.bin .geq 3 (tq 7) (ci 0)),oq 4 (.mv (tq 8))]) (some ([0,1,2,3],[2,3])):=rx
def r112_0:=rg Tryz.f112 2
def r112_1:=rg Tryz.f112 5
def c112:Code:=(.seq r112_0 (.seq r112_1 .ret))
theorem b112:Tryz.f112.body = some c112:=by kernel_rfl
@[simp] theorem x112_0:RX 9 r112_0 (.str [oq 3 (.box (tq 1)),oq 4 (.mv (cb false))]) (some ([0,1],[3])):=rx
@[simp] theorem x112_1:RX 9 r112_1 (.str [oq 5 (.mv (tq 0)),oq 6 (.oth (.makeFunc (.func 131) #[] #[tq 3])),oq 7 (.call false none (.func 130) [tq 5,tq 6]),oq 8 (.oth (.unOp .not 4 (tq 7))),oq 4 (.mv (tq 8))]) (some ([0,1,2,3],[2,3])):=rx
def r131_0:=rg Tryz.f131 2
def r131_1:=rg Tryz.f131 5
def c131:Code:=(.seq r131_0 (.seq r131_1 .ret))
theorem b131:Tryz.f131.body = some c131:=by kernel_rfl
@[simp] theorem x131_0:RX 8 r131_0 (.str [oq 3 (.mv (cb false))]) (some ([0,1],[])):=rx
@[simp] theorem x131_1:RX 8 r131_1 (.str [oq 4 (.ld 158 (tq 1)),oq 5 (.mv (tq 0)),oq 6 (.call false none (tq 4) [tq 5]),oq 7 (.oth (.unOp .not 4 (tq 6))),oq 3 (.mv (tq 7))]) (some ([0,1,2],[2])):=rx
def r94_0:=rg Tryz.f94 2
def r94_1:=rg Tryz.f94 5
def c94:Code:=(.seq r94_0 (.seq r94_1 .ret))
theorem b94:Tryz.f94.body = some c94:=by kernel_rfl
@[simp] theorem x94_0:RX 15 r94_0 (.str [oq 6 (.mv (cb false))]) (some ([0,1,2],[])):=rx
@[simp] theorem x94_1:RX 15 r94_1 (.str [oq 7 (.mv (tq 1)),oq 8 (.mv (tq 0)),oq 9 (.bin .leq 3 (tq 7) (tq 8)),oq 10 (.mv (tq 9)),og 10 true 11 (.mv (tq 0)),og 10 true 12 (.mv (tq 2)),og 10 true 13 (.bin .leq 3 (tq 11) (tq 12)),oq 14 (.pick (tq 10) (tq 13) (cb false)),oq 6 (.mv (tq 14))]) (some ([0,1,2],[])):=rx
def r110_0:=rg Tryz.f110 2
def r110_1:=rg Tryz.f110 5
def c110:Code:=(.seq r110_0 (.seq r110_1 .ret))
theorem b110:Tryz.f110.body = some c110:=by kernel_rfl
@[simp] theorem x110_0:RX 5 r110_0 (.str [oq 2 (.mv (cb false))]) (some ([0],[])):=rx
@[simp] theorem x110_1:RX 5 r110_1 (.str [oq 3 (.mv (tq 0)),oq 4 (.call false none (.func 94) [tq 3,ci 0,ci 3]),oq 2 (.mv (tq 4))]) (some ([0,1],[1])):=rx
def r111_0:=rg Tryz.f111 2
def r111_1:=rg Tryz.f111 5
def c111:Code:=(.seq r111_0 (.seq r111_1 .ret))
theorem b111:Tryz.f111.body = some c111:=by kernel_rfl
@[simp] theorem x111_0:RX 5 r111_0 (.str [oq 2 (.mv (cb false))]) (some ([0],[])):=rx
@[simp] theorem x111_1:RX 5 r111_1 (.str [oq 3 (.mv (tq 0)),oq 4 (.call false none (.func 94) [tq 3,.const (.int .i64 (Int.negSucc 0)),ci 3]),oq 2 (.mv (tq 4))]) (some ([0,1],[1])):=rx
def r113_0:=rg Tryz.f113 2
def r113_1:=rg Tryz.f113 5
def r113_2:=rg Tryz.f113 11
def c113:Code:=(.seq r113_0 (.seq r113_1 (.seq r113_2 .ret)))
theorem b113:Tryz.f113.body = some c113:=by kernel_rfl
@[simp] theorem x113_0:RX 12 r113_0 (.str [oq 2 (.mv (cb false))]) (some ([0],[])):=rx
@[simp] theorem x113_1:RX 12 r113_1 (.str [oq 3 (.alloc 3),os (.sto 3 (tq 3) (.const (.int .i64 (Int.negSucc 0))))]) (some ([0],[])):=rx
@[simp] theorem x113_2:RX 12 r113_2 (.str [oq 4 (.mv (tq 0)),oq 5 (.oth (.call ⟨.builtin .len,#[tq 4],#[22]⟩)),oq 6 (.bin .gtr 3 (tq 5) (ci 0)),oq 7 (.mv (tq 6)),og 7 true 8 (.mv (tq 0)),og 7 true 9 (.oth (.makeFunc (.func 132) #[] #[tq 3])),og 7 true 10 (.call false none (.func 109) [tq 8,tq 9]),oq 11 (.pick (tq 7) (tq 10) (cb false)),oq 2 (.mv (tq 11))]) (some ([0,3],[3])):=rx
def r132_0:=rg Tryz.f132 2
def r132_1:=rg Tryz.f132 5
def r132_2:=rg Tryz.f132 11
def r132_3:=rg Tryz.f132 23
def c132:Code:=(.seq r132_0 (.seq r132_1 (.seq r132_2 (.seq r132_3 .ret))))
theorem b132:Tryz.f132.body = some c132:=by kernel_rfl
@[simp] theorem x132_0:RX 11 r132_0 (.str [oq 3 (.mv (cb false))]) (some ([0,1],[])):=rx
@[simp] theorem x132_1:RX 11 r132_1 (.str [oq 5 (.mv (tq 0)),oq 6 (.ld 3 (tq 1)),oq 7 (.bin .add 3 (tq 6) (ci 1)),oq 8 (.call false none (.func 94) [tq 5,tq 7,ci 3]),oq 4 (.mv (tq 8))]) (some ([0,1],[])):=rx
@[simp] theorem x132_2:RX 11 r132_2 (.str [oq 9 (.mv (tq 0)),os (.sto 3 (tq 1) (tq 9))]) (some ([0,1,4],[])):=rx
@[simp] theorem x132_3:RX 11 r132_3 (.str [oq 10 (.mv (tq 4)),oq 3 (.mv (tq 10))]) (some ([4],[])):=rx
def r89_0:=rg Tryz.f89 2
def r89_1:=rg Tryz.f89 5
def c89:Code:=(.seq r89_0 (.seq r89_1 .ret))
theorem b89:Tryz.f89.body = some c89:=by kernel_rfl
@[simp] theorem x89_0:RX 9 r89_0 (.str [oq 2 (.box (tq 0)),oq 4 (.mv (cb false))]) (some ([0,1],[2,3,4,5,7])):=rx
@[simp] theorem x89_1:RX 9 r89_1 (.str [oq 5 (.mv (tq 1)),oq 6 (.fa 37 (tq 2) 0),oq 7 (.ld 3 (tq 6)),oq 8 (.call false none (.func 94) [tq 5,ci 0,tq 7]),oq 4 (.mv (tq 8))]) (some ([0,1,2,3],[2,3])):=rx
def r88_0:=rg Tryz.f88 2
def r88_1:=rg Tryz.f88 5
def c88:Code:=(.seq r88_0 (.seq r88_1 .ret))
theorem b88:Tryz.f88.body = some c88:=by kernel_rfl
@[simp] theorem x88_0:RX 19 r88_0 (.str [oq 2 (.box (tq 0)),oq 3 (.box (tq 1)),oq 4 (.mv (cb false))]) (some ([0,1],[2])):=rx
@[simp] theorem x88_1:RX 19 r88_1 (.str [oq 5 (.fa 65 (tq 3) 0),oq 6 (.ld 3 (tq 5)),oq 7 (.fa 37 (tq 2) 1),oq 8 (.ld 3 (tq 7)),oq 9 (.bin .sub 3 (tq 8) (ci 1)),oq 10 (.call false none (.func 94) [tq 6,ci 0,tq 9]),oq 11 (.mv (tq 10)),og 11 true 12 (.fa 65 (tq 3) 1),og 11 true 13 (.ld 3 (tq 12)),og 11 true 14 (.fa 37 (tq 2) 2),og 11 true 15 (.ld 3 (tq 14)),og 11 true 16 (.bin .sub 3 (tq 15) (ci 1)),og 11 true 17 (.call false none (.func 94) [tq 13,ci 0,tq 16]),oq 18 (.pick (tq 11) (tq 17) (cb false)),oq 4 (.mv (tq 18))]) (some ([2,3],[2,3])):=rx
def r108_0:=rg Tryz.f108 2
def r108_1:=rg Tryz.f108 5
def c108:Code:=(.seq r108_0 (.seq r108_1 .ret))
theorem b108:Tryz.f108.body = some c108:=by kernel_rfl
@[simp] theorem x108_0:RX 14 r108_0 (.str [oq 2 (.box (tq 0)),oq 3 (.box (tq 1)),oq 4 (.mv (cb false))]) (some ([0,1],[2])):=rx
@[simp] theorem x108_1:RX 14 r108_1 (.str [oq 5 (.ld 37 (tq 2)),oq 6 (.fa 126 (tq 3) 0),oq 7 (.ld 3 (tq 6)),oq 8 (.call false none (.func 89) [tq 5,tq 7]),oq 9 (.mv (tq 8)),og 9 true 10 (.fa 126 (tq 3) 1),og 9 true 11 (.ld 3 (tq 10)),og 9 true 12 (.call false none (.func 110) [tq 11]),oq 13 (.pick (tq 9) (tq 12) (cb false)),oq 4 (.mv (tq 13))]) (some ([1,2,3,4],[2,3,4])):=rx
def r145_0:=rg Tryz.f145 2
def r145_1:=rg Tryz.f145 9
def r145_2:=rg Tryz.f145 69
def r145_3:=rg Tryz.f145 1125
def r145_4:=rg Tryz.f145 2661
def r145_5:=rg Tryz.f145 9829
def r145_6:=rg Tryz.f145 485
def r145_7:=rg Tryz.f145 11
def lb145_2:Code:=(.seq r145_2 (.seq (.cond (.tmp 9) .skip (.exit 0)) (.seq (.block 1 (.seq r145_3 (.seq r145_4 (.cond (.tmp 16) (.seq r145_5 .ret) .skip)))) r145_6)))
@[simp] theorem u145_2 (n:Nat) (st:XS):execA Tryz.prog ann kn n 19 lb145_2 st = execA Tryz.prog ann kn n 19 (.seq r145_2 (.seq (.cond (.tmp 9) .skip (.exit 0)) (.seq (.block 1 (.seq r145_3 (.seq r145_4 (.cond (.tmp 16) (.seq r145_5 .ret) .skip)))) r145_6))) st:=rfl
def c145:Code:=(.seq r145_0 (.seq (.seq r145_1 (.block 0 (.loop lb145_2))) (.seq r145_7 .ret)))
theorem b145:Tryz.f145.body = some c145:=by kernel_rfl
@[simp] theorem x145_0:RX 19 r145_0 (.str [oq 4 (.mv (ci 0))]) (some ([0,1],[])):=rx
@[simp] theorem x145_1:RX 19 r145_1 (.str [oq 6 (.mv (tq 0)),oq 7 (.oth (.call ⟨.builtin .len,#[tq 6],#[34]⟩)),oq 8 (.mv (ci 0))]) (some ([0,1],[])):=rx
@[simp] theorem x145_2:RX 19 r145_2 (.str [oq 9 (.bin .lss 3 (tq 8) (tq 7))]) (some ([0,1,7,8],[])):=rx
@[simp] theorem x145_3:RX 19 r145_3 (.str [oq 10 (.mv (tq 8)),oq 5 (.mv (tq 10))]) (some ([0,1,7,8],[])):=rx
@[simp] theorem x145_4:RX 19 r145_4 (.str [oq 11 (.mv (tq 1)),oq 12 (.mv (tq 0)),oq 13 (.mv (tq 5)),oq 14 (.oth (.indexAddr 34 (tq 12) (tq 13))),oq 15 (.ld 65 (tq 14)),oq 16 (.call false none (tq 11) [tq 15])]) (some ([0,1,5,7,8],[])):=rx
@[simp] theorem x145_5:RX 19 r145_5 (.str [oq 17 (.mv (tq 5)),oq 4 (.mv (tq 17))]) (some ([5],[])):=rx
@[simp] theorem x145_6:RX 19 r145_6 (.str [oq 18 (.bin .add 3 (tq 8) (ci 1)),oq 8 (.mv (tq 18))]) (some ([0,1,3,7,8],[])):=rx
@[simp] theorem x145_7:RX 19 r145_7 (.str [oq 4 (.mv (.const (.int .i64 (Int.negSucc 0))))]) (some ([],[])):=rx
@[simp] theorem l145_2:ann 19 (fstR lb145_2) = some ([0,1,7,8],[]):=by kernel_rfl
def r133_0:=rg Tryz.f133 2
def r133_1:=rg Tryz.f133 5
def c133:Code:=(.seq r133_0 (.seq r133_1 .ret))
theorem b133:Tryz.f133.body = some c133:=by kernel_rfl
@[simp] theorem x133_0:RX 9 r133_0 (.str [oq 4 (.mv (cb false))]) (some ([0,1],[])):=rx
@[simp] theorem x133_1:RX 9 r133_1 (.str [oq 5 (.mv (tq 0)),oq 6 (.mv (tq 1)),oq 7 (.call false none (.func 145) [tq 5,tq 6]),oq 8 (.bin .geq 3 (tq 7) (ci 0)),oq 4 (.mv (tq 8))]) (some ([0,1,2,3],[2,3])):=rx
def r114_0:=rg Tryz.f114 2
def r114_1:=rg Tryz.f114 5
def c114:Code:=(.seq r114_0 (.seq r114_1 .ret))
theorem b114:Tryz.f114.body = some c114:=by kernel_rfl
@[simp] theorem x114_0:RX 9 r114_0 (.str [oq 3 (.box (tq 1)),oq 4 (.mv (cb false))]) (some ([0,1],[3])):=rx
@[simp] theorem x114_1:RX 9 r114_1 (.str [oq 5 (.mv (tq 0)),oq 6 (.oth (.makeFunc (.func 134) #[] #[tq 3])),oq 7 (.call false none (.func 133) [tq 5,tq 6]),oq 8 (.oth (.unOp .not 4 (tq 7))),oq 4 (.mv (tq 8))]) (some ([0,1,2,3],[2,3])):=rx
def r134_0:=rg Tryz.f134 2
def r134_1:=rg Tryz.f134 5
def c134:Code:=(.seq r134_0 (.seq r134_1 .ret))
theorem b134:Tryz.f134.body = some c134:=by kernel_rfl
@[simp] theorem x134_0:RX 8 r134_0 (.str [oq 2 (.box (tq 0)),oq 3 (.mv (cb false))]) (some ([0,1],[])):=rx
@[simp] theorem x134_1:RX 8 r134_1 (.str [oq 4 (.ld 140 (tq 1)),oq 5 (.ld 65 (tq 2)),oq 6 (.call false none (tq 4) [tq 5]),oq 7 (.oth (.unOp .not 4 (tq 6))),oq 3 (.mv (tq 7))]) (some ([0,1,2],[2])):=rx
def r146_0:=rg Tryz.f146 2
def r146_1:=rg Tryz.f146 9
def r146_2:=rg Tryz.f146 69
def r146_3:=rg Tryz.f146 1125
def r146_4:=rg Tryz.f146 2661
def r146_5:=rg Tryz.f146 9829
def r146_6:=rg Tryz.f146 485
def r146_7:=rg Tryz.f146 11
def lb146_2:Code:=(.seq r146_2 (.seq (.cond (.tmp 9) .skip (.exit 0)) (.seq (.block 1 (.seq r146_3 (.seq r146_4 (.cond (.tmp 16) (.seq r146_5 .ret) .skip)))) r146_6)))
@[simp] theorem u146_2 (n:Nat) (st:XS):execA Tryz.prog ann kn n 19 lb146_2 st = execA Tryz.prog ann kn n 19 (.seq r146_2 (.seq (.cond (.tmp 9) .skip (.exit 0)) (.seq (.block 1 (.seq r146_3 (.seq r146_4 (.cond (.tmp 16) (.seq r146_5 .ret) .skip)))) r146_6))) st:=rfl
def c146:Code:=(.seq r146_0 (.seq (.seq r146_1 (.block 0 (.loop lb146_2))) (.seq r146_7 .ret)))
theorem b146:Tryz.f146.body = some c146:=by kernel_rfl
@[simp] theorem x146_0:RX 19 r146_0 (.str [oq 4 (.mv (ci 0))]) (some ([0,1],[])):=rx
@[simp] theorem x146_1:RX 19 r146_1 (.str [oq 6 (.mv (tq 0)),oq 7 (.oth (.call ⟨.builtin .len,#[tq 6],#[35]⟩)),oq 8 (.mv (ci 0))]) (some ([0,1],[])):=rx
@[simp] theorem x146_2:RX 19 r146_2 (.str [oq 9 (.bin .lss 3 (tq 8) (tq 7))]) (some ([0,1,7,8],[])):=rx
@[simp] theorem x146_3:RX 19 r146_3 (.str [oq 10 (.mv (tq 8)),oq 5 (.mv (tq 10))]) (some ([0,1,7,8],[])):=rx
@[simp] theorem x146_4:RX 19 r146_4 (.str [oq 11 (.mv (tq 1)),oq 12 (.mv (tq 0)),oq 13 (.mv (tq 5)),oq 14 (.oth (.indexAddr 35 (tq 12) (tq 13))),oq 15 (.ld 126 (tq 14)),oq 16 (.call false none (tq 11) [tq 15])]) (some ([0,1,5,7,8],[])):=rx
@[simp] theorem x146_5:RX 19 r146_5 (.str [oq 17 (.mv (tq 5)),oq 4 (.mv (tq 17))]) (some ([5],[])):=rx
@[simp] theorem x146_6:RX 19 r146_6 (.str [oq 18 (.bin .add 3 (tq 8) (ci 1)),oq 8 (.mv (tq 18))]) (some ([0,1,3,7,8],[])):=rx
@[simp] theorem x146_7:RX 19 r146_7 (.str [oq 4 (.mv (.const (.int .i64 (Int.negSucc 0))))]) (some ([],[])):=rx
@[simp] theorem l146_2:ann 19 (fstR lb146_2) = some ([0,1,7,8],[]):=by kernel_rfl
def r135_0:=rg Tryz.f135 2
def r135_1:=rg Tryz.f135 5
def c135:Code:=(.seq r135_0 (.seq r135_1 .ret))
theorem b135:Tryz.f135.body = some c135:=by kernel_rfl
@[simp] theorem x135_0:RX 9 r135_0 (.str [oq 4 (.mv (cb false))]) (some ([0,1],[])):=rx
@[simp] theorem x135_1:RX 9 r135_1 (.str [oq 5 (.mv (tq 0)),oq 6 (.mv (tq 1)),oq 7 (.call false none (.func 146) [tq 5,tq 6]),oq 8 (.bin .geq 3 (tq 7) (ci 0)),oq 4 (.mv (tq 8))]) (some ([0,1,2,3],[2,3])):=rx
def r115_0:=rg Tryz.f115 2
def r115_1:=rg Tryz.f115 5
def c115:Code:=(.seq r115_0 (.seq r115_1 .ret))
theorem b115:Tryz.f115.body = some c115:=by kernel_rfl
@[simp] theorem x115_0:RX 9 r115_0 (.str [oq 3 (.box (tq 1)),oq 4 (.mv (cb false))]) (some ([0,1],[3])):=rx
@[simp] theorem x115_1:RX 9 r115_1 (.str [oq 5 (.mv (tq 0)),oq 6 (.oth (.makeFunc (.func 136) #[] #[tq 3])),oq 7 (.call false none (.func 135) [tq 5,tq 6]),oq 8 (.oth (.unOp .not 4 (tq 7))),oq 4 (.mv (tq 8))]) (some ([0,1,2,3],[2,3])):=rx
def r136_0:=rg Tryz.f136 2
def r136_1:=rg Tryz.f136 5
def c136:Code:=(.seq r136_0 (.seq r136_1 .ret))
theorem b136:Tryz.f136.body = some c136:=by kernel_rfl
@[simp] theorem x136_0:RX 8 r136_0 (.str [oq 2 (.box (tq 0)),oq 3 (.mv (cb false))]) (some ([0,1],[])):=rx
@[simp] theorem x136_1:RX 8 r136_1 (.str [oq 4 (.ld 163 (tq 1)),oq 5 (.ld 126 (tq 2)),oq 6 (.call false none (tq 4) [tq 5]),oq 7 (.oth (.unOp .not 4 (tq 6))),oq 3 (.mv (tq 7))]) (some ([0,1,2],[2])):=rx
def r63_0:=rg Tryz.f63 2
def r63_1:=rg Tryz.f63 5
def r63_2:=rg Tryz.f63 35
def r63_3:=rg Tryz.f63 147
def r63_4:=rg Tryz.f63 179
def r63_5:=rg Tryz.f63 627
def r63_6:=rg Tryz.f63 755
def r63_7:=rg Tryz.f63 2547
def r63_8:=rg Tryz.f63 23
def c63:Code:=(.seq r63_0 (.seq r63_1 (.seq (.block 0 (.seq r63_2 (.cond (.tmp 9) (.seq r63_3 .ret) (.seq r63_4 (.cond (.tmp 35) (.seq r63_5 .ret) (.seq r63_6 (.cond (.tmp 81) (.seq r63_7 .ret) .skip))))))) (.seq r63_8 .ret))))
theorem b63:Tryz.f63.body = some c63:=by kernel_rfl
@[simp] theorem x63_0:RX 112 r63_0 (.str [oq 1 (.box (tq 0)),oq 2 (.mv (ci 0))]) (some ([0],[1])):=rx
@[simp] theorem x63_1:RX 112 r63_1 (.drw [⟨[],[oq 5 (.ld 37 (tq 1)),oq 6 (.oth (.makeFunc (.func 88) #[tq 5] #[])),oq 7 (.ld 37 (tq 1)),oq 8 (.oth (.makeFunc (.func 108) #[tq 7] #[])),oq 3 (.mv (tq 6)),oq 4 (.mv (tq 8))],[]⟩]) (some ([1],[1])):=rx
@[simp] theorem x63_2:RX 112 r63_2 (.str [oq 10 (.fa 37 (tq 1) 0),oq 11 (.ld 3 (tq 10)),oq 12 (.bin .gtr 3 (tq 11) (ci 4)),oq 13 (.mv (tq 12)),og 13 false 14 (.fa 37 (tq 1) 1),og 13 false 15 (.ld 3 (tq 14)),og 13 false 16 (.bin .gtr 3 (tq 15) (ci 3)),oq 17 (.pick (tq 13) (cb true) (tq 16)),oq 18 (.mv (tq 17)),og 18 false 19 (.fa 37 (tq 1) 2),og 18 false 20 (.ld 3 (tq 19)),og 18 false 21 (.bin .gtr 3 (tq 20) (ci 5)),oq 22 (.pick (tq 18) (cb true) (tq 21)),oq 23 (.mv (tq 22)),og 23 false 24 (.fa 37 (tq 1) 7),og 23 false 25 (.ld 34 (tq 24)),og 23 false 26 (.oth (.call ⟨.builtin .len,#[tq 25],#[34]⟩)),og 23 false 27 (.bin .gtr 3 (tq 26) (ci 4)),oq 28 (.pick (tq 23) (cb true) (tq 27)),oq 29 (.mv (tq 28)),og 29 false 30 (.fa 37 (tq 1) 8),og 29 false 31 (.ld 35 (tq 30)),og 29 false 32 (.oth (.call ⟨.builtin .len,#[tq 31],#[35]⟩)),og 29 false 33 (.bin .gtr 3 (tq 32) (ci 5)),oq 34 (.pick (tq 29) (cb true) (tq 33)),oq 9 (.mv (tq 34))]) (some ([1,3,4],[1])):=rx
@[simp] theorem x63_3:RX 112 r63_3 (.str [oq 2 (.mv (ci 3))]) (some ([],[])):=rx
@[simp] theorem x63_4:RX 112 r63_4 (.str [oq 36 (.fa 37 (tq 1) 0),oq 37 (.ld 3 (tq 36)),oq 38 (.bin .lss 3 (tq 37) (ci 0)),oq 39 (.mv (tq 38)),og 39 false 40 (.fa 37 (tq 1) 1),og 39 false 41 (.ld 3 (tq 40)),og 39 false 42 (.bin .lss 3 (tq 41) (ci 1)),oq 43 (.pick (tq 39) (cb true) (tq 42)),oq 44 (.mv (tq 43)),og 44 false 45 (.fa 37 (tq 1) 2),og 44 false 46 (.ld 3 (tq 45)),og 44 false 47 (.bin .lss 3 (tq 46) (ci 1)),oq 48 (.pick (tq 44) (cb true) (tq 47)),oq 49 (.mv (tq 48)),og 49 false 50 (.fa 37 (tq 1) 3),og 49 false 51 (.ld 3 (tq 50)),og 49 false 52 (.call false none (.func 94) [tq 51,ci 0,ci 4]),og 49 false 53 (.oth (.unOp .not 4 (tq 52))),oq 54 (.pick (tq 49) (cb true) (tq 53)),oq 55 (.mv (tq 54)),og 55 false 56 (.fa 37 (tq 1) 4),og 55 false 57 (.ld 22 (tq 56)),og 55 false 58 (.oth (.call ⟨.builtin .len,#[tq 57],#[22]⟩)),og 55 false 59 (.fa 37 (tq 1) 1),og 55 false 60 (.ld 3 (tq 59)),og 55 false 61 (.bin .neq 3 (tq 58) (tq 60)),oq 62 (.pick (tq 55) (cb true) (tq 61)),oq 63 (.mv (tq 62)),og 63 false 64 (.fa 37 (tq 1) 5),og 63 false 65 (.ld 22 (tq 64)),og 63 false 66 (.oth (.call ⟨.builtin .len,#[tq 65],#[22]⟩)),og 63 false 67 (.fa 37 (tq 1) 0),og 63 false 68 (.ld 3 (tq 67)),og 63 false 69 (.bin .add 3 (tq 68) (ci 1)),og 63 false 70 (.bin .neq 3 (tq 66) (tq 69)),oq 71 (.pick (tq 63) (cb true) (tq 70)),oq 72 (.mv (tq 71)),og 72 false 73 (.fa 37 (tq 1) 6),og 72 false 74 (.ld 23 (tq 73)),og 72 false 75 (.oth (.call ⟨.builtin .len,#[tq 74],#[23]⟩)),og 72 false 76 (.fa 37 (tq 1) 0),og 72 false 77 (.ld 3 (tq 76)),og 72 false 78 (.bin .add 3 (tq 77) (ci 1)),og 72 false 79 (.bin .neq 3 (tq 75) (tq 78)),oq 80 (.pick (tq 72) (cb true) (tq 79)),oq 35 (.mv (tq 80))]) (some ([1,3,4],[1])):=rx
@[simp] theorem x63_5:RX 112 r63_5 (.str [oq 2 (.mv (ci 1))]) (some ([],[])):=rx
@[simp] theorem x63_6:RX 112 r63_6 (.str [oq 82 (.fa 37 (tq 1) 4),oq 83 (.ld 22 (tq 82)),oq 84 (.call false none (.func 109) [tq 83,.func 110]),oq 85 (.oth (.unOp .not 4 (tq 84))),oq 86 (.mv (tq 85)),og 86 false 87 (.fa 37 (tq 1) 5),og 86 false 88 (.ld 22 (tq 87)),og 86 false 89 (.call false none (.func 109) [tq 88,.func 111]),og 86 false 90 (.oth (.unOp .not 4 (tq 89))),oq 91 (.pick (tq 86) (cb true) (tq 90)),oq 92 (.mv (tq 91)),og 92 false 93 (.fa 37 (tq 1) 6),og 92 false 94 (.ld 23 (tq 93)),og 92 false 95 (.call false none (.func 112) [tq 94,.func 113]),og 92 false 96 (.oth (.unOp .not 4 (tq 95))),oq 97 (.pick (tq 92) (cb true) (tq 96)),oq 98 (.mv (tq 97)),og 98 false 99 (.fa 37 (tq 1) 7),og 98 false 100 (.ld 34 (tq 99)),og 98 false 101 (.mv (tq 3)),og 98 false 102 (.call false none (.func 114) [tq 100,tq 101]),og 98 false 103 (.oth (.unOp .not 4 (tq 102))),oq 104 (.pick (tq 98) (cb true) (tq 103)),oq 105 (.mv (tq 104)),og 105 false 106 (.fa 37 (tq 1) 8),og 105 false 107 (.ld 35 (tq 106)),og 105 false 108 (.mv (tq 4)),og 105 false 109 (.call false none (.func 115) [tq 107,tq 108]),og 105 false 110 (.oth (.unOp .not 4 (tq 109))),oq 111 (.pick (tq 105) (cb true) (tq 110)),oq 81 (.mv (tq 111))]) (some ([1,3,4],[1])):=rx
@[simp] theorem x63_7:RX 112 r63_7 (.str [oq 2 (.mv (ci 1))]) (some ([],[])):=rx
@[simp] theorem x63_8:RX 112 r63_8 (.str [oq 2 (.mv (ci 0))]) (some ([],[])):=rx
def r74_0:=rg Tryz.f74 2
def r74_1:=rg Tryz.f74 5
def c74:Code:=(.seq r74_0 (.seq r74_1 .ret))
theorem b74:Tryz.f74.body = some c74:=by kernel_rfl
@[simp] theorem x74_0:RX 16 r74_0 (.str [oq 2 (.box (tq 0)),oq 4 (.mv (cb false))]) (some ([0,1],[2])):=rx
@[simp] theorem x74_1:RX 16 r74_1 (.str [oq 5 (.mv (tq 1)),oq 6 (.oth (.call ⟨.builtin .len,#[tq 5],#[23]⟩)),oq 7 (.fa 37 (tq 2) 0),oq 8 (.ld 3 (tq 7)),oq 9 (.bin .add 3 (tq 8) (ci 1)),oq 10 (.bin .eql 3 (tq 6) (tq 9)),oq 11 (.mv (tq 10)),og 11 true 12 (.mv (tq 1)),og 11 true 13 (.oth (.makeFunc (.func 116) #[] #[tq 2])),og 11 true 14 (.call false none (.func 112) [tq 12,tq 13]),oq 15 (.pick (tq 11) (tq 14) (cb false)),oq 4 (.mv (tq 15))]) (some ([0,1,2],[2])):=rx
def r116_0:=rg Tryz.f116 2
def r116_1:=rg Tryz.f116 5
def c116:Code:=(.seq r116_0 (.seq r116_1 .ret))
theorem b116:Tryz.f116.body = some c116:=by kernel_rfl
@[simp] theorem x116_0:RX 13 r116_0 (.str [oq 3 (.mv (cb false))]) (some ([0,1,2],[3,4,5,9])):=rx
@[simp] theorem x116_1:RX 13 r116_1 (.str [oq 4 (.mv (tq 0)),oq 5 (.oth (.call ⟨.builtin .len,#[tq 4],#[22]⟩)),oq 6 (.fa 37 (tq 1) 1),oq 7 (.ld 3 (tq 6)),oq 8 (.bin .eql 3 (tq 5) (tq 7)),oq 9 (.mv (tq 8)),og 9 true 10 (.mv (tq 0)),og 9 true 11 (.call false none (.func 109) [tq 10,.func 110]),oq 12 (.pick (tq 9) (tq 11) (cb false)),oq 3 (.mv (tq 12))]) (some ([0,1],[])):=rx
def r120_0:=rg Tryz.f120 2
def r120_1:=rg Tryz.f120 5
def c120:Code:=(.seq r120_0 (.seq r120_1 .ret))
theorem b120:Tryz.f120.body = some c120:=by kernel_rfl
@[simp] theorem x120_0:RX 6 r120_0 (.str [oq 2 (.mv (ci 0))]) (some ([0,1],[])):=rx
@[simp] theorem x120_1:RX 6 r120_1 (.str [oq 3 (.mv (tq 0)),oq 4 (.bin .add 3 (tq 3) (ci 2)),oq 5 (.bin .rem 3 (tq 4) (ci 4)),oq 2 (.mv (tq 5))]) (some ([0,1],[])):=rx
def r121_0:=rg Tryz.f121 2
def r121_1:=rg Tryz.f121 5
def c121:Code:=(.seq r121_0 (.seq r121_1 .ret))
theorem b121:Tryz.f121.body = some c121:=by kernel_rfl
@[simp] theorem x121_0:RX 11 r121_0 (.str [oq 3 (.box (tq 0)),oq 4 (.box (tq 1)),oq 5 (.box (tq 2)),oq 6 (.mv (cb false))]) (some ([0,1,2],[3,4,5])):=rx
@[simp] theorem x121_1:RX 11 r121_1 (.str [oq 7 (.fa 37 (tq 3) 7),oq 8 (.ld 34 (tq 7)),oq 9 (.oth (.makeFunc (.func 141) #[] #[tq 5,tq 4,tq 3])),oq 10 (.call false none (.func 133) [tq 8,tq 9]),oq 6 (.mv (tq 10))]) (some ([3,4,5],[3,4,5])):=rx
def r141_0:=rg Tryz.f141 2
def r141_1:=rg Tryz.f141 5
def r141_2:=rg Tryz.f141 35
def r141_3:=rg Tryz.f141 83
def r141_4:=rg Tryz.f141 179
def r141_5:=rg Tryz.f141 371
def r141_6:=rg Tryz.f141 755
def r141_7:=rg Tryz.f141 1523
def r141_8:=rg Tryz.f141 3059
def r141_9:=rg Tryz.f141 6131
def r141_10:=rg Tryz.f141 23
def c141:Code:=(.seq r141_0 (.seq r141_1 (.seq (.block 0 (.seq r141_2 (.cond (.tmp 7) r141_3 (.seq r141_4 (.cond (.tmp 22) r141_5 (.seq r141_6 (.cond (.tmp 37) r141_7 (.seq r141_8 (.cond (.tmp 52) r141_9 .skip))))))))) (.seq r141_10 .ret))))
theorem b141:Tryz.f141.body = some c141:=by kernel_rfl
@[simp] theorem x141_0:RX 71 r141_0 (.str [oq 4 (.box (tq 0)),oq 5 (.mv (cb false))]) (some ([0,1,2,3],[])):=rx
@[simp] theorem x141_1:RX 71 r141_1 (.str [oq 6 (.mv (ci 0))]) (some ([1,2,3,4],[4])):=rx
@[simp] theorem x141_2:RX 71 r141_2 (.str [oq 8 (.ld 3 (tq 1)),oq 9 (.bin .eql 3 (tq 8) (ci 0)),oq 10 (.mv (tq 9)),og 10 true 11 (.fa 65 (tq 4) 1),og 10 true 12 (.ld 3 (tq 11)),og 10 true 13 (.fa 65 (tq 2) 1),og 10 true 14 (.ld 3 (tq 13)),og 10 true 15 (.bin .eql 3 (tq 12) (tq 14)),oq 16 (.pick (tq 10) (tq 15) (cb false)),oq 7 (.mv (tq 16))]) (some ([1,2,3,4,6],[4])):=rx
@[simp] theorem x141_3:RX 71 r141_3 (.str [oq 17 (.fa 65 (tq 2) 0),oq 18 (.ld 3 (tq 17)),oq 19 (.fa 65 (tq 4) 0),oq 20 (.ld 3 (tq 19)),oq 21 (.bin .sub 3 (tq 18) (tq 20)),oq 6 (.mv (tq 21))]) (some ([2,3,4],[4])):=rx
@[simp] theorem x141_4:RX 71 r141_4 (.str [oq 23 (.ld 3 (tq 1)),oq 24 (.bin .eql 3 (tq 23) (ci 2)),oq 25 (.mv (tq 24)),og 25 true 26 (.fa 65 (tq 4) 1),og 25 true 27 (.ld 3 (tq 26)),og 25 true 28 (.fa 65 (tq 2) 1),og 25 true 29 (.ld 3 (tq 28)),og 25 true 30 (.bin .eql 3 (tq 27) (tq 29)),oq 31 (.pick (tq 25) (tq 30) (cb false)),oq 22 (.mv (tq 31))]) (some ([1,2,3,4,6],[4])):=rx
@[simp] theorem x141_5:RX 71 r141_5 (.str [oq 32 (.fa 65 (tq 4) 0),oq 33 (.ld 3 (tq 32)),oq 34 (.fa 65 (tq 2) 0),oq 35 (.ld 3 (tq 34)),oq 36 (.bin .sub 3 (tq 33) (tq 35)),oq 6 (.mv (tq 36))]) (some ([2,3,4],[4])):=rx
@[simp] theorem x141_6:RX 71 r141_6 (.str [oq 38 (.ld 3 (tq 1)),oq 39 (.bin .eql 3 (tq 38) (ci 3)),oq 40 (.mv (tq 39)),og 40 true 41 (.fa 65 (tq 4) 0),og 40 true 42 (.ld 3 (tq 41)),og 40 true 43 (.fa 65 (tq 2) 0),og 40 true 44 (.ld 3 (tq 43)),og 40 true 45 (.bin .eql 3 (tq 42) (tq 44)),oq 46 (.pick (tq 40) (tq 45) (cb false)),oq 37 (.mv (tq 46))]) (some ([1,2,3,4,6],[4])):=rx
@[simp] theorem x141_7:RX 71 r141_7 (.str [oq 47 (.fa 65 (tq 2) 1),oq 48 (.ld 3 (tq 47)),oq 49 (.fa 65 (tq 4) 1),oq 50 (.ld 3 (tq 49)),oq 51 (.bin .sub 3 (tq 48) (tq 50)),oq 6 (.mv (tq 51))]) (some ([2,3,4],[4])):=rx
@[simp] theorem x141_8:RX 71 r141_8 (.str [oq 53 (.ld 3 (tq 1)),oq 54 (.bin .eql 3 (tq 53) (ci 1)),oq 55 (.mv (tq 54)),og 55 true 56 (.fa 65 (tq 4) 0),og 55 true 57 (.ld 3 (tq 56)),og 55 true 58 (.fa 65 (tq 2) 0),og 55 true 59 (.ld 3 (tq 58)),og 55 true 60 (.bin .eql 3 (tq 57) (tq 59)),oq 61 (.pick (tq 55) (tq 60) (cb false)),oq 52 (.mv (tq 61))]) (some ([1,2,3,4,6],[4])):=rx
@[simp] theorem x141_9:RX 71 r141_9 (.str [oq 62 (.fa 65 (tq 4) 1),oq 63 (.ld 3 (tq 62)),oq 64 (.fa 65 (tq 2) 1),oq 65 (.ld 3 (tq 64)),oq 66 (.bin .sub 3 (tq 63) (tq 65)),oq 6 (.mv (tq 66))]) (some ([2,3,4],[4])):=rx
@[simp] theorem x141_10:RX 71 r141_10 (.str [oq 67 (.mv (tq 6)),oq 68 (.fa 37 (tq 3) 3),oq 69 (.ld 3 (tq 68)),oq 70 (.call false none (.func 94) [tq 67,ci 1,tq 69]),oq 5 (.mv (tq 70))]) (some ([3,6],[])):=rx
def r90_0:=rg Tryz.f90 2
def r90_1:=rg Tryz.f90 5
def c90:Code:=(.seq r90_0 (.seq r90_1 .ret))
theorem b90:Tryz.f90.body = some c90:=by kernel_rfl
@[simp] theorem x90_0:RX 19 r90_0 (.str [oq 4 (.box (tq 0)),oq 5 (.box (tq 1)),oq 8 (.mv (cb false))]) (some ([0,1,2,3],[4])):=rx
@[simp] theorem x90_1:RX 19 r90_1 (.str [oq 9 (.mv (tq 2)),oq 10 (.mv (tq 3)),oq 11 (.call false none (.func 120) [tq 10]),oq 12 (.bin .eql 3 (tq 9) (tq 11)),oq 13 (.mv (tq 12)),og 13 false 14 (.ld 37 (tq 4)),og 13 false 15 (.ld 65 (tq 5)),og 13 false 16 (.mv (tq 3)),og 13 false 17 (.call false none (.func 121) [tq 14,tq 15,tq 16]),oq 18 (.pick (tq 13) (cb true) (tq 17)),oq 8 (.mv (tq 18))]) (some ([2,3,4,5],[4,5])):=rx
def r78_0:=rg Tryz.f78 2
def r78_1:=rg Tryz.f78 5
def r78_2:=rg Tryz.f78 19
def r78_3:=rg Tryz.f78 43
def r78_4:=rg Tryz.f78 39
def r78_5:=rg Tryz.f78 87
def r78_6:=rg Tryz.f78 47
def r78_7:=rg Tryz.f78 95
def c78:Code:=(.seq r78_0 (.seq r78_1 (.seq (.seq r78_2 (.cond (.tmp 25) r78_3 .skip)) (.seq (.seq r78_4 (.cond (.tmp 27) r78_5 .skip)) (.seq r78_6 (.seq r78_7 .ret))))))
theorem b78:Tryz.f78.body = some c78:=by kernel_rfl
@[simp] theorem x78_0:RX 36 r78_0 (.str [oq 5 (.box (tq 0)),oq 6 (.box (tq 1)),oq 10 (.alloc 107)]) (some ([0,1,2,3,4],[5])):=rx
@[simp] theorem x78_1:RX 36 r78_1 (.drw [⟨[],[oq 13 (.fa 37 (tq 5) 5),oq 14 (.ld 22 (tq 13)),oq 15 (.mv (tq 2)),oq 16 (.oth (.indexAddr 22 (tq 14) (tq 15))),oq 17 (.ld 3 (tq 16)),oq 18 (.mv (tq 3)),oq 19 (.bin .eql 3 (tq 17) (tq 18)),oq 20 (.ld 37 (tq 5)),oq 21 (.ld 65 (tq 6)),oq 22 (.mv (tq 3)),oq 23 (.mv (tq 4)),oq 24 (.call false none (.func 90) [tq 20,tq 21,tq 22,tq 23]),oq 11 (.mv (tq 19)),oq 12 (.mv (tq 24))],[]⟩]) (some ([2,3,4,5,6,10],[5,6,10])):=rx
@[simp] theorem x78_2:RX 36 r78_2 (.str [oq 25 (.mv (tq 11))]) (some ([10,11,12],[10])):=rx
@[simp] theorem x78_3:RX 36 r78_3 (.str [oq 26 (.fa 107 (tq 10) 0),os (.sto 3 (tq 26) (ci 1))]) (some ([10,12],[10])):=rx
@[simp] theorem x78_4:RX 36 r78_4 (.str [oq 27 (.mv (tq 12))]) (some ([10,12],[10])):=rx
@[simp] theorem x78_5:RX 36 r78_5 (.str [oq 28 (.fa 107 (tq 10) 1),os (.sto 3 (tq 28) (ci 1))]) (some ([10],[10])):=rx
@[simp] theorem x78_6:RX 36 r78_6 (.str [oq 29 (.fa 107 (tq 10) 0),oq 30 (.ld 3 (tq 29)),oq 31 (.fa 107 (tq 10) 1),oq 32 (.ld 3 (tq 31)),oq 33 (.bin .mul 3 (tq 30) (tq 32)),oq 34 (.fa 107 (tq 10) 2),os (.sto 3 (tq 34) (tq 33))]) (some ([10],[10])):=rx
@[simp] theorem x78_7:RX 36 r78_7 (.str [oq 35 (.ld 107 (tq 10)),os (.sto 107 (tq 10) (tq 35))]) (some ([10],[10])):=rx
def r53_0:=rg Tryz.f53 2
def r53_1:=rg Tryz.f53 5
def r53_2:=rg Tryz.f53 19
def r53_3:=rg Tryz.f53 267
def r53_5:=rg Tryz.f53 1099
def r53_6:=rg Tryz.f53 1611
def r53_4:=rg Tryz.f53 459
def r53_7:=rg Tryz.f53 23
def lb53_3:Code:=(.seq (.seq r53_3 (.cond (.tmp 12) .skip (.exit 0))) (.seq (.block 1 (.seq r53_5 r53_6)) r53_4))
@[simp] theorem u53_3 (n:Nat) (st:XS):execA Tryz.prog ann kn n 35 lb53_3 st = execA Tryz.prog ann kn n 35 (.seq (.seq r53_3 (.cond (.tmp 12) .skip (.exit 0))) (.seq (.block 1 (.seq r53_5 r53_6)) r53_4)) st:=rfl
def c53:Code:=(.seq r53_0 (.seq r53_1 (.seq (.seq r53_2 (.block 0 (.loop lb53_3))) (.seq r53_7 .ret))))
theorem b53:Tryz.f53.body = some c53:=by kernel_rfl
@[simp] theorem x53_0:RX 35 r53_0 (.str [oq 2 (.box (tq 0)),oq 4 (.mv (.const (.slice none 0 0)))]) (some ([0,1],[2])):=rx
@[simp] theorem x53_1:RX 35 r53_1 (.str [oq 5 (.mv (.const (.slice none 0 0)))]) (some ([1,2],[2])):=rx
@[simp] theorem x53_2:RX 35 r53_2 (.str [oq 6 (.mv (ci 0))]) (some ([1,2,5],[2,29])):=rx
@[simp] theorem x53_3:RX 35 r53_3 (.str [oq 8 (.mv (tq 6)),oq 9 (.fa 27 (tq 2) 6),oq 10 (.ld 23 (tq 9)),oq 11 (.oth (.call ⟨.builtin .len,#[tq 10],#[23]⟩)),oq 12 (.bin .lss 3 (tq 8) (tq 11))]) (some ([1,2,5,6],[2,29])):=rx
@[simp] theorem x53_5:RX 35 r53_5 (.str [oq 15 (.fa 27 (tq 2) 6),oq 16 (.ld 23 (tq 15)),oq 17 (.mv (tq 6)),oq 18 (.oth (.indexAddr 23 (tq 16) (tq 17))),oq 19 (.ld 22 (tq 18)),oq 7 (.mv (tq 19))]) (some ([1,2,5,6],[2,29])):=rx
@[simp] theorem x53_6:RX 35 r53_6 (.drw [⟨[],[oq 20 (.mv (tq 5)),oq 21 (.mv (tq 7)),oq 22 (.mv (tq 1)),oq 23 (.mv (tq 7)),oq 24 (.oth (.call ⟨.builtin .len,#[tq 23],#[22]⟩)),oq 25 (.bin .rem 3 (tq 22) (tq 24)),oq 26 (.oth (.indexAddr 22 (tq 21) (tq 25))),oq 27 (.ld 3 (tq 26)),oq 28 (.buildS 22 1 [(0,tq 27)]),oq 30 (.mv (tq 1)),oq 31 (.mv (tq 7)),oq 32 (.oth (.call ⟨.builtin .len,#[tq 31],#[22]⟩)),oq 33 (.bin .quo 3 (tq 30) (tq 32)),oq 29 (.app [tq 20,tq 28] [22,22]),oq 5 (.mv (tq 29)),oq 1 (.mv (tq 33))],[]⟩]) (some ([1,2,5,6,7],[2,29])):=rx
@[simp] theorem x53_4:RX 35 r53_4 (.str [oq 13 (.mv (tq 6)),oq 14 (.bin .add 3 (tq 13) (ci 1)),oq 6 (.mv (tq 14))]) (some ([1,2,5,6],[2,29])):=rx
@[simp] theorem x53_7:RX 35 r53_7 (.str [oq 34 (.mv (tq 5)),oq 4 (.mv (tq 34))]) (some ([5],[29])):=rx
@[simp] theorem l53_3:ann 35 (fstR lb53_3) = some ([1,2,5,6],[2,29]):=by kernel_rfl
def r103_0:=rg Tryz.f103 2
def r103_1:=rg Tryz.f103 9
def r103_2:=rg Tryz.f103 37
def r103_3:=rg Tryz.f103 11
def c103:Code:=(.seq r103_0 (.seq (.seq r103_1 (.cond (.tmp 7) (.seq r103_2 .ret) .skip)) (.seq r103_3 .ret)))
theorem b103:Tryz.f103.body = some c103:=by kernel_rfl
@[simp] theorem x103_0:RX 16 r103_0 (.str [oq 4 (.mv (ci 0))]) (some ([0,1],[])):=rx
@[simp] theorem x103_1:RX 16 r103_1 (.str [oq 5 (.mv (tq 0)),oq 6 (.oth (.call ⟨.builtin .len,#[tq 5],#[87]⟩)),oq 7 (.bin .eql 3 (tq 6) (ci 0))]) (some ([0,1],[])):=rx
@[simp] theorem x103_2:RX 16 r103_2 (.str [oq 4 (.mv (ci 0))]) (some ([],[])):=rx
@[simp] theorem x103_3:RX 16 r103_3 (.str [oq 8 (.mv (tq 0)),oq 9 (.mv (tq 1)),oq 10 (.mv (tq 0)),oq 11 (.oth (.call ⟨.builtin .len,#[tq 10],#[87]⟩)),oq 12 (.bin .rem 3 (tq 9) (tq 11)),oq 13 (.oth (.indexAddr 87 (tq 8) (tq 12))),oq 14 (.ld 95 (tq 13)),oq 15 (.oth (.convert 95 3 (tq 14))),oq 4 (.mv (tq 15))]) (some ([0,1],[])):=rx
def r46_0:=rg Tryz.f46 2
def r46_1:=rg Tryz.f46 5
def r46_2:=rg Tryz.f46 19
def r46_3:=rg Tryz.f46 267
def r46_5:=rg Tryz.f46 1099
def r46_6:=rg Tryz.f46 4683
def r46_7:=rg Tryz.f46 68171
def r46_9:=rg Tryz.f46 281163
def r46_10:=rg Tryz.f46 412235
def r46_8:=rg Tryz.f46 117323
def r46_11:=rg Tryz.f46 3659
def r46_4:=rg Tryz.f46 459
def r46_12:=rg Tryz.f46 23
def lb46_7:Code:=(.seq (.seq r46_7 (.cond (.tmp 19) .skip (.exit 2))) (.seq (.block 3 (.seq r46_9 r46_10)) r46_8))
@[simp] theorem u46_7 (n:Nat) (st:XS):execA Tryz.prog ann kn n 39 lb46_7 st = execA Tryz.prog ann kn n 39 (.seq (.seq r46_7 (.cond (.tmp 19) .skip (.exit 2))) (.seq (.block 3 (.seq r46_9 r46_10)) r46_8)) st:=rfl
def lb46_3:Code:=(.seq (.seq r46_3 (.cond (.tmp 13) .skip (.exit 0))) (.seq (.block 1 (.seq r46_5 (.seq (.seq r46_6 (.block 2 (.loop lb46_7))) r46_11))) r46_4))
@[simp] theorem u46_3 (n:Nat) (st:XS):execA Tryz.prog ann kn n 39 lb46_3 st = execA Tryz.prog ann kn n 39 (.seq (.seq r46_3 (.cond (.tmp 13) .skip (.exit 0))) (.seq (.block 1 (.seq r46_5 (.seq (.seq r46_6 (.block 2 (.loop lb46_7))) r46_11))) r46_4)) st:=rfl
def c46:Code:=(.seq r46_0 (.seq r46_1 (.seq (.seq r46_2 (.block 0 (.loop lb46_3))) (.seq r46_12 .ret))))
theorem b46:Tryz.f46.body = some c46:=by kernel_rfl
@[simp] theorem x46_0:RX 39 r46_0 (.str [oq 2 (.box (tq 0)),oq 4 (.mv (.const (.slice none 0 0)))]) (some ([0,1],[2])):=rx
@[simp] theorem x46_1:RX 39 r46_1 (.str [oq 5 (.mv (.const (.slice none 0 0)))]) (some ([1,2],[2])):=rx
@[simp] theorem x46_2:RX 39 r46_2 (.str [oq 6 (.mv (ci 0))]) (some ([1,2,5],[2,37])):=rx
@[simp] theorem x46_3:RX 39 r46_3 (.str [oq 10 (.mv (tq 6)),oq 11 (.fa 27 (tq 2) 0),oq 12 (.ld 3 (tq 11)),oq 13 (.bin .leq 3 (tq 10) (tq 12))]) (some ([1,2,5,6],[2,37])):=rx
@[simp] theorem x46_5:RX 39 r46_5 (.str [oq 7 (.mv (.const (.slice none 0 0)))]) (some ([1,2,5,6],[2,37])):=rx
@[simp] theorem x46_6:RX 39 r46_6 (.str [oq 8 (.mv (ci 0))]) (some ([1,2,5,6,7],[2,33,37])):=rx
@[simp] theorem x46_7:RX 39 r46_7 (.str [oq 16 (.mv (tq 8)),oq 17 (.fa 27 (tq 2) 1),oq 18 (.ld 3 (tq 17)),oq 19 (.bin .lss 3 (tq 16) (tq 18))]) (some ([1,2,5,6,7,8],[2,33,37])):=rx
@[simp] theorem x46_9:RX 39 r46_9 (.str [oq 22 (.mv (tq 1)),oq 23 (.mv (tq 6)),oq 24 (.call false none (.func 103) [tq 22,tq 23]),oq 9 (.mv (tq 24))]) (some ([1,2,5,6,7,8],[2,33,37])):=rx
@[simp] theorem x46_10:RX 39 r46_10 (.str [oq 25 (.mv (tq 7)),oq 26 (.mv (tq 9)),oq 27 (.mv (tq 8)),oq 28 (.bin .mul 3 (ci 2) (tq 27)),oq 29 (.oth (.convert 3 93 (tq 28))),oq 30 (.bin .shr 3 (tq 26) (tq 29)),oq 31 (.bin .rem 3 (tq 30) (ci 4)),oq 32 (.buildS 22 1 [(0,tq 31)]),oq 33 (.app [tq 25,tq 32] [22,22]),oq 7 (.mv (tq 33))]) (some ([1,2,5,6,7,8,9],[2,33,37])):=rx
@[simp] theorem x46_8:RX 39 r46_8 (.str [oq 20 (.mv (tq 8)),oq 21 (.bin .add 3 (tq 20) (ci 1)),oq 8 (.mv (tq 21))]) (some ([1,2,5,6,7,8],[2,33,37])):=rx
@[simp] theorem x46_11 (n:Nat) (st:XS):execA Tryz.prog ann kn (n + 1) 39 r46_11 st = toN (runR Tryz.prog (envA Tryz.prog ann kn n) (.str [oq 34 (.mv (tq 5)),oq 35 (.mv (tq 7)),oq 36 (.buildS 23 1 [(0,tq 35)]),oq 37 (.app [tq 34,tq 36] [23,23]),oq 5 (.mv (tq 37))]) (trimO (some ([1,2,5,6,7],[2,33,37])) (ghO [33] st))) :=
 exec_regT (by kernel_rfl) (by kernel_rfl) (by kernel_rfl) (by kernel_rfl) (by kernel_rfl)
@[simp] theorem x46_4:RX 39 r46_4 (.str [oq 14 (.mv (tq 6)),oq 15 (.bin .add 3 (tq 14) (ci 1)),oq 6 (.mv (tq 15))]) (some ([1,2,5,6],[2,37])):=rx
@[simp] theorem x46_12:RX 39 r46_12 (.str [oq 38 (.mv (tq 5)),oq 4 (.mv (tq 38))]) (some ([5],[37])):=rx
@[simp] theorem l46_3:ann 39 (fstR lb46_3) = some ([1,2,5,6],[2,37]):=by kernel_rfl
@[simp] theorem l46_7:ann 39 (fstR lb46_7) = some ([1,2,5,6,7,8],[2,33,37]):=by kernel_rfl
def r139_0:=rg Tryz.f139 2
def r139_1:=rg Tryz.f139 9
def r139_2:=rg Tryz.f139 69
def r139_3:=rg Tryz.f139 1125
def r139_4:=rg Tryz.f139 2661
def r139_5:=rg Tryz.f139 9829
def r139_6:=rg Tryz.f139 485
def r139_7:=rg Tryz.f139 11
def lb139_2:Code:=(.seq r139_2 (.seq (.cond (.tmp 9) .skip (.exit 0)) (.seq (.block 1 (.seq r139_3 (.seq r139_4 (.cond (.tmp 16) (.seq r139_5 .ret) .skip)))) r139_6)))
@[simp] theorem u139_2 (n:Nat) (st:XS):execA Tryz.prog ann kn n 19 lb139_2 st = execA Tryz.prog ann kn n 19 (.seq r139_2 (.seq (.cond (.tmp 9) .skip (.exit 0)) (.seq (.block 1 (.seq r139_3 (.seq r139_4 (.cond (.tmp 16) (.seq r139_5 .ret) .skip)))) r139_6))) st:=rfl
def c139:Code:=(.seq r139_0 (.seq (.seq r139_1 (.block 0 (.loop lb139_2))) (.seq r139_7 .ret)))
theorem b139:Tryz.f139.body = some c139:=by kernel_rfl
@[simp] theorem x139_0:RX 19 r139_0 (.str [oq 4 (.mv (ci 0))]) (some ([0,1],[])):=rx
@[simp] theorem x139_1:RX 19 r139_1 (.str [oq 6 (.mv (tq 0)),oq 7 (.oth (.call ⟨.builtin .len,#[tq 6],#[22]⟩)),oq 8 (.mv (ci 0))]) (some ([0,1],[])):=rx
@[simp] theorem x139_2:RX 19 r139_2 (.str [oq 9 (.bin .lss 3 (tq 8) (tq 7))]) (some ([0,1,7,8],[])):=rx
@[simp] theorem x139_3:RX 19 r139_3 (.str [oq 10 (.mv (tq 8)),oq 5 (.mv (tq 10))]) (some ([0,1,7,8],[])):=rx
@[simp] theorem x139_4:RX 19 r139_4 (.str [oq 11 (.mv (tq 1)),oq 12 (.mv (tq 0)),oq 13 (.mv (tq 5)),oq 14 (.oth (.indexAddr 22 (tq 12) (tq 13))),oq 15 (.ld 3 (tq 14)),oq 16 (.bin .eql 3 (tq 11) (tq 15))]) (some ([0,1,5,7,8],[])):=rx
@[simp] theorem x139_5:RX 19 r139_5 (.str [oq 17 (.mv (tq 5)),oq 4 (.mv (tq 17))]) (some ([5],[])):=rx
@[simp] theorem x139_6:RX 19 r139_6 (.str [oq 18 (.bin .add 3 (tq 8) (ci 1)),oq 8 (.mv (tq 18))]) (some ([0,1,3,7,8],[])):=rx
@[simp] theorem x139_7:RX 19 r139_7 (.str [oq 4 (.mv (.const (.int .i64 (Int.negSucc 0))))]) (some ([],[])):=rx
@[simp] theorem l139_2:ann 19 (fstR lb139_2) = some ([0,1,7,8],[]):=by kernel_rfl
def r118_0:=rg Tryz.f118 2
def r118_1:=rg Tryz.f118 5
def c118:Code:=(.seq r118_0 (.seq r118_1 .ret))
theorem b118:Tryz.f118.body = some c118:=by kernel_rfl
@[simp] theorem x118_0:RX 9 r118_0 (.str [oq 4 (.mv (cb false))]) (some ([0,1],[])):=rx
@[simp] theorem x118_1:RX 9 r118_1 (.str [oq 5 (.mv (tq 0)),oq 6 (.mv (tq 1)),oq 7 (.call false none (.func 139) [tq 5,tq 6]),oq 8 (.bin .geq 3 (tq 7) (ci 0)),oq 4 (.mv (tq 8))]) (some ([0,1,2,3],[2,3])):=rx
def r104_0:=rg Tryz.f104 2
def r104_1:=rg Tryz.f104 9
def r104_2:=rg Tryz.f104 37
def r104_3:=rg Tryz.f104 19
def r104_4:=rg Tryz.f104 139
def r104_5:=rg Tryz.f104 2251
def r104_6:=rg Tryz.f104 5323
def r104_7:=rg Tryz.f104 19659
def r104_8:=rg Tryz.f104 971
def r104_9:=rg Tryz.f104 23
def lb104_4:Code:=(.seq r104_4 (.seq (.cond (.tmp 16) .skip (.exit 0)) (.seq (.block 1 (.seq r104_5 (.seq r104_6 (.cond (.tmp 27) (.seq r104_7 .ret) .skip)))) r104_8)))
@[simp] theorem u104_4 (n:Nat) (st:XS):execA Tryz.prog ann kn n 29 lb104_4 st = execA Tryz.prog ann kn n 29 (.seq r104_4 (.seq (.cond (.tmp 16) .skip (.exit 0)) (.seq (.block 1 (.seq r104_5 (.seq r104_6 (.cond (.tmp 27) (.seq r104_7 .ret) .skip)))) r104_8))) st:=rfl
def c104:Code:=(.seq r104_0 (.seq (.seq r104_1 (.cond (.tmp 12) (.seq r104_2 .ret) .skip)) (.seq (.seq r104_3 (.block 0 (.loop lb104_4))) (.seq r104_9 .ret))))
theorem b104:Tryz.f104.body = some c104:=by kernel_rfl
@[simp] theorem x104_0:RX 29 r104_0 (.str [oq 2 (.box (tq 0)),oq 4 (.mv (cb false))]) (some ([0,1],[2])):=rx
@[simp] theorem x104_1:RX 29 r104_1 (.str [oq 7 (.mv (tq 1)),oq 8 (.oth (.call ⟨.builtin .len,#[tq 7],#[22]⟩)),oq 9 (.fa 37 (tq 2) 0),oq 10 (.ld 3 (tq 9)),oq 11 (.bin .add 3 (tq 10) (ci 1)),oq 12 (.bin .neq 3 (tq 8) (tq 11))]) (some ([1,2],[2])):=rx
@[simp] theorem x104_2:RX 29 r104_2 (.str [oq 4 (.mv (cb false))]) (some ([],[])):=rx
@[simp] theorem x104_3:RX 29 r104_3 (.str [oq 13 (.mv (tq 1)),oq 14 (.oth (.call ⟨.builtin .len,#[tq 13],#[22]⟩)),oq 15 (.mv (ci 0))]) (some ([1,2],[2])):=rx
@[simp] theorem x104_4:RX 29 r104_4 (.str [oq 16 (.bin .lss 3 (tq 15) (tq 14))]) (some ([2,13,14,15],[2])):=rx
@[simp] theorem x104_5:RX 29 r104_5 (.str [oq 17 (.mv (tq 15)),oq 18 (.oth (.indexAddr 22 (tq 13) (tq 15))),oq 19 (.ld 3 (tq 18)),oq 5 (.mv (tq 17)),oq 6 (.mv (tq 19))]) (some ([2,13,14,15],[2])):=rx
@[simp] theorem x104_6:RX 29 r104_6 (.str [oq 20 (.fa 37 (tq 2) 6),oq 21 (.ld 23 (tq 20)),oq 22 (.mv (tq 5)),oq 23 (.oth (.indexAddr 23 (tq 21) (tq 22))),oq 24 (.ld 22 (tq 23)),oq 25 (.mv (tq 6)),oq 26 (.call false none (.func 118) [tq 24,tq 25]),oq 27 (.oth (.unOp .not 4 (tq 26)))]) (some ([2,5,6,13,14,15],[2])):=rx
@[simp] theorem x104_7:RX 29 r104_7 (.str [oq 4 (.mv (cb false))]) (some ([],[])):=rx
@[simp] theorem x104_8:RX 29 r104_8 (.str [oq 28 (.bin .add 3 (tq 15) (ci 1)),oq 15 (.mv (tq 28))]) (some ([2,13,14,15],[2])):=rx
@[simp] theorem x104_9:RX 29 r104_9 (.str [oq 4 (.mv (cb true))]) (some ([],[])):=rx
@[simp] theorem l104_4:ann 29 (fstR lb104_4) = some ([2,13,14,15],[2]):=by kernel_rfl
def r107_0:=rg Tryz.f107 2
def r107_1:=rg Tryz.f107 9
def r107_2:=rg Tryz.f107 69
def r107_3:=rg Tryz.f107 1125
def r107_4:=rg Tryz.f107 2661
def r107_5:=rg Tryz.f107 9829
def r107_6:=rg Tryz.f107 485
def r107_7:=rg Tryz.f107 11
def lb107_2:Code:=(.seq r107_2 (.seq (.cond (.tmp 13) .skip (.exit 0)) (.seq (.block 1 (.seq r107_3 (.seq r107_4 (.cond (.tmp 30) (.seq r107_5 .ret) .skip)))) r107_6)))
@[simp] theorem u107_2 (n:Nat) (st:XS):execA Tryz.prog ann kn n 32 lb107_2 st = execA Tryz.prog ann kn n 32 (.seq r107_2 (.seq (.cond (.tmp 13) .skip (.exit 0)) (.seq (.block 1 (.seq r107_3 (.seq r107_4 (.cond (.tmp 30) (.seq r107_5 .ret) .skip)))) r107_6))) st:=rfl
def c107:Code:=(.seq r107_0 (.seq (.seq r107_1 (.block 0 (.loop lb107_2))) (.seq r107_7 .ret)))
theorem b107:Tryz.f107.body = some c107:=by kernel_rfl
@[simp] theorem x107_0:RX 32 r107_0 (.str [oq 3 (.box (tq 0)),oq 6 (.mv (cb false))]) (some ([0,1,2],[3,18])):=rx
@[simp] theorem x107_1:RX 32 r107_1 (.str [oq 9 (.fa 37 (tq 3) 8),oq 10 (.ld 35 (tq 9)),oq 11 (.oth (.call ⟨.builtin .len,#[tq 10],#[35]⟩)),oq 12 (.mv (ci 0))]) (some ([1,2,3],[3])):=rx
@[simp] theorem x107_2:RX 32 r107_2 (.str [oq 13 (.bin .lss 3 (tq 12) (tq 11))]) (some ([1,2,10,11,12],[3])):=rx
@[simp] theorem x107_3:RX 32 r107_3 (.str [oq 14 (.mv (tq 12)),oq 15 (.oth (.indexAddr 35 (tq 10) (tq 12))),oq 16 (.ld 126 (tq 15)),oq 8 (.alloc 126),oq 7 (.mv (tq 14)),os (.sto 126 (tq 8) (tq 16))]) (some ([1,2,10,11,12],[3])):=rx
@[simp] theorem x107_4:RX 32 r107_4 (.drw [⟨[],[oq 17 (.mv (tq 2)),oq 18 (.mv (tq 7))],[oq 19 (.call false none (.func 118) [tq 17,tq 18])]⟩,⟨[],[oq 20 (.oth (.unOp .not 4 (tq 19))),oq 21 (.mv (tq 20)),og 21 true 22 (.mv (tq 1)),og 21 true 23 (.fa 126 (tq 8) 0),og 21 true 24 (.ld 3 (tq 23)),og 21 true 25 (.oth (.indexAddr 22 (tq 22) (tq 24))),og 21 true 26 (.ld 3 (tq 25)),og 21 true 27 (.fa 126 (tq 8) 1),og 21 true 28 (.ld 3 (tq 27)),og 21 true 29 (.bin .neq 3 (tq 26) (tq 28)),oq 30 (.pick (tq 21) (tq 29) (cb false))],[]⟩]) (some ([1,2,7,8,10,11,12],[3,8])):=rx
@[simp] theorem x107_5:RX 32 r107_5 (.str [oq 6 (.mv (cb false))]) (some ([],[])):=rx
@[simp] theorem x107_6:RX 32 r107_6 (.str [oq 31 (.bin .add 3 (tq 12) (ci 1)),oq 12 (.mv (tq 31))]) (some ([1,2,10,11,12],[3])):=rx
@[simp] theorem x107_7:RX 32 r107_7 (.str [oq 6 (.mv (cb true))]) (some ([],[])):=rx
@[simp] theorem l107_2:ann 32 (fstR lb107_2) = some ([1,2,10,11,12],[3]):=by kernel_rfl
def r62_0:=rg Tryz.f62 2
def r62_1:=rg Tryz.f62 5
def c62:Code:=(.seq r62_0 (.seq r62_1 .ret))
def r147_0:=rg Tryz.f147 2
def r147_1:=rg Tryz.f147 9
def r147_2:=rg Tryz.f147 21
def r147_3:=rg Tryz.f147 11
def r147_4:=rg Tryz.f147 39
def r147_5:=rg Tryz.f147 535
def r147_7:=rg Tryz.f147 1175
def r147_6:=rg Tryz.f147 919
def r147_8:=rg Tryz.f147 47
def lb147_5:Code:=(.seq (.seq r147_5 (.cond (.tmp 15) .skip (.exit 0))) (.seq (.block 1 r147_7) r147_6))
@[simp] theorem u147_5 (n:Nat) (st:XS):execA Tryz.prog ann kn n 25 lb147_5 st = execA Tryz.prog ann kn n 25 (.seq (.seq r147_5 (.cond (.tmp 15) .skip (.exit 0))) (.seq (.block 1 r147_7) r147_6)) st:=rfl
def c147:Code:=(.seq r147_0 (.seq (.seq r147_1 (.cond (.tmp 7) r147_2 .skip)) (.seq r147_3 (.seq (.seq r147_4 (.block 0 (.loop lb147_5))) (.seq r147_8 .ret)))))
theorem b147:Tryz.f147.body = some c147:=by kernel_rfl
@[simp] theorem x147_0:RX 25 r147_0 (.str [oq 2 (.mv (ci 0))]) (some ([0],[])):=rx
@[simp] theorem x147_1:RX 25 r147_1 (.str [oq 5 (.mv (tq 0)),oq 6 (.oth (.call ⟨.builtin .len,#[tq 5],#[22]⟩)),oq 7 (.bin .lss 3 (tq 6) (ci 1))]) (some ([0],[])):=rx
@[simp] theorem x147_3:RX 25 r147_3 (.str [oq 9 (.mv (tq 0)),oq 10 (.oth (.indexAddr 22 (tq 9) (ci 0))),oq 11 (.ld 3 (tq 10)),oq 3 (.mv (tq 11))]) (some ([0],[])):=rx
@[simp] theorem x147_4:RX 25 r147_4 (.str [oq 4 (.mv (ci 1))]) (some ([0,3],[])):=rx
@[simp] theorem x147_5:RX 25 r147_5 (.str [oq 12 (.mv (tq 4)),oq 13 (.mv (tq 0)),oq 14 (.oth (.call ⟨.builtin .len,#[tq 13],#[22]⟩)),oq 15 (.bin .lss 3 (tq 12) (tq 14))]) (some ([0,3,4],[])):=rx
@[simp] theorem x147_7:RX 25 r147_7 (.str [oq 18 (.mv (tq 3)),oq 19 (.mv (tq 0)),oq 20 (.mv (tq 4)),oq 21 (.oth (.indexAddr 22 (tq 19) (tq 20))),oq 22 (.ld 3 (tq 21)),oq 23 (.oth (.call ⟨.builtin .min,#[tq 18,tq 22],#[3,3]⟩)),oq 3 (.mv (tq 23))]) (some ([0,3,4],[])):=rx
@[simp] theorem x147_6:RX 25 r147_6 (.str [oq 16 (.mv (tq 4)),oq 17 (.bin .add 3 (tq 16) (ci 1)),oq 4 (.mv (tq 17))]) (some ([0,3,4],[])):=rx
@[simp] theorem x147_8:RX 25 r147_8 (.str [oq 24 (.mv (tq 3)),oq 2 (.mv (tq 24))]) (some ([3],[])):=rx
@[simp] theorem l147_5:ann 25 (fstR lb147_5) = some ([0,3,4],[]):=by kernel_rfl
def r140_0:=rg Tryz.f140 2
def r140_1:=rg Tryz.f140 5
def c140:Code:=(.seq r140_0 (.seq r140_1 .ret))
theorem b140:Tryz.f140.body = some c140:=by kernel_rfl
@[simp] theorem x140_0:RX 5 r140_0 (.str [oq 2 (.mv (ci 0))]) (some ([0],[])):=rx
@[simp] theorem x140_1:RX 5 r140_1 (.str [oq 3 (.mv (tq 0)),oq 4 (.call false none (.func 147) [tq 3]),oq 2 (.mv (tq 4))]) (some ([0,1],[1])):=rx
def r119_0:=rg Tryz.f119 2
def r119_1:=rg Tryz.f119 5
def c119:Code:=(.seq r119_0 (.seq r119_1 .ret))
theorem b119:Tryz.f119.body = some c119:=by kernel_rfl
@[simp] theorem x119_0:RX 15 r119_0 (.str [oq 2 (.box (tq 0)),oq 4 (.alloc 55)]) (some ([0,1],[])):=rx
@[simp] theorem x119_1:RX 15 r119_1 (.drw [⟨[],[oq 5 (.fa 55 (tq 2) 0),oq 6 (.ldz 3 (tq 5)),oq 7 (.mv (tq 1)),oq 8 (.buildS 22 2 [(0,tq 6),(1,tq 7)]),oq 9 (.call false none (.func 140) [tq 8]),oq 10 (.fa 55 (tq 2) 1),oq 11 (.ldz 3 (tq 10)),oq 12 (.mv (tq 1)),oq 13 (.oth (.call ⟨.builtin .max,#[tq 11,tq 12],#[3,3]⟩)),oq 14 (.build 55 [(0,tq 9),(1,tq 13)])],[os (.sto 55 (tq 4) (tq 14))]⟩]) (some ([0,1,2,3,4],[2,3,4])):=rx
def r95_0:=rg Tryz.f95 2
def r95_1:=rg Tryz.f95 5
def r95_2:=rg Tryz.f95 11
def c95:Code:=(.seq r95_0 (.seq r95_1 (.seq r95_2 .ret)))
theorem b95:Tryz.f95.body = some c95:=by kernel_rfl
@[simp] theorem x95_0:RX 7 r95_0 (.str [oq 2 (.alloc 149)]) (some ([0],[])):=rx
@[simp] theorem x95_1:RX 7 r95_1 (.str [oq 3 (.oth (.slice 149 (tq 2) none none none)),oq 4 (.mv (tq 0)),oq 5 (.cpy [tq 3,tq 4] [22,22])]) (some ([0,2],[2])):=rx
@[simp] theorem x95_2:RX 7 r95_2 (.str [oq 6 (.ld 149 (tq 2)),os (.sto 149 (tq 2) (tq 6))]) (some ([2],[2])):=rx
def r122_0:=rg Tryz.f122 2
def r122_1:=rg Tryz.f122 5
def r122_2:=rg Tryz.f122 19
def r122_3:=rg Tryz.f122 139
def r122_4:=rg Tryz.f122 2251
def r122_5:=rg Tryz.f122 5323
def r122_6:=rg Tryz.f122 19659
def r122_7:=rg Tryz.f122 142539
def r122_8:=rg Tryz.f122 2305227
def r122_9:=rg Tryz.f122 5450955
def r122_10:=rg Tryz.f122 36908235
def r122_11:=rg Tryz.f122 590556363
def r122_12:=rg Tryz.f122 858991819
def r122_13:=rg Tryz.f122 255012043
def r122_14:=rg Tryz.f122 994507
def r122_15:=rg Tryz.f122 15563
def r122_16:=rg Tryz.f122 971
def r122_17:=rg Tryz.f122 23
def lb122_10:Code:=(.seq r122_10 (.seq (.cond (.tmp 51) .skip (.exit 4)) (.seq (.block 5 (.seq r122_11 r122_12)) r122_13)))
@[simp] theorem u122_10 (n:Nat) (st:XS):execA Tryz.prog ann kn n 76 lb122_10 st = execA Tryz.prog ann kn n 76 (.seq r122_10 (.seq (.cond (.tmp 51) .skip (.exit 4)) (.seq (.block 5 (.seq r122_11 r122_12)) r122_13))) st:=rfl
def lb122_7:Code:=(.seq r122_7 (.seq (.cond (.tmp 43) .skip (.exit 2)) (.seq (.block 3 (.seq r122_8 (.seq r122_9 (.block 4 (.loop lb122_10))))) r122_14)))
@[simp] theorem u122_7 (n:Nat) (st:XS):execA Tryz.prog ann kn n 76 lb122_7 st = execA Tryz.prog ann kn n 76 (.seq r122_7 (.seq (.cond (.tmp 43) .skip (.exit 2)) (.seq (.block 3 (.seq r122_8 (.seq r122_9 (.block 4 (.loop lb122_10))))) r122_14))) st:=rfl
def lb122_3:Code:=(.seq r122_3 (.seq (.cond (.tmp 34) .skip (.exit 0)) (.seq (.block 1 (.seq r122_4 (.seq r122_5 (.seq (.seq r122_6 (.block 2 (.loop lb122_7))) r122_15)))) r122_16)))
@[simp] theorem u122_3 (n:Nat) (st:XS):execA Tryz.prog ann kn n 76 lb122_3 st = execA Tryz.prog ann kn n 76 (.seq r122_3 (.seq (.cond (.tmp 34) .skip (.exit 0)) (.seq (.block 1 (.seq r122_4 (.seq r122_5 (.seq (.seq r122_6 (.block 2 (.loop lb122_7))) r122_15)))) r122_16))) st:=rfl
def c122:Code:=(.seq r122_0 (.seq r122_1 (.seq (.seq r122_2 (.block 0 (.loop lb122_3))) (.seq r122_17 .ret))))
theorem b122:Tryz.f122.body = some c122:=by kernel_rfl
@[simp] theorem x122_0:RX 76 r122_0 (.str [oq 5 (.box (tq 2)),oq 6 (.alloc 55)]) (some ([0,1,2],[])):=rx
@[simp] theorem x122_1:RX 76 r122_1 (.drw [⟨[7],[oq 13 (.mv (tq 0)),oq 14 (.oth (.nilCheck (tq 13))),oq 15 (.fa 145 (tq 14) 0),oq 16 (.fa 37 (tq 15) 1),oq 17 (.ldz 3 (tq 16)),oq 18 (.mv (tq 0)),oq 19 (.oth (.nilCheck (tq 18))),oq 20 (.fa 145 (tq 19) 0),oq 21 (.fa 37 (tq 20) 2),oq 22 (.ldz 3 (tq 21)),oq 23 (.bin .mul 3 (tq 17) (tq 22)),oq 24 (.build 55 [(0,tq 23),(1,ci 0)]),oq 7 (.alloc 55)],[os (.sto 55 (tq 7) (tq 24))]⟩]) (some ([0,1,5,6],[5,6])):=rx
@[simp] theorem x122_2:RX 76 r122_2 (.str [oq 25 (.mv (tq 0)),oq 26 (.oth (.nilCheck (tq 25))),oq 27 (.fa 145 (tq 26) 1),oq 28 (.ld 23 (tq 27)),oq 29 (.mv (tq 1)),oq 30 (.oth (.indexAddr 23 (tq 28) (tq 29))),oq 31 (.ld 22 (tq 30)),oq 32 (.oth (.call ⟨.builtin .len,#[tq 31],#[22]⟩)),oq 33 (.mv (ci 0))]) (some ([0,1,5,6,7],[5,6,7])):=rx
@[simp] theorem x122_3:RX 76 r122_3 (.str [oq 34 (.bin .lss 3 (tq 33) (tq 32))]) (some ([0,1,5,6,7,31,32,33],[5,6,7])):=rx
@[simp] theorem x122_4:RX 76 r122_4 (.str [oq 35 (.oth (.indexAddr 22 (tq 31) (tq 33))),oq 36 (.ld 3 (tq 35)),oq 9 (.mv (tq 36))]) (some ([0,1,5,6,7,31,32,33],[5,6,7])):=rx
@[simp] theorem x122_5:RX 76 r122_5 (.str [oq 10 (.mv (ci 0))]) (some ([0,1,5,6,7,9,31,32,33],[5,6,7])):=rx
@[simp] theorem x122_6:RX 76 r122_6 (.str [oq 37 (.mv (tq 0)),oq 38 (.oth (.nilCheck (tq 37))),oq 39 (.fa 145 (tq 38) 0),oq 40 (.fa 37 (tq 39) 1),oq 41 (.ld 3 (tq 40)),oq 42 (.mv (ci 0))]) (some ([0,1,5,6,7,9,10,31,32,33],[5,6,7])):=rx
@[simp] theorem x122_7:RX 76 r122_7 (.str [oq 43 (.bin .lss 3 (tq 42) (tq 41))]) (some ([0,1,5,6,7,9,10,31,32,33,41,42],[5,6,7])):=rx
@[simp] theorem x122_8:RX 76 r122_8 (.str [oq 44 (.mv (tq 42)),oq 11 (.mv (tq 44))]) (some ([0,1,5,6,7,9,10,31,32,33,41,42],[5,6,7])):=rx
@[simp] theorem x122_9:RX 76 r122_9 (.str [oq 45 (.mv (tq 0)),oq 46 (.oth (.nilCheck (tq 45))),oq 47 (.fa 145 (tq 46) 0),oq 48 (.fa 37 (tq 47) 2),oq 49 (.ld 3 (tq 48)),oq 50 (.mv (ci 0))]) (some ([0,1,5,6,7,9,10,11,31,32,33,41,42],[5,6,7])):=rx
@[simp] theorem x122_10:RX 76 r122_10 (.str [oq 51 (.bin .lss 3 (tq 50) (tq 49))]) (some ([0,1,5,6,7,9,10,11,31,32,33,41,42,49,50],[5,6,7])):=rx
@[simp] theorem x122_11:RX 76 r122_11 (.str [oq 52 (.mv (tq 50)),oq 12 (.mv (tq 52))]) (some ([0,1,5,6,7,9,10,11,31,32,33,41,42,49,50],[5,6,7])):=rx
@[simp] theorem x122_12:RX 76 r122_12 (.drw [⟨[],[oq 53 (.mv (tq 10)),oq 54 (.mv (tq 0)),oq 55 (.oth (.nilCheck (tq 54))),oq 56 (.fa 145 (tq 55) 0),oq 57 (.ld 37 (tq 56)),oq 58 (.mv (tq 11)),oq 59 (.mv (tq 12)),oq 60 (.build 65 [(0,tq 58),(1,tq 59)]),oq 61 (.mv (tq 1)),oq 62 (.mv (tq 11)),oq 63 (.oth (.indexAddr 149 (tq 5) (tq 62))),oq 64 (.ld 3 (tq 63)),oq 65 (.mv (tq 9)),oq 66 (.call false none (.func 78) [tq 57,tq 60,tq 61,tq 64,tq 65]),oq 67 (.oth (.field 107 (tq 66) 2)),oq 68 (.bin .add 3 (tq 53) (tq 67)),oq 10 (.mv (tq 68))],[]⟩]) (some ([0,1,5,6,7,9,10,11,12,31,32,33,41,42,49,50],[5,6,7])):=rx
@[simp] theorem x122_13:RX 76 r122_13 (.str [oq 69 (.bin .add 3 (tq 50) (ci 1)),oq 50 (.mv (tq 69))]) (some ([0,1,5,6,7,9,10,11,31,32,33,41,42,49,50],[5,6,7])):=rx
@[simp] theorem x122_14:RX 76 r122_14 (.str [oq 70 (.bin .add 3 (tq 42) (ci 1)),oq 42 (.mv (tq 70))]) (some ([0,1,5,6,7,9,10,31,32,33,41,42],[5,6,7])):=rx
@[simp] theorem x122_15:RX 76 r122_15 (.str [oq 71 (.ld 55 (tq 7)),oq 72 (.mv (tq 10)),oq 73 (.call true none (.func 119) [tq 71,tq 72]),os (.sto 55 (tq 7) (tq 73))]) (some ([0,1,5,6,7,10,31,32,33],[5,6,7])):=rx
@[simp] theorem x122_16:RX 76 r122_16 (.str [oq 74 (.bin .add 3 (tq 33) (ci 1)),oq 33 (.mv (tq 74))]) (some ([0,1,5,6,7,31,32,33],[5,6,7])):=rx
@[simp] theorem x122_17:RX 76 r122_17 (.str [oq 75 (.ld 55 (tq 7)),os (.sto 55 (tq 6) (tq 75))]) (some ([6,7],[6,7])):=rx
@[simp] theorem l122_3:ann 76 (fstR lb122_3) = some ([0,1,5,6,7,31,32,33],[5,6,7]):=by kernel_rfl
@[simp] theorem l122_7:ann 76 (fstR lb122_7) = some ([0,1,5,6,7,9,10,31,32,33,41,42],[5,6,7]):=by kernel_rfl
@[simp] theorem l122_10:ann 76 (fstR lb122_10) = some ([0,1,5,6,7,9,10,11,31,32,33,41,42,49,50],[5,6,7]):=by kernel_rfl
def r137_0:=rg Tryz.f137 2
def r137_1:=rg Tryz.f137 5
def r137_2:=rg Tryz.f137 11
def r137_3:=rg Tryz.f137 23
def r137_4:=rg Tryz.f137 31
def c137:Code:=(.seq r137_0 (.seq r137_1 (.seq r137_2 (.seq r137_3 r137_4))))
theorem b137:Tryz.f137.body = some c137:=by kernel_rfl
@[simp] theorem x137_0:RX 13 r137_0 (.str [oq 3 (.box (tq 0))]) (some ([0,1,2],[3,4,5,9])):=rx
@[simp] theorem x137_1:RX 13 r137_1 (.str [oq 6 (.fa 37 (tq 1) 0),oq 7 (.ld 3 (tq 6)),oq 8 (.bin .add 3 (tq 7) (ci 1)),oq 9 (.mkS 22 (tq 8) (tq 8)),oq 4 (.alloc 22),os (.sto 22 (tq 4) (tq 9))]) (some ([1,2,3],[3,4,5,9])):=rx
@[simp] theorem x137_2:RX 13 r137_2 (.str [oq 5 (.alloc 141)]) (some ([1,2,3,4],[3,4,5,9])):=rx
@[simp] theorem x137_3:RX 13 r137_3 (.str [oq 10 (.oth (.makeFunc (.func 138) #[] #[tq 4,tq 1,tq 2,tq 3,tq 5])),os (.sto 141 (tq 5) (tq 10))]) (some ([1,2,3,4,5],[3,4,5,9])):=rx
@[simp] theorem x137_4:RX 13 r137_4 (.str [oq 11 (.ld 141 (tq 5)),oq 12 (.call false none (tq 11) [ci 0])]) (some ([5],[3,4,5,9])):=rx
def r138_0:=rg Tryz.f138 2
def r138_1:=rg Tryz.f138 9
def r138_2:=rg Tryz.f138 37
def r138_3:=rg Tryz.f138 19
def r138_4:=rg Tryz.f138 139
def r138_5:=rg Tryz.f138 2251
def r138_6:=rg Tryz.f138 5323
def r138_7:=rg Tryz.f138 11467
def r138_8:=rg Tryz.f138 40139
def r138_9:=rg Tryz.f138 971
def r138_10:=rg Tryz.f138 23
def lb138_4:Code:=(.seq r138_4 (.seq (.cond (.tmp 31) .skip (.exit 0)) (.seq (.block 1 (.seq r138_5 (.seq r138_6 (.seq r138_7 (.cond (.tmp 42) (.seq r138_8 .ret) .skip))))) r138_9)))
@[simp] theorem u138_4 (n:Nat) (st:XS):execA Tryz.prog ann kn n 44 lb138_4 st = execA Tryz.prog ann kn n 44 (.seq r138_4 (.seq (.cond (.tmp 31) .skip (.exit 0)) (.seq (.block 1 (.seq r138_5 (.seq r138_6 (.seq r138_7 (.cond (.tmp 42) (.seq r138_8 .ret) .skip))))) r138_9))) st:=rfl
def c138:Code:=(.seq r138_0 (.seq (.seq r138_1 (.cond (.tmp 13) (.seq r138_2 .ret) .skip)) (.seq (.seq r138_3 (.block 0 (.loop lb138_4))) (.seq r138_10 .ret))))
theorem b138:Tryz.f138.body = some c138:=by kernel_rfl
@[simp] theorem x138_0:RX 44 r138_0 (.str [oq 7 (.mv (cb false))]) (some ([0,1,2,3,4,5],[])):=rx
@[simp] theorem x138_1:RX 44 r138_1 (.str [oq 10 (.mv (tq 0)),oq 11 (.ld 22 (tq 1)),oq 12 (.oth (.call ⟨.builtin .len,#[tq 11],#[22]⟩)),oq 13 (.bin .eql 3 (tq 10) (tq 12))]) (some ([0,1,2,3,4,5],[])):=rx
@[simp] theorem x138_2 (n:Nat) (st:XS):execA Tryz.prog ann kn (n + 1) 44 r138_2 st = toN (runR Tryz.prog (cfU [20009,30009] (envA Tryz.prog ann kn n)) (.str [oq 14 (.ld 37 (tq 2)),oq 15 (.ld 22 (tq 1)),oq 16 (.ld 22 (tq 3)),oq 17 (.call false none (.func 107) [tq 14,tq 15,tq 16]),oq 18 (.oth (.unOp .not 4 (tq 17))),oq 19 (.mv (tq 18)),og 19 false 20 (.ld 158 (tq 4)),og 19 false 21 (.ld 22 (tq 1)),og 19 false 22 (.call false none (tq 20) [tq 21]),oq 23 (.pick (tq 19) (cb true) (tq 22)),oq 7 (.mv (tq 23))]) (trimO (some ([1,2,3,4],[])) (ghO [] st))) :=
 exec_regU (by kernel_rfl) (by kernel_rfl) (by kernel_rfl) (by kernel_rfl) (by kernel_rfl) (by kernel_rfl)
@[simp] theorem x138_3:RX 44 r138_3 (.str [oq 24 (.fa 37 (tq 2) 6),oq 25 (.ld 23 (tq 24)),oq 26 (.mv (tq 0)),oq 27 (.oth (.indexAddr 23 (tq 25) (tq 26))),oq 28 (.ld 22 (tq 27)),oq 29 (.oth (.call ⟨.builtin .len,#[tq 28],#[22]⟩)),oq 30 (.mv (ci 0))]) (some ([0,1,2,5],[])):=rx
@[simp] theorem x138_4:RX 44 r138_4 (.str [oq 31 (.bin .lss 3 (tq 30) (tq 29))]) (some ([0,1,5,28,29,30],[])):=rx
@[simp] theorem x138_5:RX 44 r138_5 (.str [oq 32 (.oth (.indexAddr 22 (tq 28) (tq 30))),oq 33 (.ld 3 (tq 32)),oq 9 (.mv (tq 33))]) (some ([0,1,5,28,29,30],[])):=rx
@[simp] theorem x138_6:RX 44 r138_6 (.str [oq 34 (.ld 22 (tq 1)),oq 35 (.mv (tq 0)),oq 36 (.mv (tq 9)),oq 37 (.oth (.indexAddr 22 (tq 34) (tq 35))),os (.sto 3 (tq 37) (tq 36))]) (some ([0,1,5,9,28,29,30],[])):=rx
@[simp] theorem x138_7:RX 44 r138_7 (.str [oq 38 (.ld 141 (tq 5)),oq 39 (.mv (tq 0)),oq 40 (.bin .add 3 (tq 39) (ci 1)),oq 41 (.call false none (tq 38) [tq 40]),oq 42 (.oth (.unOp .not 4 (tq 41)))]) (some ([0,1,5,28,29,30],[])):=rx
@[simp] theorem x138_8:RX 44 r138_8 (.str [oq 7 (.mv (cb false))]) (some ([],[])):=rx
@[simp] theorem x138_9:RX 44 r138_9 (.str [oq 43 (.bin .add 3 (tq 30) (ci 1)),oq 30 (.mv (tq 43))]) (some ([0,1,5,28,29,30],[])):=rx
@[simp] theorem x138_10:RX 44 r138_10 (.str [oq 7 (.mv (cb true))]) (some ([],[])):=rx
@[simp] theorem l138_4:ann 44 (fstR lb138_4) = some ([0,1,5,28,29,30],[]):=by kernel_rfl
def r117_0:=rg Tryz.f117 2
def r117_1:=rg Tryz.f117 5
def c117:Code:=(.seq r117_0 (.seq r117_1 .ret))
theorem b117:Tryz.f117.body = some c117:=by kernel_rfl
@[simp] theorem x117_0:RX 6 r117_0 (.str [oq 2 (.box (tq 0)),oq 3 (.box (tq 1)),oq 4 (.mv (.const .nilFunc))]) (some ([0,1],[2,3])):=rx
@[simp] theorem x117_1:RX 6 r117_1 (.str [oq 5 (.oth (.makeFunc (.func 137) #[] #[tq 2,tq 3])),oq 4 (.mv (tq 5))]) (some ([2,3],[2,3])):=rx
def r100_0:=rg Tryz.f100 2
def r100_1:=rg Tryz.f100 9
def r100_2:=rg Tryz.f100 149
def r100_3:=rg Tryz.f100 11
def c100:Code:=(.seq r100_0 (.seq (.seq r100_1 (.block 0 (.rangeFunc (.tmp 7) #[8] .skip (.block 1 (.seq r100_2 .ret))))) (.seq r100_3 .ret)))
def r76_0:=rg Tryz.f76 2
def r76_1:=rg Tryz.f76 9
def r76_2:=rg Tryz.f76 21
def r76_3:=rg Tryz.f76 77
def r76_4:=rg Tryz.f76 19
def r76_5:=rg Tryz.f76 75
def r76_6:=rg Tryz.f76 23
def r76_7:=rg Tryz.f76 47
def r76_8:=rg Tryz.f76 159
def r76_9:=rg Tryz.f76 607
def r76_10:=rg Tryz.f76 2399
def r76_11:=rg Tryz.f76 5471
def r76_12:=rg Tryz.f76 36191
def r76_13:=rg Tryz.f76 576863
def r76_14:=rg Tryz.f76 1363295
def r76_15:=rg Tryz.f76 2936159
def r76_16:=rg Tryz.f76 249183
def r76_17:=rg Tryz.f76 319
def r76_18:=rg Tryz.f76 1215
def r76_19:=rg Tryz.f76 383
def lb76_12:Code:=(.seq r76_12 (.seq (.cond (.tmp 35) .skip (.exit 2)) (.seq (.block 3 (.seq r76_13 (.seq r76_14 (.cond (.tmp 48) r76_15 .skip)))) r76_16)))
@[simp] theorem u76_12 (n:Nat) (st:XS):execA Tryz.prog ann kn n 69 lb76_12 st = execA Tryz.prog ann kn n 69 (.seq r76_12 (.seq (.cond (.tmp 35) .skip (.exit 2)) (.seq (.block 3 (.seq r76_13 (.seq r76_14 (.cond (.tmp 48) r76_15 .skip)))) r76_16))) st:=rfl
def c76:Code:=(.seq r76_0 (.seq (.seq r76_1 (.seq r76_2 (.cond (.tmp 15) (.seq r76_3 .ret) .skip))) (.seq (.seq r76_4 (.cond (.tmp 19) (.seq r76_5 .ret) .skip)) (.seq r76_6 (.seq r76_7 (.seq (.seq r76_8 (.block 0 (.rangeFunc (.tmp 30) #[31] r76_9 (.block 1 (.seq r76_10 (.seq r76_11 (.block 2 (.loop lb76_12)))))))) (.seq (.seq r76_17 (.cond (.tmp 67) (.seq r76_18 .ret) .skip)) (.seq r76_19 .ret))))))))
theorem b76:Tryz.f76.body = some c76:=by kernel_rfl
@[simp] theorem x76_0:RX 69 r76_0 (.str [oq 2 (.box (tq 0)),oq 4 (.mv (.const (.pointer none))),oq 5 (.mv (ci 0))]) (some ([0,1],[2,7,24,25,26,28,30,63,800,801,802,803,804])):=rx
@[simp] theorem x76_1:RX 69 r76_1 (.str [oq 12 (.ld 37 (tq 2)),oq 13 (.call false none (.func 63) [tq 12]),oq 6 (.mv (tq 13))]) (some ([1,2],[2,7,24,25,26,28,30,63,800,801,802,803,804])):=rx
@[simp] theorem x76_2:RX 69 r76_2 (.str [oq 14 (.mv (tq 6)),oq 15 (.bin .neq 31 (tq 14) (ci 0))]) (some ([1,2,6],[2,7,24,25,26,28,30,63,800,801,802,803,804])):=rx
@[simp] theorem x76_3:RX 69 r76_3 (.str [oq 16 (.mv (tq 6)),oq 4 (.mv (.const (.pointer none))),oq 5 (.mv (tq 16))]) (some ([6],[])):=rx
@[simp] theorem x76_4:RX 69 r76_4 (.str [oq 17 (.mv (tq 1)),oq 18 (.call false none (tq 17) []),oq 19 (.oth (.unOp .not 4 (tq 18)))]) (some ([1,2],[2,7,24,25,26,28,30,63,800,801,802,803,804])):=rx
@[simp] theorem x76_5:RX 69 r76_5 (.str [oq 4 (.mv (.const (.pointer none))),oq 5 (.mv (ci 2))]) (some ([],[])):=rx
@[simp] theorem x76_6:RX 69 r76_6 (.drw [⟨[24,25,26,28,7],[oq 20 (.ldz 37 (tq 2)),oq 21 (.fa 37 (tq 2) 0),oq 22 (.ldz 3 (tq 21)),oq 23 (.bin .add 3 (tq 22) (ci 1)),oq 24 (.mkS 23 (tq 23) (tq 23)),oq 25 (.mkM none),oq 26 (.mkM none),oq 27 (.build 145 [(0,tq 20),(1,tq 24),(2,tq 25),(3,tq 26)]),oq 28 (.box (tq 27)),oq 7 (.alloc 127)],[os (.sto 127 (tq 7) (tq 28))]⟩]) (some ([2],[2,30,63])):=rx
@[simp] theorem x76_7:RX 69 r76_7 (.str [oq 8 (.alloc 4),os (.sto 4 (tq 8) (cb false))]) (some ([2,7],[2,7,24,25,26,28,30,63,800,801,802,803,804])):=rx
@[simp] theorem x76_8:RX 69 r76_8 (.str [oq 29 (.ld 37 (tq 2)),oq 30 (.call false none (.func 117) [tq 29,.const (.slice none 0 0)])]) (some ([2,7,8],[2,7,8,24,25,26,28,30,63,800,801,802,803,804])):=rx
@[simp] theorem x76_9:RX 69 r76_9 (.str [oq 9 (.mv (tq 31))]) (some ([7,8,31],[2,7,8,24,25,26,28,30,63,800,801,802,803,804])):=rx
@[simp] theorem x76_10:RX 69 r76_10 (.str [os (.sto 4 (tq 8) (cb true))]) (some ([7,8,9],[2,7,8,24,25,26,28,30,63,800,801,802,803,804])):=rx
@[simp] theorem x76_11:RX 69 r76_11 (.str [oq 32 (.mv (tq 9)),oq 33 (.oth (.call ⟨.builtin .len,#[tq 32],#[22]⟩)),oq 34 (.mv (ci 0))]) (some ([7,9],[2,7,24,25,26,28,30,63,800,801,802,803,804])):=rx
@[simp] theorem x76_12:RX 69 r76_12 (.str [oq 35 (.bin .lss 3 (tq 34) (tq 33))]) (some ([7,32,33,34],[2,7,24,25,26,28,30,63,800,801,802,803,804])):=rx
@[simp] theorem x76_13:RX 69 r76_13 (.str [oq 36 (.mv (tq 34)),oq 37 (.oth (.indexAddr 22 (tq 32) (tq 34))),oq 38 (.ld 3 (tq 37)),oq 10 (.mv (tq 36)),oq 11 (.mv (tq 38))]) (some ([7,32,33,34],[2,7,24,25,26,28,30,63,800,801,802,803,804])):=rx
@[simp] theorem x76_14 (n:Nat) (st:XS):execA Tryz.prog ann kn (n + 1) 69 r76_14 st = toN (runR Tryz.prog (cfU [20800,20801,20802,20803,20804] (envA Tryz.prog ann kn n)) (.str [oq 39 (.ld 127 (tq 7)),oq 40 (.oth (.nilCheck (tq 39))),oq 41 (.fa 145 (tq 40) 1),oq 42 (.ld 23 (tq 41)),oq 43 (.mv (tq 10)),oq 44 (.oth (.indexAddr 23 (tq 42) (tq 43))),oq 45 (.ld 22 (tq 44)),oq 46 (.mv (tq 11)),oq 47 (.call false none (.func 118) [tq 45,tq 46]),oq 48 (.oth (.unOp .not 4 (tq 47)))]) (trimO (some ([7,10,11,32,33,34],[2,7,24,25,26,28,30,63,800,801,802,803,804])) (ghO [] st))) :=
 exec_regU (by kernel_rfl) (by kernel_rfl) (by kernel_rfl) (by kernel_rfl) (by kernel_rfl) (by kernel_rfl)
@[simp] theorem x76_15:RX 69 r76_15 (.drw [⟨[],[oq 49 (.ld 127 (tq 7)),oq 50 (.oth (.nilCheck (tq 49))),oq 51 (.fa 145 (tq 50) 1),oq 52 (.ld 23 (tq 51)),oq 53 (.mv (tq 10)),oq 54 (.ld 127 (tq 7)),oq 55 (.oth (.nilCheck (tq 54))),oq 56 (.fa 145 (tq 55) 1),oq 57 (.ld 23 (tq 56)),oq 58 (.mv (tq 10)),oq 59 (.oth (.indexAddr 23 (tq 57) (tq 58))),oq 60 (.ldz 22 (tq 59)),oq 61 (.mv (tq 11)),oq 62 (.buildS 22 1 [(0,tq 61)]),oq 63 (.app [tq 60,tq 62] [22,22]),oq 64 (.oth (.indexAddr 23 (tq 52) (tq 53)))],[os (.sto 22 (tq 64) (tq 63))]⟩]) (some ([7,10,11,32,33,34],[2,7,24,25,26,28,30,63,800,801,802,803,804])):=rx
@[simp] theorem x76_16 (n:Nat) (st:XS):execA Tryz.prog ann kn (n + 1) 69 r76_16 st = toN (runR Tryz.prog (envA Tryz.prog ann kn n) (.str [oq 65 (.bin .add 3 (tq 34) (ci 1)),oq 34 (.mv (tq 65))]) (trimO (some ([7,32,33,34],[2,7,24,25,26,28,30,63,800,801,802,803,804])) (ghO [25008011801063] st))) :=
 exec_regT (by kernel_rfl) (by kernel_rfl) (by kernel_rfl) (by kernel_rfl) (by kernel_rfl)
@[simp] theorem x76_17:RX 69 r76_17 (.str [oq 66 (.ld 4 (tq 8)),oq 67 (.oth (.unOp .not 4 (tq 66)))]) (some ([7,8],[2,7,8,24,25,26,28,30,63,800,801,802,803,804])):=rx
@[simp] theorem x76_18:RX 69 r76_18 (.str [oq 4 (.mv (.const (.pointer none))),oq 5 (.mv (ci 11))]) (some ([],[])):=rx
@[simp] theorem x76_19 (n:Nat) (st:XS):execA Tryz.prog ann kn (n + 1) 69 r76_19 st = toN (runR Tryz.prog (envA Tryz.prog ann kn n) (.str [oq 68 (.ld 127 (tq 7)),oq 4 (.mv (tq 68)),oq 5 (.mv (ci 0))]) (trimO (some ([7],[2,7,24,25,26,28,30,63,800,801,802,803,804])) (ghO [1000000000000024,24,901025,902026,903028] st))) :=
 exec_regT (by kernel_rfl) (by kernel_rfl) (by kernel_rfl) (by kernel_rfl) (by kernel_rfl)
@[simp] theorem l76_12:ann 69 (fstR lb76_12) = some ([7,32,33,34],[2,7,24,25,26,28,30,63,800,801,802,803,804]):=by kernel_rfl
def r92_0:=rg Tryz.f92 2
def r92_1:=rg Tryz.f92 9
def r92_2:=rg Tryz.f92 69
def r92_3:=rg Tryz.f92 1125
def r92_4:=rg Tryz.f92 2661
def r92_5:=rg Tryz.f92 3685
def r92_6:=rg Tryz.f92 485
def r92_7:=rg Tryz.f92 11
def lb92_2:Code:=(.seq r92_2 (.seq (.cond (.tmp 11) .skip (.exit 0)) (.seq (.block 1 (.seq r92_3 (.seq r92_4 r92_5))) r92_6)))
@[simp] theorem u92_2 (n:Nat) (st:XS):execA Tryz.prog ann kn n 33 lb92_2 st = execA Tryz.prog ann kn n 33 (.seq r92_2 (.seq (.cond (.tmp 11) .skip (.exit 0)) (.seq (.block 1 (.seq r92_3 (.seq r92_4 r92_5))) r92_6))) st:=rfl
def c92:Code:=(.seq r92_0 (.seq (.seq r92_1 (.block 0 (.loop lb92_2))) (.seq r92_7 .ret)))
@[simp] theorem x92_0:RX 33 r92_0 (.str [oq 4 (.alloc 55)]) (some ([0,1],[])):=rx
@[simp] theorem x92_1:RX 33 r92_1 (.str [oq 8 (.mv (tq 1)),oq 9 (.oth (.call ⟨.builtin .len,#[tq 8],#[23]⟩)),oq 10 (.mv (ci 0))]) (some ([0,1,4],[4])):=rx
@[simp] theorem x92_2:RX 33 r92_2 (.str [oq 11 (.bin .lss 3 (tq 10) (tq 9))]) (some ([0,4,8,9,10],[4])):=rx
@[simp] theorem x92_3:RX 33 r92_3 (.str [oq 12 (.mv (tq 10)),oq 13 (.oth (.indexAddr 23 (tq 8) (tq 10))),oq 14 (.ld 22 (tq 13)),oq 5 (.mv (tq 12)),oq 6 (.mv (tq 14))]) (some ([0,4,8,9,10],[4])):=rx
@[simp] theorem x92_4:RX 33 r92_4 (.str [oq 15 (.mv (tq 0)),oq 16 (.mv (tq 5)),oq 17 (.mv (tq 6)),oq 18 (.call false none (.func 95) [tq 17]),oq 19 (.call true none (.func 122) [tq 15,tq 16,tq 18]),oq 7 (.alloc 55),os (.sto 55 (tq 7) (tq 19))]) (some ([0,4,5,6,8,9,10],[4])):=rx
@[simp] theorem x92_5:RX 33 r92_5 (.str [oq 20 (.fa 55 (tq 4) 0),oq 21 (.ld 3 (tq 20)),oq 22 (.fa 55 (tq 7) 0),oq 23 (.ld 3 (tq 22)),oq 24 (.bin .add 3 (tq 21) (tq 23)),oq 25 (.fa 55 (tq 4) 1),oq 26 (.ld 3 (tq 25)),oq 27 (.fa 55 (tq 7) 1),oq 28 (.ld 3 (tq 27)),oq 29 (.bin .add 3 (tq 26) (tq 28)),oq 30 (.build 55 [(0,tq 24),(1,tq 29)]),os (.sto 55 (tq 4) (tq 30))]) (some ([0,4,7,8,9,10],[4,7])):=rx
@[simp] theorem x92_6:RX 33 r92_6 (.str [oq 31 (.bin .add 3 (tq 10) (ci 1)),oq 10 (.mv (tq 31))]) (some ([0,4,8,9,10],[4])):=rx
@[simp] theorem x92_7:RX 33 r92_7 (.str [oq 32 (.ld 55 (tq 4)),os (.sto 55 (tq 4) (tq 32))]) (some ([4],[4])):=rx
@[simp] theorem l92_2:ann 33 (fstR lb92_2) = some ([0,4,8,9,10],[4]):=by kernel_rfl
def r29_0:=rg Tryz.f29 2
def r29_1:=rg Tryz.f29 5
def r29_2:=rg Tryz.f29 19
def r29_3:=rg Tryz.f29 75
def r29_4:=rg Tryz.f29 23
def c29:Code:=(.seq r29_0 (.seq r29_1 (.seq (.seq r29_2 (.cond (.tmp 15) (.seq r29_3 .ret) .skip)) (.seq r29_4 .ret))))
def r91_0:=rg Tryz.f91 2
def r91_1:=rg Tryz.f91 5
def c91:Code:=(.seq r91_0 (.seq r91_1 .ret))
def r105_0:=rg Tryz.f105 2
def r105_1:=rg Tryz.f105 9
def r105_2:=rg Tryz.f105 69
def r105_3:=rg Tryz.f105 1125
def r105_4:=rg Tryz.f105 2661
def r105_5:=rg Tryz.f105 9829
def r105_6:=rg Tryz.f105 71269
def r105_7:=rg Tryz.f105 1152613
def r105_8:=rg Tryz.f105 4822629
def r105_9:=rg Tryz.f105 36279909
def r105_10:=rg Tryz.f105 589928037
def r105_11:=rg Tryz.f105 858363493
def r105_12:=rg Tryz.f105 254383717
def r105_13:=rg Tryz.f105 3774053
def r105_14:=rg Tryz.f105 497253
def r105_15:=rg Tryz.f105 7781
def r105_16:=rg Tryz.f105 485
def r105_17:=rg Tryz.f105 11
def lb105_9:Code:=(.seq r105_9 (.seq (.cond (.tmp 29) .skip (.exit 4)) (.seq (.block 5 (.seq r105_10 r105_11)) r105_12)))
@[simp] theorem u105_9 (n:Nat) (st:XS):execA Tryz.prog ann kn n 67 lb105_9 st = execA Tryz.prog ann kn n 67 (.seq r105_9 (.seq (.cond (.tmp 29) .skip (.exit 4)) (.seq (.block 5 (.seq r105_10 r105_11)) r105_12))) st:=rfl
def lb105_6:Code:=(.seq r105_6 (.seq (.cond (.tmp 24) .skip (.exit 2)) (.seq (.block 3 (.seq r105_7 (.seq (.seq r105_8 (.block 4 (.loop lb105_9))) r105_13))) r105_14)))
@[simp] theorem u105_6 (n:Nat) (st:XS):execA Tryz.prog ann kn n 67 lb105_6 st = execA Tryz.prog ann kn n 67 (.seq r105_6 (.seq (.cond (.tmp 24) .skip (.exit 2)) (.seq (.block 3 (.seq r105_7 (.seq (.seq r105_8 (.block 4 (.loop lb105_9))) r105_13))) r105_14))) st:=rfl
def lb105_2:Code:=(.seq r105_2 (.seq (.cond (.tmp 16) .skip (.exit 0)) (.seq (.block 1 (.seq r105_3 (.seq r105_4 (.seq (.seq r105_5 (.block 2 (.loop lb105_6))) r105_15)))) r105_16)))
@[simp] theorem u105_2 (n:Nat) (st:XS):execA Tryz.prog ann kn n 67 lb105_2 st = execA Tryz.prog ann kn n 67 (.seq r105_2 (.seq (.cond (.tmp 16) .skip (.exit 0)) (.seq (.block 1 (.seq r105_3 (.seq r105_4 (.seq (.seq r105_5 (.block 2 (.loop lb105_6))) r105_15)))) r105_16))) st:=rfl
def c105:Code:=(.seq r105_0 (.seq (.seq r105_1 (.block 0 (.loop lb105_2))) (.seq r105_17 .ret)))
theorem b105:Tryz.f105.body = some c105:=by kernel_rfl
@[simp] theorem x105_0:RX 67 r105_0 (.str [oq 3 (.box (tq 0)),oq 6 (.mv (.const (.slice none 0 0))),oq 7 (.mv (ci 0))]) (some ([0,1,2],[3])):=rx
@[simp] theorem x105_1:RX 67 r105_1 (.str [oq 13 (.fa 37 (tq 3) 1),oq 14 (.ld 3 (tq 13)),oq 15 (.mv (ci 0))]) (some ([1,2,3,6,7],[3,63])):=rx
@[simp] theorem x105_2:RX 67 r105_2 (.str [oq 16 (.bin .lss 3 (tq 15) (tq 14))]) (some ([1,2,3,6,7,14,15],[3,63])):=rx
@[simp] theorem x105_3:RX 67 r105_3 (.str [oq 17 (.mv (tq 15)),oq 8 (.mv (tq 17))]) (some ([1,2,3,6,7,14,15],[3,63])):=rx
@[simp] theorem x105_4:RX 67 r105_4 (.str [oq 18 (.fa 37 (tq 3) 2),oq 19 (.ld 3 (tq 18)),oq 20 (.mkS 108 (tq 19) (tq 19)),oq 9 (.mv (tq 20))]) (some ([1,2,3,6,7,8,14,15],[3,63])):=rx
@[simp] theorem x105_5:RX 67 r105_5 (.str [oq 21 (.mv (tq 9)),oq 22 (.oth (.call ⟨.builtin .len,#[tq 21],#[108]⟩)),oq 23 (.mv (ci 0))]) (some ([1,2,3,6,7,8,9,14,15],[3,20,63])):=rx
@[simp] theorem x105_6:RX 67 r105_6 (.str [oq 24 (.bin .lss 3 (tq 23) (tq 22))]) (some ([1,2,3,6,7,8,9,14,15,22,23],[3,20,63])):=rx
@[simp] theorem x105_7:RX 67 r105_7 (.str [oq 25 (.mv (tq 23)),oq 10 (.mv (tq 25))]) (some ([1,2,3,6,7,8,9,14,15,22,23],[3,20,63])):=rx
@[simp] theorem x105_8:RX 67 r105_8 (.str [oq 26 (.mv (tq 2)),oq 27 (.oth (.call ⟨.builtin .len,#[tq 26],#[22]⟩)),oq 28 (.mv (ci 0))]) (some ([1,2,3,6,7,8,9,10,14,15,22,23],[3,20,63])):=rx
@[simp] theorem x105_9:RX 67 r105_9 (.str [oq 29 (.bin .lss 3 (tq 28) (tq 27))]) (some ([1,2,3,6,7,8,9,10,14,15,22,23,26,27,28],[3,20,63])):=rx
@[simp] theorem x105_10:RX 67 r105_10 (.str [oq 30 (.mv (tq 28)),oq 31 (.oth (.indexAddr 22 (tq 26) (tq 28))),oq 32 (.ld 3 (tq 31)),oq 11 (.mv (tq 30)),oq 12 (.mv (tq 32))]) (some ([1,2,3,6,7,8,9,10,14,15,22,23,26,27,28],[3,20,63])):=rx
@[simp] theorem x105_11:RX 67 r105_11 (.drw [⟨[],[oq 33 (.mv (tq 9)),oq 34 (.mv (tq 10)),oq 35 (.oth (.indexAddr 108 (tq 33) (tq 34))),oq 36 (.ld 37 (tq 3)),oq 37 (.mv (tq 8)),oq 38 (.mv (tq 10)),oq 39 (.build 65 [(0,tq 37),(1,tq 38)]),oq 40 (.mv (tq 11)),oq 41 (.mv (tq 1)),oq 42 (.mv (tq 11)),oq 43 (.oth (.indexAddr 23 (tq 41) (tq 42))),oq 44 (.ld 22 (tq 43)),oq 45 (.mv (tq 8)),oq 46 (.oth (.indexAddr 22 (tq 44) (tq 45))),oq 47 (.ld 3 (tq 46)),oq 48 (.mv (tq 12)),oq 49 (.call false none (.func 78) [tq 36,tq 39,tq 40,tq 47,tq 48])],[oq 50 (.call false none (.func 127) [tq 35,tq 49])]⟩,⟨[],[],[]⟩]) (some ([1,2,3,6,7,8,9,10,11,12,14,15,22,23,26,27,28],[3,20,63])):=rx
@[simp] theorem x105_12:RX 67 r105_12 (.str [oq 51 (.bin .add 3 (tq 28) (ci 1)),oq 28 (.mv (tq 51))]) (some ([1,2,3,6,7,8,9,10,14,15,22,23,26,27,28],[3,20,63])):=rx
@[simp] theorem x105_13:RX 67 r105_13 (.str [oq 52 (.mv (tq 7)),oq 53 (.mv (tq 9)),oq 54 (.mv (tq 10)),oq 55 (.oth (.indexAddr 108 (tq 53) (tq 54))),oq 56 (.fa 107 (tq 55) 2),oq 57 (.ld 3 (tq 56)),oq 58 (.bin .add 3 (tq 52) (tq 57)),oq 7 (.mv (tq 58))]) (some ([1,2,3,6,7,8,9,10,14,15,22,23],[3,20,63])):=rx
@[simp] theorem x105_14:RX 67 r105_14 (.str [oq 59 (.bin .add 3 (tq 23) (ci 1)),oq 23 (.mv (tq 59))]) (some ([1,2,3,6,7,8,9,14,15,22,23],[3,20,63])):=rx
@[simp] theorem x105_15 (n:Nat) (st:XS):execA Tryz.prog ann kn (n + 1) 67 r105_15 st = toN (runR Tryz.prog (envA Tryz.prog ann kn n) (.str [oq 60 (.mv (tq 6)),oq 61 (.mv (tq 9)),oq 62 (.buildS 103 1 [(0,tq 61)]),oq 63 (.app [tq 60,tq 62] [103,103]),oq 6 (.mv (tq 63))]) (trimO (some ([1,2,3,6,7,9,14,15],[3,20,63])) (ghO [20] st))) :=
 exec_regT (by kernel_rfl) (by kernel_rfl) (by kernel_rfl) (by kernel_rfl) (by kernel_rfl)
@[simp] theorem x105_16:RX 67 r105_16 (.str [oq 64 (.bin .add 3 (tq 15) (ci 1)),oq 15 (.mv (tq 64))]) (some ([1,2,3,6,7,14,15],[3,63])):=rx
@[simp] theorem x105_17:RX 67 r105_17 (.str [oq 65 (.mv (tq 6)),oq 66 (.mv (tq 7)),oq 6 (.mv (tq 65)),oq 7 (.mv (tq 66))]) (some ([6,7],[63])):=rx
@[simp] theorem l105_2:ann 67 (fstR lb105_2) = some ([1,2,3,6,7,14,15],[3,63]):=by kernel_rfl
@[simp] theorem l105_6:ann 67 (fstR lb105_6) = some ([1,2,3,6,7,8,9,14,15,22,23],[3,20,63]):=by kernel_rfl
@[simp] theorem l105_9:ann 67 (fstR lb105_9) = some ([1,2,3,6,7,8,9,10,14,15,22,23,26,27,28],[3,20,63]):=by kernel_rfl
def r127_0:=rg Tryz.f127 2
def r127_1:=rg Tryz.f127 3
def c127:Code:=(.seq r127_0 r127_1)
theorem b127:Tryz.f127.body = some c127:=by kernel_rfl
@[simp] theorem x127_0:RX 34 r127_0 (.str [oq 3 (.box (tq 1))]) (some ([0,1],[])):=rx
@[simp] theorem x127_1:RX 34 r127_1 (.drw [⟨[],[oq 4 (.mv (tq 0)),oq 5 (.mv (tq 0)),oq 6 (.mv (tq 0)),oq 7 (.mv (tq 0)),oq 8 (.oth (.nilCheck (tq 7))),oq 9 (.fa 107 (tq 8) 0),oq 10 (.ldz 3 (tq 9)),oq 11 (.fa 107 (tq 3) 0),oq 12 (.ldz 3 (tq 11)),oq 13 (.bin .add 3 (tq 10) (tq 12)),oq 14 (.mv (tq 0)),oq 15 (.oth (.nilCheck (tq 14))),oq 16 (.fa 107 (tq 15) 1),oq 17 (.ldz 3 (tq 16)),oq 18 (.fa 107 (tq 3) 1),oq 19 (.ld 3 (tq 18)),oq 20 (.bin .add 3 (tq 17) (tq 19)),oq 21 (.mv (tq 0)),oq 22 (.oth (.nilCheck (tq 21))),oq 23 (.fa 107 (tq 22) 2),oq 24 (.ldz 3 (tq 23)),oq 25 (.fa 107 (tq 3) 2),oq 26 (.ld 3 (tq 25)),oq 27 (.bin .add 3 (tq 24) (tq 26)),oq 28 (.oth (.nilCheck (tq 4))),oq 29 (.fa 107 (tq 28) 0),os (.sto 3 (tq 29) (tq 13)),oq 30 (.oth (.nilCheck (tq 5))),oq 31 (.fa 107 (tq 30) 1),os (.sto 3 (tq 31) (tq 20)),oq 32 (.oth (.nilCheck (tq 6))),oq 33 (.fa 107 (tq 32) 2),os (.sto 3 (tq 33) (tq 27))],[]⟩]) (some ([0,3],[3])):=rx
def r54_0:=rg Tryz.f54 2
def r54_1:=rg Tryz.f54 9
def r54_2:=rg Tryz.f54 21
def r54_3:=rg Tryz.f54 77
def r54_4:=rg Tryz.f54 19
def r54_5:=rg Tryz.f54 75
def r54_6:=rg Tryz.f54 23
def r54_7:=rg Tryz.f54 47
def c54:Code:=(.seq r54_0 (.seq (.seq r54_1 (.seq r54_2 (.cond (.tmp 14) (.seq r54_3 .ret) .skip))) (.seq (.seq r54_4 (.cond (.tmp 25) (.seq r54_5 .ret) .skip)) (.seq r54_6 (.seq r54_7 .ret)))))
theorem b54:Tryz.f54.body = some c54:=by kernel_rfl
@[simp] theorem x54_0:RX 34 r54_0 (.str [oq 3 (.box (tq 0)),oq 6 (.mv (.const (.slice none 0 0))),oq 7 (.mv (ci 0))]) (some ([0,1,2],[3,30])):=rx
@[simp] theorem x54_1:RX 34 r54_1 (.str [oq 11 (.ld 37 (tq 3)),oq 12 (.call false none (.func 63) [tq 11]),oq 8 (.mv (tq 12))]) (some ([1,2,3],[3,30])):=rx
@[simp] theorem x54_2:RX 34 r54_2 (.str [oq 13 (.mv (tq 8)),oq 14 (.bin .neq 31 (tq 13) (ci 0))]) (some ([1,2,3,8],[3,30])):=rx
@[simp] theorem x54_3:RX 34 r54_3 (.str [oq 15 (.mv (tq 8)),oq 6 (.mv (.const (.slice none 0 0))),oq 7 (.mv (tq 15))]) (some ([8],[])):=rx
@[simp] theorem x54_4:RX 34 r54_4 (.str [oq 16 (.ld 37 (tq 3)),oq 17 (.mv (tq 1)),oq 18 (.call false none (.func 74) [tq 16,tq 17]),oq 19 (.oth (.unOp .not 4 (tq 18))),oq 20 (.mv (tq 19)),og 20 false 21 (.ld 37 (tq 3)),og 20 false 22 (.mv (tq 2)),og 20 false 23 (.call false none (.func 104) [tq 21,tq 22]),og 20 false 24 (.oth (.unOp .not 4 (tq 23))),oq 25 (.pick (tq 20) (cb true) (tq 24))]) (some ([1,2,3],[3,30])):=rx
@[simp] theorem x54_5:RX 34 r54_5 (.str [oq 6 (.mv (.const (.slice none 0 0))),oq 7 (.mv (ci 2))]) (some ([],[])):=rx
@[simp] theorem x54_6:RX 34 r54_6 (.str [oq 27 (.ld 37 (tq 3)),oq 28 (.mv (tq 1)),oq 29 (.mv (tq 2)),oq 30 (.call false none (.func 105) [tq 27,tq 28,tq 29]),oq 26 (.mv (tq 30)),oq 31 (.oth (.extract (tq 26) 0)),oq 32 (.oth (.extract (tq 26) 1)),oq 9 (.mv (tq 31)),oq 10 (.mv (tq 32))]) (some ([1,2,3],[3,30])):=rx
@[simp] theorem x54_7:RX 34 r54_7 (.str [oq 33 (.mv (tq 9)),oq 6 (.mv (tq 33)),oq 7 (.mv (ci 0))]) (some ([9],[3,30])):=rx
def r17_0:=rg Tryz.f17 2
def r17_1:=rg Tryz.f17 5
def r17_2:=rg Tryz.f17 19
def r17_3:=rg Tryz.f17 267
def r17_5:=rg Tryz.f17 587
def r17_4:=rg Tryz.f17 459
def r17_6:=rg Tryz.f17 39
def r17_7:=rg Tryz.f17 535
def r17_9:=rg Tryz.f17 1175
def r17_8:=rg Tryz.f17 919
def r17_10:=rg Tryz.f17 47
def lb17_3:Code:=(.seq (.seq r17_3 (.cond (.tmp 28) .skip (.exit 0))) (.seq (.block 1 r17_5) r17_4))
@[simp] theorem u17_3 (n:Nat) (st:XS):execA Tryz.prog ann kn n 68 lb17_3 st = execA Tryz.prog ann kn n 68 (.seq (.seq r17_3 (.cond (.tmp 28) .skip (.exit 0))) (.seq (.block 1 r17_5) r17_4)) st:=rfl
def lb17_7:Code:=(.seq (.seq r17_7 (.cond (.tmp 46) .skip (.exit 2))) (.seq (.block 3 r17_9) r17_8))
@[simp] theorem u17_7 (n:Nat) (st:XS):execA Tryz.prog ann kn n 68 lb17_7 st = execA Tryz.prog ann kn n 68 (.seq (.seq r17_7 (.cond (.tmp 46) .skip (.exit 2))) (.seq (.block 3 r17_9) r17_8)) st:=rfl
def c17:Code:=(.seq r17_0 (.seq r17_1 (.seq (.seq r17_2 (.block 0 (.loop lb17_3))) (.seq (.seq r17_6 (.block 2 (.loop lb17_7))) (.seq r17_10 .ret)))))
theorem b17:Tryz.f17.body = some c17:=by kernel_rfl
@[simp] theorem x17_0:RX 68 r17_0 (.str [oq 1 (.box (tq 0)),oq 2 (.alloc 37)]) (some ([0],[1,2,3,16,19,22,40,65])):=rx
@[simp] theorem x17_1:RX 68 r17_1 (.drw [⟨[3],[oq 6 (.fa 27 (tq 1) 0),oq 7 (.ldz 3 (tq 6)),oq 8 (.fa 27 (tq 1) 1),oq 9 (.ldz 3 (tq 8)),oq 10 (.fa 27 (tq 1) 2),oq 11 (.ldz 3 (tq 10)),oq 12 (.fa 27 (tq 1) 3),oq 13 (.ldz 3 (tq 12)),oq 14 (.fa 27 (tq 1) 4),oq 15 (.ldz 22 (tq 14)),oq 16 (.call false none (.func 55) [tq 15]),oq 17 (.fa 27 (tq 1) 5),oq 18 (.ldz 22 (tq 17)),oq 19 (.call false none (.func 55) [tq 18]),oq 20 (.fa 27 (tq 1) 6),oq 21 (.ldz 23 (tq 20)),oq 22 (.call false none (.func 18) [tq 21]),oq 23 (.build 37 [(0,tq 7),(1,tq 9),(2,tq 11),(3,tq 13),(4,tq 16),(5,tq 19),(6,tq 22)]),oq 3 (.alloc 37)],[os (.sto 37 (tq 3) (tq 23))]⟩]) (some ([1,2],[1,2,40,65])):=rx
@[simp] theorem x17_2:RX 68 r17_2 (.str [oq 4 (.mv (ci 0))]) (some ([1,2,3],[1,2,3,16,19,22,40,65])):=rx
@[simp] theorem x17_3:RX 68 r17_3 (.str [oq 24 (.mv (tq 4)),oq 25 (.fa 27 (tq 1) 7),oq 26 (.ld 24 (tq 25)),oq 27 (.oth (.call ⟨.builtin .len,#[tq 26],#[24]⟩)),oq 28 (.bin .lss 3 (tq 24) (tq 27))]) (some ([1,2,3,4],[1,2,3,16,19,22,40,65])):=rx
@[simp] theorem x17_5:RX 68 r17_5 (.drw [⟨[],[oq 31 (.fa 37 (tq 3) 7),oq 32 (.ldz 34 (tq 31)),oq 33 (.fa 27 (tq 1) 7),oq 34 (.ld 24 (tq 33)),oq 35 (.mv (tq 4)),oq 36 (.oth (.indexAddr 24 (tq 34) (tq 35))),oq 37 (.ld 50 (tq 36)),oq 38 (.call false none (.func 28) [tq 37]),oq 39 (.buildS 34 1 [(0,tq 38)]),oq 40 (.app [tq 32,tq 39] [34,34]),oq 41 (.fa 37 (tq 3) 7)],[os (.sto 34 (tq 41) (tq 40))]⟩]) (some ([1,2,3,4],[1,2,3,16,19,22,40,65])):=rx
@[simp] theorem x17_4:RX 68 r17_4 (.str [oq 29 (.mv (tq 4)),oq 30 (.bin .add 3 (tq 29) (ci 1)),oq 4 (.mv (tq 30))]) (some ([1,2,3,4],[1,2,3,16,19,22,40,65])):=rx
@[simp] theorem x17_6:RX 68 r17_6 (.str [oq 5 (.mv (ci 0))]) (some ([1,2,3],[1,2,3,16,19,22,40,65])):=rx
@[simp] theorem x17_7:RX 68 r17_7 (.str [oq 42 (.mv (tq 5)),oq 43 (.fa 27 (tq 1) 8),oq 44 (.ld 25 (tq 43)),oq 45 (.oth (.call ⟨.builtin .len,#[tq 44],#[25]⟩)),oq 46 (.bin .lss 3 (tq 42) (tq 45))]) (some ([1,2,3,5],[1,2,3,16,19,22,40,65])):=rx
@[simp] theorem x17_9:RX 68 r17_9 (.drw [⟨[],[oq 49 (.fa 37 (tq 3) 8),oq 50 (.ldz 35 (tq 49)),oq 51 (.fa 27 (tq 1) 8),oq 52 (.ld 25 (tq 51)),oq 53 (.mv (tq 5)),oq 54 (.oth (.indexAddr 25 (tq 52) (tq 53))),oq 55 (.fa 101 (tq 54) 0),oq 56 (.ld 3 (tq 55)),oq 57 (.fa 27 (tq 1) 8),oq 58 (.ld 25 (tq 57)),oq 59 (.mv (tq 5)),oq 60 (.oth (.indexAddr 25 (tq 58) (tq 59))),oq 61 (.fa 101 (tq 60) 1),oq 62 (.ld 3 (tq 61)),oq 63 (.build 126 [(0,tq 56),(1,tq 62)]),oq 64 (.buildS 35 1 [(0,tq 63)]),oq 65 (.app [tq 50,tq 64] [35,35]),oq 66 (.fa 37 (tq 3) 8)],[os (.sto 35 (tq 66) (tq 65))]⟩]) (some ([1,2,3,5],[1,2,3,16,19,22,40,65])):=rx
@[simp] theorem x17_8:RX 68 r17_8 (.str [oq 47 (.mv (tq 5)),oq 48 (.bin .add 3 (tq 47) (ci 1)),oq 5 (.mv (tq 48))]) (some ([1,2,3,5],[1,2,3,16,19,22,40,65])):=rx
@[simp] theorem x17_10:RX 68 r17_10 (.str [oq 67 (.ld 37 (tq 3)),os (.sto 37 (tq 2) (tq 67))]) (some ([2,3],[1,2,3,16,19,22,40,65])):=rx
@[simp] theorem l17_3:ann 68 (fstR lb17_3) = some ([1,2,3,4],[1,2,3,16,19,22,40,65]):=by kernel_rfl
@[simp] theorem l17_7:ann 68 (fstR lb17_7) = some ([1,2,3,5],[1,2,3,16,19,22,40,65]):=by kernel_rfl
def r56_0:=rg Tryz.f56 2
def r56_1:=rg Tryz.f56 9
def r56_2:=rg Tryz.f56 133
def r56_4:=rg Tryz.f56 549
def r56_5:=rg Tryz.f56 2341
def r56_3:=rg Tryz.f56 229
def r56_6:=rg Tryz.f56 11
def lb56_2:Code:=(.seq (.seq r56_2 (.cond (.tmp 9) .skip (.exit 0))) (.seq (.block 1 (.seq r56_4 (.cond (.tmp 19) (.seq r56_5 .ret) .skip))) r56_3))
@[simp] theorem u56_2 (n:Nat) (st:XS):execA Tryz.prog ann kn n 25 lb56_2 st = execA Tryz.prog ann kn n 25 (.seq (.seq r56_2 (.cond (.tmp 9) .skip (.exit 0))) (.seq (.block 1 (.seq r56_4 (.cond (.tmp 19) (.seq r56_5 .ret) .skip))) r56_3)) st:=rfl
def c56:Code:=(.seq r56_0 (.seq (.seq r56_1 (.block 0 (.loop lb56_2))) (.seq r56_6 .ret)))
theorem b56:Tryz.f56.body = some c56:=by kernel_rfl
@[simp] theorem x56_0:RX 25 r56_0 (.str [oq 2 (.box (tq 0)),oq 4 (.mv (cb false))]) (some ([0,1],[2])):=rx
@[simp] theorem x56_1:RX 25 r56_1 (.str [oq 5 (.mv (ci 0))]) (some ([1,2],[2])):=rx
@[simp] theorem x56_2:RX 25 r56_2 (.str [oq 6 (.mv (tq 5)),oq 7 (.mv (tq 1)),oq 8 (.oth (.call ⟨.builtin .len,#[tq 7],#[103]⟩)),oq 9 (.bin .lss 3 (tq 6) (tq 8))]) (some ([1,2,5],[2])):=rx
@[simp] theorem x56_4:RX 25 r56_4 (.drw [⟨[],[oq 12 (.mv (tq 1)),oq 13 (.mv (tq 5)),oq 14 (.oth (.indexAddr 103 (tq 12) (tq 13))),oq 15 (.ld 108 (tq 14)),oq 16 (.oth (.call ⟨.builtin .len,#[tq 15],#[108]⟩)),oq 17 (.fa 27 (tq 2) 2),oq 18 (.ld 3 (tq 17)),oq 19 (.bin .neq 3 (tq 16) (tq 18))],[]⟩]) (some ([1,2,5],[2])):=rx
@[simp] theorem x56_5:RX 25 r56_5 (.str [oq 4 (.mv (cb false))]) (some ([],[])):=rx
@[simp] theorem x56_3:RX 25 r56_3 (.str [oq 10 (.mv (tq 5)),oq 11 (.bin .add 3 (tq 10) (ci 1)),oq 5 (.mv (tq 11))]) (some ([1,2,5],[2])):=rx
@[simp] theorem x56_6:RX 25 r56_6 (.str [oq 20 (.mv (tq 1)),oq 21 (.oth (.call ⟨.builtin .len,#[tq 20],#[103]⟩)),oq 22 (.fa 27 (tq 2) 1),oq 23 (.ld 3 (tq 22)),oq 24 (.bin .eql 3 (tq 21) (tq 23)),oq 4 (.mv (tq 24))]) (some ([1,2],[2])):=rx
@[simp] theorem l56_2:ann 25 (fstR lb56_2) = some ([1,2,5],[2]):=by kernel_rfl
def r125_0:=rg Tryz.f125 2
def r125_1:=rg Tryz.f125 5
def r125_2:=rg Tryz.f125 11
def r125_3:=rg Tryz.f125 39
def r125_4:=rg Tryz.f125 151
def r125_5:=rg Tryz.f125 215
def r125_6:=rg Tryz.f125 47
def c125:Code:=(.seq r125_0 (.seq r125_1 (.seq r125_2 (.seq (.seq r125_3 (.cond (.tmp 23) (.seq r125_4 r125_5) .skip)) (.seq r125_6 .ret)))))
theorem b125:Tryz.f125.body = some c125:=by kernel_rfl
@[simp] theorem x125_0:RX 36 r125_0 (.str [oq 5 (.box (tq 2)),oq 6 (.mv (ci 0))]) (some ([0,1,2],[])):=rx
@[simp] theorem x125_1:RX 36 r125_1 (.str [oq 10 (.mv (tq 1)),oq 11 (.ld 149 (tq 5)),oq 12 (.build 152 [(0,tq 10),(2,tq 11)]),oq 7 (.alloc 152),os (.sto 152 (tq 7) (tq 12))]) (some ([0,1,5],[5])):=rx
@[simp] theorem x125_2:RX 36 r125_2 (.drw [⟨[],[oq 14 (.mv (tq 0)),oq 15 (.oth (.nilCheck (tq 14))),oq 16 (.fa 145 (tq 15) 3),oq 17 (.ld 143 (tq 16)),oq 18 (.ld 152 (tq 7)),oq 19 (.oth (.lookup 143 (tq 17) (tq 18) true)),oq 13 (.mv (tq 19)),oq 20 (.oth (.extract (tq 13) 0)),oq 21 (.oth (.extract (tq 13) 1)),oq 8 (.mv (tq 20)),oq 9 (.mv (tq 21))],[]⟩]) (some ([0,1,5,7],[5,7])):=rx
@[simp] theorem x125_3:RX 36 r125_3 (.str [oq 22 (.mv (tq 9)),oq 23 (.oth (.unOp .not 4 (tq 22)))]) (some ([0,1,5,7,8,9],[5,7])):=rx
@[simp] theorem x125_4 (n:Nat) (st:XS):execA Tryz.prog ann kn (n + 1) 36 r125_4 st = toN (runR Tryz.prog (cfU [10902] (envA Tryz.prog ann kn n)) (.str [oq 24 (.mv (tq 0)),oq 25 (.mv (tq 1)),oq 26 (.ld 149 (tq 5)),oq 27 (.call false none (.func 122) [tq 24,tq 25,tq 26]),oq 28 (.oth (.field 55 (tq 27) 0)),oq 8 (.mv (tq 28))]) (trimO (some ([0,1,5,7],[5,7])) (ghO [] st))) :=
 exec_regU (by kernel_rfl) (by kernel_rfl) (by kernel_rfl) (by kernel_rfl) (by kernel_rfl) (by kernel_rfl)
@[simp] theorem x125_5:RX 36 r125_5 (.drw [⟨[],[oq 29 (.mv (tq 0)),oq 30 (.oth (.nilCheck (tq 29))),oq 31 (.fa 145 (tq 30) 3),oq 32 (.ld 143 (tq 31)),oq 33 (.ld 152 (tq 7)),oq 34 (.mv (tq 8))],[os (.upd 143 (tq 32) (tq 33) (tq 34))]⟩]) (some ([0,7,8],[7])):=rx
@[simp] theorem x125_6:RX 36 r125_6 (.str [oq 35 (.mv (tq 8)),oq 6 (.mv (tq 35))]) (some ([8],[])):=rx
def r126_0:=rg Tryz.f126 2
def r126_1:=rg Tryz.f126 5
def r126_2:=rg Tryz.f126 11
def c126:Code:=(.seq r126_0 (.seq r126_1 (.seq r126_2 .ret)))
theorem b126:Tryz.f126.body = some c126:=by kernel_rfl
@[simp] theorem x126_0:RX 18 r126_0 (.str [oq 4 (.mv (ci 0))]) (some ([0,1,2,3],[])):=rx
@[simp] theorem x126_1:RX 18 r126_1 (.str [oq 6 (.mv (tq 0)),oq 7 (.mv (tq 1)),oq 8 (.bin .sub 3 (tq 6) (tq 7)),oq 9 (.mv (tq 1)),oq 10 (.mv (tq 0)),oq 11 (.bin .sub 3 (tq 9) (tq 10)),oq 12 (.oth (.call ⟨.builtin .max,#[tq 8,tq 11],#[3,3]⟩)),oq 5 (.mv (tq 12))]) (some ([0,1],[])):=rx
@[simp] theorem x126_2:RX 18 r126_2 (.str [oq 13 (.mv (tq 5)),oq 14 (.mv (tq 5)),oq 15 (.bin .sub 3 (ci 4) (tq 14)),oq 16 (.buildS 22 2 [(0,tq 13),(1,tq 15)]),oq 17 (.call false none (.func 140) [tq 16]),oq 4 (.mv (tq 17))]) (some ([5],[])):=rx
def r98_0:=rg Tryz.f98 2
def r98_1:=rg Tryz.f98 9
def r98_2:=rg Tryz.f98 69
def r98_3:=rg Tryz.f98 1125
def r98_4:=rg Tryz.f98 1637
def r98_5:=rg Tryz.f98 485
def r98_6:=rg Tryz.f98 11
def lb98_2:Code:=(.seq r98_2 (.seq (.cond (.tmp 11) .skip (.exit 0)) (.seq (.block 1 (.seq r98_3 r98_4)) r98_5)))
@[simp] theorem u98_2 (n:Nat) (st:XS):execA Tryz.prog ann kn n 27 lb98_2 st = execA Tryz.prog ann kn n 27 (.seq r98_2 (.seq (.cond (.tmp 11) .skip (.exit 0)) (.seq (.block 1 (.seq r98_3 r98_4)) r98_5))) st:=rfl
def c98:Code:=(.seq r98_0 (.seq (.seq r98_1 (.block 0 (.loop lb98_2))) (.seq r98_6 .ret)))
theorem b98:Tryz.f98.body = some c98:=by kernel_rfl
@[simp] theorem x98_0:RX 27 r98_0 (.str [oq 3 (.box (tq 0)),oq 4 (.box (tq 1)),oq 5 (.box (tq 2)),oq 6 (.mv (ci 0))]) (some ([0,1,2],[3])):=rx
@[simp] theorem x98_1:RX 27 r98_1 (.str [oq 8 (.fa 37 (tq 3) 1),oq 9 (.ld 3 (tq 8)),oq 10 (.mv (ci 0))]) (some ([3,4,5,6],[3,4,5])):=rx
@[simp] theorem x98_2:RX 27 r98_2 (.str [oq 11 (.bin .lss 3 (tq 10) (tq 9))]) (some ([3,4,5,6,9,10],[3,4,5])):=rx
@[simp] theorem x98_3:RX 27 r98_3 (.str [oq 12 (.mv (tq 10)),oq 7 (.mv (tq 12))]) (some ([3,4,5,6,9,10],[3,4,5])):=rx
@[simp] theorem x98_4:RX 27 r98_4 (.drw [⟨[],[oq 13 (.mv (tq 6)),oq 14 (.mv (tq 7)),oq 15 (.oth (.indexAddr 149 (tq 4) (tq 14))),oq 16 (.ld 3 (tq 15)),oq 17 (.mv (tq 7)),oq 18 (.oth (.indexAddr 149 (tq 5) (tq 17))),oq 19 (.ld 3 (tq 18)),oq 20 (.call false none (.func 126) [tq 16,tq 19]),oq 21 (.fa 37 (tq 3) 2),oq 22 (.ld 3 (tq 21)),oq 23 (.bin .mul 3 (tq 20) (tq 22)),oq 24 (.bin .add 3 (tq 13) (tq 23)),oq 6 (.mv (tq 24))],[]⟩]) (some ([3,4,5,6,7,9,10],[3,4,5])):=rx
@[simp] theorem x98_5:RX 27 r98_5 (.str [oq 25 (.bin .add 3 (tq 10) (ci 1)),oq 10 (.mv (tq 25))]) (some ([3,4,5,6,9,10],[3,4,5])):=rx
@[simp] theorem x98_6:RX 27 r98_6 (.str [oq 26 (.mv (tq 6)),oq 6 (.mv (tq 26))]) (some ([6,7],[6,7])):=rx
@[simp] theorem l98_2:ann 27 (fstR lb98_2) = some ([3,4,5,6,9,10],[3,4,5]):=by kernel_rfl
def r75_0:=rg Tryz.f75 2
def r75_1:=rg Tryz.f75 5
def r75_2:=rg Tryz.f75 19
def r75_3:=rg Tryz.f75 139
def r75_4:=rg Tryz.f75 2251
def r75_5:=rg Tryz.f75 5323
def r75_6:=rg Tryz.f75 11467
def r75_7:=rg Tryz.f75 40139
def r75_8:=rg Tryz.f75 56523
def r75_9:=rg Tryz.f75 971
def r75_10:=rg Tryz.f75 23
def lb75_3:Code:=(.seq r75_3 (.seq (.cond (.tmp 15) .skip (.exit 0)) (.seq (.block 1 (.seq r75_4 (.seq r75_5 (.seq r75_6 (.cond (.tmp 22) (.seq r75_7 r75_8) .skip))))) r75_9)))
@[simp] theorem u75_3 (n:Nat) (st:XS):execA Tryz.prog ann kn n 32 lb75_3 st = execA Tryz.prog ann kn n 32 (.seq r75_3 (.seq (.cond (.tmp 15) .skip (.exit 0)) (.seq (.block 1 (.seq r75_4 (.seq r75_5 (.seq r75_6 (.cond (.tmp 22) (.seq r75_7 r75_8) .skip))))) r75_9))) st:=rfl
def c75:Code:=(.seq r75_0 (.seq r75_1 (.seq (.seq r75_2 (.block 0 (.loop lb75_3))) (.seq r75_10 .ret))))
@[simp] theorem x75_0:RX 32 r75_0 (.str [oq 2 (.box (tq 0)),oq 4 (.mv (ci 0))]) (some ([0,1],[2])):=rx
@[simp] theorem x75_1:RX 32 r75_1 (.str [oq 9 (.fa 37 (tq 2) 4),oq 10 (.ld 22 (tq 9)),oq 11 (.call true none (.func 95) [tq 10]),oq 5 (.alloc 149),os (.sto 149 (tq 5) (tq 11))]) (some ([1,2,4],[2])):=rx
@[simp] theorem x75_2:RX 32 r75_2 (.str [oq 12 (.mv (tq 1)),oq 13 (.oth (.call ⟨.builtin .len,#[tq 12],#[23]⟩)),oq 14 (.mv (ci 0))]) (some ([1,2,4,5],[2,5])):=rx
@[simp] theorem x75_3:RX 32 r75_3 (.str [oq 15 (.bin .lss 3 (tq 14) (tq 13))]) (some ([2,4,5,12,13,14],[2,5])):=rx
@[simp] theorem x75_4:RX 32 r75_4 (.str [oq 16 (.oth (.indexAddr 23 (tq 12) (tq 14))),oq 17 (.ld 22 (tq 16)),oq 7 (.mv (tq 17))]) (some ([2,4,5,12,13,14],[2,5])):=rx
@[simp] theorem x75_5:RX 32 r75_5 (.str [oq 18 (.mv (tq 7)),oq 19 (.call true none (.func 95) [tq 18]),oq 8 (.alloc 149),os (.sto 149 (tq 8) (tq 19))]) (some ([2,4,5,7,12,13,14],[2,5])):=rx
@[simp] theorem x75_6:RX 32 r75_6 (.str [oq 20 (.ld 149 (tq 8)),oq 21 (.ld 149 (tq 5)),oq 22 (.bin .neq 149 (tq 20) (tq 21))]) (some ([2,4,5,8,12,13,14],[2,5,8])):=rx
@[simp] theorem x75_7:RX 32 r75_7 (.str [oq 23 (.mv (tq 4)),oq 24 (.ld 37 (tq 2)),oq 25 (.ld 149 (tq 5)),oq 26 (.ld 149 (tq 8)),oq 27 (.call false none (.func 98) [tq 24,tq 25,tq 26]),oq 28 (.bin .add 3 (tq 23) (tq 27)),oq 4 (.mv (tq 28))]) (some ([2,4,5,8,12,13,14],[2,5,8])):=rx
@[simp] theorem x75_8:RX 32 r75_8 (.str [oq 29 (.ld 149 (tq 8)),os (.sto 149 (tq 5) (tq 29))]) (some ([2,4,5,8,12,13,14],[2,5,8])):=rx
@[simp] theorem x75_9:RX 32 r75_9 (.str [oq 30 (.bin .add 3 (tq 14) (ci 1)),oq 14 (.mv (tq 30))]) (some ([2,4,5,12,13,14],[2,5])):=rx
@[simp] theorem x75_10:RX 32 r75_10 (.str [oq 31 (.mv (tq 4)),oq 4 (.mv (tq 31))]) (some ([4],[])):=rx
@[simp] theorem l75_3:ann 32 (fstR lb75_3) = some ([2,4,5,12,13,14],[2,5]):=by kernel_rfl
def r16_0:=rg Tryz.f16 2
def r16_1:=rg Tryz.f16 9
def r16_2:=rg Tryz.f16 21
def r16_3:=rg Tryz.f16 77
def r16_4:=rg Tryz.f16 19
def r16_5:=rg Tryz.f16 75
def r16_6:=rg Tryz.f16 23
def c16:Code:=(.seq r16_0 (.seq (.seq r16_1 (.seq r16_2 (.cond (.tmp 10) (.seq r16_3 .ret) .skip))) (.seq (.seq r16_4 (.cond (.tmp 15) (.seq r16_5 .ret) .skip)) (.seq r16_6 .ret))))
def r96_0:=rg Tryz.f96 2
def r96_1:=rg Tryz.f96 9
def r96_2:=rg Tryz.f96 37
def r96_3:=rg Tryz.f96 19
def r96_4:=rg Tryz.f96 43
def r96_5:=rg Tryz.f96 155
def r96_6:=rg Tryz.f96 23
def r96_7:=rg Tryz.f96 47
def r96_8:=rg Tryz.f96 95
def r96_9:=rg Tryz.f96 191
def c96:Code:=(.seq r96_0 (.seq (.seq r96_1 (.cond (.tmp 15) (.seq r96_2 .ret) .skip)) (.seq (.seq r96_3 (.seq r96_4 (.cond (.tmp 26) (.seq r96_5 .ret) .skip))) (.seq r96_6 (.seq r96_7 (.seq r96_8 (.seq r96_9 .ret)))))))
theorem b96:Tryz.f96.body = some c96:=by kernel_rfl
@[simp] theorem x96_0:RX 39 r96_0 (.str [oq 2 (.box (tq 0)),oq 3 (.box (tq 1)),oq 4 (.alloc 154)]) (some ([0,1],[2,3,7])):=rx
@[simp] theorem x96_1:RX 39 r96_1 (.drw [⟨[],[oq 8 (.fa 152 (tq 3) 0),oq 9 (.ld 3 (tq 8)),oq 10 (.ld 127 (tq 2)),oq 11 (.oth (.nilCheck (tq 10))),oq 12 (.fa 145 (tq 11) 0),oq 13 (.fa 37 (tq 12) 0),oq 14 (.ld 3 (tq 13)),oq 15 (.bin .gtr 3 (tq 9) (tq 14))],[]⟩]) (some ([2,3,4],[2,3,4,7])):=rx
@[simp] theorem x96_2:RX 39 r96_2 (.str [oq 16 (.build 154 []),os (.sto 154 (tq 4) (tq 16))]) (some ([4],[4])):=rx
@[simp] theorem x96_3:RX 39 r96_3 (.drw [⟨[5],[oq 18 (.ldz 127 (tq 2)),oq 19 (.oth (.nilCheck (tq 18))),oq 20 (.fa 145 (tq 19) 2),oq 21 (.ldz 142 (tq 20)),oq 22 (.ldz 152 (tq 3)),oq 23 (.oth (.lookup 142 (tq 21) (tq 22) true)),oq 17 (.mv (tq 23)),oq 24 (.oth (.extract (tq 17) 0)),oq 25 (.oth (.extract (tq 17) 1)),oq 5 (.alloc 154),os (.sto 154 (tq 5) (tq 24)),oq 6 (.mv (tq 25))],[]⟩]) (some ([2,3,4],[2,3,4,7])):=rx
@[simp] theorem x96_4:RX 39 r96_4 (.str [oq 26 (.mv (tq 6))]) (some ([2,3,4,5,6],[2,3,4,5,7])):=rx
@[simp] theorem x96_5:RX 39 r96_5 (.str [oq 27 (.ld 154 (tq 5)),os (.sto 154 (tq 4) (tq 27))]) (some ([4,5],[4,5])):=rx
@[simp] theorem x96_6:RX 39 r96_6 (.str [oq 28 (.build 154 [(0,.const (.int .i64 (Int.negSucc 0)))]),oq 7 (.alloc 154),os (.sto 154 (tq 7) (tq 28))]) (some ([2,3,4],[2,3,4,7])):=rx
@[simp] theorem x96_7 (n:Nat) (st:XS):execA Tryz.prog ann kn (n + 1) 39 r96_7 st = toN (runR Tryz.prog (envA Tryz.prog ann kn n) (.str [oq 29 (.ld 127 (tq 2)),oq 30 (.oth (.makeFunc (.func 124) #[] #[tq 2,tq 3,tq 7])),oq 31 (.call false none (.func 123) [tq 29,tq 30])]) (trimO (some ([2,3,4,7],[2,3,4,7])) (ghO [2,3] st))) :=
 exec_regT (by kernel_rfl) (by kernel_rfl) (by kernel_rfl) (by kernel_rfl) (by kernel_rfl)
@[simp] theorem x96_8:RX 39 r96_8 (.drw [⟨[],[oq 32 (.ld 127 (tq 2)),oq 33 (.oth (.nilCheck (tq 32))),oq 34 (.fa 145 (tq 33) 2),oq 35 (.ld 142 (tq 34)),oq 36 (.ld 152 (tq 3)),oq 37 (.ld 154 (tq 7))],[os (.upd 142 (tq 35) (tq 36) (tq 37))]⟩]) (some ([2,3,4,7],[2,3,4,7])):=rx
@[simp] theorem x96_9:RX 39 r96_9 (.str [oq 38 (.ld 154 (tq 7)),os (.sto 154 (tq 4) (tq 38))]) (some ([4,7],[2,3,4,7])):=rx
def r124_0:=rg Tryz.f124 2
def r124_1:=rg Tryz.f124 5
def r124_2:=rg Tryz.f124 19
def r124_3:=rg Tryz.f124 23
def r124_4:=rg Tryz.f124 47
def r124_5:=rg Tryz.f124 95
def c124:Code:=(.seq r124_0 (.seq r124_1 (.seq (.seq r124_2 (.cond (.tmp 18) .ret .skip)) (.seq r124_3 (.seq r124_4 (.cond (.tmp 40) r124_5 .skip))))))
theorem b124:Tryz.f124.body = some c124:=by kernel_rfl
@[simp] theorem x124_0:RX 44 r124_0 (.str [oq 4 (.box (tq 0))]) (some ([0,1,2,3],[])):=rx
@[simp] theorem x124_1 (n:Nat) (st:XS):execA Tryz.prog ann kn (n + 1) 44 r124_1 st = toN (runR Tryz.prog (envA Tryz.prog ann kn n) (.drw [⟨[],[oq 7 (.ld 127 (tq 1)),oq 8 (.oth (.nilCheck (tq 7))),oq 9 (.fa 145 (tq 8) 0),oq 10 (.ld 37 (tq 9)),oq 11 (.fa 152 (tq 2) 2),oq 12 (.ld 149 (tq 11)),oq 13 (.ld 149 (tq 4))],[oq 14 (.call false none (.func 98) [tq 10,tq 12,tq 13])]⟩,⟨[],[oq 5 (.mv (tq 14))],[]⟩]) (trimO (some ([1,2,3,4],[4])) (ghO [4] st))) :=
 exec_regT (by kernel_rfl) (by kernel_rfl) (by kernel_rfl) (by kernel_rfl) (by kernel_rfl)
@[simp] theorem x124_2:RX 44 r124_2 (.str [oq 15 (.mv (tq 5)),oq 16 (.fa 152 (tq 2) 1),oq 17 (.ld 3 (tq 16)),oq 18 (.bin .gtr 3 (tq 15) (tq 17))]) (some ([1,2,3,4,5],[4])):=rx
@[simp] theorem x124_4:RX 44 r124_4 (.str [oq 37 (.mv (tq 6)),oq 38 (.fa 154 (tq 3) 0),oq 39 (.ld 3 (tq 38)),oq 40 (.bin .gtr 3 (tq 37) (tq 39))]) (some ([3,4,6],[4])):=rx
@[simp] theorem x124_5:RX 44 r124_5 (.str [oq 41 (.mv (tq 6)),oq 42 (.ld 149 (tq 4)),oq 43 (.build 154 [(0,tq 41),(1,tq 42)]),os (.sto 154 (tq 3) (tq 43))]) (some ([3,4,6],[4])):=rx
def r123_0:=rg Tryz.f123 2
def r123_1:=rg Tryz.f123 5
def r123_2:=rg Tryz.f123 11
def r123_3:=rg Tryz.f123 23
def r123_4:=rg Tryz.f123 31
def c123:Code:=(.seq r123_0 (.seq r123_1 (.seq r123_2 (.seq r123_3 r123_4))))
theorem b123:Tryz.f123.body = some c123:=by kernel_rfl
@[simp] theorem x123_0:RX 9 r123_0 (.str [oq 2 (.box (tq 0)),oq 3 (.box (tq 1))]) (some ([0,1],[2,3,4,5,7])):=rx
@[simp] theorem x123_1:RX 9 r123_1 (.str [oq 4 (.alloc 149)]) (some ([2,3],[2,3,4,5])):=rx
@[simp] theorem x123_2:RX 9 r123_2 (.str [oq 5 (.alloc 181)]) (some ([2,3,4],[2,3,4,5])):=rx
@[simp] theorem x123_3:RX 9 r123_3 (.str [oq 6 (.oth (.makeFunc (.func 142) #[] #[tq 2,tq 3,tq 4,tq 5])),os (.sto 181 (tq 5) (tq 6))]) (some ([2,3,4,5],[2,3,4,5])):=rx
@[simp] theorem x123_4:RX 9 r123_4 (.str [oq 7 (.ld 181 (tq 5)),oq 8 (.call false none (tq 7) [ci 0])]) (some ([5],[2,3,4,5])):=rx
def r142_0:=rg Tryz.f142 4
def r142_1:=rg Tryz.f142 18
def r142_2:=rg Tryz.f142 5
def r142_3:=rg Tryz.f142 35
def r142_4:=rg Tryz.f142 563
def r142_5:=rg Tryz.f142 1331
def r142_6:=rg Tryz.f142 1843
def r142_7:=rg Tryz.f142 243
def lb142_3:Code:=(.seq r142_3 (.seq (.cond (.tmp 18) .skip (.exit 0)) (.seq (.block 1 (.seq r142_4 (.seq r142_5 r142_6))) r142_7)))
@[simp] theorem u142_3 (n:Nat) (st:XS):execA Tryz.prog ann kn n 28 lb142_3 st = execA Tryz.prog ann kn n 28 (.seq r142_3 (.seq (.cond (.tmp 18) .skip (.exit 0)) (.seq (.block 1 (.seq r142_4 (.seq r142_5 r142_6))) r142_7))) st:=rfl
def c142:Code:=(.seq (.seq r142_0 (.cond (.tmp 13) (.seq r142_1 .ret) .skip)) (.seq r142_2 (.block 0 (.loop lb142_3))))
theorem b142:Tryz.f142.body = some c142:=by kernel_rfl
@[simp] theorem x142_0:RX 28 r142_0 (.str [oq 7 (.mv (tq 0)),oq 8 (.ld 127 (tq 1)),oq 9 (.oth (.nilCheck (tq 8))),oq 10 (.fa 145 (tq 9) 0),oq 11 (.fa 37 (tq 10) 1),oq 12 (.ld 3 (tq 11)),oq 13 (.bin .eql 3 (tq 7) (tq 12))]) (some ([0,1,2,3,4],[])):=rx
@[simp] theorem x142_1:RX 28 r142_1 (.str [oq 14 (.ld 177 (tq 2)),oq 15 (.ld 149 (tq 3)),oq 16 (.call false none (tq 14) [tq 15])]) (some ([2,3],[])):=rx
@[simp] theorem x142_2:RX 28 r142_2 (.str [oq 17 (.mv (ci 0))]) (some ([0,3,4],[])):=rx
@[simp] theorem x142_3:RX 28 r142_3 (.str [oq 18 (.bin .lss 3 (tq 17) (ci 4))]) (some ([0,3,4,17],[])):=rx
@[simp] theorem x142_4:RX 28 r142_4 (.str [oq 19 (.mv (tq 17)),oq 6 (.mv (tq 19))]) (some ([0,3,4,17],[])):=rx
@[simp] theorem x142_5:RX 28 r142_5 (.str [oq 20 (.mv (tq 0)),oq 21 (.mv (tq 6)),oq 22 (.oth (.indexAddr 149 (tq 3) (tq 20))),os (.sto 3 (tq 22) (tq 21))]) (some ([0,3,4,6,17],[])):=rx
@[simp] theorem x142_6:RX 28 r142_6 (.str [oq 23 (.ld 181 (tq 4)),oq 24 (.mv (tq 0)),oq 25 (.bin .add 3 (tq 24) (ci 1)),oq 26 (.call false none (tq 23) [tq 25])]) (some ([0,3,4,17],[])):=rx
@[simp] theorem x142_7:RX 28 r142_7 (.str [oq 27 (.bin .add 3 (tq 17) (ci 1)),oq 17 (.mv (tq 27))]) (some ([0,3,4,17],[])):=rx
@[simp] theorem l142_3:ann 28 (fstR lb142_3) = some ([0,3,4,17],[]):=by kernel_rfl
def r36_0:=rg Tryz.f36 2
def r36_1:=rg Tryz.f36 5
def r36_2:=rg Tryz.f36 19
def r36_3:=rg Tryz.f36 75
def r36_4:=rg Tryz.f36 23
def r36_5:=rg Tryz.f36 47
def r36_6:=rg Tryz.f36 159
def r36_7:=rg Tryz.f36 1119
def r36_8:=rg Tryz.f36 18015
def r36_9:=rg Tryz.f36 42591
def r36_10:=rg Tryz.f36 58975
def r36_11:=rg Tryz.f36 7775
def r36_12:=rg Tryz.f36 191
def lb36_7:Code:=(.seq r36_7 (.seq (.cond (.tmp 32) .skip (.exit 0)) (.seq (.block 1 (.seq r36_8 (.seq r36_9 r36_10))) r36_11)))
@[simp] theorem u36_7 (n:Nat) (st:XS):execA Tryz.prog ann kn n 65 lb36_7 st = execA Tryz.prog ann kn n 65 (.seq r36_7 (.seq (.cond (.tmp 32) .skip (.exit 0)) (.seq (.block 1 (.seq r36_8 (.seq r36_9 r36_10))) r36_11))) st:=rfl
def c36:Code:=(.seq r36_0 (.seq r36_1 (.seq (.seq r36_2 (.cond (.tmp 17) (.seq r36_3 .ret) .skip)) (.seq r36_4 (.seq r36_5 (.seq (.seq r36_6 (.block 0 (.loop lb36_7))) (.seq r36_12 .ret)))))))
theorem b36:Tryz.f36.body = some c36:=by kernel_rfl
@[simp] theorem x36_0:RX 65 r36_0 (.str [oq 2 (.box (tq 0)),oq 3 (.box (tq 1)),oq 4 (.mv (.const (.slice none 0 0))),oq 5 (.mv (ci 0)),oq 6 (.mv (ci 0))]) (some ([0,1],[2,3,13,900,901,902])):=rx
@[simp] theorem x36_1:RX 65 r36_1 (.str [oq 11 (.ld 37 (tq 2)),oq 12 (.oth (.makeFunc (.func 93) #[] #[tq 3])),oq 13 (.call false none (.func 76) [tq 11,tq 12]),oq 10 (.mv (tq 13)),oq 14 (.oth (.extract (tq 10) 0)),oq 15 (.oth (.extract (tq 10) 1)),oq 7 (.mv (tq 14)),oq 6 (.mv (tq 15))]) (some ([2,3,4],[2,3,13,43,900,901,902])):=rx
@[simp] theorem x36_2:RX 65 r36_2 (.str [oq 16 (.mv (tq 6)),oq 17 (.bin .neq 31 (tq 16) (ci 0))]) (some ([2,3,4,6,7],[2,3,13,43,900,901,902])):=rx
@[simp] theorem x36_3:RX 65 r36_3 (.str [oq 18 (.mv (tq 6)),oq 4 (.mv (.const (.slice none 0 0))),oq 5 (.mv (ci 0)),oq 6 (.mv (tq 18))]) (some ([6],[])):=rx
@[simp] theorem x36_4:RX 65 r36_4 (.drw [⟨[8],[oq 19 (.ldz 3 (tq 3)),oq 20 (.fa 37 (tq 2) 4),oq 21 (.ldz 22 (tq 20)),oq 22 (.call false none (.func 95) [tq 21]),oq 23 (.build 152 [(0,ci 0),(1,tq 19),(2,tq 22)]),oq 8 (.alloc 152)],[os (.sto 152 (tq 8) (tq 23))]⟩]) (some ([2,3,4,7],[2,3,13,43,900,901,902])):=rx
@[simp] theorem x36_5:RX 65 r36_5 (.str [oq 24 (.mv (tq 7)),oq 25 (.ld 152 (tq 8)),oq 26 (.call false none (.func 96) [tq 24,tq 25]),oq 27 (.oth (.field 154 (tq 26) 0)),oq 5 (.mv (tq 27))]) (some ([2,4,7,8],[2,3,8,13,43,900,901,902])):=rx
@[simp] theorem x36_6:RX 65 r36_6 (.str [oq 28 (.fa 37 (tq 2) 0),oq 29 (.ld 3 (tq 28)),oq 30 (.bin .add 3 (tq 29) (ci 1)),oq 31 (.mv (ci 0))]) (some ([2,4,5,7,8],[2,3,8,13,43,900,901,902])):=rx
@[simp] theorem x36_7:RX 65 r36_7 (.str [oq 32 (.bin .lss 3 (tq 31) (tq 30))]) (some ([2,4,5,7,8,30,31],[2,3,8,13,43,900,901,902])):=rx
@[simp] theorem x36_8:RX 65 r36_8 (.str [oq 33 (.mv (tq 7)),oq 34 (.ld 152 (tq 8)),oq 35 (.call true none (.func 96) [tq 33,tq 34]),oq 9 (.alloc 154),os (.sto 154 (tq 9) (tq 35))]) (some ([2,4,5,7,8,30,31],[2,3,8,13,43,900,901,902])):=rx
@[simp] theorem x36_9:RX 65 r36_9 (.str [oq 36 (.mv (tq 4)),oq 37 (.fa 154 (tq 9) 1),oq 38 (.fa 37 (tq 2) 1),oq 39 (.ld 3 (tq 38)),oq 40 (.oth (.slice 149 (tq 37) none (some (tq 39)) none)),oq 41 (.call false none (.func 97) [tq 40]),oq 42 (.buildS 23 1 [(0,tq 41)]),oq 43 (.app [tq 36,tq 42] [23,23]),oq 4 (.mv (tq 43))]) (some ([2,4,5,7,8,9,30,31],[2,3,8,9,13,41,43,900,901,902])):=rx
@[simp] theorem x36_10 (n:Nat) (st:XS):execA Tryz.prog ann kn (n + 1) 65 r36_10 st = toN (runR Tryz.prog (envA Tryz.prog ann kn n) (.drw [⟨[],[oq 44 (.fa 152 (tq 8) 0),oq 45 (.ldz 3 (tq 44)),oq 46 (.bin .add 3 (tq 45) (ci 1)),oq 47 (.fa 152 (tq 8) 1),oq 48 (.ldz 3 (tq 47)),oq 49 (.mv (tq 7)),oq 50 (.oth (.nilCheck (tq 49))),oq 51 (.fa 145 (tq 50) 0),oq 52 (.ldz 37 (tq 51)),oq 53 (.fa 152 (tq 8) 2),oq 54 (.ldz 149 (tq 53)),oq 55 (.fa 154 (tq 9) 1),oq 56 (.ldz 149 (tq 55)),oq 57 (.call false none (.func 98) [tq 52,tq 54,tq 56]),oq 58 (.bin .sub 3 (tq 48) (tq 57)),oq 59 (.fa 154 (tq 9) 1),oq 60 (.ldz 149 (tq 59)),oq 61 (.build 152 [(0,tq 46),(1,tq 58),(2,tq 60)])],[os (.sto 152 (tq 8) (tq 61))]⟩]) (trimO (some ([2,4,5,7,8,9,30,31],[2,3,8,9,13,41,43,900,901,902])) (ghO [41] st))) :=
 exec_regT (by kernel_rfl) (by kernel_rfl) (by kernel_rfl) (by kernel_rfl) (by kernel_rfl)
@[simp] theorem x36_11:RX 65 r36_11 (.str [oq 62 (.bin .add 3 (tq 31) (ci 1)),oq 31 (.mv (tq 62))]) (some ([2,4,5,7,8,30,31],[2,3,8,13,43,900,901,902])):=rx
@[simp] theorem x36_12:RX 65 r36_12 (.str [oq 63 (.mv (tq 4)),oq 64 (.mv (tq 5)),oq 4 (.mv (tq 63)),oq 5 (.mv (tq 64)),oq 6 (.mv (ci 0))]) (some ([4,5],[43])):=rx
@[simp] theorem l36_7:ann 65 (fstR lb36_7) = some ([2,4,5,7,8,30,31],[2,3,8,13,43,900,901,902]):=by kernel_rfl
def r93_0:=rg Tryz.f93 2
def r93_1:=rg Tryz.f93 5
def c93:Code:=(.seq r93_0 (.seq r93_1 .ret))
theorem b93:Tryz.f93.body = some c93:=by kernel_rfl
@[simp] theorem x93_0:RX 4 r93_0 (.str [oq 1 (.mv (cb false))]) (some ([0],[])):=rx
@[simp] theorem x93_1:RX 4 r93_1 (.str [oq 2 (.ld 3 (tq 0)),oq 3 (.call false none (.func 94) [tq 2,ci 0,ci 99]),oq 1 (.mv (tq 3))]) (some ([0],[])):=rx
def r97_0:=rg Tryz.f97 2
def r97_1:=rg Tryz.f97 9
def r97_2:=rg Tryz.f97 37
def r97_3:=rg Tryz.f97 11
def c97:Code:=(.seq r97_0 (.seq (.seq r97_1 (.cond (.tmp 4) (.seq r97_2 .ret) .skip)) (.seq r97_3 .ret)))
theorem b97:Tryz.f97.body = some c97:=by kernel_rfl
@[simp] theorem x97_0:RX 8 r97_0 (.str [oq 2 (.mv (.const (.slice none 0 0)))]) (some ([0],[])):=rx
@[simp] theorem x97_1:RX 8 r97_1 (.str [oq 3 (.mv (tq 0)),oq 4 (.bin .eql 22 (tq 3) (.const (.slice none 0 0)))]) (some ([0],[])):=rx
@[simp] theorem x97_3:RX 8 r97_3 (.str [oq 5 (.buildS 22 0 []),oq 6 (.mv (tq 0)),oq 7 (.app [tq 5,tq 6] [22,22]),oq 2 (.mv (tq 7))]) (some ([0],[])):=rx
def r52_0:=rg Tryz.f52 2
def r52_1:=rg Tryz.f52 9
def r52_2:=rg Tryz.f52 37
def r52_3:=rg Tryz.f52 11
def c52:Code:=(.seq r52_0 (.seq (.seq r52_1 (.cond (.tmp 8) (.seq r52_2 .ret) .skip)) (.seq r52_3 .ret)))
theorem b52:Tryz.f52.body = some c52:=by kernel_rfl
@[simp] theorem x52_0:RX 12 r52_0 (.str [oq 2 (.mv (ci 0))]) (some ([0],[])):=rx
@[simp] theorem x52_1:RX 12 r52_1 (.str [oq 3 (.mv (tq 0)),oq 4 (.bin .eql 3 (tq 3) (ci 1)),oq 5 (.mv (tq 4)),og 5 false 6 (.mv (tq 0)),og 5 false 7 (.bin .eql 3 (tq 6) (ci 3)),oq 8 (.pick (tq 5) (cb true) (tq 7))]) (some ([0],[])):=rx
@[simp] theorem x52_2:RX 12 r52_2 (.str [oq 9 (.mv (tq 0)),oq 10 (.bin .sub 3 (ci 4) (tq 9)),oq 2 (.mv (tq 10))]) (some ([0],[])):=rx
@[simp] theorem x52_3:RX 12 r52_3 (.str [oq 11 (.mv (tq 0)),oq 2 (.mv (tq 11))]) (some ([0],[])):=rx
def r50_0:=rg Tryz.f50 2
def r50_1:=rg Tryz.f50 5
def r50_2:=rg Tryz.f50 19
def r50_3:=rg Tryz.f50 267
def r50_5:=rg Tryz.f50 587
def r50_4:=rg Tryz.f50 459
def r50_6:=rg Tryz.f50 23
def lb50_3:Code:=(.seq (.seq r50_3 (.cond (.tmp 8) .skip (.exit 0))) (.seq (.block 1 r50_5) r50_4))
@[simp] theorem u50_3 (n:Nat) (st:XS):execA Tryz.prog ann kn n 20 lb50_3 st = execA Tryz.prog ann kn n 20 (.seq (.seq r50_3 (.cond (.tmp 8) .skip (.exit 0))) (.seq (.block 1 r50_5) r50_4)) st:=rfl
def c50:Code:=(.seq r50_0 (.seq r50_1 (.seq (.seq r50_2 (.block 0 (.loop lb50_3))) (.seq r50_6 .ret))))
theorem b50:Tryz.f50.body = some c50:=by kernel_rfl
@[simp] theorem x50_0:RX 20 r50_0 (.str [oq 2 (.mv (.const (.slice none 0 0)))]) (some ([0],[])):=rx
@[simp] theorem x50_1:RX 20 r50_1 (.str [oq 3 (.mv (.const (.slice none 0 0)))]) (some ([0],[])):=rx
@[simp] theorem x50_2:RX 20 r50_2 (.str [oq 4 (.mv (ci 0))]) (some ([0,3],[18])):=rx
@[simp] theorem x50_3:RX 20 r50_3 (.str [oq 5 (.mv (tq 4)),oq 6 (.mv (tq 0)),oq 7 (.oth (.call ⟨.builtin .len,#[tq 6],#[22]⟩)),oq 8 (.bin .lss 3 (tq 5) (tq 7))]) (some ([0,3,4],[18])):=rx
@[simp] theorem x50_5:RX 20 r50_5 (.str [oq 11 (.mv (tq 3)),oq 12 (.mv (tq 0)),oq 13 (.mv (tq 4)),oq 14 (.oth (.indexAddr 22 (tq 12) (tq 13))),oq 15 (.ld 3 (tq 14)),oq 16 (.call false none (.func 52) [tq 15]),oq 17 (.buildS 22 1 [(0,tq 16)]),oq 18 (.app [tq 11,tq 17] [22,22]),oq 3 (.mv (tq 18))]) (some ([0,3,4],[18])):=rx
@[simp] theorem x50_4:RX 20 r50_4 (.str [oq 9 (.mv (tq 4)),oq 10 (.bin .add 3 (tq 9) (ci 1)),oq 4 (.mv (tq 10))]) (some ([0,3,4],[18])):=rx
@[simp] theorem x50_6:RX 20 r50_6 (.str [oq 19 (.mv (tq 3)),oq 2 (.mv (tq 19))]) (some ([3],[18])):=rx
@[simp] theorem l50_3:ann 20 (fstR lb50_3) = some ([0,3,4],[18]):=by kernel_rfl
def r9_0:=rg Tryz.f9 2
def r9_1:=rg Tryz.f9 9
def r9_2:=rg Tryz.f9 37
def r9_3:=rg Tryz.f9 11
def r9_4:=rg Tryz.f9 23
def r9_5:=rg Tryz.f9 79
def r9_6:=rg Tryz.f9 1071
def r9_8:=rg Tryz.f9 4399
def r9_9:=rg Tryz.f9 18735
def r9_10:=rg Tryz.f9 272687
def r9_12:=rg Tryz.f9 1124655
def r9_13:=rg Tryz.f9 2697519
def r9_11:=rg Tryz.f9 469295
def r9_14:=rg Tryz.f9 14639
def r9_7:=rg Tryz.f9 1839
def r9_15:=rg Tryz.f9 159
def r9_16:=rg Tryz.f9 2143
def r9_18:=rg Tryz.f9 4703
def r9_17:=rg Tryz.f9 3679
def r9_19:=rg Tryz.f9 319
def r9_20:=rg Tryz.f9 4287
def r9_22:=rg Tryz.f9 9407
def r9_21:=rg Tryz.f9 7359
def r9_23:=rg Tryz.f9 383
def r9_24:=rg Tryz.f9 767
def r9_25:=rg Tryz.f9 1535
def r9_26:=rg Tryz.f9 5119
def r9_27:=rg Tryz.f9 68607
def r9_29:=rg Tryz.f9 150527
def r9_28:=rg Tryz.f9 117759
def r9_30:=rg Tryz.f9 6143
def r9_31:=rg Tryz.f9 12287
def r9_32:=rg Tryz.f9 24575
def r9_33:=rg Tryz.f9 49151
def r9_34:=rg Tryz.f9 163839
def r9_35:=rg Tryz.f9 622591
def r9_36:=rg Tryz.f9 327679
def r9_37:=rg Tryz.f9 4390911
def r9_39:=rg Tryz.f9 18022399
def r9_40:=rg Tryz.f9 278069247
def r9_42:=rg Tryz.f9 1150484479
def r9_43:=rg Tryz.f9 4908580863
def r9_41:=rg Tryz.f9 479395839
def r9_38:=rg Tryz.f9 7536639
def r9_44:=rg Tryz.f9 393215
def lb9_10:Code:=(.seq (.seq r9_10 (.cond (.tmp 54) .skip (.exit 2))) (.seq (.block 3 (.seq r9_12 (.cond (.tmp 64) r9_13 .skip))) r9_11))
@[simp] theorem u9_10 (n:Nat) (st:XS):execA Tryz.prog ann kn n 254 lb9_10 st = execA Tryz.prog ann kn n 254 (.seq (.seq r9_10 (.cond (.tmp 54) .skip (.exit 2))) (.seq (.block 3 (.seq r9_12 (.cond (.tmp 64) r9_13 .skip))) r9_11)) st:=rfl
def lb9_6:Code:=(.seq (.seq r9_6 (.cond (.tmp 50) .skip (.exit 0))) (.seq (.block 1 (.seq r9_8 (.seq (.seq r9_9 (.block 2 (.loop lb9_10))) r9_14))) r9_7))
@[simp] theorem u9_6 (n:Nat) (st:XS):execA Tryz.prog ann kn n 254 lb9_6 st = execA Tryz.prog ann kn n 254 (.seq (.seq r9_6 (.cond (.tmp 50) .skip (.exit 0))) (.seq (.block 1 (.seq r9_8 (.seq (.seq r9_9 (.block 2 (.loop lb9_10))) r9_14))) r9_7)) st:=rfl
def lb9_16:Code:=(.seq (.seq r9_16 (.cond (.tmp 79) .skip (.exit 4))) (.seq (.block 5 r9_18) r9_17))
@[simp] theorem u9_16 (n:Nat) (st:XS):execA Tryz.prog ann kn n 254 lb9_16 st = execA Tryz.prog ann kn n 254 (.seq (.seq r9_16 (.cond (.tmp 79) .skip (.exit 4))) (.seq (.block 5 r9_18) r9_17)) st:=rfl
def lb9_20:Code:=(.seq (.seq r9_20 (.cond (.tmp 108) .skip (.exit 6))) (.seq (.block 7 r9_22) r9_21))
@[simp] theorem u9_20 (n:Nat) (st:XS):execA Tryz.prog ann kn n 254 lb9_20 st = execA Tryz.prog ann kn n 254 (.seq (.seq r9_20 (.cond (.tmp 108) .skip (.exit 6))) (.seq (.block 7 r9_22) r9_21)) st:=rfl
def lb9_27:Code:=(.seq (.seq r9_27 (.cond (.tmp 143) .skip (.exit 8))) (.seq (.block 9 r9_29) r9_28))
@[simp] theorem u9_27 (n:Nat) (st:XS):execA Tryz.prog ann kn n 254 lb9_27 st = execA Tryz.prog ann kn n 254 (.seq (.seq r9_27 (.cond (.tmp 143) .skip (.exit 8))) (.seq (.block 9 r9_29) r9_28)) st:=rfl
def lb9_40:Code:=(.seq (.seq r9_40 (.cond (.tmp 231) .skip (.exit 12))) (.seq (.block 13 (.seq r9_42 (.cond (.tmp 252) (.seq r9_43 .ret) .skip))) r9_41))
@[simp] theorem u9_40 (n:Nat) (st:XS):execA Tryz.prog ann kn n 254 lb9_40 st = execA Tryz.prog ann kn n 254 (.seq (.seq r9_40 (.cond (.tmp 231) .skip (.exit 12))) (.seq (.block 13 (.seq r9_42 (.cond (.tmp 252) (.seq r9_43 .ret) .skip))) r9_41)) st:=rfl
def lb9_37:Code:=(.seq (.seq r9_37 (.cond (.tmp 225) .skip (.exit 10))) (.seq (.block 11 (.seq r9_39 (.block 12 (.loop lb9_40)))) r9_38))
@[simp] theorem u9_37 (n:Nat) (st:XS):execA Tryz.prog ann kn n 254 lb9_37 st = execA Tryz.prog ann kn n 254 (.seq (.seq r9_37 (.cond (.tmp 225) .skip (.exit 10))) (.seq (.block 11 (.seq r9_39 (.block 12 (.loop lb9_40)))) r9_38)) st:=rfl
def c9:Code:=(.seq r9_0 (.seq (.seq r9_1 (.cond (.tmp 33) (.seq r9_2 .ret) .skip)) (.seq r9_3 (.seq r9_4 (.seq (.seq r9_5 (.block 0 (.loop lb9_6))) (.seq (.seq r9_15 (.block 4 (.loop lb9_16))) (.seq (.seq r9_19 (.block 6 (.loop lb9_20))) (.seq r9_23 (.seq r9_24 (.seq r9_25 (.seq (.seq r9_26 (.block 8 (.loop lb9_27))) (.seq r9_30 (.seq r9_31 (.seq r9_32 (.seq r9_33 (.seq (.seq r9_34 (.cond (.tmp 221) (.seq r9_35 .ret) .skip)) (.seq (.seq r9_36 (.block 10 (.loop lb9_37))) (.seq r9_44 .ret))))))))))))))))))
theorem b9:Tryz.f9.body = some c9:=by kernel_rfl
@[simp] theorem x9_0:RX 254 r9_0 (.str [oq 4 (.box (tq 0)),oq 8 (.mv (cb false))]) (some ([0,1,2,3],[4,9,38,41,73,102,128,136,139,151,153,156,158,160,161,166,168,170,171,176,180,186,190])):=rx
@[simp] theorem x9_1:RX 254 r9_1 (.str [oq 31 (.ld 27 (tq 4)),oq 32 (.call false none (.func 45) [tq 31]),oq 33 (.oth (.unOp .not 4 (tq 32)))]) (some ([1,2,3,4],[4,9,38,41,73,102,128,136,139,151,153,156,158,160,161,166,168,170,171,176,180,186,190])):=rx
@[simp] theorem x9_2:RX 254 r9_2 (.str [oq 34 (.call false none (.func 15) []),oq 8 (.mv (tq 34))]) (some ([],[])):=rx
@[simp] theorem x9_3:RX 254 r9_3 (.str [oq 35 (.ld 27 (tq 4)),oq 9 (.alloc 27),os (.sto 27 (tq 9) (tq 35))]) (some ([1,2,3,4],[4,9,38,41,73,102,128,136,139,151,153,156,158,160,161,166,168,170,171,176,180,186,190])):=rx
@[simp] theorem x9_4:RX 254 r9_4 (.drw [⟨[38,41],[oq 36 (.fa 27 (tq 4) 4),oq 37 (.ldz 22 (tq 36)),oq 39 (.fa 27 (tq 4) 5),oq 40 (.ld 22 (tq 39)),oq 38 (.call true none (.func 50) [tq 37]),oq 42 (.fa 27 (tq 9) 4),oq 41 (.call true none (.func 50) [tq 40]),os (.sto 22 (tq 42) (tq 38)),oq 43 (.fa 27 (tq 9) 5),os (.sto 22 (tq 43) (tq 41)),oq 44 (.fa 27 (tq 9) 6),os (.sto 23 (tq 44) (.const (.slice none 0 0))),oq 45 (.fa 27 (tq 9) 7),os (.sto 24 (tq 45) (.const (.slice none 0 0))),oq 46 (.fa 27 (tq 9) 8)],[os (.sto 25 (tq 46) (.const (.slice none 0 0)))]⟩]) (some ([1,2,3,4,9],[4,9,73,102,128,136,139,151,153,156,158,160,161,166,168,170,171,176,180,186,190])):=rx
@[simp] theorem x9_5:RX 254 r9_5 (.str [oq 10 (.mv (ci 0))]) (some ([1,2,3,4,9],[4,9,38,41,73,102,128,136,139,151,153,156,158,160,161,166,168,170,171,176,180,186,190])):=rx
@[simp] theorem x9_6:RX 254 r9_6 (.str [oq 47 (.mv (tq 10)),oq 48 (.fa 27 (tq 4) 0),oq 49 (.ld 3 (tq 48)),oq 50 (.bin .leq 3 (tq 47) (tq 49))]) (some ([1,2,3,4,9,10],[4,9,38,41,73,102,128,136,139,151,153,156,158,160,161,166,168,170,171,176,180,186,190])):=rx
@[simp] theorem x9_8:RX 254 r9_8 (.str [oq 11 (.mv (.const (.slice none 0 0)))]) (some ([1,2,3,4,9,10],[4,9,38,41,73,102,128,136,139,151,153,156,158,160,161,166,168,170,171,176,180,186,190])):=rx
@[simp] theorem x9_9:RX 254 r9_9 (.str [oq 12 (.mv (ci 0))]) (some ([1,2,3,4,9,10,11],[4,9,38,41,68,73,102,128,136,139,151,153,156,158,160,161,166,168,170,171,176,180,186,190])):=rx
@[simp] theorem x9_10:RX 254 r9_10 (.str [oq 53 (.mv (tq 12)),oq 54 (.bin .lss 3 (tq 53) (ci 4))]) (some ([1,2,3,4,9,10,11,12],[4,9,38,41,68,73,102,128,136,139,151,153,156,158,160,161,166,168,170,171,176,180,186,190])):=rx
@[simp] theorem x9_12:RX 254 r9_12 (.drw [⟨[],[oq 57 (.fa 27 (tq 4) 6),oq 58 (.ld 23 (tq 57)),oq 59 (.mv (tq 10)),oq 60 (.oth (.indexAddr 23 (tq 58) (tq 59))),oq 61 (.ld 22 (tq 60)),oq 62 (.mv (tq 12)),oq 63 (.call false none (.func 52) [tq 62])],[oq 64 (.call false none (.func 51) [tq 61,tq 63])]⟩,⟨[],[],[]⟩]) (some ([1,2,3,4,9,10,11,12],[4,9,38,41,68,73,102,128,136,139,151,153,156,158,160,161,166,168,170,171,176,180,186,190])):=rx
@[simp] theorem x9_13:RX 254 r9_13 (.str [oq 65 (.mv (tq 11)),oq 66 (.mv (tq 12)),oq 67 (.buildS 22 1 [(0,tq 66)]),oq 68 (.app [tq 65,tq 67] [22,22]),oq 11 (.mv (tq 68))]) (some ([1,2,3,4,9,10,11,12],[4,9,38,41,68,73,102,128,136,139,151,153,156,158,160,161,166,168,170,171,176,180,186,190])):=rx
@[simp] theorem x9_11:RX 254 r9_11 (.str [oq 55 (.mv (tq 12)),oq 56 (.bin .add 3 (tq 55) (ci 1)),oq 12 (.mv (tq 56))]) (some ([1,2,3,4,9,10,11,12],[4,9,38,41,68,73,102,128,136,139,151,153,156,158,160,161,166,168,170,171,176,180,186,190])):=rx
@[simp] theorem x9_14 (n:Nat) (st:XS):execA Tryz.prog ann kn (n + 1) 254 r9_14 st = toN (runR Tryz.prog (envA Tryz.prog ann kn n) (.str [oq 69 (.fa 27 (tq 9) 6),oq 70 (.ld 23 (tq 69)),oq 71 (.mv (tq 11)),oq 72 (.buildS 23 1 [(0,tq 71)]),oq 73 (.app [tq 70,tq 72] [23,23]),oq 74 (.fa 27 (tq 9) 6),os (.sto 23 (tq 74) (tq 73))]) (trimO (some ([1,2,3,4,9,10,11],[4,9,38,41,68,73,102,128,136,139,151,153,156,158,160,161,166,168,170,171,176,180,186,190])) (ghO [68] st))) :=
 exec_regT (by kernel_rfl) (by kernel_rfl) (by kernel_rfl) (by kernel_rfl) (by kernel_rfl)
@[simp] theorem x9_7:RX 254 r9_7 (.str [oq 51 (.mv (tq 10)),oq 52 (.bin .add 3 (tq 51) (ci 1)),oq 10 (.mv (tq 52))]) (some ([1,2,3,4,9,10],[4,9,38,41,73,102,128,136,139,151,153,156,158,160,161,166,168,170,171,176,180,186,190])):=rx
@[simp] theorem x9_15:RX 254 r9_15 (.str [oq 13 (.mv (ci 0))]) (some ([1,2,3,4,9],[4,9,38,41,73,102,128,136,139,151,153,156,158,160,161,166,168,170,171,176,180,186,190])):=rx
@[simp] theorem x9_16:RX 254 r9_16 (.str [oq 75 (.mv (tq 13)),oq 76 (.fa 27 (tq 4) 7),oq 77 (.ld 24 (tq 76)),oq 78 (.oth (.call ⟨.builtin .len,#[tq 77],#[24]⟩)),oq 79 (.bin .lss 3 (tq 75) (tq 78))]) (some ([1,2,3,4,9,13],[4,9,38,41,73,102,128,136,139,151,153,156,158,160,161,166,168,170,171,176,180,186,190])):=rx
@[simp] theorem x9_18:RX 254 r9_18 (.drw [⟨[],[oq 82 (.fa 27 (tq 9) 7),oq 83 (.ldz 24 (tq 82)),oq 84 (.fa 27 (tq 4) 7),oq 85 (.ld 24 (tq 84)),oq 86 (.mv (tq 13)),oq 87 (.oth (.indexAddr 24 (tq 85) (tq 86))),oq 88 (.fa 50 (tq 87) 0),oq 89 (.ld 3 (tq 88)),oq 90 (.fa 27 (tq 4) 2),oq 91 (.ld 3 (tq 90)),oq 92 (.bin .sub 3 (tq 91) (ci 1)),oq 93 (.fa 27 (tq 4) 7),oq 94 (.ld 24 (tq 93)),oq 95 (.mv (tq 13)),oq 96 (.oth (.indexAddr 24 (tq 94) (tq 95))),oq 97 (.fa 50 (tq 96) 1),oq 98 (.ld 3 (tq 97)),oq 99 (.bin .sub 3 (tq 92) (tq 98)),oq 100 (.build 50 [(0,tq 89),(1,tq 99)]),oq 101 (.buildS 24 1 [(0,tq 100)]),oq 102 (.app [tq 83,tq 101] [24,24]),oq 103 (.fa 27 (tq 9) 7)],[os (.sto 24 (tq 103) (tq 102))]⟩]) (some ([1,2,3,4,9,13],[4,9,38,41,73,102,128,136,139,151,153,156,158,160,161,166,168,170,171,176,180,186,190])):=rx
@[simp] theorem x9_17:RX 254 r9_17 (.str [oq 80 (.mv (tq 13)),oq 81 (.bin .add 3 (tq 80) (ci 1)),oq 13 (.mv (tq 81))]) (some ([1,2,3,4,9,13],[4,9,38,41,73,102,128,136,139,151,153,156,158,160,161,166,168,170,171,176,180,186,190])):=rx
@[simp] theorem x9_19:RX 254 r9_19 (.str [oq 14 (.mv (ci 0))]) (some ([1,2,3,4,9],[4,9,38,41,73,102,128,136,139,151,153,156,158,160,161,166,168,170,171,176,180,186,190])):=rx
@[simp] theorem x9_20:RX 254 r9_20 (.str [oq 104 (.mv (tq 14)),oq 105 (.fa 27 (tq 4) 8),oq 106 (.ld 25 (tq 105)),oq 107 (.oth (.call ⟨.builtin .len,#[tq 106],#[25]⟩)),oq 108 (.bin .lss 3 (tq 104) (tq 107))]) (some ([1,2,3,4,9,14],[4,9,38,41,73,102,128,136,139,151,153,156,158,160,161,166,168,170,171,176,180,186,190])):=rx
@[simp] theorem x9_22:RX 254 r9_22 (.drw [⟨[],[oq 111 (.fa 27 (tq 9) 8),oq 112 (.ldz 25 (tq 111)),oq 113 (.fa 27 (tq 4) 8),oq 114 (.ld 25 (tq 113)),oq 115 (.mv (tq 14)),oq 116 (.oth (.indexAddr 25 (tq 114) (tq 115))),oq 117 (.fa 101 (tq 116) 0),oq 118 (.ld 3 (tq 117)),oq 119 (.fa 27 (tq 4) 8),oq 120 (.ld 25 (tq 119)),oq 121 (.mv (tq 14)),oq 122 (.oth (.indexAddr 25 (tq 120) (tq 121))),oq 123 (.fa 101 (tq 122) 1),oq 124 (.ld 3 (tq 123)),oq 125 (.call false none (.func 52) [tq 124]),oq 126 (.build 101 [(0,tq 118),(1,tq 125)]),oq 127 (.buildS 25 1 [(0,tq 126)]),oq 128 (.app [tq 112,tq 127] [25,25]),oq 129 (.fa 27 (tq 9) 8)],[os (.sto 25 (tq 129) (tq 128))]⟩]) (some ([1,2,3,4,9,14],[4,9,38,41,73,102,128,136,139,151,153,156,158,160,161,166,168,170,171,176,180,186,190])):=rx
@[simp] theorem x9_21:RX 254 r9_21 (.str [oq 109 (.mv (tq 14)),oq 110 (.bin .add 3 (tq 109) (ci 1)),oq 14 (.mv (tq 110))]) (some ([1,2,3,4,9,14],[4,9,38,41,73,102,128,136,139,151,153,156,158,160,161,166,168,170,171,176,180,186,190])):=rx
@[simp] theorem x9_23 (n:Nat) (st:XS):execA Tryz.prog ann kn (n + 1) 254 r9_23 st = toN (runR Tryz.prog (envA Tryz.prog ann kn n) (.drw [⟨[],[oq 130 (.ld 27 (tq 4)),oq 131 (.mv (tq 1)),oq 132 (.oth (.convert 95 3 (tq 131))),oq 133 (.ld 27 (tq 4)),oq 134 (.call false none (.func 35) [tq 133]),oq 135 (.bin .rem 3 (tq 132) (tq 134))],[oq 136 (.call false none (.func 53) [tq 130,tq 135])]⟩,⟨[],[oq 15 (.mv (tq 136))],[]⟩]) (trimO (some ([1,2,3,4,9],[4,9,38,41,73,102,128,139,151,153,156,158,160,161,166,168,170,171,176,180,186,190])) (ghO [38,41,73,102,128] st))) :=
 exec_regT (by kernel_rfl) (by kernel_rfl) (by kernel_rfl) (by kernel_rfl) (by kernel_rfl)
@[simp] theorem x9_24:RX 254 r9_24 (.str [oq 137 (.ld 27 (tq 4)),oq 138 (.mv (tq 2)),oq 139 (.call false none (.func 46) [tq 137,tq 138]),oq 16 (.mv (tq 139))]) (some ([2,3,4,9,15],[4,9,38,41,73,102,128,136,139,151,153,156,158,160,161,166,168,170,171,176,180,186,190])):=rx
@[simp] theorem x9_25:RX 254 r9_25 (.str [oq 17 (.mv (.const (.slice none 0 0)))]) (some ([3,4,9,15,16],[4,9,38,41,73,102,128,136,139,151,153,156,158,160,161,166,168,170,171,176,180,186,190])):=rx
@[simp] theorem x9_26:RX 254 r9_26 (.str [oq 18 (.mv (ci 0))]) (some ([3,4,9,15,16,17],[4,9,38,41,73,102,128,136,139,151,153,156,158,160,161,166,168,170,171,176,180,186,190])):=rx
@[simp] theorem x9_27:RX 254 r9_27 (.str [oq 140 (.mv (tq 18)),oq 141 (.mv (tq 16)),oq 142 (.oth (.call ⟨.builtin .len,#[tq 141],#[23]⟩)),oq 143 (.bin .lss 3 (tq 140) (tq 142))]) (some ([3,4,9,15,16,17,18],[4,9,38,41,73,102,128,136,139,151,153,156,158,160,161,166,168,170,171,176,180,186,190])):=rx
@[simp] theorem x9_29:RX 254 r9_29 (.str [oq 146 (.mv (tq 17)),oq 147 (.mv (tq 16)),oq 148 (.mv (tq 18)),oq 149 (.oth (.indexAddr 23 (tq 147) (tq 148))),oq 150 (.ld 22 (tq 149)),oq 151 (.call false none (.func 50) [tq 150]),oq 152 (.buildS 23 1 [(0,tq 151)]),oq 153 (.app [tq 146,tq 152] [23,23]),oq 17 (.mv (tq 153))]) (some ([3,4,9,15,16,17,18],[4,9,38,41,73,102,128,136,139,151,153,156,158,160,161,166,168,170,171,176,180,186,190])):=rx
@[simp] theorem x9_28:RX 254 r9_28 (.str [oq 144 (.mv (tq 18)),oq 145 (.bin .add 3 (tq 144) (ci 1)),oq 18 (.mv (tq 145))]) (some ([3,4,9,15,16,17,18],[4,9,38,41,73,102,128,136,139,151,153,156,158,160,161,166,168,170,171,176,180,186,190])):=rx
@[simp] theorem x9_30 (n:Nat) (st:XS):execA Tryz.prog ann kn (n + 1) 254 r9_30 st = toN (runR Tryz.prog (envA Tryz.prog ann kn n) (.str [oq 155 (.ld 27 (tq 4)),oq 156 (.call false none (.func 17) [tq 155]),oq 157 (.mv (tq 16)),oq 158 (.call false none (.func 18) [tq 157]),oq 159 (.mv (tq 15)),oq 160 (.call false none (.func 55) [tq 159]),oq 161 (.call false none (.func 54) [tq 156,tq 158,tq 160]),oq 154 (.mv (tq 161)),oq 162 (.oth (.extract (tq 154) 0)),oq 163 (.oth (.extract (tq 154) 1)),oq 19 (.mv (tq 162)),oq 20 (.mv (tq 163))]) (trimO (some ([3,4,9,15,16,17],[4,9,38,41,73,102,128,136,139,151,153,156,158,160,161,166,168,170,171,176,180,186,190])) (ghO [153] st))) :=
 exec_regT (by kernel_rfl) (by kernel_rfl) (by kernel_rfl) (by kernel_rfl) (by kernel_rfl)
@[simp] theorem x9_31:RX 254 r9_31 (.str [oq 165 (.ld 27 (tq 9)),oq 166 (.call false none (.func 17) [tq 165]),oq 167 (.mv (tq 17)),oq 168 (.call false none (.func 18) [tq 167]),oq 169 (.mv (tq 15)),oq 170 (.call false none (.func 50) [tq 169]),oq 171 (.call false none (.func 54) [tq 166,tq 168,tq 170]),oq 164 (.mv (tq 171)),oq 172 (.oth (.extract (tq 164) 0)),oq 173 (.oth (.extract (tq 164) 1)),oq 21 (.mv (tq 172)),oq 22 (.mv (tq 173))]) (some ([3,4,9,15,17,19,20],[4,9,38,41,73,102,128,136,139,151,153,156,158,160,161,166,168,170,171,176,180,186,190])):=rx
@[simp] theorem x9_32:RX 254 r9_32 (.str [oq 175 (.ld 27 (tq 4)),oq 176 (.call false none (.func 17) [tq 175]),oq 177 (.mv (tq 3)),oq 178 (.oth (.convert 5 3 (tq 177))),oq 179 (.bin .rem 3 (tq 178) (ci 99)),oq 180 (.call false none (.func 36) [tq 176,tq 179]),oq 174 (.mv (tq 180)),oq 181 (.oth (.extract (tq 174) 0)),oq 182 (.oth (.extract (tq 174) 1)),oq 183 (.oth (.extract (tq 174) 2)),oq 23 (.mv (tq 181)),oq 24 (.mv (tq 182)),oq 25 (.mv (tq 183))]) (some ([3,4,9,19,20,21,22],[4,9,38,41,73,102,128,136,139,151,153,156,158,160,161,166,168,170,171,176,180,186,190])):=rx
@[simp] theorem x9_33:RX 254 r9_33 (.str [oq 185 (.ld 27 (tq 9)),oq 186 (.call false none (.func 17) [tq 185]),oq 187 (.mv (tq 3)),oq 188 (.oth (.convert 5 3 (tq 187))),oq 189 (.bin .rem 3 (tq 188) (ci 99)),oq 190 (.call false none (.func 36) [tq 186,tq 189]),oq 184 (.mv (tq 190)),oq 191 (.oth (.extract (tq 184) 0)),oq 192 (.oth (.extract (tq 184) 1)),oq 193 (.oth (.extract (tq 184) 2)),oq 26 (.mv (tq 191)),oq 27 (.mv (tq 192)),oq 28 (.mv (tq 193))]) (some ([3,4,9,19,20,21,22,24,25],[4,9,38,41,73,102,128,136,139,151,153,156,158,160,161,166,168,170,171,176,180,186,190])):=rx
@[simp] theorem x9_34:RX 254 r9_34 (.str [oq 194 (.mv (tq 20)),oq 195 (.bin .neq 31 (tq 194) (ci 0)),oq 196 (.mv (tq 195)),og 196 false 197 (.mv (tq 22)),og 196 false 198 (.bin .neq 31 (tq 197) (ci 0)),oq 199 (.pick (tq 196) (cb true) (tq 198)),oq 200 (.mv (tq 199)),og 200 false 201 (.mv (tq 25)),og 200 false 202 (.mv (tq 28)),og 200 false 203 (.bin .neq 31 (tq 201) (tq 202)),oq 204 (.pick (tq 200) (cb true) (tq 203)),oq 205 (.mv (tq 204)),og 205 false 206 (.mv (tq 24)),og 205 false 207 (.mv (tq 27)),og 205 false 208 (.bin .neq 3 (tq 206) (tq 207)),oq 209 (.pick (tq 205) (cb true) (tq 208)),oq 210 (.mv (tq 209)),og 210 false 211 (.ld 27 (tq 4)),og 210 false 212 (.mv (tq 19)),og 210 false 213 (.call false none (.func 56) [tq 211,tq 212]),og 210 false 214 (.oth (.unOp .not 4 (tq 213))),oq 215 (.pick (tq 210) (cb true) (tq 214)),oq 216 (.mv (tq 215)),og 216 false 217 (.ld 27 (tq 4)),og 216 false 218 (.mv (tq 21)),og 216 false 219 (.call false none (.func 56) [tq 217,tq 218]),og 216 false 220 (.oth (.unOp .not 4 (tq 219))),oq 221 (.pick (tq 216) (cb true) (tq 220))]) (some ([4,19,20,21,22,24,25,27,28],[4,9,38,41,73,102,128,136,139,151,153,156,158,160,161,166,168,170,171,176,180,186,190])):=rx
@[simp] theorem x9_36:RX 254 r9_36 (.str [oq 29 (.mv (ci 0))]) (some ([4,19,21],[4,9,38,41,73,102,128,136,139,151,153,156,158,160,161,166,168,170,171,176,180,186,190])):=rx
@[simp] theorem x9_37:RX 254 r9_37 (.str [oq 222 (.mv (tq 29)),oq 223 (.fa 27 (tq 4) 1),oq 224 (.ld 3 (tq 223)),oq 225 (.bin .lss 3 (tq 222) (tq 224))]) (some ([4,19,21,29],[4,9,38,41,73,102,128,136,139,151,153,156,158,160,161,166,168,170,171,176,180,186,190])):=rx
@[simp] theorem x9_39:RX 254 r9_39 (.str [oq 30 (.mv (ci 0))]) (some ([4,19,21,29],[4,9,38,41,73,102,128,136,139,151,153,156,158,160,161,166,168,170,171,176,180,186,190])):=rx
@[simp] theorem x9_40:RX 254 r9_40 (.str [oq 228 (.mv (tq 30)),oq 229 (.fa 27 (tq 4) 2),oq 230 (.ld 3 (tq 229)),oq 231 (.bin .lss 3 (tq 228) (tq 230))]) (some ([4,19,21,29,30],[4,9,38,41,73,102,128,136,139,151,153,156,158,160,161,166,168,170,171,176,180,186,190])):=rx
@[simp] theorem x9_42:RX 254 r9_42 (.drw [⟨[],[oq 234 (.mv (tq 19)),oq 235 (.mv (tq 29)),oq 236 (.oth (.indexAddr 103 (tq 234) (tq 235))),oq 237 (.ld 108 (tq 236)),oq 238 (.mv (tq 30)),oq 239 (.oth (.indexAddr 108 (tq 237) (tq 238))),oq 240 (.ld 107 (tq 239)),oq 241 (.mv (tq 21)),oq 242 (.mv (tq 29)),oq 243 (.oth (.indexAddr 103 (tq 241) (tq 242))),oq 244 (.ld 108 (tq 243)),oq 245 (.fa 27 (tq 4) 2),oq 246 (.ld 3 (tq 245)),oq 247 (.bin .sub 3 (tq 246) (ci 1)),oq 248 (.mv (tq 30)),oq 249 (.bin .sub 3 (tq 247) (tq 248)),oq 250 (.oth (.indexAddr 108 (tq 244) (tq 249))),oq 251 (.ld 107 (tq 250)),oq 252 (.bin .neq 107 (tq 240) (tq 251))],[]⟩]) (some ([4,19,21,29,30],[4,9,38,41,73,102,128,136,139,151,153,156,158,160,161,166,168,170,171,176,180,186,190])):=rx
@[simp] theorem x9_41:RX 254 r9_41 (.str [oq 232 (.mv (tq 30)),oq 233 (.bin .add 3 (tq 232) (ci 1)),oq 30 (.mv (tq 233))]) (some ([4,19,21,29,30],[4,9,38,41,73,102,128,136,139,151,153,156,158,160,161,166,168,170,171,176,180,186,190])):=rx
@[simp] theorem x9_38:RX 254 r9_38 (.str [oq 226 (.mv (tq 29)),oq 227 (.bin .add 3 (tq 226) (ci 1)),oq 29 (.mv (tq 227))]) (some ([4,19,21,29],[4,9,38,41,73,102,128,136,139,151,153,156,158,160,161,166,168,170,171,176,180,186,190])):=rx
@[simp] theorem x9_44:RX 254 r9_44 (.str [oq 253 (.call false none (.func 15) []),oq 8 (.mv (tq 253))]) (some ([],[])):=rx
@[simp] theorem l9_6:ann 254 (fstR lb9_6) = some ([1,2,3,4,9,10],[4,9,38,41,73,102,128,136,139,151,153,156,158,160,161,166,168,170,171,176,180,186,190]):=by kernel_rfl
@[simp] theorem l9_10:ann 254 (fstR lb9_10) = some ([1,2,3,4,9,10,11,12],[4,9,38,41,68,73,102,128,136,139,151,153,156,158,160,161,166,168,170,171,176,180,186,190]):=by kernel_rfl
@[simp] theorem l9_16:ann 254 (fstR lb9_16) = some ([1,2,3,4,9,13],[4,9,38,41,73,102,128,136,139,151,153,156,158,160,161,166,168,170,171,176,180,186,190]):=by kernel_rfl
@[simp] theorem l9_20:ann 254 (fstR lb9_20) = some ([1,2,3,4,9,14],[4,9,38,41,73,102,128,136,139,151,153,156,158,160,161,166,168,170,171,176,180,186,190]):=by kernel_rfl
@[simp] theorem l9_27:ann 254 (fstR lb9_27) = some ([3,4,9,15,16,17,18],[4,9,38,41,73,102,128,136,139,151,153,156,158,160,161,166,168,170,171,176,180,186,190]):=by kernel_rfl
@[simp] theorem l9_37:ann 254 (fstR lb9_37) = some ([4,19,21,29],[4,9,38,41,73,102,128,136,139,151,153,156,158,160,161,166,168,170,171,176,180,186,190]):=by kernel_rfl
@[simp] theorem l9_40:ann 254 (fstR lb9_40) = some ([4,19,21,29,30],[4,9,38,41,73,102,128,136,139,151,153,156,158,160,161,166,168,170,171,176,180,186,190]):=by kernel_rfl
end
end Go.Proofs.Tryz.Op
