/- The walk's ground of function 29: its regions worked out. No condition. -/
import Derived.Test.YtkemmiljbaneoaaGa
set_option maxRecDepth 100000
namespace Go.Proofs.Try.Op
open Go Go.Pg
noncomputable section
def r29_0:=rg Try.f29 2
def r29_1:=rg Try.f29 5
def c29:Code:=(.seq r29_0 (.seq r29_1 .ret))
theorem b29:Try.f29.body = some c29:=by kernel_rfl
@[simp] theorem x29_0:RX 15 r29_0 (.str [oq 6 (.mv (cb false))]) (some ([0,1,2],[])):=rx
@[simp] theorem x29_1:RX 15 r29_1 (.str [oq 7 (.mv (tq 0)),oq 8 (.mv (tq 1)),oq 9 (.bin .geq 3 (tq 7) (tq 8)),oq 10 (.mv (tq 9)),og 10 true 11 (.mv (tq 0)),og 10 true 12 (.mv (tq 2)),og 10 true 13 (.bin .leq 3 (tq 11) (tq 12)),oq 14 (.pick (tq 10) (tq 13) (cb false)),oq 6 (.mv (tq 14))]) (some ([0,1,2],[])):=rx
def r100_0:=rg Try.f100 2
def r100_1:=rg Try.f100 9
def r100_2:=rg Try.f100 133
def r100_4:=rg Try.f100 549
def r100_5:=rg Try.f100 2341
def r100_3:=rg Try.f100 229
def r100_6:=rg Try.f100 11
def lb100_2:Code:=(.seq (.seq r100_2 (.cond (.tmp 9) .skip (.exit 0))) (.seq (.block 1 (.seq r100_4 (.cond (.tmp 18) (.seq r100_5 .ret) .skip))) r100_3))
@[simp] theorem u100_2 (n:Nat) (st:XS):execA Try.prog ann kn n 19 lb100_2 st = execA Try.prog ann kn n 19 (.seq (.seq r100_2 (.cond (.tmp 9) .skip (.exit 0))) (.seq (.block 1 (.seq r100_4 (.cond (.tmp 18) (.seq r100_5 .ret) .skip))) r100_3)) st:=rfl
def c100:Code:=(.seq r100_0 (.seq (.seq r100_1 (.block 0 (.loop lb100_2))) (.seq r100_6 .ret)))
theorem b100:Try.f100.body = some c100:=by kernel_rfl
@[simp] theorem x100_0:RX 19 r100_0 (.str [oq 4 (.mv (cb false))]) (some ([0,1],[])):=rx
@[simp] theorem x100_1:RX 19 r100_1 (.str [oq 5 (.mv (ci 0))]) (some ([0,1],[])):=rx
@[simp] theorem x100_2:RX 19 r100_2 (.str [oq 6 (.mv (tq 5)),oq 7 (.mv (tq 0)),oq 8 (.oth (.call ⟨.builtin .len,#[tq 7],#[22]⟩)),oq 9 (.bin .lss 3 (tq 6) (tq 8))]) (some ([0,1,5],[])):=rx
@[simp] theorem x100_4:RX 19 r100_4 (.str [oq 12 (.mv (tq 0)),oq 13 (.mv (tq 5)),oq 14 (.oth (.indexAddr 22 (tq 12) (tq 13))),oq 15 (.ld 3 (tq 14)),oq 16 (.mv (tq 1)),oq 17 (.call false none (.func 29) [tq 15,tq 16,ci 3]),oq 18 (.oth (.unOp .not 4 (tq 17)))]) (some ([0,1,5],[])):=rx
@[simp] theorem x100_5:RX 19 r100_5 (.str [oq 4 (.mv (cb false))]) (some ([],[])):=rx
@[simp] theorem x100_3:RX 19 r100_3 (.str [oq 10 (.mv (tq 5)),oq 11 (.bin .add 3 (tq 10) (ci 1)),oq 5 (.mv (tq 11))]) (some ([0,1,5],[])):=rx
@[simp] theorem x100_6:RX 19 r100_6 (.str [oq 4 (.mv (cb true))]) (some ([],[])):=rx
@[simp] theorem l100_2:ann 19 (fstR lb100_2) = some ([0,1,5],[]):=by kernel_rfl
def r101_0:=rg Try.f101 2
def r101_1:=rg Try.f101 5
def c101:Code:=(.seq r101_0 (.seq r101_1 .ret))
theorem b101:Try.f101.body = some c101:=by kernel_rfl
@[simp] theorem x101_0:RX 19 r101_0 (.str [oq 2 (.box (tq 0)),oq 3 (.box (tq 1)),oq 4 (.mv (cb false))]) (some ([0,1],[2])):=rx
@[simp] theorem x101_1:RX 19 r101_1 (.str [oq 5 (.fa 48 (tq 3) 0),oq 6 (.ld 3 (tq 5)),oq 7 (.fa 27 (tq 2) 1),oq 8 (.ld 3 (tq 7)),oq 9 (.bin .sub 3 (tq 8) (ci 1)),oq 10 (.call false none (.func 29) [tq 6,ci 0,tq 9]),oq 11 (.mv (tq 10)),og 11 true 12 (.fa 48 (tq 3) 1),og 11 true 13 (.ld 3 (tq 12)),og 11 true 14 (.fa 27 (tq 2) 2),og 11 true 15 (.ld 3 (tq 14)),og 11 true 16 (.bin .sub 3 (tq 15) (ci 1)),og 11 true 17 (.call false none (.func 29) [tq 13,ci 0,tq 16]),oq 18 (.pick (tq 11) (tq 17) (cb false)),oq 4 (.mv (tq 18))]) (some ([2,3],[2,3])):=rx
def r26_0:=rg Try.f26 2
def r26_1:=rg Try.f26 9
def r26_2:=rg Try.f26 133
def r26_4:=rg Try.f26 549
def r26_5:=rg Try.f26 2341
def r26_3:=rg Try.f26 229
def r26_6:=rg Try.f26 11
def lb26_2:Code:=(.seq (.seq r26_2 (.cond (.tmp 9) .skip (.exit 0))) (.seq (.block 1 (.seq r26_4 (.cond (.tmp 17) (.seq r26_5 .ret) .skip))) r26_3))
@[simp] theorem u26_2 (n:Nat) (st:XS):execA Try.prog ann kn n 18 lb26_2 st = execA Try.prog ann kn n 18 (.seq (.seq r26_2 (.cond (.tmp 9) .skip (.exit 0))) (.seq (.block 1 (.seq r26_4 (.cond (.tmp 17) (.seq r26_5 .ret) .skip))) r26_3)) st:=rfl
def c26:Code:=(.seq r26_0 (.seq (.seq r26_1 (.block 0 (.loop lb26_2))) (.seq r26_6 .ret)))
theorem b26:Try.f26.body = some c26:=by kernel_rfl
@[simp] theorem x26_0:RX 18 r26_0 (.str [oq 4 (.mv (cb false))]) (some ([0,1,2,3],[])):=rx
@[simp] theorem x26_1:RX 18 r26_1 (.str [oq 5 (.mv (ci 0))]) (some ([0,1],[])):=rx
@[simp] theorem x26_2:RX 18 r26_2 (.str [oq 6 (.mv (tq 5)),oq 7 (.mv (tq 0)),oq 8 (.oth (.call ⟨.builtin .len,#[tq 7],#[22]⟩)),oq 9 (.bin .lss 3 (tq 6) (tq 8))]) (some ([0,1,5],[])):=rx
@[simp] theorem x26_4:RX 18 r26_4 (.str [oq 12 (.mv (tq 0)),oq 13 (.mv (tq 5)),oq 14 (.oth (.indexAddr 22 (tq 12) (tq 13))),oq 15 (.ld 3 (tq 14)),oq 16 (.mv (tq 1)),oq 17 (.bin .eql 3 (tq 15) (tq 16))]) (some ([0,1,5],[])):=rx
@[simp] theorem x26_5:RX 18 r26_5 (.str [oq 4 (.mv (cb true))]) (some ([],[])):=rx
@[simp] theorem x26_3:RX 18 r26_3 (.str [oq 10 (.mv (tq 5)),oq 11 (.bin .add 3 (tq 10) (ci 1)),oq 5 (.mv (tq 11))]) (some ([0,1,5],[])):=rx
@[simp] theorem x26_6:RX 18 r26_6 (.str [oq 4 (.mv (cb false))]) (some ([],[])):=rx
@[simp] theorem l26_2:ann 18 (fstR lb26_2) = some ([0,1,5],[]):=by kernel_rfl
def r16_0:=rg Try.f16 2
def r16_1:=rg Try.f16 5
def c16:Code:=(.seq r16_0 (.seq r16_1 .ret))
theorem b16:Try.f16.body = some c16:=by kernel_rfl
@[simp] theorem x16_0:RX 6 r16_0 (.str [oq 2 (.mv (.const (.slice none 0 0)))]) (some ([0,1],[])):=rx
@[simp] theorem x16_1:RX 6 r16_1 (.str [oq 3 (.buildS 22 0 []),oq 4 (.mv (tq 0)),oq 5 (.app [tq 3,tq 4] [22,22]),oq 2 (.mv (tq 5))]) (some ([0,1],[])):=rx
def r15_0:=rg Try.f15 2
def r15_1:=rg Try.f15 5
def r15_2:=rg Try.f15 19
def r15_3:=rg Try.f15 267
def r15_5:=rg Try.f15 587
def r15_4:=rg Try.f15 459
def r15_6:=rg Try.f15 23
def lb15_3:Code:=(.seq (.seq r15_3 (.cond (.tmp 9) .skip (.exit 0))) (.seq (.block 1 r15_5) r15_4))
@[simp] theorem u15_3 (n:Nat) (st:XS):execA Try.prog ann kn n 21 lb15_3 st = execA Try.prog ann kn n 21 (.seq (.seq r15_3 (.cond (.tmp 9) .skip (.exit 0))) (.seq (.block 1 r15_5) r15_4)) st:=rfl
def c15:Code:=(.seq r15_0 (.seq r15_1 (.seq (.seq r15_2 (.block 0 (.loop lb15_3))) (.seq r15_6 .ret))))
theorem b15:Try.f15.body = some c15:=by kernel_rfl
@[simp] theorem x15_0:RX 21 r15_0 (.str [oq 2 (.mv (.const (.slice none 0 0)))]) (some ([0],[17])):=rx
@[simp] theorem x15_1:RX 21 r15_1 (.str [oq 5 (.buildS 23 0 []),oq 3 (.mv (tq 5))]) (some ([0],[17])):=rx
@[simp] theorem x15_2:RX 21 r15_2 (.str [oq 4 (.mv (ci 0))]) (some ([0,1,3],[1,17,19])):=rx
@[simp] theorem x15_3:RX 21 r15_3 (.str [oq 6 (.mv (tq 4)),oq 7 (.mv (tq 0)),oq 8 (.oth (.call ⟨.builtin .len,#[tq 7],#[23]⟩)),oq 9 (.bin .lss 3 (tq 6) (tq 8))]) (some ([0,3,4],[17,19])):=rx
@[simp] theorem x15_5:RX 21 r15_5 (.str [oq 12 (.mv (tq 3)),oq 13 (.mv (tq 0)),oq 14 (.mv (tq 4)),oq 15 (.oth (.indexAddr 23 (tq 13) (tq 14))),oq 16 (.ld 22 (tq 15)),oq 17 (.call false none (.func 16) [tq 16]),oq 18 (.buildS 23 1 [(0,tq 17)]),oq 19 (.app [tq 12,tq 18] [23,23]),oq 3 (.mv (tq 19))]) (some ([0,1,3,4],[1,17,19])):=rx
@[simp] theorem x15_4:RX 21 r15_4 (.str [oq 10 (.mv (tq 4)),oq 11 (.bin .add 3 (tq 10) (ci 1)),oq 4 (.mv (tq 11))]) (some ([0,1,3,4],[1,17,19])):=rx
@[simp] theorem x15_6:RX 21 r15_6 (.str [oq 20 (.mv (tq 3)),oq 2 (.mv (tq 20))]) (some ([3],[19])):=rx
@[simp] theorem l15_3:ann 21 (fstR lb15_3) = some ([0,3,4],[17,19]):=by kernel_rfl
def r47_0:=rg Try.f47 2
def r47_1:=rg Try.f47 5
def c47:Code:=(.seq r47_0 (.seq r47_1 .ret))
theorem b47:Try.f47.body = some c47:=by kernel_rfl
@[simp] theorem x47_0:RX 8 r47_0 (.str [oq 1 (.box (tq 0)),oq 2 (.alloc 66)]) (some ([0],[])):=rx
@[simp] theorem x47_1:RX 8 r47_1 (.str [oq 3 (.fa 48 (tq 1) 0),oq 4 (.ld 3 (tq 3)),oq 5 (.fa 48 (tq 1) 1),oq 6 (.ld 3 (tq 5)),oq 7 (.build 66 [(0,tq 4),(1,tq 6)]),os (.sto 66 (tq 2) (tq 7))]) (some ([1,2],[1,2])):=rx
def r77_0:=rg Try.f77 2
def r77_1:=rg Try.f77 9
def r77_2:=rg Try.f77 133
def r77_4:=rg Try.f77 549
def r77_5:=rg Try.f77 2341
def r77_3:=rg Try.f77 229
def r77_6:=rg Try.f77 11
def lb77_2:Code:=(.seq (.seq r77_2 (.cond (.tmp 11) .skip (.exit 0))) (.seq (.block 1 (.seq r77_4 (.cond (.tmp 19) (.seq r77_5 .ret) .skip))) r77_3))
@[simp] theorem u77_2 (n:Nat) (st:XS):execA Try.prog ann kn n 23 lb77_2 st = execA Try.prog ann kn n 23 (.seq (.seq r77_2 (.cond (.tmp 11) .skip (.exit 0))) (.seq (.block 1 (.seq r77_4 (.cond (.tmp 19) (.seq r77_5 .ret) .skip))) r77_3)) st:=rfl
def c77:Code:=(.seq r77_0 (.seq (.seq r77_1 (.block 0 (.loop lb77_2))) (.seq r77_6 .ret)))
theorem b77:Try.f77.body = some c77:=by kernel_rfl
@[simp] theorem x77_0:RX 23 r77_0 (.str [oq 2 (.mv (cb false))]) (some ([0],[])):=rx
@[simp] theorem x77_1:RX 23 r77_1 (.str [oq 3 (.mv (ci 0))]) (some ([0],[])):=rx
@[simp] theorem x77_2:RX 23 r77_2 (.str [oq 4 (.mv (tq 3)),oq 5 (.mv (tq 0)),oq 6 (.oth (.call ⟨.builtin .len,#[tq 5],#[23]⟩)),oq 7 (.bin .lss 3 (tq 4) (tq 6)),oq 8 (.mv (tq 7)),og 8 true 9 (.mv (tq 3)),og 8 true 10 (.bin .lss 3 (tq 9) (ci 8)),oq 11 (.pick (tq 8) (tq 10) (cb false))]) (some ([0,3],[])):=rx
@[simp] theorem x77_4:RX 23 r77_4 (.str [oq 14 (.mv (tq 0)),oq 15 (.mv (tq 3)),oq 16 (.oth (.indexAddr 23 (tq 14) (tq 15))),oq 17 (.ld 22 (tq 16)),oq 18 (.oth (.call ⟨.builtin .len,#[tq 17],#[22]⟩)),oq 19 (.bin .gtr 3 (tq 18) (ci 5))]) (some ([0,3],[])):=rx
@[simp] theorem x77_5:RX 23 r77_5 (.str [oq 2 (.mv (cb false))]) (some ([],[])):=rx
@[simp] theorem x77_3:RX 23 r77_3 (.str [oq 12 (.mv (tq 3)),oq 13 (.bin .add 3 (tq 12) (ci 1)),oq 3 (.mv (tq 13))]) (some ([0,3],[])):=rx
@[simp] theorem x77_6:RX 23 r77_6 (.str [oq 20 (.mv (tq 0)),oq 21 (.oth (.call ⟨.builtin .len,#[tq 20],#[23]⟩)),oq 22 (.bin .leq 3 (tq 21) (ci 7)),oq 2 (.mv (tq 22))]) (some ([0],[])):=rx
@[simp] theorem l77_2:ann 23 (fstR lb77_2) = some ([0,3],[]):=by kernel_rfl
def r19_0:=rg Try.f19 2
def r19_1:=rg Try.f19 5
def r19_2:=rg Try.f19 19
def r19_3:=rg Try.f19 267
def r19_5:=rg Try.f19 587
def r19_4:=rg Try.f19 459
def r19_6:=rg Try.f19 23
def lb19_3:Code:=(.seq (.seq r19_3 (.cond (.tmp 9) .skip (.exit 0))) (.seq (.block 1 r19_5) r19_4))
@[simp] theorem u19_3 (n:Nat) (st:XS):execA Try.prog ann kn n 21 lb19_3 st = execA Try.prog ann kn n 21 (.seq (.seq r19_3 (.cond (.tmp 9) .skip (.exit 0))) (.seq (.block 1 r19_5) r19_4)) st:=rfl
def c19:Code:=(.seq r19_0 (.seq r19_1 (.seq (.seq r19_2 (.block 0 (.loop lb19_3))) (.seq r19_6 .ret))))
theorem b19:Try.f19.body = some c19:=by kernel_rfl
@[simp] theorem x19_0:RX 21 r19_0 (.str [oq 1 (.box (tq 0)),oq 2 (.mv (ci 0))]) (some ([0],[1])):=rx
@[simp] theorem x19_1:RX 21 r19_1 (.str [oq 3 (.mv (ci 1))]) (some ([1],[1])):=rx
@[simp] theorem x19_2:RX 21 r19_2 (.str [oq 4 (.mv (ci 0))]) (some ([0,1,3],[1,17,19])):=rx
@[simp] theorem x19_3:RX 21 r19_3 (.str [oq 5 (.mv (tq 4)),oq 6 (.fa 27 (tq 1) 6),oq 7 (.ld 23 (tq 6)),oq 8 (.oth (.call ⟨.builtin .len,#[tq 7],#[23]⟩)),oq 9 (.bin .lss 3 (tq 5) (tq 8))]) (some ([1,3,4],[1])):=rx
@[simp] theorem x19_5:RX 21 r19_5 (.str [oq 12 (.mv (tq 3)),oq 13 (.fa 27 (tq 1) 6),oq 14 (.ld 23 (tq 13)),oq 15 (.mv (tq 4)),oq 16 (.oth (.indexAddr 23 (tq 14) (tq 15))),oq 17 (.ld 22 (tq 16)),oq 18 (.oth (.call ⟨.builtin .len,#[tq 17],#[22]⟩)),oq 19 (.bin .mul 3 (tq 12) (tq 18)),oq 3 (.mv (tq 19))]) (some ([0,1,3,4],[1,17,19])):=rx
@[simp] theorem x19_4:RX 21 r19_4 (.str [oq 10 (.mv (tq 4)),oq 11 (.bin .add 3 (tq 10) (ci 1)),oq 4 (.mv (tq 11))]) (some ([0,1,3,4],[1,17,19])):=rx
@[simp] theorem x19_6:RX 21 r19_6 (.str [oq 20 (.mv (tq 3)),oq 2 (.mv (tq 20))]) (some ([3],[19])):=rx
@[simp] theorem l19_3:ann 21 (fstR lb19_3) = some ([1,3,4],[1]):=by kernel_rfl
def r78_0:=rg Try.f78 2
def r78_1:=rg Try.f78 9
def r78_2:=rg Try.f78 37
def r78_3:=rg Try.f78 19
def r78_4:=rg Try.f78 75
def r78_5:=rg Try.f78 39
def r78_6:=rg Try.f78 535
def r78_8:=rg Try.f78 4247
def r78_9:=rg Try.f78 18583
def r78_10:=rg Try.f78 5271
def r78_11:=rg Try.f78 68759
def r78_13:=rg Try.f78 281751
def r78_14:=rg Try.f78 1199255
def r78_12:=rg Try.f78 117911
def r78_7:=rg Try.f78 919
def r78_15:=rg Try.f78 79
def r78_16:=rg Try.f78 1071
def r78_18:=rg Try.f78 4399
def r78_19:=rg Try.f78 18735
def r78_17:=rg Try.f78 1839
def r78_20:=rg Try.f78 159
def r78_21:=rg Try.f78 2143
def r78_23:=rg Try.f78 8799
def r78_24:=rg Try.f78 37471
def r78_22:=rg Try.f78 3679
def r78_25:=rg Try.f78 191
def lb78_11:Code:=(.seq (.seq r78_11 (.cond (.tmp 118) .skip (.exit 2))) (.seq (.block 3 (.seq r78_13 (.cond (.tmp 138) (.seq r78_14 .ret) .skip))) r78_12))
@[simp] theorem u78_11 (n:Nat) (st:XS):execA Try.prog ann kn n 181 lb78_11 st = execA Try.prog ann kn n 181 (.seq (.seq r78_11 (.cond (.tmp 118) .skip (.exit 2))) (.seq (.block 3 (.seq r78_13 (.cond (.tmp 138) (.seq r78_14 .ret) .skip))) r78_12)) st:=rfl
def lb78_6:Code:=(.seq (.seq r78_6 (.cond (.tmp 92) .skip (.exit 0))) (.seq (.block 1 (.seq (.seq r78_8 (.cond (.tmp 110) (.seq r78_9 .ret) .skip)) (.seq r78_10 (.block 2 (.loop lb78_11))))) r78_7))
@[simp] theorem u78_6 (n:Nat) (st:XS):execA Try.prog ann kn n 181 lb78_6 st = execA Try.prog ann kn n 181 (.seq (.seq r78_6 (.cond (.tmp 92) .skip (.exit 0))) (.seq (.block 1 (.seq (.seq r78_8 (.cond (.tmp 110) (.seq r78_9 .ret) .skip)) (.seq r78_10 (.block 2 (.loop lb78_11))))) r78_7)) st:=rfl
def lb78_16:Code:=(.seq (.seq r78_16 (.cond (.tmp 143) .skip (.exit 4))) (.seq (.block 5 (.seq r78_18 (.cond (.tmp 153) (.seq r78_19 .ret) .skip))) r78_17))
@[simp] theorem u78_16 (n:Nat) (st:XS):execA Try.prog ann kn n 181 lb78_16 st = execA Try.prog ann kn n 181 (.seq (.seq r78_16 (.cond (.tmp 143) .skip (.exit 4))) (.seq (.block 5 (.seq r78_18 (.cond (.tmp 153) (.seq r78_19 .ret) .skip))) r78_17)) st:=rfl
def lb78_21:Code:=(.seq (.seq r78_21 (.cond (.tmp 158) .skip (.exit 6))) (.seq (.block 7 (.seq r78_23 (.cond (.tmp 180) (.seq r78_24 .ret) .skip))) r78_22))
@[simp] theorem u78_21 (n:Nat) (st:XS):execA Try.prog ann kn n 181 lb78_21 st = execA Try.prog ann kn n 181 (.seq (.seq r78_21 (.cond (.tmp 158) .skip (.exit 6))) (.seq (.block 7 (.seq r78_23 (.cond (.tmp 180) (.seq r78_24 .ret) .skip))) r78_22)) st:=rfl
def c78:Code:=(.seq r78_0 (.seq (.seq r78_1 (.cond (.tmp 31) (.seq r78_2 .ret) .skip)) (.seq (.seq r78_3 (.cond (.tmp 88) (.seq r78_4 .ret) .skip)) (.seq (.seq r78_5 (.block 0 (.loop lb78_6))) (.seq (.seq r78_15 (.block 4 (.loop lb78_16))) (.seq (.seq r78_20 (.block 6 (.loop lb78_21))) (.seq r78_25 .ret)))))))
theorem b78:Try.f78.body = some c78:=by kernel_rfl
@[simp] theorem x78_0:RX 181 r78_0 (.str [oq 1 (.box (tq 0)),oq 2 (.mv (ci 0))]) (some ([0],[1])):=rx
@[simp] theorem x78_1:RX 181 r78_1 (.str [oq 7 (.fa 27 (tq 1) 0),oq 8 (.ld 3 (tq 7)),oq 9 (.bin .gtr 3 (tq 8) (ci 4)),oq 10 (.mv (tq 9)),og 10 false 11 (.fa 27 (tq 1) 1),og 10 false 12 (.ld 3 (tq 11)),og 10 false 13 (.bin .gtr 3 (tq 12) (ci 3)),oq 14 (.pick (tq 10) (cb true) (tq 13)),oq 15 (.mv (tq 14)),og 15 false 16 (.fa 27 (tq 1) 2),og 15 false 17 (.ld 3 (tq 16)),og 15 false 18 (.bin .gtr 3 (tq 17) (ci 5)),oq 19 (.pick (tq 15) (cb true) (tq 18)),oq 20 (.mv (tq 19)),og 20 false 21 (.fa 27 (tq 1) 7),og 20 false 22 (.ld 24 (tq 21)),og 20 false 23 (.oth (.call ⟨.builtin .len,#[tq 22],#[24]⟩)),og 20 false 24 (.bin .gtr 3 (tq 23) (ci 4)),oq 25 (.pick (tq 20) (cb true) (tq 24)),oq 26 (.mv (tq 25)),og 26 false 27 (.fa 27 (tq 1) 8),og 26 false 28 (.ld 25 (tq 27)),og 26 false 29 (.oth (.call ⟨.builtin .len,#[tq 28],#[25]⟩)),og 26 false 30 (.bin .gtr 3 (tq 29) (ci 5)),oq 31 (.pick (tq 26) (cb true) (tq 30))]) (some ([1],[1])):=rx
@[simp] theorem x78_2:RX 181 r78_2 (.str [oq 2 (.mv (ci 3))]) (some ([],[])):=rx
@[simp] theorem x78_3:RX 181 r78_3 (.str [oq 32 (.fa 27 (tq 1) 0),oq 33 (.ld 3 (tq 32)),oq 34 (.bin .lss 3 (tq 33) (ci 0)),oq 35 (.mv (tq 34)),og 35 false 36 (.fa 27 (tq 1) 1),og 35 false 37 (.ld 3 (tq 36)),og 35 false 38 (.bin .lss 3 (tq 37) (ci 1)),oq 39 (.pick (tq 35) (cb true) (tq 38)),oq 40 (.mv (tq 39)),og 40 false 41 (.fa 27 (tq 1) 2),og 40 false 42 (.ld 3 (tq 41)),og 40 false 43 (.bin .lss 3 (tq 42) (ci 1)),oq 44 (.pick (tq 40) (cb true) (tq 43)),oq 45 (.mv (tq 44)),og 45 false 46 (.fa 27 (tq 1) 3),og 45 false 47 (.ld 3 (tq 46)),og 45 false 48 (.call false none (.func 29) [tq 47,ci 0,ci 4]),og 45 false 49 (.oth (.unOp .not 4 (tq 48))),oq 50 (.pick (tq 45) (cb true) (tq 49)),oq 51 (.mv (tq 50)),og 51 false 52 (.fa 27 (tq 1) 4),og 51 false 53 (.ld 22 (tq 52)),og 51 false 54 (.oth (.call ⟨.builtin .len,#[tq 53],#[22]⟩)),og 51 false 55 (.fa 27 (tq 1) 1),og 51 false 56 (.ld 3 (tq 55)),og 51 false 57 (.bin .neq 3 (tq 54) (tq 56)),oq 58 (.pick (tq 51) (cb true) (tq 57)),oq 59 (.mv (tq 58)),og 59 false 60 (.fa 27 (tq 1) 5),og 59 false 61 (.ld 22 (tq 60)),og 59 false 62 (.oth (.call ⟨.builtin .len,#[tq 61],#[22]⟩)),og 59 false 63 (.fa 27 (tq 1) 0),og 59 false 64 (.ld 3 (tq 63)),og 59 false 65 (.bin .add 3 (tq 64) (ci 1)),og 59 false 66 (.bin .neq 3 (tq 62) (tq 65)),oq 67 (.pick (tq 59) (cb true) (tq 66)),oq 68 (.mv (tq 67)),og 68 false 69 (.fa 27 (tq 1) 6),og 68 false 70 (.ld 23 (tq 69)),og 68 false 71 (.oth (.call ⟨.builtin .len,#[tq 70],#[23]⟩)),og 68 false 72 (.fa 27 (tq 1) 0),og 68 false 73 (.ld 3 (tq 72)),og 68 false 74 (.bin .add 3 (tq 73) (ci 1)),og 68 false 75 (.bin .neq 3 (tq 71) (tq 74)),oq 76 (.pick (tq 68) (cb true) (tq 75)),oq 77 (.mv (tq 76)),og 77 false 78 (.fa 27 (tq 1) 4),og 77 false 79 (.ld 22 (tq 78)),og 77 false 80 (.call false none (.func 100) [tq 79,ci 0]),og 77 false 81 (.oth (.unOp .not 4 (tq 80))),oq 82 (.pick (tq 77) (cb true) (tq 81)),oq 83 (.mv (tq 82)),og 83 false 84 (.fa 27 (tq 1) 5),og 83 false 85 (.ld 22 (tq 84)),og 83 false 86 (.call false none (.func 100) [tq 85,.const (.int .i64 (Int.negSucc 0))]),og 83 false 87 (.oth (.unOp .not 4 (tq 86))),oq 88 (.pick (tq 83) (cb true) (tq 87))]) (some ([1],[1])):=rx
@[simp] theorem x78_4:RX 181 r78_4 (.str [oq 2 (.mv (ci 1))]) (some ([],[])):=rx
@[simp] theorem x78_5:RX 181 r78_5 (.str [oq 3 (.mv (ci 0))]) (some ([1],[1])):=rx
@[simp] theorem x78_6:RX 181 r78_6 (.str [oq 89 (.mv (tq 3)),oq 90 (.fa 27 (tq 1) 0),oq 91 (.ld 3 (tq 90)),oq 92 (.bin .leq 3 (tq 89) (tq 91))]) (some ([1,3],[1])):=rx
@[simp] theorem x78_8:RX 181 r78_8 (.str [oq 95 (.fa 27 (tq 1) 6),oq 96 (.ld 23 (tq 95)),oq 97 (.mv (tq 3)),oq 98 (.oth (.indexAddr 23 (tq 96) (tq 97))),oq 99 (.ld 22 (tq 98)),oq 100 (.oth (.call ⟨.builtin .len,#[tq 99],#[22]⟩)),oq 101 (.bin .eql 3 (tq 100) (ci 0)),oq 102 (.mv (tq 101)),og 102 false 103 (.fa 27 (tq 1) 6),og 102 false 104 (.ld 23 (tq 103)),og 102 false 105 (.mv (tq 3)),og 102 false 106 (.oth (.indexAddr 23 (tq 104) (tq 105))),og 102 false 107 (.ld 22 (tq 106)),og 102 false 108 (.call false none (.func 100) [tq 107,ci 0]),og 102 false 109 (.oth (.unOp .not 4 (tq 108))),oq 110 (.pick (tq 102) (cb true) (tq 109))]) (some ([1,3],[1])):=rx
@[simp] theorem x78_9:RX 181 r78_9 (.str [oq 2 (.mv (ci 1))]) (some ([],[])):=rx
@[simp] theorem x78_10:RX 181 r78_10 (.str [oq 4 (.mv (ci 1))]) (some ([1,3],[1])):=rx
@[simp] theorem x78_11:RX 181 r78_11 (.str [oq 111 (.mv (tq 4)),oq 112 (.fa 27 (tq 1) 6),oq 113 (.ld 23 (tq 112)),oq 114 (.mv (tq 3)),oq 115 (.oth (.indexAddr 23 (tq 113) (tq 114))),oq 116 (.ld 22 (tq 115)),oq 117 (.oth (.call ⟨.builtin .len,#[tq 116],#[22]⟩)),oq 118 (.bin .lss 3 (tq 111) (tq 117))]) (some ([1,3,4],[1])):=rx
@[simp] theorem x78_13:RX 181 r78_13 (.drw [⟨[],[oq 121 (.fa 27 (tq 1) 6),oq 122 (.ld 23 (tq 121)),oq 123 (.mv (tq 3)),oq 124 (.oth (.indexAddr 23 (tq 122) (tq 123))),oq 125 (.ld 22 (tq 124)),oq 126 (.mv (tq 4)),oq 127 (.oth (.indexAddr 22 (tq 125) (tq 126))),oq 128 (.ld 3 (tq 127)),oq 129 (.fa 27 (tq 1) 6),oq 130 (.ld 23 (tq 129)),oq 131 (.mv (tq 3)),oq 132 (.oth (.indexAddr 23 (tq 130) (tq 131))),oq 133 (.ld 22 (tq 132)),oq 134 (.mv (tq 4)),oq 135 (.bin .sub 3 (tq 134) (ci 1)),oq 136 (.oth (.indexAddr 22 (tq 133) (tq 135))),oq 137 (.ld 3 (tq 136)),oq 138 (.bin .leq 3 (tq 128) (tq 137))],[]⟩]) (some ([1,3,4],[1])):=rx
@[simp] theorem x78_14:RX 181 r78_14 (.str [oq 2 (.mv (ci 1))]) (some ([],[])):=rx
@[simp] theorem x78_12:RX 181 r78_12 (.str [oq 119 (.mv (tq 4)),oq 120 (.bin .add 3 (tq 119) (ci 1)),oq 4 (.mv (tq 120))]) (some ([1,3,4],[1])):=rx
@[simp] theorem x78_7:RX 181 r78_7 (.str [oq 93 (.mv (tq 3)),oq 94 (.bin .add 3 (tq 93) (ci 1)),oq 3 (.mv (tq 94))]) (some ([1,3],[1])):=rx
@[simp] theorem x78_15:RX 181 r78_15 (.str [oq 5 (.mv (ci 0))]) (some ([1],[1])):=rx
@[simp] theorem x78_16:RX 181 r78_16 (.str [oq 139 (.mv (tq 5)),oq 140 (.fa 27 (tq 1) 7),oq 141 (.ld 24 (tq 140)),oq 142 (.oth (.call ⟨.builtin .len,#[tq 141],#[24]⟩)),oq 143 (.bin .lss 3 (tq 139) (tq 142))]) (some ([1,5],[1])):=rx
@[simp] theorem x78_18:RX 181 r78_18 (.drw [⟨[],[oq 146 (.ld 27 (tq 1)),oq 147 (.fa 27 (tq 1) 7),oq 148 (.ld 24 (tq 147)),oq 149 (.mv (tq 5)),oq 150 (.oth (.indexAddr 24 (tq 148) (tq 149))),oq 151 (.ld 48 (tq 150))],[oq 152 (.call false none (.func 101) [tq 146,tq 151])]⟩,⟨[],[oq 153 (.oth (.unOp .not 4 (tq 152)))],[]⟩]) (some ([1,5],[1])):=rx
@[simp] theorem x78_19:RX 181 r78_19 (.str [oq 2 (.mv (ci 1))]) (some ([],[])):=rx
@[simp] theorem x78_17:RX 181 r78_17 (.str [oq 144 (.mv (tq 5)),oq 145 (.bin .add 3 (tq 144) (ci 1)),oq 5 (.mv (tq 145))]) (some ([1,5],[1])):=rx
@[simp] theorem x78_20:RX 181 r78_20 (.str [oq 6 (.mv (ci 0))]) (some ([1],[1])):=rx
@[simp] theorem x78_21:RX 181 r78_21 (.str [oq 154 (.mv (tq 6)),oq 155 (.fa 27 (tq 1) 8),oq 156 (.ld 25 (tq 155)),oq 157 (.oth (.call ⟨.builtin .len,#[tq 156],#[25]⟩)),oq 158 (.bin .lss 3 (tq 154) (tq 157))]) (some ([1,6],[1])):=rx
@[simp] theorem x78_23:RX 181 r78_23 (.drw [⟨[],[oq 161 (.fa 27 (tq 1) 8),oq 162 (.ld 25 (tq 161)),oq 163 (.mv (tq 6)),oq 164 (.oth (.indexAddr 25 (tq 162) (tq 163))),oq 165 (.fa 63 (tq 164) 0),oq 166 (.ld 3 (tq 165)),oq 167 (.fa 27 (tq 1) 0),oq 168 (.ld 3 (tq 167))],[oq 169 (.call false none (.func 29) [tq 166,ci 0,tq 168])]⟩,⟨[],[oq 170 (.oth (.unOp .not 4 (tq 169))),oq 171 (.mv (tq 170)),og 171 false 172 (.fa 27 (tq 1) 8),og 171 false 173 (.ld 25 (tq 172)),og 171 false 174 (.mv (tq 6)),og 171 false 175 (.oth (.indexAddr 25 (tq 173) (tq 174))),og 171 false 176 (.fa 63 (tq 175) 1),og 171 false 177 (.ld 3 (tq 176))],[og 171 false 178 (.call false none (.func 29) [tq 177,ci 0,ci 3])]⟩,⟨[],[og 171 false 179 (.oth (.unOp .not 4 (tq 178))),oq 180 (.pick (tq 171) (cb true) (tq 179))],[]⟩]) (some ([1,6],[1])):=rx
@[simp] theorem x78_24:RX 181 r78_24 (.str [oq 2 (.mv (ci 1))]) (some ([],[])):=rx
@[simp] theorem x78_22:RX 181 r78_22 (.str [oq 159 (.mv (tq 6)),oq 160 (.bin .add 3 (tq 159) (ci 1)),oq 6 (.mv (tq 160))]) (some ([1,6],[1])):=rx
@[simp] theorem x78_25:RX 181 r78_25 (.str [oq 2 (.mv (ci 0))]) (some ([],[])):=rx
@[simp] theorem l78_6:ann 181 (fstR lb78_6) = some ([1,3],[1]):=by kernel_rfl
@[simp] theorem l78_11:ann 181 (fstR lb78_11) = some ([1,3,4],[1]):=by kernel_rfl
@[simp] theorem l78_16:ann 181 (fstR lb78_16) = some ([1,5],[1]):=by kernel_rfl
@[simp] theorem l78_21:ann 181 (fstR lb78_21) = some ([1,6],[1]):=by kernel_rfl
def r39_0:=rg Try.f39 2
def r39_1:=rg Try.f39 9
def r39_2:=rg Try.f39 37
def r39_3:=rg Try.f39 11
def c39:Code:=(.seq r39_0 (.seq (.seq r39_1 (.cond (.tmp 30) (.seq r39_2 .ret) .skip)) (.seq r39_3 .ret)))
theorem b39:Try.f39.body = some c39:=by kernel_rfl
@[simp] theorem x39_0:RX 39 r39_0 (.str [oq 1 (.box (tq 0)),oq 2 (.mv (cb false))]) (some ([0],[1])):=rx
@[simp] theorem x39_1:RX 39 r39_1 (.str [oq 3 (.fa 27 (tq 1) 4),oq 4 (.ld 22 (tq 3)),oq 5 (.oth (.call ⟨.builtin .len,#[tq 4],#[22]⟩)),oq 6 (.bin .gtr 3 (tq 5) (ci 5)),oq 7 (.mv (tq 6)),og 7 false 8 (.fa 27 (tq 1) 5),og 7 false 9 (.ld 22 (tq 8)),og 7 false 10 (.oth (.call ⟨.builtin .len,#[tq 9],#[22]⟩)),og 7 false 11 (.bin .gtr 3 (tq 10) (ci 7)),oq 12 (.pick (tq 7) (cb true) (tq 11)),oq 13 (.mv (tq 12)),og 13 false 14 (.fa 27 (tq 1) 6),og 13 false 15 (.ld 23 (tq 14)),og 13 false 16 (.call false none (.func 77) [tq 15]),og 13 false 17 (.oth (.unOp .not 4 (tq 16))),oq 18 (.pick (tq 13) (cb true) (tq 17)),oq 19 (.mv (tq 18)),og 19 false 20 (.fa 27 (tq 1) 7),og 19 false 21 (.ld 24 (tq 20)),og 19 false 22 (.oth (.call ⟨.builtin .len,#[tq 21],#[24]⟩)),og 19 false 23 (.bin .gtr 3 (tq 22) (ci 6)),oq 24 (.pick (tq 19) (cb true) (tq 23)),oq 25 (.mv (tq 24)),og 25 false 26 (.fa 27 (tq 1) 8),og 25 false 27 (.ld 25 (tq 26)),og 25 false 28 (.oth (.call ⟨.builtin .len,#[tq 27],#[25]⟩)),og 25 false 29 (.bin .gtr 3 (tq 28) (ci 7)),oq 30 (.pick (tq 25) (cb true) (tq 29))]) (some ([1],[1])):=rx
@[simp] theorem x39_2:RX 39 r39_2 (.str [oq 2 (.mv (cb false))]) (some ([],[])):=rx
@[simp] theorem x39_3:RX 39 r39_3 (.str [oq 31 (.ld 27 (tq 1)),oq 32 (.call false none (.func 78) [tq 31]),oq 33 (.bin .neq 3 (tq 32) (ci 0)),oq 34 (.mv (tq 33)),og 34 false 35 (.ld 27 (tq 1)),og 34 false 36 (.call false none (.func 19) [tq 35]),og 34 false 37 (.bin .leq 3 (tq 36) (ci 80)),oq 38 (.pick (tq 34) (cb true) (tq 37)),oq 2 (.mv (tq 38))]) (some ([1],[1])):=rx
def r40_0:=rg Try.f40 2
def r40_1:=rg Try.f40 5
def c40:Code:=(.seq r40_0 (.seq r40_1 .ret))
theorem b40:Try.f40.body = some c40:=by kernel_rfl
@[simp] theorem x40_0:RX 5 r40_0 (.str [oq 1 (.box (tq 0)),oq 2 (.mv (ci 0))]) (some ([0],[1])):=rx
@[simp] theorem x40_1:RX 5 r40_1 (.str [oq 3 (.ld 27 (tq 1)),oq 4 (.call false none (.func 78) [tq 3]),oq 2 (.mv (tq 4))]) (some ([0,1],[1])):=rx
def r10_0:=rg Try.f10 2
def r10_1:=rg Try.f10 5
def c10:Code:=(.seq r10_0 (.seq r10_1 .ret))
theorem b10:Try.f10.body = some c10:=by kernel_rfl
@[simp] theorem x10_0:RX 10 r10_0 (.str [oq 1 (.box (tq 0)),oq 2 (.mv (cb false))]) (some ([0],[1])):=rx
@[simp] theorem x10_1:RX 10 r10_1 (.str [oq 3 (.ld 27 (tq 1)),oq 4 (.call false none (.func 39) [tq 3]),oq 5 (.mv (tq 4)),og 5 true 6 (.ld 27 (tq 1)),og 5 true 7 (.call false none (.func 40) [tq 6]),og 5 true 8 (.bin .eql 34 (tq 7) (ci 0)),oq 9 (.pick (tq 5) (tq 8) (cb false)),oq 2 (.mv (tq 9))]) (some ([1],[1])):=rx
def r108_0:=rg Try.f108 2
def r108_1:=rg Try.f108 9
def r108_2:=rg Try.f108 69
def r108_3:=rg Try.f108 1125
def r108_4:=rg Try.f108 2661
def r108_5:=rg Try.f108 9829
def r108_6:=rg Try.f108 485
def r108_7:=rg Try.f108 11
def lb108_2:Code:=(.seq r108_2 (.seq (.cond (.tmp 9) .skip (.exit 0)) (.seq (.block 1 (.seq r108_3 (.seq r108_4 (.cond (.tmp 16) (.seq r108_5 .ret) .skip)))) r108_6)))
@[simp] theorem u108_2 (n:Nat) (st:XS):execA Try.prog ann kn n 19 lb108_2 st = execA Try.prog ann kn n 19 (.seq r108_2 (.seq (.cond (.tmp 9) .skip (.exit 0)) (.seq (.block 1 (.seq r108_3 (.seq r108_4 (.cond (.tmp 16) (.seq r108_5 .ret) .skip)))) r108_6))) st:=rfl
def c108:Code:=(.seq r108_0 (.seq (.seq r108_1 (.block 0 (.loop lb108_2))) (.seq r108_7 .ret)))
theorem b108:Try.f108.body = some c108:=by kernel_rfl
@[simp] theorem x108_0:RX 19 r108_0 (.str [oq 4 (.mv (ci 0))]) (some ([0,1],[])):=rx
@[simp] theorem x108_1:RX 19 r108_1 (.str [oq 6 (.mv (tq 0)),oq 7 (.oth (.call ⟨.builtin .len,#[tq 6],#[22]⟩)),oq 8 (.mv (ci 0))]) (some ([0,1],[])):=rx
@[simp] theorem x108_2:RX 19 r108_2 (.str [oq 9 (.bin .lss 3 (tq 8) (tq 7))]) (some ([0,1,7,8],[])):=rx
@[simp] theorem x108_3:RX 19 r108_3 (.str [oq 10 (.mv (tq 8)),oq 5 (.mv (tq 10))]) (some ([0,1,7,8],[])):=rx
@[simp] theorem x108_4:RX 19 r108_4 (.str [oq 11 (.mv (tq 1)),oq 12 (.mv (tq 0)),oq 13 (.mv (tq 5)),oq 14 (.oth (.indexAddr 22 (tq 12) (tq 13))),oq 15 (.ld 3 (tq 14)),oq 16 (.call false none (tq 11) [tq 15])]) (some ([0,1,5,7,8],[])):=rx
@[simp] theorem x108_5:RX 19 r108_5 (.str [oq 17 (.mv (tq 5)),oq 4 (.mv (tq 17))]) (some ([5],[])):=rx
@[simp] theorem x108_6:RX 19 r108_6 (.str [oq 18 (.bin .add 3 (tq 8) (ci 1)),oq 8 (.mv (tq 18))]) (some ([0,1,7,8],[])):=rx
@[simp] theorem x108_7:RX 19 r108_7 (.str [oq 4 (.mv (.const (.int .i64 (Int.negSucc 0))))]) (some ([],[])):=rx
@[simp] theorem l108_2:ann 19 (fstR lb108_2) = some ([0,1,7,8],[]):=by kernel_rfl
def r91_0:=rg Try.f91 2
def r91_1:=rg Try.f91 5
def c91:Code:=(.seq r91_0 (.seq r91_1 .ret))
theorem b91:Try.f91.body = some c91:=by kernel_rfl
@[simp] theorem x91_0:RX 9 r91_0 (.str [oq 4 (.mv (cb false))]) (some ([0,1],[])):=rx
@[simp] theorem x91_1:RX 9 r91_1 (.str [oq 5 (.mv (tq 0)),oq 6 (.mv (tq 1)),oq 7 (.call false none (.func 108) [tq 5,tq 6]),oq 8 (.bin .geq 3 (tq 7) (ci 0)),oq 4 (.mv (tq 8))]) (some ([0,1,2,3],[2,3])):=rx
def r70_0:=rg Try.f70 2
def r70_1:=rg Try.f70 5
def c70:Code:=(.seq r70_0 (.seq r70_1 .ret))
theorem b70:Try.f70.body = some c70:=by kernel_rfl
@[simp] theorem x70_0:RX 9 r70_0 (.str [oq 3 (.box (tq 1)),oq 4 (.mv (cb false))]) (some ([0,1],[3])):=rx
@[simp] theorem x70_1:RX 9 r70_1 (.str [oq 5 (.mv (tq 0)),oq 6 (.oth (.makeFunc (.func 92) #[] #[tq 3])),oq 7 (.call false none (.func 91) [tq 5,tq 6]),oq 8 (.oth (.unOp .not 4 (tq 7))),oq 4 (.mv (tq 8))]) (some ([0,1,2,3],[2,3])):=rx
def r92_0:=rg Try.f92 2
def r92_1:=rg Try.f92 5
def c92:Code:=(.seq r92_0 (.seq r92_1 .ret))
theorem b92:Try.f92.body = some c92:=by kernel_rfl
@[simp] theorem x92_0:RX 8 r92_0 (.str [oq 3 (.mv (cb false))]) (some ([0,1],[])):=rx
@[simp] theorem x92_1:RX 8 r92_1 (.str [oq 4 (.ld 117 (tq 1)),oq 5 (.mv (tq 0)),oq 6 (.call false none (tq 4) [tq 5]),oq 7 (.oth (.unOp .not 4 (tq 6))),oq 3 (.mv (tq 7))]) (some ([0,1,2],[2])):=rx
def r109_0:=rg Try.f109 2
def r109_1:=rg Try.f109 9
def r109_2:=rg Try.f109 69
def r109_3:=rg Try.f109 1125
def r109_4:=rg Try.f109 2661
def r109_5:=rg Try.f109 9829
def r109_6:=rg Try.f109 485
def r109_7:=rg Try.f109 11
def lb109_2:Code:=(.seq r109_2 (.seq (.cond (.tmp 9) .skip (.exit 0)) (.seq (.block 1 (.seq r109_3 (.seq r109_4 (.cond (.tmp 16) (.seq r109_5 .ret) .skip)))) r109_6)))
@[simp] theorem u109_2 (n:Nat) (st:XS):execA Try.prog ann kn n 19 lb109_2 st = execA Try.prog ann kn n 19 (.seq r109_2 (.seq (.cond (.tmp 9) .skip (.exit 0)) (.seq (.block 1 (.seq r109_3 (.seq r109_4 (.cond (.tmp 16) (.seq r109_5 .ret) .skip)))) r109_6))) st:=rfl
def c109:Code:=(.seq r109_0 (.seq (.seq r109_1 (.block 0 (.loop lb109_2))) (.seq r109_7 .ret)))
theorem b109:Try.f109.body = some c109:=by kernel_rfl
@[simp] theorem x109_0:RX 19 r109_0 (.str [oq 4 (.mv (ci 0))]) (some ([0,1],[])):=rx
@[simp] theorem x109_1:RX 19 r109_1 (.str [oq 6 (.mv (tq 0)),oq 7 (.oth (.call ⟨.builtin .len,#[tq 6],#[23]⟩)),oq 8 (.mv (ci 0))]) (some ([0,1],[])):=rx
@[simp] theorem x109_2:RX 19 r109_2 (.str [oq 9 (.bin .lss 3 (tq 8) (tq 7))]) (some ([0,1,7,8],[])):=rx
@[simp] theorem x109_3:RX 19 r109_3 (.str [oq 10 (.mv (tq 8)),oq 5 (.mv (tq 10))]) (some ([0,1,7,8],[])):=rx
@[simp] theorem x109_4:RX 19 r109_4 (.str [oq 11 (.mv (tq 1)),oq 12 (.mv (tq 0)),oq 13 (.mv (tq 5)),oq 14 (.oth (.indexAddr 23 (tq 12) (tq 13))),oq 15 (.ld 22 (tq 14)),oq 16 (.call false none (tq 11) [tq 15])]) (some ([0,1,5,7,8],[])):=rx
@[simp] theorem x109_5:RX 19 r109_5 (.str [oq 17 (.mv (tq 5)),oq 4 (.mv (tq 17))]) (some ([5],[])):=rx
@[simp] theorem x109_6:RX 19 r109_6 (.str [oq 18 (.bin .add 3 (tq 8) (ci 1)),oq 8 (.mv (tq 18))]) (some ([0,1,7,8],[])):=rx
@[simp] theorem x109_7:RX 19 r109_7 (.str [oq 4 (.mv (.const (.int .i64 (Int.negSucc 0))))]) (some ([],[])):=rx
@[simp] theorem l109_2:ann 19 (fstR lb109_2) = some ([0,1,7,8],[]):=by kernel_rfl
def r93_0:=rg Try.f93 2
def r93_1:=rg Try.f93 5
def c93:Code:=(.seq r93_0 (.seq r93_1 .ret))
theorem b93:Try.f93.body = some c93:=by kernel_rfl
@[simp] theorem x93_0:RX 9 r93_0 (.str [oq 4 (.mv (cb false))]) (some ([0,1],[])):=rx
@[simp] theorem x93_1:RX 9 r93_1 (.str [oq 5 (.mv (tq 0)),oq 6 (.mv (tq 1)),oq 7 (.call false none (.func 109) [tq 5,tq 6]),oq 8 (.bin .geq 3 (tq 7) (ci 0)),oq 4 (.mv (tq 8))]) (some ([0,1,2,3],[2,3])):=rx
def r73_0:=rg Try.f73 2
def r73_1:=rg Try.f73 5
def c73:Code:=(.seq r73_0 (.seq r73_1 .ret))
theorem b73:Try.f73.body = some c73:=by kernel_rfl
@[simp] theorem x73_0:RX 9 r73_0 (.str [oq 3 (.box (tq 1)),oq 4 (.mv (cb false))]) (some ([0,1],[3])):=rx
@[simp] theorem x73_1:RX 9 r73_1 (.str [oq 5 (.mv (tq 0)),oq 6 (.oth (.makeFunc (.func 94) #[] #[tq 3])),oq 7 (.call false none (.func 93) [tq 5,tq 6]),oq 8 (.oth (.unOp .not 4 (tq 7))),oq 4 (.mv (tq 8))]) (some ([0,1,2,3],[2,3])):=rx
def r94_0:=rg Try.f94 2
def r94_1:=rg Try.f94 5
def c94:Code:=(.seq r94_0 (.seq r94_1 .ret))
theorem b94:Try.f94.body = some c94:=by kernel_rfl
@[simp] theorem x94_0:RX 8 r94_0 (.str [oq 3 (.mv (cb false))]) (some ([0,1],[])):=rx
@[simp] theorem x94_1:RX 8 r94_1 (.str [oq 4 (.ld 99 (tq 1)),oq 5 (.mv (tq 0)),oq 6 (.call false none (tq 4) [tq 5]),oq 7 (.oth (.unOp .not 4 (tq 6))),oq 3 (.mv (tq 7))]) (some ([0,1,2],[2])):=rx
def r51_0:=rg Try.f51 2
def r51_1:=rg Try.f51 5
def c51:Code:=(.seq r51_0 (.seq r51_1 .ret))
theorem b51:Try.f51.body = some c51:=by kernel_rfl
@[simp] theorem x51_0:RX 15 r51_0 (.str [oq 6 (.mv (cb false))]) (some ([0,1,2],[])):=rx
@[simp] theorem x51_1:RX 15 r51_1 (.str [oq 7 (.mv (tq 1)),oq 8 (.mv (tq 0)),oq 9 (.bin .leq 3 (tq 7) (tq 8)),oq 10 (.mv (tq 9)),og 10 true 11 (.mv (tq 0)),og 10 true 12 (.mv (tq 2)),og 10 true 13 (.bin .leq 3 (tq 11) (tq 12)),oq 14 (.pick (tq 10) (tq 13) (cb false)),oq 6 (.mv (tq 14))]) (some ([0,1,2],[])):=rx
def r71_0:=rg Try.f71 2
def r71_1:=rg Try.f71 5
def c71:Code:=(.seq r71_0 (.seq r71_1 .ret))
theorem b71:Try.f71.body = some c71:=by kernel_rfl
@[simp] theorem x71_0:RX 5 r71_0 (.str [oq 2 (.mv (cb false))]) (some ([0],[])):=rx
@[simp] theorem x71_1:RX 5 r71_1 (.str [oq 3 (.mv (tq 0)),oq 4 (.call false none (.func 51) [tq 3,ci 0,ci 3]),oq 2 (.mv (tq 4))]) (some ([0,1],[1])):=rx
def r72_0:=rg Try.f72 2
def r72_1:=rg Try.f72 5
def c72:Code:=(.seq r72_0 (.seq r72_1 .ret))
theorem b72:Try.f72.body = some c72:=by kernel_rfl
@[simp] theorem x72_0:RX 5 r72_0 (.str [oq 2 (.mv (cb false))]) (some ([0],[])):=rx
@[simp] theorem x72_1:RX 5 r72_1 (.str [oq 3 (.mv (tq 0)),oq 4 (.call false none (.func 51) [tq 3,.const (.int .i64 (Int.negSucc 0)),ci 3]),oq 2 (.mv (tq 4))]) (some ([0,1],[1])):=rx
def r74_0:=rg Try.f74 2
def r74_1:=rg Try.f74 5
def r74_2:=rg Try.f74 11
def c74:Code:=(.seq r74_0 (.seq r74_1 (.seq r74_2 .ret)))
theorem b74:Try.f74.body = some c74:=by kernel_rfl
@[simp] theorem x74_0:RX 12 r74_0 (.str [oq 2 (.mv (cb false))]) (some ([0],[])):=rx
@[simp] theorem x74_1:RX 12 r74_1 (.str [oq 3 (.alloc 3),os (.sto 3 (tq 3) (.const (.int .i64 (Int.negSucc 0))))]) (some ([0],[])):=rx
@[simp] theorem x74_2:RX 12 r74_2 (.str [oq 4 (.mv (tq 0)),oq 5 (.oth (.call ⟨.builtin .len,#[tq 4],#[22]⟩)),oq 6 (.bin .gtr 3 (tq 5) (ci 0)),oq 7 (.mv (tq 6)),og 7 true 8 (.mv (tq 0)),og 7 true 9 (.oth (.makeFunc (.func 95) #[] #[tq 3])),og 7 true 10 (.call false none (.func 70) [tq 8,tq 9]),oq 11 (.pick (tq 7) (tq 10) (cb false)),oq 2 (.mv (tq 11))]) (some ([0,3],[3])):=rx
def r95_0:=rg Try.f95 2
def r95_1:=rg Try.f95 5
def r95_2:=rg Try.f95 11
def r95_3:=rg Try.f95 23
def c95:Code:=(.seq r95_0 (.seq r95_1 (.seq r95_2 (.seq r95_3 .ret))))
theorem b95:Try.f95.body = some c95:=by kernel_rfl
@[simp] theorem x95_0:RX 11 r95_0 (.str [oq 3 (.mv (cb false))]) (some ([0,1],[])):=rx
@[simp] theorem x95_1:RX 11 r95_1 (.str [oq 5 (.mv (tq 0)),oq 6 (.ld 3 (tq 1)),oq 7 (.bin .add 3 (tq 6) (ci 1)),oq 8 (.call false none (.func 51) [tq 5,tq 7,ci 3]),oq 4 (.mv (tq 8))]) (some ([0,1],[])):=rx
@[simp] theorem x95_2:RX 11 r95_2 (.str [oq 9 (.mv (tq 0)),os (.sto 3 (tq 1) (tq 9))]) (some ([0,1,4],[])):=rx
@[simp] theorem x95_3:RX 11 r95_3 (.str [oq 10 (.mv (tq 4)),oq 3 (.mv (tq 10))]) (some ([4],[])):=rx
def r60_0:=rg Try.f60 2
def r60_1:=rg Try.f60 5
def c60:Code:=(.seq r60_0 (.seq r60_1 .ret))
theorem b60:Try.f60.body = some c60:=by kernel_rfl
@[simp] theorem x60_0:RX 9 r60_0 (.str [oq 2 (.box (tq 0)),oq 4 (.mv (cb false))]) (some ([0,1],[2,3,4,5,7])):=rx
@[simp] theorem x60_1:RX 9 r60_1 (.str [oq 5 (.mv (tq 1)),oq 6 (.fa 40 (tq 2) 0),oq 7 (.ld 3 (tq 6)),oq 8 (.call false none (.func 51) [tq 5,ci 0,tq 7]),oq 4 (.mv (tq 8))]) (some ([0,1,2,3],[2,3])):=rx
def r59_0:=rg Try.f59 2
def r59_1:=rg Try.f59 5
def c59:Code:=(.seq r59_0 (.seq r59_1 .ret))
theorem b59:Try.f59.body = some c59:=by kernel_rfl
@[simp] theorem x59_0:RX 19 r59_0 (.str [oq 2 (.box (tq 0)),oq 3 (.box (tq 1)),oq 4 (.mv (cb false))]) (some ([0,1],[2])):=rx
@[simp] theorem x59_1:RX 19 r59_1 (.str [oq 5 (.fa 66 (tq 3) 0),oq 6 (.ld 3 (tq 5)),oq 7 (.fa 40 (tq 2) 1),oq 8 (.ld 3 (tq 7)),oq 9 (.bin .sub 3 (tq 8) (ci 1)),oq 10 (.call false none (.func 51) [tq 6,ci 0,tq 9]),oq 11 (.mv (tq 10)),og 11 true 12 (.fa 66 (tq 3) 1),og 11 true 13 (.ld 3 (tq 12)),og 11 true 14 (.fa 40 (tq 2) 2),og 11 true 15 (.ld 3 (tq 14)),og 11 true 16 (.bin .sub 3 (tq 15) (ci 1)),og 11 true 17 (.call false none (.func 51) [tq 13,ci 0,tq 16]),oq 18 (.pick (tq 11) (tq 17) (cb false)),oq 4 (.mv (tq 18))]) (some ([2,3],[2,3])):=rx
def r69_0:=rg Try.f69 2
def r69_1:=rg Try.f69 5
def c69:Code:=(.seq r69_0 (.seq r69_1 .ret))
theorem b69:Try.f69.body = some c69:=by kernel_rfl
@[simp] theorem x69_0:RX 14 r69_0 (.str [oq 2 (.box (tq 0)),oq 3 (.box (tq 1)),oq 4 (.mv (cb false))]) (some ([0,1],[2])):=rx
@[simp] theorem x69_1:RX 14 r69_1 (.str [oq 5 (.ld 40 (tq 2)),oq 6 (.fa 89 (tq 3) 0),oq 7 (.ld 3 (tq 6)),oq 8 (.call false none (.func 60) [tq 5,tq 7]),oq 9 (.mv (tq 8)),og 9 true 10 (.fa 89 (tq 3) 1),og 9 true 11 (.ld 3 (tq 10)),og 9 true 12 (.call false none (.func 71) [tq 11]),oq 13 (.pick (tq 9) (tq 12) (cb false)),oq 4 (.mv (tq 13))]) (some ([2,3],[2,3])):=rx
def r110_0:=rg Try.f110 2
def r110_1:=rg Try.f110 9
def r110_2:=rg Try.f110 69
def r110_3:=rg Try.f110 1125
def r110_4:=rg Try.f110 2661
def r110_5:=rg Try.f110 9829
def r110_6:=rg Try.f110 485
def r110_7:=rg Try.f110 11
def lb110_2:Code:=(.seq r110_2 (.seq (.cond (.tmp 9) .skip (.exit 0)) (.seq (.block 1 (.seq r110_3 (.seq r110_4 (.cond (.tmp 16) (.seq r110_5 .ret) .skip)))) r110_6)))
@[simp] theorem u110_2 (n:Nat) (st:XS):execA Try.prog ann kn n 19 lb110_2 st = execA Try.prog ann kn n 19 (.seq r110_2 (.seq (.cond (.tmp 9) .skip (.exit 0)) (.seq (.block 1 (.seq r110_3 (.seq r110_4 (.cond (.tmp 16) (.seq r110_5 .ret) .skip)))) r110_6))) st:=rfl
def c110:Code:=(.seq r110_0 (.seq (.seq r110_1 (.block 0 (.loop lb110_2))) (.seq r110_7 .ret)))
theorem b110:Try.f110.body = some c110:=by kernel_rfl
@[simp] theorem x110_0:RX 19 r110_0 (.str [oq 4 (.mv (ci 0))]) (some ([0,1],[])):=rx
@[simp] theorem x110_1:RX 19 r110_1 (.str [oq 6 (.mv (tq 0)),oq 7 (.oth (.call ⟨.builtin .len,#[tq 6],#[37]⟩)),oq 8 (.mv (ci 0))]) (some ([0,1],[])):=rx
@[simp] theorem x110_2:RX 19 r110_2 (.str [oq 9 (.bin .lss 3 (tq 8) (tq 7))]) (some ([0,1,7,8],[])):=rx
@[simp] theorem x110_3:RX 19 r110_3 (.str [oq 10 (.mv (tq 8)),oq 5 (.mv (tq 10))]) (some ([0,1,7,8],[])):=rx
@[simp] theorem x110_4:RX 19 r110_4 (.str [oq 11 (.mv (tq 1)),oq 12 (.mv (tq 0)),oq 13 (.mv (tq 5)),oq 14 (.oth (.indexAddr 37 (tq 12) (tq 13))),oq 15 (.ld 66 (tq 14)),oq 16 (.call false none (tq 11) [tq 15])]) (some ([0,1,5,7,8],[])):=rx
@[simp] theorem x110_5:RX 19 r110_5 (.str [oq 17 (.mv (tq 5)),oq 4 (.mv (tq 17))]) (some ([5],[])):=rx
@[simp] theorem x110_6:RX 19 r110_6 (.str [oq 18 (.bin .add 3 (tq 8) (ci 1)),oq 8 (.mv (tq 18))]) (some ([0,1,7,8],[])):=rx
@[simp] theorem x110_7:RX 19 r110_7 (.str [oq 4 (.mv (.const (.int .i64 (Int.negSucc 0))))]) (some ([],[])):=rx
@[simp] theorem l110_2:ann 19 (fstR lb110_2) = some ([0,1,7,8],[]):=by kernel_rfl
def r96_0:=rg Try.f96 2
def r96_1:=rg Try.f96 5
def c96:Code:=(.seq r96_0 (.seq r96_1 .ret))
theorem b96:Try.f96.body = some c96:=by kernel_rfl
@[simp] theorem x96_0:RX 9 r96_0 (.str [oq 4 (.mv (cb false))]) (some ([0,1],[])):=rx
@[simp] theorem x96_1:RX 9 r96_1 (.str [oq 5 (.mv (tq 0)),oq 6 (.mv (tq 1)),oq 7 (.call false none (.func 110) [tq 5,tq 6]),oq 8 (.bin .geq 3 (tq 7) (ci 0)),oq 4 (.mv (tq 8))]) (some ([0,1,2,3],[2,3])):=rx
def r75_0:=rg Try.f75 2
def r75_1:=rg Try.f75 5
def c75:Code:=(.seq r75_0 (.seq r75_1 .ret))
theorem b75:Try.f75.body = some c75:=by kernel_rfl
@[simp] theorem x75_0:RX 9 r75_0 (.str [oq 3 (.box (tq 1)),oq 4 (.mv (cb false))]) (some ([0,1],[3])):=rx
@[simp] theorem x75_1:RX 9 r75_1 (.str [oq 5 (.mv (tq 0)),oq 6 (.oth (.makeFunc (.func 97) #[] #[tq 3])),oq 7 (.call false none (.func 96) [tq 5,tq 6]),oq 8 (.oth (.unOp .not 4 (tq 7))),oq 4 (.mv (tq 8))]) (some ([0,1,2,3],[2,3])):=rx
def r97_0:=rg Try.f97 2
def r97_1:=rg Try.f97 5
def c97:Code:=(.seq r97_0 (.seq r97_1 .ret))
theorem b97:Try.f97.body = some c97:=by kernel_rfl
@[simp] theorem x97_0:RX 8 r97_0 (.str [oq 2 (.box (tq 0)),oq 3 (.mv (cb false))]) (some ([0,1],[])):=rx
@[simp] theorem x97_1:RX 8 r97_1 (.str [oq 4 (.ld 116 (tq 1)),oq 5 (.ld 66 (tq 2)),oq 6 (.call false none (tq 4) [tq 5]),oq 7 (.oth (.unOp .not 4 (tq 6))),oq 3 (.mv (tq 7))]) (some ([0,1,2],[2])):=rx
def r111_0:=rg Try.f111 2
def r111_1:=rg Try.f111 9
def r111_2:=rg Try.f111 69
def r111_3:=rg Try.f111 1125
def r111_4:=rg Try.f111 2661
def r111_5:=rg Try.f111 9829
def r111_6:=rg Try.f111 485
def r111_7:=rg Try.f111 11
def lb111_2:Code:=(.seq r111_2 (.seq (.cond (.tmp 9) .skip (.exit 0)) (.seq (.block 1 (.seq r111_3 (.seq r111_4 (.cond (.tmp 16) (.seq r111_5 .ret) .skip)))) r111_6)))
@[simp] theorem u111_2 (n:Nat) (st:XS):execA Try.prog ann kn n 19 lb111_2 st = execA Try.prog ann kn n 19 (.seq r111_2 (.seq (.cond (.tmp 9) .skip (.exit 0)) (.seq (.block 1 (.seq r111_3 (.seq r111_4 (.cond (.tmp 16) (.seq r111_5 .ret) .skip)))) r111_6))) st:=rfl
def c111:Code:=(.seq r111_0 (.seq (.seq r111_1 (.block 0 (.loop lb111_2))) (.seq r111_7 .ret)))
theorem b111:Try.f111.body = some c111:=by kernel_rfl
@[simp] theorem x111_0:RX 19 r111_0 (.str [oq 4 (.mv (ci 0))]) (some ([0,1],[])):=rx
@[simp] theorem x111_1:RX 19 r111_1 (.str [oq 6 (.mv (tq 0)),oq 7 (.oth (.call ⟨.builtin .len,#[tq 6],#[38]⟩)),oq 8 (.mv (ci 0))]) (some ([0,1],[])):=rx
@[simp] theorem x111_2:RX 19 r111_2 (.str [oq 9 (.bin .lss 3 (tq 8) (tq 7))]) (some ([0,1,7,8],[])):=rx
@[simp] theorem x111_3:RX 19 r111_3 (.str [oq 10 (.mv (tq 8)),oq 5 (.mv (tq 10))]) (some ([0,1,7,8],[])):=rx
@[simp] theorem x111_4:RX 19 r111_4 (.str [oq 11 (.mv (tq 1)),oq 12 (.mv (tq 0)),oq 13 (.mv (tq 5)),oq 14 (.oth (.indexAddr 38 (tq 12) (tq 13))),oq 15 (.ld 89 (tq 14)),oq 16 (.call false none (tq 11) [tq 15])]) (some ([0,1,5,7,8],[])):=rx
@[simp] theorem x111_5:RX 19 r111_5 (.str [oq 17 (.mv (tq 5)),oq 4 (.mv (tq 17))]) (some ([5],[])):=rx
@[simp] theorem x111_6:RX 19 r111_6 (.str [oq 18 (.bin .add 3 (tq 8) (ci 1)),oq 8 (.mv (tq 18))]) (some ([0,1,7,8],[])):=rx
@[simp] theorem x111_7:RX 19 r111_7 (.str [oq 4 (.mv (.const (.int .i64 (Int.negSucc 0))))]) (some ([],[])):=rx
@[simp] theorem l111_2:ann 19 (fstR lb111_2) = some ([0,1,7,8],[]):=by kernel_rfl
def r98_0:=rg Try.f98 2
def r98_1:=rg Try.f98 5
def c98:Code:=(.seq r98_0 (.seq r98_1 .ret))
theorem b98:Try.f98.body = some c98:=by kernel_rfl
@[simp] theorem x98_0:RX 9 r98_0 (.str [oq 4 (.mv (cb false))]) (some ([0,1],[])):=rx
@[simp] theorem x98_1:RX 9 r98_1 (.str [oq 5 (.mv (tq 0)),oq 6 (.mv (tq 1)),oq 7 (.call false none (.func 111) [tq 5,tq 6]),oq 8 (.bin .geq 3 (tq 7) (ci 0)),oq 4 (.mv (tq 8))]) (some ([0,1,2,3],[2,3])):=rx
def r76_0:=rg Try.f76 2
def r76_1:=rg Try.f76 5
def c76:Code:=(.seq r76_0 (.seq r76_1 .ret))
theorem b76:Try.f76.body = some c76:=by kernel_rfl
@[simp] theorem x76_0:RX 9 r76_0 (.str [oq 3 (.box (tq 1)),oq 4 (.mv (cb false))]) (some ([0,1],[3])):=rx
@[simp] theorem x76_1:RX 9 r76_1 (.str [oq 5 (.mv (tq 0)),oq 6 (.oth (.makeFunc (.func 99) #[] #[tq 3])),oq 7 (.call false none (.func 98) [tq 5,tq 6]),oq 8 (.oth (.unOp .not 4 (tq 7))),oq 4 (.mv (tq 8))]) (some ([0,1,2,3],[2,3])):=rx
def r99_0:=rg Try.f99 2
def r99_1:=rg Try.f99 5
def c99:Code:=(.seq r99_0 (.seq r99_1 .ret))
theorem b99:Try.f99.body = some c99:=by kernel_rfl
@[simp] theorem x99_0:RX 8 r99_0 (.str [oq 2 (.box (tq 0)),oq 3 (.mv (cb false))]) (some ([0,1],[])):=rx
@[simp] theorem x99_1:RX 8 r99_1 (.str [oq 4 (.ld 126 (tq 1)),oq 5 (.ld 89 (tq 2)),oq 6 (.call false none (tq 4) [tq 5]),oq 7 (.oth (.unOp .not 4 (tq 6))),oq 3 (.mv (tq 7))]) (some ([0,1,2],[2])):=rx
def r38_0:=rg Try.f38 2
def r38_1:=rg Try.f38 5
def r38_2:=rg Try.f38 35
def r38_3:=rg Try.f38 147
def r38_4:=rg Try.f38 179
def r38_5:=rg Try.f38 627
def r38_6:=rg Try.f38 755
def r38_7:=rg Try.f38 2547
def r38_8:=rg Try.f38 23
def c38:Code:=(.seq r38_0 (.seq r38_1 (.seq (.block 0 (.seq r38_2 (.cond (.tmp 9) (.seq r38_3 .ret) (.seq r38_4 (.cond (.tmp 35) (.seq r38_5 .ret) (.seq r38_6 (.cond (.tmp 81) (.seq r38_7 .ret) .skip))))))) (.seq r38_8 .ret))))
theorem b38:Try.f38.body = some c38:=by kernel_rfl
@[simp] theorem x38_0:RX 112 r38_0 (.str [oq 1 (.box (tq 0)),oq 2 (.mv (ci 0))]) (some ([0],[1])):=rx
@[simp] theorem x38_1:RX 112 r38_1 (.drw [⟨[],[oq 5 (.ld 40 (tq 1)),oq 6 (.oth (.makeFunc (.func 59) #[tq 5] #[])),oq 7 (.ld 40 (tq 1)),oq 8 (.oth (.makeFunc (.func 69) #[tq 7] #[])),oq 3 (.mv (tq 6)),oq 4 (.mv (tq 8))],[]⟩]) (some ([1],[1])):=rx
@[simp] theorem x38_2:RX 112 r38_2 (.str [oq 10 (.fa 40 (tq 1) 0),oq 11 (.ld 3 (tq 10)),oq 12 (.bin .gtr 3 (tq 11) (ci 4)),oq 13 (.mv (tq 12)),og 13 false 14 (.fa 40 (tq 1) 1),og 13 false 15 (.ld 3 (tq 14)),og 13 false 16 (.bin .gtr 3 (tq 15) (ci 3)),oq 17 (.pick (tq 13) (cb true) (tq 16)),oq 18 (.mv (tq 17)),og 18 false 19 (.fa 40 (tq 1) 2),og 18 false 20 (.ld 3 (tq 19)),og 18 false 21 (.bin .gtr 3 (tq 20) (ci 5)),oq 22 (.pick (tq 18) (cb true) (tq 21)),oq 23 (.mv (tq 22)),og 23 false 24 (.fa 40 (tq 1) 7),og 23 false 25 (.ld 37 (tq 24)),og 23 false 26 (.oth (.call ⟨.builtin .len,#[tq 25],#[37]⟩)),og 23 false 27 (.bin .gtr 3 (tq 26) (ci 4)),oq 28 (.pick (tq 23) (cb true) (tq 27)),oq 29 (.mv (tq 28)),og 29 false 30 (.fa 40 (tq 1) 8),og 29 false 31 (.ld 38 (tq 30)),og 29 false 32 (.oth (.call ⟨.builtin .len,#[tq 31],#[38]⟩)),og 29 false 33 (.bin .gtr 3 (tq 32) (ci 5)),oq 34 (.pick (tq 29) (cb true) (tq 33)),oq 9 (.mv (tq 34))]) (some ([1,3,4],[1])):=rx
@[simp] theorem x38_3:RX 112 r38_3 (.str [oq 2 (.mv (ci 3))]) (some ([],[])):=rx
@[simp] theorem x38_4:RX 112 r38_4 (.str [oq 36 (.fa 40 (tq 1) 0),oq 37 (.ld 3 (tq 36)),oq 38 (.bin .lss 3 (tq 37) (ci 0)),oq 39 (.mv (tq 38)),og 39 false 40 (.fa 40 (tq 1) 1),og 39 false 41 (.ld 3 (tq 40)),og 39 false 42 (.bin .lss 3 (tq 41) (ci 1)),oq 43 (.pick (tq 39) (cb true) (tq 42)),oq 44 (.mv (tq 43)),og 44 false 45 (.fa 40 (tq 1) 2),og 44 false 46 (.ld 3 (tq 45)),og 44 false 47 (.bin .lss 3 (tq 46) (ci 1)),oq 48 (.pick (tq 44) (cb true) (tq 47)),oq 49 (.mv (tq 48)),og 49 false 50 (.fa 40 (tq 1) 3),og 49 false 51 (.ld 3 (tq 50)),og 49 false 52 (.call false none (.func 51) [tq 51,ci 0,ci 4]),og 49 false 53 (.oth (.unOp .not 4 (tq 52))),oq 54 (.pick (tq 49) (cb true) (tq 53)),oq 55 (.mv (tq 54)),og 55 false 56 (.fa 40 (tq 1) 4),og 55 false 57 (.ld 22 (tq 56)),og 55 false 58 (.oth (.call ⟨.builtin .len,#[tq 57],#[22]⟩)),og 55 false 59 (.fa 40 (tq 1) 1),og 55 false 60 (.ld 3 (tq 59)),og 55 false 61 (.bin .neq 3 (tq 58) (tq 60)),oq 62 (.pick (tq 55) (cb true) (tq 61)),oq 63 (.mv (tq 62)),og 63 false 64 (.fa 40 (tq 1) 5),og 63 false 65 (.ld 22 (tq 64)),og 63 false 66 (.oth (.call ⟨.builtin .len,#[tq 65],#[22]⟩)),og 63 false 67 (.fa 40 (tq 1) 0),og 63 false 68 (.ld 3 (tq 67)),og 63 false 69 (.bin .add 3 (tq 68) (ci 1)),og 63 false 70 (.bin .neq 3 (tq 66) (tq 69)),oq 71 (.pick (tq 63) (cb true) (tq 70)),oq 72 (.mv (tq 71)),og 72 false 73 (.fa 40 (tq 1) 6),og 72 false 74 (.ld 23 (tq 73)),og 72 false 75 (.oth (.call ⟨.builtin .len,#[tq 74],#[23]⟩)),og 72 false 76 (.fa 40 (tq 1) 0),og 72 false 77 (.ld 3 (tq 76)),og 72 false 78 (.bin .add 3 (tq 77) (ci 1)),og 72 false 79 (.bin .neq 3 (tq 75) (tq 78)),oq 80 (.pick (tq 72) (cb true) (tq 79)),oq 35 (.mv (tq 80))]) (some ([1,3,4],[1])):=rx
@[simp] theorem x38_5:RX 112 r38_5 (.str [oq 2 (.mv (ci 1))]) (some ([],[])):=rx
@[simp] theorem x38_6:RX 112 r38_6 (.str [oq 82 (.fa 40 (tq 1) 4),oq 83 (.ld 22 (tq 82)),oq 84 (.call false none (.func 70) [tq 83,.func 71]),oq 85 (.oth (.unOp .not 4 (tq 84))),oq 86 (.mv (tq 85)),og 86 false 87 (.fa 40 (tq 1) 5),og 86 false 88 (.ld 22 (tq 87)),og 86 false 89 (.call false none (.func 70) [tq 88,.func 72]),og 86 false 90 (.oth (.unOp .not 4 (tq 89))),oq 91 (.pick (tq 86) (cb true) (tq 90)),oq 92 (.mv (tq 91)),og 92 false 93 (.fa 40 (tq 1) 6),og 92 false 94 (.ld 23 (tq 93)),og 92 false 95 (.call false none (.func 73) [tq 94,.func 74]),og 92 false 96 (.oth (.unOp .not 4 (tq 95))),oq 97 (.pick (tq 92) (cb true) (tq 96)),oq 98 (.mv (tq 97)),og 98 false 99 (.fa 40 (tq 1) 7),og 98 false 100 (.ld 37 (tq 99)),og 98 false 101 (.mv (tq 3)),og 98 false 102 (.call false none (.func 75) [tq 100,tq 101]),og 98 false 103 (.oth (.unOp .not 4 (tq 102))),oq 104 (.pick (tq 98) (cb true) (tq 103)),oq 105 (.mv (tq 104)),og 105 false 106 (.fa 40 (tq 1) 8),og 105 false 107 (.ld 38 (tq 106)),og 105 false 108 (.mv (tq 4)),og 105 false 109 (.call false none (.func 76) [tq 107,tq 108]),og 105 false 110 (.oth (.unOp .not 4 (tq 109))),oq 111 (.pick (tq 105) (cb true) (tq 110)),oq 81 (.mv (tq 111))]) (some ([1,3,4],[1])):=rx
@[simp] theorem x38_7:RX 112 r38_7 (.str [oq 2 (.mv (ci 1))]) (some ([],[])):=rx
@[simp] theorem x38_8:RX 112 r38_8 (.str [oq 2 (.mv (ci 0))]) (some ([],[])):=rx
def r45_0:=rg Try.f45 2
def r45_1:=rg Try.f45 5
def c45:Code:=(.seq r45_0 (.seq r45_1 .ret))
theorem b45:Try.f45.body = some c45:=by kernel_rfl
@[simp] theorem x45_0:RX 16 r45_0 (.str [oq 2 (.box (tq 0)),oq 4 (.mv (cb false))]) (some ([0,1],[2])):=rx
@[simp] theorem x45_1:RX 16 r45_1 (.str [oq 5 (.mv (tq 1)),oq 6 (.oth (.call ⟨.builtin .len,#[tq 5],#[23]⟩)),oq 7 (.fa 40 (tq 2) 0),oq 8 (.ld 3 (tq 7)),oq 9 (.bin .add 3 (tq 8) (ci 1)),oq 10 (.bin .eql 3 (tq 6) (tq 9)),oq 11 (.mv (tq 10)),og 11 true 12 (.mv (tq 1)),og 11 true 13 (.oth (.makeFunc (.func 81) #[] #[tq 2])),og 11 true 14 (.call false none (.func 73) [tq 12,tq 13]),oq 15 (.pick (tq 11) (tq 14) (cb false)),oq 4 (.mv (tq 15))]) (some ([1,2],[2])):=rx
def r81_0:=rg Try.f81 2
def r81_1:=rg Try.f81 5
def c81:Code:=(.seq r81_0 (.seq r81_1 .ret))
theorem b81:Try.f81.body = some c81:=by kernel_rfl
@[simp] theorem x81_0:RX 13 r81_0 (.str [oq 3 (.mv (cb false))]) (some ([0,1,2],[3,4,5,9])):=rx
@[simp] theorem x81_1:RX 13 r81_1 (.str [oq 4 (.mv (tq 0)),oq 5 (.oth (.call ⟨.builtin .len,#[tq 4],#[22]⟩)),oq 6 (.fa 40 (tq 1) 1),oq 7 (.ld 3 (tq 6)),oq 8 (.bin .eql 3 (tq 5) (tq 7)),oq 9 (.mv (tq 8)),og 9 true 10 (.mv (tq 0)),og 9 true 11 (.call false none (.func 70) [tq 10,.func 71]),oq 12 (.pick (tq 9) (tq 11) (cb false)),oq 3 (.mv (tq 12))]) (some ([0,1],[])):=rx
def r88_0:=rg Try.f88 2
def r88_1:=rg Try.f88 5
def c88:Code:=(.seq r88_0 (.seq r88_1 .ret))
theorem b88:Try.f88.body = some c88:=by kernel_rfl
@[simp] theorem x88_0:RX 6 r88_0 (.str [oq 2 (.mv (ci 0))]) (some ([0,1],[])):=rx
@[simp] theorem x88_1:RX 6 r88_1 (.str [oq 3 (.mv (tq 0)),oq 4 (.bin .add 3 (tq 3) (ci 2)),oq 5 (.bin .rem 3 (tq 4) (ci 4)),oq 2 (.mv (tq 5))]) (some ([0,1],[])):=rx
def r89_0:=rg Try.f89 2
def r89_1:=rg Try.f89 5
def c89:Code:=(.seq r89_0 (.seq r89_1 .ret))
theorem b89:Try.f89.body = some c89:=by kernel_rfl
@[simp] theorem x89_0:RX 11 r89_0 (.str [oq 3 (.box (tq 0)),oq 4 (.box (tq 1)),oq 5 (.box (tq 2)),oq 6 (.mv (cb false))]) (some ([0,1,2],[3,4,5])):=rx
@[simp] theorem x89_1:RX 11 r89_1 (.str [oq 7 (.fa 40 (tq 3) 7),oq 8 (.ld 37 (tq 7)),oq 9 (.oth (.makeFunc (.func 107) #[] #[tq 5,tq 4,tq 3])),oq 10 (.call false none (.func 96) [tq 8,tq 9]),oq 6 (.mv (tq 10))]) (some ([3,4,5],[3,4,5])):=rx
def r107_0:=rg Try.f107 2
def r107_1:=rg Try.f107 5
def r107_2:=rg Try.f107 35
def r107_3:=rg Try.f107 83
def r107_4:=rg Try.f107 179
def r107_5:=rg Try.f107 371
def r107_6:=rg Try.f107 755
def r107_7:=rg Try.f107 1523
def r107_8:=rg Try.f107 3059
def r107_9:=rg Try.f107 6131
def r107_10:=rg Try.f107 23
def c107:Code:=(.seq r107_0 (.seq r107_1 (.seq (.block 0 (.seq r107_2 (.cond (.tmp 7) r107_3 (.seq r107_4 (.cond (.tmp 22) r107_5 (.seq r107_6 (.cond (.tmp 37) r107_7 (.seq r107_8 (.cond (.tmp 52) r107_9 .skip))))))))) (.seq r107_10 .ret))))
theorem b107:Try.f107.body = some c107:=by kernel_rfl
@[simp] theorem x107_0:RX 71 r107_0 (.str [oq 4 (.box (tq 0)),oq 5 (.mv (cb false))]) (some ([0,1,2,3],[])):=rx
@[simp] theorem x107_1:RX 71 r107_1 (.str [oq 6 (.mv (ci 0))]) (some ([1,2,3,4],[4])):=rx
@[simp] theorem x107_2:RX 71 r107_2 (.str [oq 8 (.ld 3 (tq 1)),oq 9 (.bin .eql 3 (tq 8) (ci 0)),oq 10 (.mv (tq 9)),og 10 true 11 (.fa 66 (tq 4) 1),og 10 true 12 (.ld 3 (tq 11)),og 10 true 13 (.fa 66 (tq 2) 1),og 10 true 14 (.ld 3 (tq 13)),og 10 true 15 (.bin .eql 3 (tq 12) (tq 14)),oq 16 (.pick (tq 10) (tq 15) (cb false)),oq 7 (.mv (tq 16))]) (some ([1,2,3,4,6],[4])):=rx
@[simp] theorem x107_3:RX 71 r107_3 (.str [oq 17 (.fa 66 (tq 2) 0),oq 18 (.ld 3 (tq 17)),oq 19 (.fa 66 (tq 4) 0),oq 20 (.ld 3 (tq 19)),oq 21 (.bin .sub 3 (tq 18) (tq 20)),oq 6 (.mv (tq 21))]) (some ([2,3,4],[4])):=rx
@[simp] theorem x107_4:RX 71 r107_4 (.str [oq 23 (.ld 3 (tq 1)),oq 24 (.bin .eql 3 (tq 23) (ci 2)),oq 25 (.mv (tq 24)),og 25 true 26 (.fa 66 (tq 4) 1),og 25 true 27 (.ld 3 (tq 26)),og 25 true 28 (.fa 66 (tq 2) 1),og 25 true 29 (.ld 3 (tq 28)),og 25 true 30 (.bin .eql 3 (tq 27) (tq 29)),oq 31 (.pick (tq 25) (tq 30) (cb false)),oq 22 (.mv (tq 31))]) (some ([1,2,3,4,6],[4])):=rx
@[simp] theorem x107_5:RX 71 r107_5 (.str [oq 32 (.fa 66 (tq 4) 0),oq 33 (.ld 3 (tq 32)),oq 34 (.fa 66 (tq 2) 0),oq 35 (.ld 3 (tq 34)),oq 36 (.bin .sub 3 (tq 33) (tq 35)),oq 6 (.mv (tq 36))]) (some ([2,3,4],[4])):=rx
@[simp] theorem x107_6:RX 71 r107_6 (.str [oq 38 (.ld 3 (tq 1)),oq 39 (.bin .eql 3 (tq 38) (ci 3)),oq 40 (.mv (tq 39)),og 40 true 41 (.fa 66 (tq 4) 0),og 40 true 42 (.ld 3 (tq 41)),og 40 true 43 (.fa 66 (tq 2) 0),og 40 true 44 (.ld 3 (tq 43)),og 40 true 45 (.bin .eql 3 (tq 42) (tq 44)),oq 46 (.pick (tq 40) (tq 45) (cb false)),oq 37 (.mv (tq 46))]) (some ([1,2,3,4,6],[4])):=rx
@[simp] theorem x107_7:RX 71 r107_7 (.str [oq 47 (.fa 66 (tq 2) 1),oq 48 (.ld 3 (tq 47)),oq 49 (.fa 66 (tq 4) 1),oq 50 (.ld 3 (tq 49)),oq 51 (.bin .sub 3 (tq 48) (tq 50)),oq 6 (.mv (tq 51))]) (some ([2,3,4],[4])):=rx
@[simp] theorem x107_8:RX 71 r107_8 (.str [oq 53 (.ld 3 (tq 1)),oq 54 (.bin .eql 3 (tq 53) (ci 1)),oq 55 (.mv (tq 54)),og 55 true 56 (.fa 66 (tq 4) 0),og 55 true 57 (.ld 3 (tq 56)),og 55 true 58 (.fa 66 (tq 2) 0),og 55 true 59 (.ld 3 (tq 58)),og 55 true 60 (.bin .eql 3 (tq 57) (tq 59)),oq 61 (.pick (tq 55) (tq 60) (cb false)),oq 52 (.mv (tq 61))]) (some ([1,2,3,4,6],[4])):=rx
@[simp] theorem x107_9:RX 71 r107_9 (.str [oq 62 (.fa 66 (tq 4) 1),oq 63 (.ld 3 (tq 62)),oq 64 (.fa 66 (tq 2) 1),oq 65 (.ld 3 (tq 64)),oq 66 (.bin .sub 3 (tq 63) (tq 65)),oq 6 (.mv (tq 66))]) (some ([2,3,4],[4])):=rx
@[simp] theorem x107_10:RX 71 r107_10 (.str [oq 67 (.mv (tq 6)),oq 68 (.fa 40 (tq 3) 3),oq 69 (.ld 3 (tq 68)),oq 70 (.call false none (.func 51) [tq 67,ci 1,tq 69]),oq 5 (.mv (tq 70))]) (some ([3,6],[])):=rx
def r61_0:=rg Try.f61 2
def r61_1:=rg Try.f61 5
def c61:Code:=(.seq r61_0 (.seq r61_1 .ret))
theorem b61:Try.f61.body = some c61:=by kernel_rfl
@[simp] theorem x61_0:RX 19 r61_0 (.str [oq 4 (.box (tq 0)),oq 5 (.box (tq 1)),oq 8 (.mv (cb false))]) (some ([0,1,2,3],[4])):=rx
@[simp] theorem x61_1:RX 19 r61_1 (.str [oq 9 (.mv (tq 2)),oq 10 (.mv (tq 3)),oq 11 (.call false none (.func 88) [tq 10]),oq 12 (.bin .eql 3 (tq 9) (tq 11)),oq 13 (.mv (tq 12)),og 13 false 14 (.ld 40 (tq 4)),og 13 false 15 (.ld 66 (tq 5)),og 13 false 16 (.mv (tq 3)),og 13 false 17 (.call false none (.func 89) [tq 14,tq 15,tq 16]),oq 18 (.pick (tq 13) (cb true) (tq 17)),oq 8 (.mv (tq 18))]) (some ([2,3,4,5],[4,5])):=rx
def r63_0:=rg Try.f63 2
def r63_1:=rg Try.f63 5
def r63_2:=rg Try.f63 19
def r63_3:=rg Try.f63 43
def r63_4:=rg Try.f63 39
def r63_5:=rg Try.f63 87
def r63_6:=rg Try.f63 47
def r63_7:=rg Try.f63 95
def c63:Code:=(.seq r63_0 (.seq r63_1 (.seq (.seq r63_2 (.cond (.tmp 25) r63_3 .skip)) (.seq (.seq r63_4 (.cond (.tmp 27) r63_5 .skip)) (.seq r63_6 (.seq r63_7 .ret))))))
theorem b63:Try.f63.body = some c63:=by kernel_rfl
@[simp] theorem x63_0:RX 36 r63_0 (.str [oq 5 (.box (tq 0)),oq 6 (.box (tq 1)),oq 10 (.alloc 58)]) (some ([0,1,2,3,4],[5])):=rx
@[simp] theorem x63_1:RX 36 r63_1 (.drw [⟨[],[oq 13 (.fa 40 (tq 5) 5),oq 14 (.ld 22 (tq 13)),oq 15 (.mv (tq 2)),oq 16 (.oth (.indexAddr 22 (tq 14) (tq 15))),oq 17 (.ld 3 (tq 16)),oq 18 (.mv (tq 3)),oq 19 (.bin .eql 3 (tq 17) (tq 18)),oq 20 (.ld 40 (tq 5)),oq 21 (.ld 66 (tq 6)),oq 22 (.mv (tq 3)),oq 23 (.mv (tq 4)),oq 24 (.call false none (.func 61) [tq 20,tq 21,tq 22,tq 23]),oq 11 (.mv (tq 19)),oq 12 (.mv (tq 24))],[]⟩]) (some ([2,3,4,5,6,10],[5,6,10])):=rx
@[simp] theorem x63_2:RX 36 r63_2 (.str [oq 25 (.mv (tq 11))]) (some ([10,11,12],[10])):=rx
@[simp] theorem x63_3:RX 36 r63_3 (.str [oq 26 (.fa 58 (tq 10) 0),os (.sto 3 (tq 26) (ci 1))]) (some ([10,12],[10])):=rx
@[simp] theorem x63_4:RX 36 r63_4 (.str [oq 27 (.mv (tq 12))]) (some ([10,12],[10])):=rx
@[simp] theorem x63_5:RX 36 r63_5 (.str [oq 28 (.fa 58 (tq 10) 1),os (.sto 3 (tq 28) (ci 1))]) (some ([10],[10])):=rx
@[simp] theorem x63_6:RX 36 r63_6 (.str [oq 29 (.fa 58 (tq 10) 0),oq 30 (.ld 3 (tq 29)),oq 31 (.fa 58 (tq 10) 1),oq 32 (.ld 3 (tq 31)),oq 33 (.bin .mul 3 (tq 30) (tq 32)),oq 34 (.fa 58 (tq 10) 2),os (.sto 3 (tq 34) (tq 33))]) (some ([10],[10])):=rx
@[simp] theorem x63_7:RX 36 r63_7 (.str [oq 35 (.ld 58 (tq 10)),os (.sto 58 (tq 10) (tq 35))]) (some ([10],[10])):=rx
def r18_0:=rg Try.f18 2
def r18_1:=rg Try.f18 5
def r18_2:=rg Try.f18 19
def r18_3:=rg Try.f18 267
def r18_5:=rg Try.f18 1099
def r18_6:=rg Try.f18 1611
def r18_4:=rg Try.f18 459
def r18_7:=rg Try.f18 23
def lb18_3:Code:=(.seq (.seq r18_3 (.cond (.tmp 12) .skip (.exit 0))) (.seq (.block 1 (.seq r18_5 r18_6)) r18_4))
@[simp] theorem u18_3 (n:Nat) (st:XS):execA Try.prog ann kn n 35 lb18_3 st = execA Try.prog ann kn n 35 (.seq (.seq r18_3 (.cond (.tmp 12) .skip (.exit 0))) (.seq (.block 1 (.seq r18_5 r18_6)) r18_4)) st:=rfl
def c18:Code:=(.seq r18_0 (.seq r18_1 (.seq (.seq r18_2 (.block 0 (.loop lb18_3))) (.seq r18_7 .ret))))
@[simp] theorem x18_0:RX 35 r18_0 (.str [oq 2 (.box (tq 0)),oq 4 (.mv (.const (.slice none 0 0)))]) (some ([0,1],[2])):=rx
@[simp] theorem x18_1:RX 35 r18_1 (.str [oq 5 (.mv (.const (.slice none 0 0)))]) (some ([1,2],[2])):=rx
@[simp] theorem x18_2:RX 35 r18_2 (.str [oq 6 (.mv (ci 0))]) (some ([1,2,5],[2,29])):=rx
@[simp] theorem x18_3:RX 35 r18_3 (.str [oq 8 (.mv (tq 6)),oq 9 (.fa 27 (tq 2) 6),oq 10 (.ld 23 (tq 9)),oq 11 (.oth (.call ⟨.builtin .len,#[tq 10],#[23]⟩)),oq 12 (.bin .lss 3 (tq 8) (tq 11))]) (some ([1,2,5,6],[2,29])):=rx
@[simp] theorem x18_5:RX 35 r18_5 (.str [oq 15 (.fa 27 (tq 2) 6),oq 16 (.ld 23 (tq 15)),oq 17 (.mv (tq 6)),oq 18 (.oth (.indexAddr 23 (tq 16) (tq 17))),oq 19 (.ld 22 (tq 18)),oq 7 (.mv (tq 19))]) (some ([1,2,5,6],[2,29])):=rx
@[simp] theorem x18_6:RX 35 r18_6 (.drw [⟨[],[oq 20 (.mv (tq 5)),oq 21 (.mv (tq 7)),oq 22 (.mv (tq 1)),oq 23 (.mv (tq 7)),oq 24 (.oth (.call ⟨.builtin .len,#[tq 23],#[22]⟩)),oq 25 (.bin .rem 3 (tq 22) (tq 24)),oq 26 (.oth (.indexAddr 22 (tq 21) (tq 25))),oq 27 (.ld 3 (tq 26)),oq 28 (.buildS 22 1 [(0,tq 27)]),oq 30 (.mv (tq 1)),oq 31 (.mv (tq 7)),oq 32 (.oth (.call ⟨.builtin .len,#[tq 31],#[22]⟩)),oq 33 (.bin .quo 3 (tq 30) (tq 32)),oq 29 (.app [tq 20,tq 28] [22,22]),oq 5 (.mv (tq 29)),oq 1 (.mv (tq 33))],[]⟩]) (some ([1,2,5,6,7],[2,29])):=rx
@[simp] theorem x18_4:RX 35 r18_4 (.str [oq 13 (.mv (tq 6)),oq 14 (.bin .add 3 (tq 13) (ci 1)),oq 6 (.mv (tq 14))]) (some ([1,2,5,6],[2,29])):=rx
@[simp] theorem x18_7:RX 35 r18_7 (.str [oq 34 (.mv (tq 5)),oq 4 (.mv (tq 34))]) (some ([5],[29])):=rx
@[simp] theorem l18_3:ann 35 (fstR lb18_3) = some ([1,2,5,6],[2,29]):=by kernel_rfl
def r42_0:=rg Try.f42 2
def r42_1:=rg Try.f42 9
def r42_2:=rg Try.f42 37
def r42_3:=rg Try.f42 11
def c42:Code:=(.seq r42_0 (.seq (.seq r42_1 (.cond (.tmp 7) (.seq r42_2 .ret) .skip)) (.seq r42_3 .ret)))
theorem b42:Try.f42.body = some c42:=by kernel_rfl
@[simp] theorem x42_0:RX 16 r42_0 (.str [oq 4 (.mv (ci 0))]) (some ([0,1],[])):=rx
@[simp] theorem x42_1:RX 16 r42_1 (.str [oq 5 (.mv (tq 0)),oq 6 (.oth (.call ⟨.builtin .len,#[tq 5],#[28]⟩)),oq 7 (.bin .eql 3 (tq 6) (ci 0))]) (some ([0,1],[])):=rx
@[simp] theorem x42_2:RX 16 r42_2 (.str [oq 4 (.mv (ci 0))]) (some ([],[])):=rx
@[simp] theorem x42_3:RX 16 r42_3 (.str [oq 8 (.mv (tq 0)),oq 9 (.mv (tq 1)),oq 10 (.mv (tq 0)),oq 11 (.oth (.call ⟨.builtin .len,#[tq 10],#[28]⟩)),oq 12 (.bin .rem 3 (tq 9) (tq 11)),oq 13 (.oth (.indexAddr 28 (tq 8) (tq 12))),oq 14 (.ld 46 (tq 13)),oq 15 (.oth (.convert 46 3 (tq 14))),oq 4 (.mv (tq 15))]) (some ([0,1],[])):=rx
def r12_0:=rg Try.f12 2
def r12_1:=rg Try.f12 5
def r12_2:=rg Try.f12 19
def r12_3:=rg Try.f12 267
def r12_5:=rg Try.f12 1099
def r12_6:=rg Try.f12 4683
def r12_7:=rg Try.f12 68171
def r12_9:=rg Try.f12 281163
def r12_10:=rg Try.f12 412235
def r12_8:=rg Try.f12 117323
def r12_11:=rg Try.f12 3659
def r12_4:=rg Try.f12 459
def r12_12:=rg Try.f12 23
def lb12_7:Code:=(.seq (.seq r12_7 (.cond (.tmp 19) .skip (.exit 2))) (.seq (.block 3 (.seq r12_9 r12_10)) r12_8))
@[simp] theorem u12_7 (n:Nat) (st:XS):execA Try.prog ann kn n 39 lb12_7 st = execA Try.prog ann kn n 39 (.seq (.seq r12_7 (.cond (.tmp 19) .skip (.exit 2))) (.seq (.block 3 (.seq r12_9 r12_10)) r12_8)) st:=rfl
def lb12_3:Code:=(.seq (.seq r12_3 (.cond (.tmp 13) .skip (.exit 0))) (.seq (.block 1 (.seq r12_5 (.seq (.seq r12_6 (.block 2 (.loop lb12_7))) r12_11))) r12_4))
@[simp] theorem u12_3 (n:Nat) (st:XS):execA Try.prog ann kn n 39 lb12_3 st = execA Try.prog ann kn n 39 (.seq (.seq r12_3 (.cond (.tmp 13) .skip (.exit 0))) (.seq (.block 1 (.seq r12_5 (.seq (.seq r12_6 (.block 2 (.loop lb12_7))) r12_11))) r12_4)) st:=rfl
def c12:Code:=(.seq r12_0 (.seq r12_1 (.seq (.seq r12_2 (.block 0 (.loop lb12_3))) (.seq r12_12 .ret))))
theorem b12:Try.f12.body = some c12:=by kernel_rfl
@[simp] theorem x12_0:RX 39 r12_0 (.str [oq 2 (.box (tq 0)),oq 4 (.mv (.const (.slice none 0 0)))]) (some ([0,1],[2])):=rx
@[simp] theorem x12_1:RX 39 r12_1 (.str [oq 5 (.mv (.const (.slice none 0 0)))]) (some ([1,2],[2])):=rx
@[simp] theorem x12_2:RX 39 r12_2 (.str [oq 6 (.mv (ci 0))]) (some ([1,2,5],[2,37])):=rx
@[simp] theorem x12_3:RX 39 r12_3 (.str [oq 10 (.mv (tq 6)),oq 11 (.fa 27 (tq 2) 0),oq 12 (.ld 3 (tq 11)),oq 13 (.bin .leq 3 (tq 10) (tq 12))]) (some ([1,2,5,6],[2,37])):=rx
@[simp] theorem x12_5:RX 39 r12_5 (.str [oq 7 (.mv (.const (.slice none 0 0)))]) (some ([1,2,5,6],[2,37])):=rx
@[simp] theorem x12_6:RX 39 r12_6 (.str [oq 8 (.mv (ci 0))]) (some ([1,2,5,6,7],[2,33,37])):=rx
@[simp] theorem x12_7:RX 39 r12_7 (.str [oq 16 (.mv (tq 8)),oq 17 (.fa 27 (tq 2) 1),oq 18 (.ld 3 (tq 17)),oq 19 (.bin .lss 3 (tq 16) (tq 18))]) (some ([1,2,5,6,7,8],[2,33,37])):=rx
@[simp] theorem x12_9:RX 39 r12_9 (.str [oq 22 (.mv (tq 1)),oq 23 (.mv (tq 6)),oq 24 (.call false none (.func 42) [tq 22,tq 23]),oq 9 (.mv (tq 24))]) (some ([1,2,5,6,7,8],[2,33,37])):=rx
@[simp] theorem x12_10:RX 39 r12_10 (.str [oq 25 (.mv (tq 7)),oq 26 (.mv (tq 9)),oq 27 (.mv (tq 8)),oq 28 (.bin .mul 3 (ci 2) (tq 27)),oq 29 (.oth (.convert 3 77 (tq 28))),oq 30 (.bin .shr 3 (tq 26) (tq 29)),oq 31 (.bin .rem 3 (tq 30) (ci 4)),oq 32 (.buildS 22 1 [(0,tq 31)]),oq 33 (.app [tq 25,tq 32] [22,22]),oq 7 (.mv (tq 33))]) (some ([1,2,5,6,7,8,9],[2,33,37])):=rx
@[simp] theorem x12_8:RX 39 r12_8 (.str [oq 20 (.mv (tq 8)),oq 21 (.bin .add 3 (tq 20) (ci 1)),oq 8 (.mv (tq 21))]) (some ([1,2,5,6,7,8],[2,33,37])):=rx
@[simp] theorem x12_11 (n:Nat) (st:XS):execA Try.prog ann kn (n + 1) 39 r12_11 st = toN (runR Try.prog (envA Try.prog ann kn n) (.str [oq 34 (.mv (tq 5)),oq 35 (.mv (tq 7)),oq 36 (.buildS 23 1 [(0,tq 35)]),oq 37 (.app [tq 34,tq 36] [23,23]),oq 5 (.mv (tq 37))]) (trimO (some ([1,2,5,6,7],[2,33,37])) (ghO [33] st))) :=
 exec_regT (by kernel_rfl) (by kernel_rfl) (by kernel_rfl) (by kernel_rfl) (by kernel_rfl)
@[simp] theorem x12_4:RX 39 r12_4 (.str [oq 14 (.mv (tq 6)),oq 15 (.bin .add 3 (tq 14) (ci 1)),oq 6 (.mv (tq 15))]) (some ([1,2,5,6],[2,37])):=rx
@[simp] theorem x12_12:RX 39 r12_12 (.str [oq 38 (.mv (tq 5)),oq 4 (.mv (tq 38))]) (some ([5],[37])):=rx
@[simp] theorem l12_3:ann 39 (fstR lb12_3) = some ([1,2,5,6],[2,37]):=by kernel_rfl
@[simp] theorem l12_7:ann 39 (fstR lb12_7) = some ([1,2,5,6,7,8],[2,33,37]):=by kernel_rfl
def r104_0:=rg Try.f104 2
def r104_1:=rg Try.f104 9
def r104_2:=rg Try.f104 69
def r104_3:=rg Try.f104 1125
def r104_4:=rg Try.f104 2661
def r104_5:=rg Try.f104 9829
def r104_6:=rg Try.f104 485
def r104_7:=rg Try.f104 11
def lb104_2:Code:=(.seq r104_2 (.seq (.cond (.tmp 9) .skip (.exit 0)) (.seq (.block 1 (.seq r104_3 (.seq r104_4 (.cond (.tmp 16) (.seq r104_5 .ret) .skip)))) r104_6)))
@[simp] theorem u104_2 (n:Nat) (st:XS):execA Try.prog ann kn n 19 lb104_2 st = execA Try.prog ann kn n 19 (.seq r104_2 (.seq (.cond (.tmp 9) .skip (.exit 0)) (.seq (.block 1 (.seq r104_3 (.seq r104_4 (.cond (.tmp 16) (.seq r104_5 .ret) .skip)))) r104_6))) st:=rfl
def c104:Code:=(.seq r104_0 (.seq (.seq r104_1 (.block 0 (.loop lb104_2))) (.seq r104_7 .ret)))
theorem b104:Try.f104.body = some c104:=by kernel_rfl
@[simp] theorem x104_0:RX 19 r104_0 (.str [oq 4 (.mv (ci 0))]) (some ([0,1],[])):=rx
@[simp] theorem x104_1:RX 19 r104_1 (.str [oq 6 (.mv (tq 0)),oq 7 (.oth (.call ⟨.builtin .len,#[tq 6],#[22]⟩)),oq 8 (.mv (ci 0))]) (some ([0,1],[])):=rx
@[simp] theorem x104_2:RX 19 r104_2 (.str [oq 9 (.bin .lss 3 (tq 8) (tq 7))]) (some ([0,1,7,8],[])):=rx
@[simp] theorem x104_3:RX 19 r104_3 (.str [oq 10 (.mv (tq 8)),oq 5 (.mv (tq 10))]) (some ([0,1,7,8],[])):=rx
@[simp] theorem x104_4:RX 19 r104_4 (.str [oq 11 (.mv (tq 1)),oq 12 (.mv (tq 0)),oq 13 (.mv (tq 5)),oq 14 (.oth (.indexAddr 22 (tq 12) (tq 13))),oq 15 (.ld 3 (tq 14)),oq 16 (.bin .eql 3 (tq 11) (tq 15))]) (some ([0,1,5,7,8],[])):=rx
@[simp] theorem x104_5:RX 19 r104_5 (.str [oq 17 (.mv (tq 5)),oq 4 (.mv (tq 17))]) (some ([5],[])):=rx
@[simp] theorem x104_6:RX 19 r104_6 (.str [oq 18 (.bin .add 3 (tq 8) (ci 1)),oq 8 (.mv (tq 18))]) (some ([0,1,7,8],[])):=rx
@[simp] theorem x104_7:RX 19 r104_7 (.str [oq 4 (.mv (.const (.int .i64 (Int.negSucc 0))))]) (some ([],[])):=rx
@[simp] theorem l104_2:ann 19 (fstR lb104_2) = some ([0,1,7,8],[]):=by kernel_rfl
def r80_0:=rg Try.f80 2
def r80_1:=rg Try.f80 5
def c80:Code:=(.seq r80_0 (.seq r80_1 .ret))
theorem b80:Try.f80.body = some c80:=by kernel_rfl
@[simp] theorem x80_0:RX 9 r80_0 (.str [oq 4 (.mv (cb false))]) (some ([0,1],[])):=rx
@[simp] theorem x80_1:RX 9 r80_1 (.str [oq 5 (.mv (tq 0)),oq 6 (.mv (tq 1)),oq 7 (.call false none (.func 104) [tq 5,tq 6]),oq 8 (.bin .geq 3 (tq 7) (ci 0)),oq 4 (.mv (tq 8))]) (some ([0,1,2,3],[2,3])):=rx
def r48_0:=rg Try.f48 2
def r48_1:=rg Try.f48 9
def r48_2:=rg Try.f48 37
def r48_3:=rg Try.f48 19
def r48_4:=rg Try.f48 139
def r48_5:=rg Try.f48 2251
def r48_6:=rg Try.f48 5323
def r48_7:=rg Try.f48 19659
def r48_8:=rg Try.f48 971
def r48_9:=rg Try.f48 23
def lb48_4:Code:=(.seq r48_4 (.seq (.cond (.tmp 16) .skip (.exit 0)) (.seq (.block 1 (.seq r48_5 (.seq r48_6 (.cond (.tmp 27) (.seq r48_7 .ret) .skip)))) r48_8)))
@[simp] theorem u48_4 (n:Nat) (st:XS):execA Try.prog ann kn n 29 lb48_4 st = execA Try.prog ann kn n 29 (.seq r48_4 (.seq (.cond (.tmp 16) .skip (.exit 0)) (.seq (.block 1 (.seq r48_5 (.seq r48_6 (.cond (.tmp 27) (.seq r48_7 .ret) .skip)))) r48_8))) st:=rfl
def c48:Code:=(.seq r48_0 (.seq (.seq r48_1 (.cond (.tmp 12) (.seq r48_2 .ret) .skip)) (.seq (.seq r48_3 (.block 0 (.loop lb48_4))) (.seq r48_9 .ret))))
@[simp] theorem x48_0:RX 29 r48_0 (.str [oq 2 (.box (tq 0)),oq 4 (.mv (cb false))]) (some ([0,1],[2])):=rx
@[simp] theorem x48_1:RX 29 r48_1 (.str [oq 7 (.mv (tq 1)),oq 8 (.oth (.call ⟨.builtin .len,#[tq 7],#[22]⟩)),oq 9 (.fa 40 (tq 2) 0),oq 10 (.ld 3 (tq 9)),oq 11 (.bin .add 3 (tq 10) (ci 1)),oq 12 (.bin .neq 3 (tq 8) (tq 11))]) (some ([1,2],[2])):=rx
@[simp] theorem x48_2:RX 29 r48_2 (.str [oq 4 (.mv (cb false))]) (some ([],[])):=rx
@[simp] theorem x48_3:RX 29 r48_3 (.str [oq 13 (.mv (tq 1)),oq 14 (.oth (.call ⟨.builtin .len,#[tq 13],#[22]⟩)),oq 15 (.mv (ci 0))]) (some ([1,2],[2])):=rx
@[simp] theorem x48_4:RX 29 r48_4 (.str [oq 16 (.bin .lss 3 (tq 15) (tq 14))]) (some ([2,13,14,15],[2])):=rx
@[simp] theorem x48_5:RX 29 r48_5 (.str [oq 17 (.mv (tq 15)),oq 18 (.oth (.indexAddr 22 (tq 13) (tq 15))),oq 19 (.ld 3 (tq 18)),oq 5 (.mv (tq 17)),oq 6 (.mv (tq 19))]) (some ([2,13,14,15],[2])):=rx
@[simp] theorem x48_6:RX 29 r48_6 (.str [oq 20 (.fa 40 (tq 2) 6),oq 21 (.ld 23 (tq 20)),oq 22 (.mv (tq 5)),oq 23 (.oth (.indexAddr 23 (tq 21) (tq 22))),oq 24 (.ld 22 (tq 23)),oq 25 (.mv (tq 6)),oq 26 (.call false none (.func 80) [tq 24,tq 25]),oq 27 (.oth (.unOp .not 4 (tq 26)))]) (some ([2,5,6,13,14,15],[2])):=rx
@[simp] theorem x48_7:RX 29 r48_7 (.str [oq 4 (.mv (cb false))]) (some ([],[])):=rx
@[simp] theorem x48_8:RX 29 r48_8 (.str [oq 28 (.bin .add 3 (tq 15) (ci 1)),oq 15 (.mv (tq 28))]) (some ([2,13,14,15],[2])):=rx
@[simp] theorem x48_9:RX 29 r48_9 (.str [oq 4 (.mv (cb true))]) (some ([],[])):=rx
@[simp] theorem l48_4:ann 29 (fstR lb48_4) = some ([2,13,14,15],[2]):=by kernel_rfl
def r68_0:=rg Try.f68 2
def r68_1:=rg Try.f68 9
def r68_2:=rg Try.f68 69
def r68_3:=rg Try.f68 1125
def r68_4:=rg Try.f68 2661
def r68_5:=rg Try.f68 9829
def r68_6:=rg Try.f68 485
def r68_7:=rg Try.f68 11
def lb68_2:Code:=(.seq r68_2 (.seq (.cond (.tmp 13) .skip (.exit 0)) (.seq (.block 1 (.seq r68_3 (.seq r68_4 (.cond (.tmp 30) (.seq r68_5 .ret) .skip)))) r68_6)))
@[simp] theorem u68_2 (n:Nat) (st:XS):execA Try.prog ann kn n 32 lb68_2 st = execA Try.prog ann kn n 32 (.seq r68_2 (.seq (.cond (.tmp 13) .skip (.exit 0)) (.seq (.block 1 (.seq r68_3 (.seq r68_4 (.cond (.tmp 30) (.seq r68_5 .ret) .skip)))) r68_6))) st:=rfl
def c68:Code:=(.seq r68_0 (.seq (.seq r68_1 (.block 0 (.loop lb68_2))) (.seq r68_7 .ret)))
theorem b68:Try.f68.body = some c68:=by kernel_rfl
@[simp] theorem x68_0:RX 32 r68_0 (.str [oq 3 (.box (tq 0)),oq 6 (.mv (cb false))]) (some ([0,1,2],[3])):=rx
@[simp] theorem x68_1:RX 32 r68_1 (.str [oq 9 (.fa 40 (tq 3) 8),oq 10 (.ld 38 (tq 9)),oq 11 (.oth (.call ⟨.builtin .len,#[tq 10],#[38]⟩)),oq 12 (.mv (ci 0))]) (some ([1,2,3],[3])):=rx
@[simp] theorem x68_2:RX 32 r68_2 (.str [oq 13 (.bin .lss 3 (tq 12) (tq 11))]) (some ([1,2,10,11,12],[3])):=rx
@[simp] theorem x68_3:RX 32 r68_3 (.str [oq 14 (.mv (tq 12)),oq 15 (.oth (.indexAddr 38 (tq 10) (tq 12))),oq 16 (.ld 89 (tq 15)),oq 8 (.alloc 89),oq 7 (.mv (tq 14)),os (.sto 89 (tq 8) (tq 16))]) (some ([1,2,10,11,12],[3])):=rx
@[simp] theorem x68_4:RX 32 r68_4 (.drw [⟨[],[oq 17 (.mv (tq 2)),oq 18 (.mv (tq 7))],[oq 19 (.call false none (.func 80) [tq 17,tq 18])]⟩,⟨[],[oq 20 (.oth (.unOp .not 4 (tq 19))),oq 21 (.mv (tq 20)),og 21 true 22 (.mv (tq 1)),og 21 true 23 (.fa 89 (tq 8) 0),og 21 true 24 (.ld 3 (tq 23)),og 21 true 25 (.oth (.indexAddr 22 (tq 22) (tq 24))),og 21 true 26 (.ld 3 (tq 25)),og 21 true 27 (.fa 89 (tq 8) 1),og 21 true 28 (.ld 3 (tq 27)),og 21 true 29 (.bin .neq 3 (tq 26) (tq 28)),oq 30 (.pick (tq 21) (tq 29) (cb false))],[]⟩]) (some ([1,2,7,8,10,11,12],[3,8])):=rx
@[simp] theorem x68_5:RX 32 r68_5 (.str [oq 6 (.mv (cb false))]) (some ([],[])):=rx
@[simp] theorem x68_6:RX 32 r68_6 (.str [oq 31 (.bin .add 3 (tq 12) (ci 1)),oq 12 (.mv (tq 31))]) (some ([1,2,10,11,12],[3])):=rx
@[simp] theorem x68_7:RX 32 r68_7 (.str [oq 6 (.mv (cb true))]) (some ([],[])):=rx
@[simp] theorem l68_2:ann 32 (fstR lb68_2) = some ([1,2,10,11,12],[3]):=by kernel_rfl
def r35_0:=rg Try.f35 2
def r35_1:=rg Try.f35 5
def c35:Code:=(.seq r35_0 (.seq r35_1 .ret))
def r102_0:=rg Try.f102 2
def r102_1:=rg Try.f102 5
def r102_2:=rg Try.f102 11
def r102_3:=rg Try.f102 23
def r102_4:=rg Try.f102 31
def c102:Code:=(.seq r102_0 (.seq r102_1 (.seq r102_2 (.seq r102_3 r102_4))))
theorem b102:Try.f102.body = some c102:=by kernel_rfl
@[simp] theorem x102_0:RX 13 r102_0 (.str [oq 3 (.box (tq 0))]) (some ([0,1,2],[3,4,5,9])):=rx
@[simp] theorem x102_1:RX 13 r102_1 (.str [oq 6 (.fa 40 (tq 1) 0),oq 7 (.ld 3 (tq 6)),oq 8 (.bin .add 3 (tq 7) (ci 1)),oq 9 (.mkS 22 (tq 8) (tq 8)),oq 4 (.alloc 22),os (.sto 22 (tq 4) (tq 9))]) (some ([1,2,3],[3,4,5,9])):=rx
@[simp] theorem x102_2:RX 13 r102_2 (.str [oq 5 (.alloc 117)]) (some ([1,2,3,4],[3,4,5,9])):=rx
@[simp] theorem x102_3:RX 13 r102_3 (.str [oq 10 (.oth (.makeFunc (.func 103) #[] #[tq 4,tq 1,tq 2,tq 3,tq 5])),os (.sto 117 (tq 5) (tq 10))]) (some ([1,2,3,4,5],[3,4,5,9])):=rx
@[simp] theorem x102_4:RX 13 r102_4 (.str [oq 11 (.ld 117 (tq 5)),oq 12 (.call false none (tq 11) [ci 0])]) (some ([5],[3,4,5,9])):=rx
def r103_0:=rg Try.f103 2
def r103_1:=rg Try.f103 9
def r103_2:=rg Try.f103 37
def r103_3:=rg Try.f103 19
def r103_4:=rg Try.f103 139
def r103_5:=rg Try.f103 2251
def r103_6:=rg Try.f103 5323
def r103_7:=rg Try.f103 11467
def r103_8:=rg Try.f103 40139
def r103_9:=rg Try.f103 971
def r103_10:=rg Try.f103 23
def lb103_4:Code:=(.seq r103_4 (.seq (.cond (.tmp 31) .skip (.exit 0)) (.seq (.block 1 (.seq r103_5 (.seq r103_6 (.seq r103_7 (.cond (.tmp 42) (.seq r103_8 .ret) .skip))))) r103_9)))
@[simp] theorem u103_4 (n:Nat) (st:XS):execA Try.prog ann kn n 44 lb103_4 st = execA Try.prog ann kn n 44 (.seq r103_4 (.seq (.cond (.tmp 31) .skip (.exit 0)) (.seq (.block 1 (.seq r103_5 (.seq r103_6 (.seq r103_7 (.cond (.tmp 42) (.seq r103_8 .ret) .skip))))) r103_9))) st:=rfl
def c103:Code:=(.seq r103_0 (.seq (.seq r103_1 (.cond (.tmp 13) (.seq r103_2 .ret) .skip)) (.seq (.seq r103_3 (.block 0 (.loop lb103_4))) (.seq r103_10 .ret))))
theorem b103:Try.f103.body = some c103:=by kernel_rfl
@[simp] theorem x103_0:RX 44 r103_0 (.str [oq 7 (.mv (cb false))]) (some ([0,1,2,3,4,5],[])):=rx
@[simp] theorem x103_1:RX 44 r103_1 (.str [oq 10 (.mv (tq 0)),oq 11 (.ld 22 (tq 1)),oq 12 (.oth (.call ⟨.builtin .len,#[tq 11],#[22]⟩)),oq 13 (.bin .eql 3 (tq 10) (tq 12))]) (some ([0,1,2,3,4,5],[])):=rx
@[simp] theorem x103_2 (n:Nat) (st:XS):execA Try.prog ann kn (n + 1) 44 r103_2 st = toN (runR Try.prog (cfU [20009,30009] (envA Try.prog ann kn n)) (.str [oq 14 (.ld 40 (tq 2)),oq 15 (.ld 22 (tq 1)),oq 16 (.ld 22 (tq 3)),oq 17 (.call false none (.func 68) [tq 14,tq 15,tq 16]),oq 18 (.oth (.unOp .not 4 (tq 17))),oq 19 (.mv (tq 18)),og 19 false 20 (.ld 99 (tq 4)),og 19 false 21 (.ld 22 (tq 1)),og 19 false 22 (.call false none (tq 20) [tq 21]),oq 23 (.pick (tq 19) (cb true) (tq 22)),oq 7 (.mv (tq 23))]) (trimO (some ([1,2,3,4],[])) (ghO [] st))) :=
 exec_regU (by kernel_rfl) (by kernel_rfl) (by kernel_rfl) (by kernel_rfl) (by kernel_rfl) (by kernel_rfl)
@[simp] theorem x103_3:RX 44 r103_3 (.str [oq 24 (.fa 40 (tq 2) 6),oq 25 (.ld 23 (tq 24)),oq 26 (.mv (tq 0)),oq 27 (.oth (.indexAddr 23 (tq 25) (tq 26))),oq 28 (.ld 22 (tq 27)),oq 29 (.oth (.call ⟨.builtin .len,#[tq 28],#[22]⟩)),oq 30 (.mv (ci 0))]) (some ([0,1,2,5],[])):=rx
@[simp] theorem x103_4:RX 44 r103_4 (.str [oq 31 (.bin .lss 3 (tq 30) (tq 29))]) (some ([0,1,5,28,29,30],[])):=rx
@[simp] theorem x103_5:RX 44 r103_5 (.str [oq 32 (.oth (.indexAddr 22 (tq 28) (tq 30))),oq 33 (.ld 3 (tq 32)),oq 9 (.mv (tq 33))]) (some ([0,1,5,28,29,30],[])):=rx
@[simp] theorem x103_6:RX 44 r103_6 (.str [oq 34 (.ld 22 (tq 1)),oq 35 (.mv (tq 0)),oq 36 (.mv (tq 9)),oq 37 (.oth (.indexAddr 22 (tq 34) (tq 35))),os (.sto 3 (tq 37) (tq 36))]) (some ([0,1,5,9,28,29,30],[])):=rx
@[simp] theorem x103_7:RX 44 r103_7 (.str [oq 38 (.ld 117 (tq 5)),oq 39 (.mv (tq 0)),oq 40 (.bin .add 3 (tq 39) (ci 1)),oq 41 (.call false none (tq 38) [tq 40]),oq 42 (.oth (.unOp .not 4 (tq 41)))]) (some ([0,1,5,28,29,30],[])):=rx
@[simp] theorem x103_8:RX 44 r103_8 (.str [oq 7 (.mv (cb false))]) (some ([],[])):=rx
@[simp] theorem x103_9:RX 44 r103_9 (.str [oq 43 (.bin .add 3 (tq 30) (ci 1)),oq 30 (.mv (tq 43))]) (some ([0,1,5,28,29,30],[])):=rx
@[simp] theorem x103_10:RX 44 r103_10 (.str [oq 7 (.mv (cb true))]) (some ([],[])):=rx
@[simp] theorem l103_4:ann 44 (fstR lb103_4) = some ([0,1,5,28,29,30],[]):=by kernel_rfl
def r79_0:=rg Try.f79 2
def r79_1:=rg Try.f79 5
def c79:Code:=(.seq r79_0 (.seq r79_1 .ret))
theorem b79:Try.f79.body = some c79:=by kernel_rfl
@[simp] theorem x79_0:RX 6 r79_0 (.str [oq 2 (.box (tq 0)),oq 3 (.box (tq 1)),oq 4 (.mv (.const .nilFunc))]) (some ([0,1],[2,3])):=rx
@[simp] theorem x79_1:RX 6 r79_1 (.str [oq 5 (.oth (.makeFunc (.func 102) #[] #[tq 2,tq 3])),oq 4 (.mv (tq 5))]) (some ([2,3],[2,3])):=rx
def r57_0:=rg Try.f57 2
def r57_1:=rg Try.f57 9
def r57_2:=rg Try.f57 149
def r57_3:=rg Try.f57 11
def c57:Code:=(.seq r57_0 (.seq (.seq r57_1 (.block 0 (.rangeFunc (.tmp 7) #[8] .skip (.block 1 (.seq r57_2 .ret))))) (.seq r57_3 .ret)))
theorem b57:Try.f57.body = some c57:=by kernel_rfl
@[simp] theorem x57_0:RX 9 r57_0 (.str [oq 2 (.box (tq 0)),oq 4 (.alloc 4)]) (some ([0,1],[2,3,4,5,7])):=rx
@[simp] theorem x57_1:RX 9 r57_1 (.str [oq 5 (.ld 40 (tq 2)),oq 6 (.mv (tq 1)),oq 7 (.call false none (.func 79) [tq 5,tq 6])]) (some ([1,2,4],[2,4,7])):=rx
@[simp] theorem x57_2:RX 9 r57_2 (.str [os (.sto 4 (tq 4) (cb true))]) (some ([4],[4])):=rx
@[simp] theorem x57_3:RX 9 r57_3 (.str [os (.sto 4 (tq 4) (cb false))]) (some ([4],[4])):=rx
def r54_0:=rg Try.f54 2
def r54_1:=rg Try.f54 9
def r54_2:=rg Try.f54 37
def r54_3:=rg Try.f54 11
def c54:Code:=(.seq r54_0 (.seq (.seq r54_1 (.cond (.tmp 4) (.seq r54_2 .ret) .skip)) (.seq r54_3 .ret)))
theorem b54:Try.f54.body = some c54:=by kernel_rfl
@[simp] theorem x54_0:RX 8 r54_0 (.str [oq 2 (.mv (.const (.slice none 0 0)))]) (some ([0],[])):=rx
@[simp] theorem x54_1:RX 8 r54_1 (.str [oq 3 (.mv (tq 0)),oq 4 (.bin .eql 22 (tq 3) (.const (.slice none 0 0)))]) (some ([0],[])):=rx
@[simp] theorem x54_2:RX 8 r54_2 (.str [oq 2 (.mv (.const (.slice none 0 0)))]) (some ([],[])):=rx
@[simp] theorem x54_3:RX 8 r54_3 (.str [oq 5 (.buildS 22 0 []),oq 6 (.mv (tq 0)),oq 7 (.app [tq 5,tq 6] [22,22]),oq 2 (.mv (tq 7))]) (some ([0],[])):=rx
def r56_0:=rg Try.f56 2
def r56_1:=rg Try.f56 9
def r56_2:=rg Try.f56 37
def r56_3:=rg Try.f56 85
def r56_4:=rg Try.f56 19
def r56_5:=rg Try.f56 267
def r56_7:=rg Try.f56 1099
def r56_8:=rg Try.f56 4683
def r56_6:=rg Try.f56 459
def r56_9:=rg Try.f56 23
def lb56_5:Code:=(.seq (.seq r56_5 (.cond (.tmp 24) .skip (.exit 0))) (.seq (.block 1 (.seq r56_7 (.cond (.tmp 37) (.seq r56_8 .ret) .skip))) r56_6))
@[simp] theorem u56_5 (n:Nat) (st:XS):execA Try.prog ann kn n 38 lb56_5 st = execA Try.prog ann kn n 38 (.seq (.seq r56_5 (.cond (.tmp 24) .skip (.exit 0))) (.seq (.block 1 (.seq r56_7 (.cond (.tmp 37) (.seq r56_8 .ret) .skip))) r56_6)) st:=rfl
def c56:Code:=(.seq r56_0 (.seq (.seq r56_1 (.cond (.tmp 12) (.seq r56_2 (.seq r56_3 .ret)) .skip)) (.seq (.seq r56_4 (.block 0 (.loop lb56_5))) (.seq r56_9 .ret))))
theorem b56:Try.f56.body = some c56:=by kernel_rfl
@[simp] theorem x56_0:RX 38 r56_0 (.str [oq 9 (.mv (cb false))]) (some ([0,1,2,3,4,5],[29,32])):=rx
@[simp] theorem x56_1:RX 38 r56_1 (.str [oq 11 (.mv (tq 2)),oq 12 (.bin .eql 3 (tq 11) (ci 0))]) (some ([0,1,2,3,4,5],[29,32])):=rx
@[simp] theorem x56_2:RX 38 r56_2 (.str [oq 13 (.mv (tq 0)),os (.sto 22 (tq 3) (tq 13))]) (some ([0,3,4],[29,32])):=rx
@[simp] theorem x56_3:RX 38 r56_3 (.str [oq 14 (.ld 40 (tq 4)),oq 15 (.mv (tq 0)),oq 16 (.call false none (.func 57) [tq 14,tq 15]),oq 9 (.mv (tq 16))]) (some ([0,4],[29,32])):=rx
@[simp] theorem x56_4:RX 38 r56_4 (.str [oq 17 (.mv (tq 1)),oq 10 (.mv (tq 17))]) (some ([0,1,2,4,5],[29,32])):=rx
@[simp] theorem x56_5:RX 38 r56_5 (.str [oq 18 (.mv (tq 10)),oq 19 (.fa 40 (tq 4) 8),oq 20 (.ld 38 (tq 19)),oq 21 (.oth (.call ⟨.builtin .len,#[tq 20],#[38]⟩)),oq 22 (.mv (tq 2)),oq 23 (.bin .sub 3 (tq 21) (tq 22)),oq 24 (.bin .leq 3 (tq 18) (tq 23))]) (some ([0,2,4,5,10],[29,32])):=rx
@[simp] theorem x56_7:RX 38 r56_7 (.drw [⟨[29],[oq 27 (.ld 115 (tq 5)),oq 28 (.mv (tq 0)),oq 30 (.mv (tq 10)),oq 31 (.buildS 22 1 [(0,tq 30)]),oq 33 (.mv (tq 10)),oq 34 (.bin .add 3 (tq 33) (ci 1)),oq 35 (.mv (tq 2)),oq 36 (.bin .sub 3 (tq 35) (ci 1)),oq 29 (.call true none (.func 54) [tq 28]),oq 32 (.app [tq 29,tq 31] [22,22])],[oq 37 (.call false (some 32) (tq 27) [tq 32,tq 34,tq 36])]⟩,⟨[],[],[]⟩]) (some ([0,2,4,5,10],[32])):=rx
@[simp] theorem x56_8:RX 38 r56_8 (.str [oq 9 (.mv (cb true))]) (some ([],[])):=rx
@[simp] theorem x56_6:RX 38 r56_6 (.str [oq 25 (.mv (tq 10)),oq 26 (.bin .add 3 (tq 25) (ci 1)),oq 10 (.mv (tq 26))]) (some ([0,2,4,5,10],[29,32])):=rx
@[simp] theorem x56_9:RX 38 r56_9 (.str [oq 9 (.mv (cb false))]) (some ([],[])):=rx
@[simp] theorem l56_5:ann 38 (fstR lb56_5) = some ([0,2,4,5,10],[29,32]):=by kernel_rfl
def r23_0:=rg Try.f23 2
def r23_1:=rg Try.f23 17
def r23_2:=rg Try.f23 41
def r23_3:=rg Try.f23 153
def r23_4:=rg Try.f23 21
def r23_5:=rg Try.f23 45
def r23_6:=rg Try.f23 93
def r23_7:=rg Try.f23 637
def r23_8:=rg Try.f23 4477
def r23_9:=rg Try.f23 72061
def r23_10:=rg Try.f23 170365
def r23_11:=rg Try.f23 31101
def r23_12:=rg Try.f23 765
def lb23_8:Code:=(.seq r23_8 (.seq (.cond (.tmp 19) .skip (.exit 0)) (.seq (.block 1 (.seq r23_9 (.seq r23_10 (.cond (.tmp 23) (.exit 0) .skip)))) r23_11)))
@[simp] theorem u23_8 (n:Nat) (st:XS):execA Try.prog ann kn n 26 lb23_8 st = execA Try.prog ann kn n 26 (.seq r23_8 (.seq (.cond (.tmp 19) .skip (.exit 0)) (.seq (.block 1 (.seq r23_9 (.seq r23_10 (.cond (.tmp 23) (.exit 0) .skip)))) r23_11))) st:=rfl
def c23:Code:=(.seq r23_0 (.scope (.seq (.seq r23_1 (.seq r23_2 (.cond (.tmp 11) (.seq r23_3 .ret) .skip))) (.seq r23_4 (.seq r23_5 (.seq r23_6 (.seq (.label 0) (.seq (.seq r23_7 (.block 0 (.loop lb23_8))) (.seq r23_12 .ret)))))))))
theorem b23:Try.f23.body = some c23:=by kernel_rfl
@[simp] theorem x23_0:RX 26 r23_0 (.str [oq 1 (.box (tq 0)),oq 2 (.mv (.const (.slice none 0 0))),oq 3 (.mv (ci 0))]) (some ([0],[1,5,6])):=rx
@[simp] theorem x23_1:RX 26 r23_1 (.str [oq 8 (.ld 40 (tq 1)),oq 9 (.call false none (.func 38) [tq 8]),oq 4 (.mv (tq 9))]) (some ([1],[1,5,6])):=rx
@[simp] theorem x23_2:RX 26 r23_2 (.str [oq 10 (.mv (tq 4)),oq 11 (.bin .neq 34 (tq 10) (ci 0))]) (some ([1,4],[1,5,6])):=rx
@[simp] theorem x23_3:RX 26 r23_3 (.str [oq 12 (.mv (tq 4)),oq 2 (.mv (.const (.slice none 0 0))),oq 3 (.mv (tq 12))]) (some ([4],[])):=rx
@[simp] theorem x23_4:RX 26 r23_4 (.str [oq 5 (.alloc 22)]) (some ([1],[1,5,6])):=rx
@[simp] theorem x23_5:RX 26 r23_5 (.str [oq 6 (.alloc 115)]) (some ([1,5],[1,5,6])):=rx
@[simp] theorem x23_6:RX 26 r23_6 (.str [oq 13 (.oth (.makeFunc (.func 56) #[] #[tq 5,tq 1,tq 6])),os (.sto 115 (tq 6) (tq 13))]) (some ([1,5,6],[1,5,6])):=rx
@[simp] theorem x23_7:RX 26 r23_7 (.str [oq 14 (.fa 40 (tq 1) 8),oq 15 (.ld 38 (tq 14)),oq 16 (.oth (.call ⟨.builtin .len,#[tq 15],#[38]⟩)),oq 17 (.bin .add 3 (tq 16) (ci 1)),oq 18 (.mv (ci 0))]) (some ([1,5,6],[1,5,6])):=rx
@[simp] theorem x23_8:RX 26 r23_8 (.str [oq 19 (.bin .lss 3 (tq 18) (tq 17))]) (some ([5,6,17,18],[1,5,6])):=rx
@[simp] theorem x23_9:RX 26 r23_9 (.str [oq 20 (.mv (tq 18)),oq 7 (.mv (tq 20))]) (some ([5,6,17,18],[1,5,6])):=rx
@[simp] theorem x23_10:RX 26 r23_10 (.str [oq 21 (.ld 115 (tq 6)),oq 22 (.mv (tq 7)),oq 23 (.call false none (tq 21) [.const (.slice none 0 0),ci 0,tq 22])]) (some ([5,6,7,17,18],[1,5,6])):=rx
@[simp] theorem x23_11:RX 26 r23_11 (.str [oq 24 (.bin .add 3 (tq 18) (ci 1)),oq 18 (.mv (tq 24))]) (some ([5,6,17,18],[1,5,6])):=rx
@[simp] theorem x23_12:RX 26 r23_12 (.str [oq 25 (.ld 22 (tq 5)),oq 2 (.mv (tq 25)),oq 3 (.mv (ci 0))]) (some ([5],[1,5,6])):=rx
@[simp] theorem l23_8:ann 26 (fstR lb23_8) = some ([5,6,17,18],[1,5,6]):=by kernel_rfl
def r27_0:=rg Try.f27 2
def r27_1:=rg Try.f27 9
def r27_2:=rg Try.f27 21
def r27_3:=rg Try.f27 77
def r27_4:=rg Try.f27 11
def r27_5:=rg Try.f27 39
def r27_6:=rg Try.f27 279
def r27_7:=rg Try.f27 4503
def r27_8:=rg Try.f27 10647
def r27_9:=rg Try.f27 22935
def r27_10:=rg Try.f27 80279
def r27_11:=rg Try.f27 1943
def r27_12:=rg Try.f27 47
def lb27_6:Code:=(.seq r27_6 (.seq (.cond (.tmp 17) .skip (.exit 0)) (.seq (.block 1 (.seq r27_7 (.seq r27_8 (.seq r27_9 (.cond (.tmp 27) (.seq r27_10 .ret) .skip))))) r27_11)))
@[simp] theorem u27_6 (n:Nat) (st:XS):execA Try.prog ann kn n 30 lb27_6 st = execA Try.prog ann kn n 30 (.seq r27_6 (.seq (.cond (.tmp 17) .skip (.exit 0)) (.seq (.block 1 (.seq r27_7 (.seq r27_8 (.seq r27_9 (.cond (.tmp 27) (.seq r27_10 .ret) .skip))))) r27_11))) st:=rfl
def c27:Code:=(.seq r27_0 (.seq (.seq r27_1 (.seq r27_2 (.cond (.tmp 10) (.seq r27_3 .ret) .skip))) (.seq r27_4 (.seq (.seq r27_5 (.block 0 (.loop lb27_6))) (.seq r27_12 .ret)))))
@[simp] theorem x27_0:RX 30 r27_0 (.str [oq 1 (.box (tq 0)),oq 2 (.mv (ci 0)),oq 3 (.mv (ci 0))]) (some ([0],[1,5])):=rx
@[simp] theorem x27_1:RX 30 r27_1 (.str [oq 7 (.ld 40 (tq 1)),oq 8 (.call false none (.func 38) [tq 7]),oq 4 (.mv (tq 8))]) (some ([1],[1,5])):=rx
@[simp] theorem x27_2:RX 30 r27_2 (.str [oq 9 (.mv (tq 4)),oq 10 (.bin .neq 34 (tq 9) (ci 0))]) (some ([1,4],[1,5])):=rx
@[simp] theorem x27_3:RX 30 r27_3 (.str [oq 11 (.mv (tq 4)),oq 2 (.mv (ci 0)),oq 3 (.mv (tq 11))]) (some ([4],[])):=rx
@[simp] theorem x27_4:RX 30 r27_4 (.str [oq 12 (.ld 40 (tq 1)),oq 5 (.alloc 40),os (.sto 40 (tq 5) (tq 12))]) (some ([1],[1,5])):=rx
@[simp] theorem x27_5:RX 30 r27_5 (.str [oq 13 (.fa 40 (tq 1) 8),oq 14 (.ld 38 (tq 13)),oq 15 (.oth (.call ⟨.builtin .len,#[tq 14],#[38]⟩)),oq 16 (.mv (ci 0))]) (some ([1,5],[1,5])):=rx
@[simp] theorem x27_6:RX 30 r27_6 (.str [oq 17 (.bin .lss 3 (tq 16) (tq 15))]) (some ([1,5,15,16],[1,5])):=rx
@[simp] theorem x27_7:RX 30 r27_7 (.str [oq 18 (.mv (tq 16)),oq 6 (.mv (tq 18))]) (some ([1,5,15,16],[1,5])):=rx
@[simp] theorem x27_8:RX 30 r27_8 (.str [oq 19 (.fa 40 (tq 1) 8),oq 20 (.ld 38 (tq 19)),oq 21 (.mv (tq 6)),oq 22 (.bin .add 3 (tq 21) (ci 1)),oq 23 (.oth (.slice 38 (tq 20) none (some (tq 22)) none)),oq 24 (.fa 40 (tq 5) 8),os (.sto 38 (tq 24) (tq 23))]) (some ([1,5,6,15,16],[1,5])):=rx
@[simp] theorem x27_9:RX 30 r27_9 (.str [oq 25 (.ld 40 (tq 5)),oq 26 (.call false none (.func 57) [tq 25,.const (.slice none 0 0)]),oq 27 (.oth (.unOp .not 4 (tq 26)))]) (some ([1,5,6,15,16],[1,5])):=rx
@[simp] theorem x27_10:RX 30 r27_10 (.str [oq 28 (.mv (tq 6)),oq 2 (.mv (tq 28)),oq 3 (.mv (ci 0))]) (some ([6],[])):=rx
@[simp] theorem x27_11:RX 30 r27_11 (.str [oq 29 (.bin .add 3 (tq 16) (ci 1)),oq 16 (.mv (tq 29))]) (some ([1,5,15,16],[1,5])):=rx
@[simp] theorem x27_12:RX 30 r27_12 (.str [oq 2 (.mv (ci 0)),oq 3 (.mv (ci 7))]) (some ([],[])):=rx
@[simp] theorem l27_6:ann 30 (fstR lb27_6) = some ([1,5,15,16],[1,5]):=by kernel_rfl
def r112_0:=rg Try.f112 2
def r112_1:=rg Try.f112 9
def r112_2:=rg Try.f112 21
def r112_3:=rg Try.f112 11
def r112_4:=rg Try.f112 39
def r112_5:=rg Try.f112 535
def r112_7:=rg Try.f112 1175
def r112_6:=rg Try.f112 919
def r112_8:=rg Try.f112 47
def lb112_5:Code:=(.seq (.seq r112_5 (.cond (.tmp 15) .skip (.exit 0))) (.seq (.block 1 r112_7) r112_6))
@[simp] theorem u112_5 (n:Nat) (st:XS):execA Try.prog ann kn n 25 lb112_5 st = execA Try.prog ann kn n 25 (.seq (.seq r112_5 (.cond (.tmp 15) .skip (.exit 0))) (.seq (.block 1 r112_7) r112_6)) st:=rfl
def c112:Code:=(.seq r112_0 (.seq (.seq r112_1 (.cond (.tmp 7) r112_2 .skip)) (.seq r112_3 (.seq (.seq r112_4 (.block 0 (.loop lb112_5))) (.seq r112_8 .ret)))))
theorem b112:Try.f112.body = some c112:=by kernel_rfl
@[simp] theorem x112_0:RX 25 r112_0 (.str [oq 2 (.mv (ci 0))]) (some ([0],[])):=rx
@[simp] theorem x112_1:RX 25 r112_1 (.str [oq 5 (.mv (tq 0)),oq 6 (.oth (.call ⟨.builtin .len,#[tq 5],#[22]⟩)),oq 7 (.bin .lss 3 (tq 6) (ci 1))]) (some ([0],[])):=rx
@[simp] theorem x112_3:RX 25 r112_3 (.str [oq 9 (.mv (tq 0)),oq 10 (.oth (.indexAddr 22 (tq 9) (ci 0))),oq 11 (.ld 3 (tq 10)),oq 3 (.mv (tq 11))]) (some ([0],[])):=rx
@[simp] theorem x112_4:RX 25 r112_4 (.str [oq 4 (.mv (ci 1))]) (some ([0,3],[])):=rx
@[simp] theorem x112_5:RX 25 r112_5 (.str [oq 12 (.mv (tq 4)),oq 13 (.mv (tq 0)),oq 14 (.oth (.call ⟨.builtin .len,#[tq 13],#[22]⟩)),oq 15 (.bin .lss 3 (tq 12) (tq 14))]) (some ([0,3,4],[])):=rx
@[simp] theorem x112_7:RX 25 r112_7 (.str [oq 18 (.mv (tq 3)),oq 19 (.mv (tq 0)),oq 20 (.mv (tq 4)),oq 21 (.oth (.indexAddr 22 (tq 19) (tq 20))),oq 22 (.ld 3 (tq 21)),oq 23 (.oth (.call ⟨.builtin .min,#[tq 18,tq 22],#[3,3]⟩)),oq 3 (.mv (tq 23))]) (some ([0,3,4],[])):=rx
@[simp] theorem x112_6:RX 25 r112_6 (.str [oq 16 (.mv (tq 4)),oq 17 (.bin .add 3 (tq 16) (ci 1)),oq 4 (.mv (tq 17))]) (some ([0,3,4],[])):=rx
@[simp] theorem x112_8:RX 25 r112_8 (.str [oq 24 (.mv (tq 3)),oq 2 (.mv (tq 24))]) (some ([3],[])):=rx
@[simp] theorem l112_5:ann 25 (fstR lb112_5) = some ([0,3,4],[]):=by kernel_rfl
def r106_0:=rg Try.f106 2
def r106_1:=rg Try.f106 5
def c106:Code:=(.seq r106_0 (.seq r106_1 .ret))
theorem b106:Try.f106.body = some c106:=by kernel_rfl
@[simp] theorem x106_0:RX 5 r106_0 (.str [oq 2 (.mv (ci 0))]) (some ([0],[])):=rx
@[simp] theorem x106_1:RX 5 r106_1 (.str [oq 3 (.mv (tq 0)),oq 4 (.call false none (.func 112) [tq 3]),oq 2 (.mv (tq 4))]) (some ([0,1],[1])):=rx
def r90_0:=rg Try.f90 2
def r90_1:=rg Try.f90 5
def c90:Code:=(.seq r90_0 (.seq r90_1 .ret))
theorem b90:Try.f90.body = some c90:=by kernel_rfl
@[simp] theorem x90_0:RX 15 r90_0 (.str [oq 2 (.box (tq 0)),oq 4 (.alloc 33)]) (some ([0,1],[])):=rx
@[simp] theorem x90_1:RX 15 r90_1 (.drw [⟨[],[oq 5 (.fa 33 (tq 2) 0),oq 6 (.ldz 3 (tq 5)),oq 7 (.mv (tq 1)),oq 8 (.buildS 22 2 [(0,tq 6),(1,tq 7)]),oq 9 (.call false none (.func 106) [tq 8]),oq 10 (.fa 33 (tq 2) 1),oq 11 (.ldz 3 (tq 10)),oq 12 (.mv (tq 1)),oq 13 (.oth (.call ⟨.builtin .max,#[tq 11,tq 12],#[3,3]⟩)),oq 14 (.build 33 [(0,tq 9),(1,tq 13)])],[os (.sto 33 (tq 4) (tq 14))]⟩]) (some ([1,2,4],[2,4])):=rx
def r52_0:=rg Try.f52 2
def r52_1:=rg Try.f52 5
def r52_2:=rg Try.f52 11
def c52:Code:=(.seq r52_0 (.seq r52_1 (.seq r52_2 .ret)))
theorem b52:Try.f52.body = some c52:=by kernel_rfl
@[simp] theorem x52_0:RX 7 r52_0 (.str [oq 2 (.alloc 103)]) (some ([0],[])):=rx
@[simp] theorem x52_1:RX 7 r52_1 (.str [oq 3 (.oth (.slice 103 (tq 2) none none none)),oq 4 (.mv (tq 0)),oq 5 (.cpy [tq 3,tq 4] [22,22])]) (some ([0,2],[2])):=rx
@[simp] theorem x52_2:RX 7 r52_2 (.str [oq 6 (.ld 103 (tq 2)),os (.sto 103 (tq 2) (tq 6))]) (some ([2],[2])):=rx
def r82_0:=rg Try.f82 2
def r82_1:=rg Try.f82 5
def r82_2:=rg Try.f82 19
def r82_3:=rg Try.f82 139
def r82_4:=rg Try.f82 2251
def r82_5:=rg Try.f82 5323
def r82_6:=rg Try.f82 19659
def r82_7:=rg Try.f82 142539
def r82_8:=rg Try.f82 2305227
def r82_9:=rg Try.f82 5450955
def r82_10:=rg Try.f82 36908235
def r82_11:=rg Try.f82 590556363
def r82_12:=rg Try.f82 858991819
def r82_13:=rg Try.f82 255012043
def r82_14:=rg Try.f82 994507
def r82_15:=rg Try.f82 15563
def r82_16:=rg Try.f82 971
def r82_17:=rg Try.f82 23
def lb82_10:Code:=(.seq r82_10 (.seq (.cond (.tmp 51) .skip (.exit 4)) (.seq (.block 5 (.seq r82_11 r82_12)) r82_13)))
@[simp] theorem u82_10 (n:Nat) (st:XS):execA Try.prog ann kn n 76 lb82_10 st = execA Try.prog ann kn n 76 (.seq r82_10 (.seq (.cond (.tmp 51) .skip (.exit 4)) (.seq (.block 5 (.seq r82_11 r82_12)) r82_13))) st:=rfl
def lb82_7:Code:=(.seq r82_7 (.seq (.cond (.tmp 43) .skip (.exit 2)) (.seq (.block 3 (.seq r82_8 (.seq r82_9 (.block 4 (.loop lb82_10))))) r82_14)))
@[simp] theorem u82_7 (n:Nat) (st:XS):execA Try.prog ann kn n 76 lb82_7 st = execA Try.prog ann kn n 76 (.seq r82_7 (.seq (.cond (.tmp 43) .skip (.exit 2)) (.seq (.block 3 (.seq r82_8 (.seq r82_9 (.block 4 (.loop lb82_10))))) r82_14))) st:=rfl
def lb82_3:Code:=(.seq r82_3 (.seq (.cond (.tmp 34) .skip (.exit 0)) (.seq (.block 1 (.seq r82_4 (.seq r82_5 (.seq (.seq r82_6 (.block 2 (.loop lb82_7))) r82_15)))) r82_16)))
@[simp] theorem u82_3 (n:Nat) (st:XS):execA Try.prog ann kn n 76 lb82_3 st = execA Try.prog ann kn n 76 (.seq r82_3 (.seq (.cond (.tmp 34) .skip (.exit 0)) (.seq (.block 1 (.seq r82_4 (.seq r82_5 (.seq (.seq r82_6 (.block 2 (.loop lb82_7))) r82_15)))) r82_16))) st:=rfl
def c82:Code:=(.seq r82_0 (.seq r82_1 (.seq (.seq r82_2 (.block 0 (.loop lb82_3))) (.seq r82_17 .ret))))
theorem b82:Try.f82.body = some c82:=by kernel_rfl
@[simp] theorem x82_0:RX 76 r82_0 (.str [oq 5 (.box (tq 2)),oq 6 (.alloc 33)]) (some ([0,1,2],[])):=rx
@[simp] theorem x82_1:RX 76 r82_1 (.drw [⟨[7],[oq 13 (.mv (tq 0)),oq 14 (.oth (.nilCheck (tq 13))),oq 15 (.fa 114 (tq 14) 0),oq 16 (.fa 40 (tq 15) 1),oq 17 (.ldz 3 (tq 16)),oq 18 (.mv (tq 0)),oq 19 (.oth (.nilCheck (tq 18))),oq 20 (.fa 114 (tq 19) 0),oq 21 (.fa 40 (tq 20) 2),oq 22 (.ldz 3 (tq 21)),oq 23 (.bin .mul 3 (tq 17) (tq 22)),oq 24 (.build 33 [(0,tq 23),(1,ci 0)]),oq 7 (.alloc 33)],[os (.sto 33 (tq 7) (tq 24))]⟩]) (some ([0,1,5,6],[5,6])):=rx
@[simp] theorem x82_2:RX 76 r82_2 (.str [oq 25 (.mv (tq 0)),oq 26 (.oth (.nilCheck (tq 25))),oq 27 (.fa 114 (tq 26) 1),oq 28 (.ld 23 (tq 27)),oq 29 (.mv (tq 1)),oq 30 (.oth (.indexAddr 23 (tq 28) (tq 29))),oq 31 (.ld 22 (tq 30)),oq 32 (.oth (.call ⟨.builtin .len,#[tq 31],#[22]⟩)),oq 33 (.mv (ci 0))]) (some ([0,1,5,6,7],[5,6,7])):=rx
@[simp] theorem x82_3:RX 76 r82_3 (.str [oq 34 (.bin .lss 3 (tq 33) (tq 32))]) (some ([0,1,5,6,7,31,32,33],[5,6,7])):=rx
@[simp] theorem x82_4:RX 76 r82_4 (.str [oq 35 (.oth (.indexAddr 22 (tq 31) (tq 33))),oq 36 (.ld 3 (tq 35)),oq 9 (.mv (tq 36))]) (some ([0,1,5,6,7,31,32,33],[5,6,7])):=rx
@[simp] theorem x82_5:RX 76 r82_5 (.str [oq 10 (.mv (ci 0))]) (some ([0,1,5,6,7,9,31,32,33],[5,6,7])):=rx
@[simp] theorem x82_6:RX 76 r82_6 (.str [oq 37 (.mv (tq 0)),oq 38 (.oth (.nilCheck (tq 37))),oq 39 (.fa 114 (tq 38) 0),oq 40 (.fa 40 (tq 39) 1),oq 41 (.ld 3 (tq 40)),oq 42 (.mv (ci 0))]) (some ([0,1,5,6,7,9,10,31,32,33],[5,6,7])):=rx
@[simp] theorem x82_7:RX 76 r82_7 (.str [oq 43 (.bin .lss 3 (tq 42) (tq 41))]) (some ([0,1,5,6,7,9,10,31,32,33,41,42],[5,6,7])):=rx
@[simp] theorem x82_8:RX 76 r82_8 (.str [oq 44 (.mv (tq 42)),oq 11 (.mv (tq 44))]) (some ([0,1,5,6,7,9,10,31,32,33,41,42],[5,6,7])):=rx
@[simp] theorem x82_9:RX 76 r82_9 (.str [oq 45 (.mv (tq 0)),oq 46 (.oth (.nilCheck (tq 45))),oq 47 (.fa 114 (tq 46) 0),oq 48 (.fa 40 (tq 47) 2),oq 49 (.ld 3 (tq 48)),oq 50 (.mv (ci 0))]) (some ([0,1,5,6,7,9,10,11,31,32,33,41,42],[5,6,7])):=rx
@[simp] theorem x82_10:RX 76 r82_10 (.str [oq 51 (.bin .lss 3 (tq 50) (tq 49))]) (some ([0,1,5,6,7,9,10,11,31,32,33,41,42,49,50],[5,6,7])):=rx
@[simp] theorem x82_11:RX 76 r82_11 (.str [oq 52 (.mv (tq 50)),oq 12 (.mv (tq 52))]) (some ([0,1,5,6,7,9,10,11,31,32,33,41,42,49,50],[5,6,7])):=rx
@[simp] theorem x82_12:RX 76 r82_12 (.drw [⟨[],[oq 53 (.mv (tq 10)),oq 54 (.mv (tq 0)),oq 55 (.oth (.nilCheck (tq 54))),oq 56 (.fa 114 (tq 55) 0),oq 57 (.ld 40 (tq 56)),oq 58 (.mv (tq 11)),oq 59 (.mv (tq 12)),oq 60 (.build 66 [(0,tq 58),(1,tq 59)]),oq 61 (.mv (tq 1)),oq 62 (.mv (tq 11)),oq 63 (.oth (.indexAddr 103 (tq 5) (tq 62))),oq 64 (.ld 3 (tq 63)),oq 65 (.mv (tq 9)),oq 66 (.call false none (.func 63) [tq 57,tq 60,tq 61,tq 64,tq 65]),oq 67 (.oth (.field 58 (tq 66) 2)),oq 68 (.bin .add 3 (tq 53) (tq 67)),oq 10 (.mv (tq 68))],[]⟩]) (some ([0,1,5,6,7,9,10,11,12,31,32,33,41,42,49,50],[5,6,7])):=rx
@[simp] theorem x82_13:RX 76 r82_13 (.str [oq 69 (.bin .add 3 (tq 50) (ci 1)),oq 50 (.mv (tq 69))]) (some ([0,1,5,6,7,9,10,11,31,32,33,41,42,49,50],[5,6,7])):=rx
@[simp] theorem x82_14:RX 76 r82_14 (.str [oq 70 (.bin .add 3 (tq 42) (ci 1)),oq 42 (.mv (tq 70))]) (some ([0,1,5,6,7,9,10,31,32,33,41,42],[5,6,7])):=rx
@[simp] theorem x82_15:RX 76 r82_15 (.str [oq 71 (.ld 33 (tq 7)),oq 72 (.mv (tq 10)),oq 73 (.call true none (.func 90) [tq 71,tq 72]),os (.sto 33 (tq 7) (tq 73))]) (some ([0,1,5,6,7,10,31,32,33],[5,6,7])):=rx
@[simp] theorem x82_16:RX 76 r82_16 (.str [oq 74 (.bin .add 3 (tq 33) (ci 1)),oq 33 (.mv (tq 74))]) (some ([0,1,5,6,7,31,32,33],[5,6,7])):=rx
@[simp] theorem x82_17:RX 76 r82_17 (.str [oq 75 (.ld 33 (tq 7)),os (.sto 33 (tq 6) (tq 75))]) (some ([6,7],[6,7])):=rx
@[simp] theorem l82_3:ann 76 (fstR lb82_3) = some ([0,1,5,6,7,31,32,33],[5,6,7]):=by kernel_rfl
@[simp] theorem l82_7:ann 76 (fstR lb82_7) = some ([0,1,5,6,7,9,10,31,32,33,41,42],[5,6,7]):=by kernel_rfl
@[simp] theorem l82_10:ann 76 (fstR lb82_10) = some ([0,1,5,6,7,9,10,11,31,32,33,41,42,49,50],[5,6,7]):=by kernel_rfl
def r43_0:=rg Try.f43 2
def r43_1:=rg Try.f43 9
def r43_2:=rg Try.f43 21
def r43_3:=rg Try.f43 77
def r43_4:=rg Try.f43 19
def r43_5:=rg Try.f43 75
def r43_6:=rg Try.f43 23
def r43_7:=rg Try.f43 47
def r43_8:=rg Try.f43 159
def r43_9:=rg Try.f43 607
def r43_10:=rg Try.f43 2399
def r43_11:=rg Try.f43 5471
def r43_12:=rg Try.f43 36191
def r43_13:=rg Try.f43 576863
def r43_14:=rg Try.f43 1363295
def r43_15:=rg Try.f43 2936159
def r43_16:=rg Try.f43 249183
def r43_17:=rg Try.f43 319
def r43_18:=rg Try.f43 1215
def r43_19:=rg Try.f43 383
def lb43_12:Code:=(.seq r43_12 (.seq (.cond (.tmp 35) .skip (.exit 2)) (.seq (.block 3 (.seq r43_13 (.seq r43_14 (.cond (.tmp 48) r43_15 .skip)))) r43_16)))
@[simp] theorem u43_12 (n:Nat) (st:XS):execA Try.prog ann kn n 69 lb43_12 st = execA Try.prog ann kn n 69 (.seq r43_12 (.seq (.cond (.tmp 35) .skip (.exit 2)) (.seq (.block 3 (.seq r43_13 (.seq r43_14 (.cond (.tmp 48) r43_15 .skip)))) r43_16))) st:=rfl
def c43:Code:=(.seq r43_0 (.seq (.seq r43_1 (.seq r43_2 (.cond (.tmp 15) (.seq r43_3 .ret) .skip))) (.seq (.seq r43_4 (.cond (.tmp 19) (.seq r43_5 .ret) .skip)) (.seq r43_6 (.seq r43_7 (.seq (.seq r43_8 (.block 0 (.rangeFunc (.tmp 30) #[31] r43_9 (.block 1 (.seq r43_10 (.seq r43_11 (.block 2 (.loop lb43_12)))))))) (.seq (.seq r43_17 (.cond (.tmp 67) (.seq r43_18 .ret) .skip)) (.seq r43_19 .ret))))))))
theorem b43:Try.f43.body = some c43:=by kernel_rfl
@[simp] theorem x43_0:RX 69 r43_0 (.str [oq 2 (.box (tq 0)),oq 4 (.mv (.const (.pointer none))),oq 5 (.mv (ci 0))]) (some ([0,1],[2,7,24,25,26,28,30,63,800,801,802,803,804])):=rx
@[simp] theorem x43_1:RX 69 r43_1 (.str [oq 12 (.ld 40 (tq 2)),oq 13 (.call false none (.func 38) [tq 12]),oq 6 (.mv (tq 13))]) (some ([1,2],[2,7,24,25,26,28,30,63,800,801,802,803,804])):=rx
@[simp] theorem x43_2:RX 69 r43_2 (.str [oq 14 (.mv (tq 6)),oq 15 (.bin .neq 34 (tq 14) (ci 0))]) (some ([1,2,6],[2,7,24,25,26,28,30,63,800,801,802,803,804])):=rx
@[simp] theorem x43_3:RX 69 r43_3 (.str [oq 16 (.mv (tq 6)),oq 4 (.mv (.const (.pointer none))),oq 5 (.mv (tq 16))]) (some ([6],[])):=rx
@[simp] theorem x43_4:RX 69 r43_4 (.str [oq 17 (.mv (tq 1)),oq 18 (.call false none (tq 17) []),oq 19 (.oth (.unOp .not 4 (tq 18)))]) (some ([1,2],[2,7,24,25,26,28,30,63,800,801,802,803,804])):=rx
@[simp] theorem x43_5:RX 69 r43_5 (.str [oq 4 (.mv (.const (.pointer none))),oq 5 (.mv (ci 2))]) (some ([],[])):=rx
@[simp] theorem x43_6:RX 69 r43_6 (.drw [⟨[24,25,26,28,7],[oq 20 (.ldz 40 (tq 2)),oq 21 (.fa 40 (tq 2) 0),oq 22 (.ldz 3 (tq 21)),oq 23 (.bin .add 3 (tq 22) (ci 1)),oq 24 (.mkS 23 (tq 23) (tq 23)),oq 25 (.mkM none),oq 26 (.mkM none),oq 27 (.build 114 [(0,tq 20),(1,tq 24),(2,tq 25),(3,tq 26)]),oq 28 (.box (tq 27)),oq 7 (.alloc 93)],[os (.sto 93 (tq 7) (tq 28))]⟩]) (some ([2],[2,30,63])):=rx
@[simp] theorem x43_7:RX 69 r43_7 (.str [oq 8 (.alloc 4),os (.sto 4 (tq 8) (cb false))]) (some ([2,7],[2,7,24,25,26,28,30,63,800,801,802,803,804])):=rx
@[simp] theorem x43_8:RX 69 r43_8 (.str [oq 29 (.ld 40 (tq 2)),oq 30 (.call false none (.func 79) [tq 29,.const (.slice none 0 0)])]) (some ([2,7,8],[2,7,8,24,25,26,28,30,63,800,801,802,803,804])):=rx
@[simp] theorem x43_9:RX 69 r43_9 (.str [oq 9 (.mv (tq 31))]) (some ([7,8,31],[2,7,8,24,25,26,28,30,63,800,801,802,803,804])):=rx
@[simp] theorem x43_10:RX 69 r43_10 (.str [os (.sto 4 (tq 8) (cb true))]) (some ([7,8,9],[2,7,8,24,25,26,28,30,63,800,801,802,803,804])):=rx
@[simp] theorem x43_11:RX 69 r43_11 (.str [oq 32 (.mv (tq 9)),oq 33 (.oth (.call ⟨.builtin .len,#[tq 32],#[22]⟩)),oq 34 (.mv (ci 0))]) (some ([7,9],[2,7,24,25,26,28,30,63,800,801,802,803,804])):=rx
@[simp] theorem x43_12:RX 69 r43_12 (.str [oq 35 (.bin .lss 3 (tq 34) (tq 33))]) (some ([7,32,33,34],[2,7,24,25,26,28,30,63,800,801,802,803,804])):=rx
@[simp] theorem x43_13:RX 69 r43_13 (.str [oq 36 (.mv (tq 34)),oq 37 (.oth (.indexAddr 22 (tq 32) (tq 34))),oq 38 (.ld 3 (tq 37)),oq 10 (.mv (tq 36)),oq 11 (.mv (tq 38))]) (some ([7,32,33,34],[2,7,24,25,26,28,30,63,800,801,802,803,804])):=rx
@[simp] theorem x43_14 (n:Nat) (st:XS):execA Try.prog ann kn (n + 1) 69 r43_14 st = toN (runR Try.prog (cfU [20800,20801,20802,20803,20804] (envA Try.prog ann kn n)) (.str [oq 39 (.ld 93 (tq 7)),oq 40 (.oth (.nilCheck (tq 39))),oq 41 (.fa 114 (tq 40) 1),oq 42 (.ld 23 (tq 41)),oq 43 (.mv (tq 10)),oq 44 (.oth (.indexAddr 23 (tq 42) (tq 43))),oq 45 (.ld 22 (tq 44)),oq 46 (.mv (tq 11)),oq 47 (.call false none (.func 80) [tq 45,tq 46]),oq 48 (.oth (.unOp .not 4 (tq 47)))]) (trimO (some ([7,10,11,32,33,34],[2,7,24,25,26,28,30,63,800,801,802,803,804])) (ghO [] st))) :=
 exec_regU (by kernel_rfl) (by kernel_rfl) (by kernel_rfl) (by kernel_rfl) (by kernel_rfl) (by kernel_rfl)
@[simp] theorem x43_15:RX 69 r43_15 (.drw [⟨[],[oq 49 (.ld 93 (tq 7)),oq 50 (.oth (.nilCheck (tq 49))),oq 51 (.fa 114 (tq 50) 1),oq 52 (.ld 23 (tq 51)),oq 53 (.mv (tq 10)),oq 54 (.ld 93 (tq 7)),oq 55 (.oth (.nilCheck (tq 54))),oq 56 (.fa 114 (tq 55) 1),oq 57 (.ld 23 (tq 56)),oq 58 (.mv (tq 10)),oq 59 (.oth (.indexAddr 23 (tq 57) (tq 58))),oq 60 (.ldz 22 (tq 59)),oq 61 (.mv (tq 11)),oq 62 (.buildS 22 1 [(0,tq 61)]),oq 63 (.app [tq 60,tq 62] [22,22]),oq 64 (.oth (.indexAddr 23 (tq 52) (tq 53)))],[os (.sto 22 (tq 64) (tq 63))]⟩]) (some ([7,10,11,32,33,34],[2,7,24,25,26,28,30,63,800,801,802,803,804])):=rx
@[simp] theorem x43_16 (n:Nat) (st:XS):execA Try.prog ann kn (n + 1) 69 r43_16 st = toN (runR Try.prog (envA Try.prog ann kn n) (.str [oq 65 (.bin .add 3 (tq 34) (ci 1)),oq 34 (.mv (tq 65))]) (trimO (some ([7,32,33,34],[2,7,24,25,26,28,30,63,800,801,802,803,804])) (ghO [25008011801063] st))) :=
 exec_regT (by kernel_rfl) (by kernel_rfl) (by kernel_rfl) (by kernel_rfl) (by kernel_rfl)
@[simp] theorem x43_17:RX 69 r43_17 (.str [oq 66 (.ld 4 (tq 8)),oq 67 (.oth (.unOp .not 4 (tq 66)))]) (some ([7,8],[2,7,8,24,25,26,28,30,63,800,801,802,803,804])):=rx
@[simp] theorem x43_18:RX 69 r43_18 (.str [oq 4 (.mv (.const (.pointer none))),oq 5 (.mv (ci 11))]) (some ([],[])):=rx
@[simp] theorem x43_19 (n:Nat) (st:XS):execA Try.prog ann kn (n + 1) 69 r43_19 st = toN (runR Try.prog (envA Try.prog ann kn n) (.str [oq 68 (.ld 93 (tq 7)),oq 4 (.mv (tq 68)),oq 5 (.mv (ci 0))]) (trimO (some ([7],[2,7,24,25,26,28,30,63,800,801,802,803,804])) (ghO [1000000000000024,24,901025,902026,903028] st))) :=
 exec_regT (by kernel_rfl) (by kernel_rfl) (by kernel_rfl) (by kernel_rfl) (by kernel_rfl)
@[simp] theorem l43_12:ann 69 (fstR lb43_12) = some ([7,32,33,34],[2,7,24,25,26,28,30,63,800,801,802,803,804]):=by kernel_rfl
def r46_0:=rg Try.f46 2
def r46_1:=rg Try.f46 9
def r46_2:=rg Try.f46 69
def r46_3:=rg Try.f46 1125
def r46_4:=rg Try.f46 2661
def r46_5:=rg Try.f46 3685
def r46_6:=rg Try.f46 485
def r46_7:=rg Try.f46 11
def lb46_2:Code:=(.seq r46_2 (.seq (.cond (.tmp 11) .skip (.exit 0)) (.seq (.block 1 (.seq r46_3 (.seq r46_4 r46_5))) r46_6)))
@[simp] theorem u46_2 (n:Nat) (st:XS):execA Try.prog ann kn n 33 lb46_2 st = execA Try.prog ann kn n 33 (.seq r46_2 (.seq (.cond (.tmp 11) .skip (.exit 0)) (.seq (.block 1 (.seq r46_3 (.seq r46_4 r46_5))) r46_6))) st:=rfl
def c46:Code:=(.seq r46_0 (.seq (.seq r46_1 (.block 0 (.loop lb46_2))) (.seq r46_7 .ret)))
theorem b46:Try.f46.body = some c46:=by kernel_rfl
@[simp] theorem x46_0:RX 33 r46_0 (.str [oq 4 (.alloc 33)]) (some ([0,1],[])):=rx
@[simp] theorem x46_1:RX 33 r46_1 (.str [oq 8 (.mv (tq 1)),oq 9 (.oth (.call ⟨.builtin .len,#[tq 8],#[23]⟩)),oq 10 (.mv (ci 0))]) (some ([0,1,4],[4])):=rx
@[simp] theorem x46_2:RX 33 r46_2 (.str [oq 11 (.bin .lss 3 (tq 10) (tq 9))]) (some ([0,4,8,9,10],[4])):=rx
@[simp] theorem x46_3:RX 33 r46_3 (.str [oq 12 (.mv (tq 10)),oq 13 (.oth (.indexAddr 23 (tq 8) (tq 10))),oq 14 (.ld 22 (tq 13)),oq 5 (.mv (tq 12)),oq 6 (.mv (tq 14))]) (some ([0,4,8,9,10],[4])):=rx
@[simp] theorem x46_4:RX 33 r46_4 (.str [oq 15 (.mv (tq 0)),oq 16 (.mv (tq 5)),oq 17 (.mv (tq 6)),oq 18 (.call false none (.func 52) [tq 17]),oq 19 (.call true none (.func 82) [tq 15,tq 16,tq 18]),oq 7 (.alloc 33),os (.sto 33 (tq 7) (tq 19))]) (some ([0,4,5,6,8,9,10],[4])):=rx
@[simp] theorem x46_5:RX 33 r46_5 (.str [oq 20 (.fa 33 (tq 4) 0),oq 21 (.ld 3 (tq 20)),oq 22 (.fa 33 (tq 7) 0),oq 23 (.ld 3 (tq 22)),oq 24 (.bin .add 3 (tq 21) (tq 23)),oq 25 (.fa 33 (tq 4) 1),oq 26 (.ld 3 (tq 25)),oq 27 (.fa 33 (tq 7) 1),oq 28 (.ld 3 (tq 27)),oq 29 (.bin .add 3 (tq 26) (tq 28)),oq 30 (.build 33 [(0,tq 24),(1,tq 29)]),os (.sto 33 (tq 4) (tq 30))]) (some ([0,4,7,8,9,10],[4,7])):=rx
@[simp] theorem x46_6:RX 33 r46_6 (.str [oq 31 (.bin .add 3 (tq 10) (ci 1)),oq 10 (.mv (tq 31))]) (some ([0,4,8,9,10],[4])):=rx
@[simp] theorem x46_7:RX 33 r46_7 (.str [oq 32 (.ld 33 (tq 4)),os (.sto 33 (tq 4) (tq 32))]) (some ([4],[4])):=rx
@[simp] theorem l46_2:ann 33 (fstR lb46_2) = some ([0,4,8,9,10],[4]):=by kernel_rfl
def r13_0:=rg Try.f13 2
def r13_1:=rg Try.f13 5
def r13_2:=rg Try.f13 19
def r13_3:=rg Try.f13 75
def r13_4:=rg Try.f13 23
def c13:Code:=(.seq r13_0 (.seq r13_1 (.seq (.seq r13_2 (.cond (.tmp 15) (.seq r13_3 .ret) .skip)) (.seq r13_4 .ret))))
theorem b13:Try.f13.body = some c13:=by kernel_rfl
@[simp] theorem x13_0:RX 21 r13_0 (.str [oq 2 (.box (tq 0)),oq 3 (.box (tq 1)),oq 4 (.alloc 33),oq 5 (.mv (ci 0))]) (some ([0,1],[2,3,11,900,901,902])):=rx
@[simp] theorem x13_1:RX 21 r13_1 (.str [oq 9 (.ld 40 (tq 2)),oq 10 (.oth (.makeFunc (.func 44) #[] #[tq 2,tq 3])),oq 11 (.call false none (.func 43) [tq 9,tq 10]),oq 8 (.mv (tq 11)),oq 12 (.oth (.extract (tq 8) 0)),oq 13 (.oth (.extract (tq 8) 1)),oq 6 (.mv (tq 12)),oq 7 (.mv (tq 13))]) (some ([2,3,4],[2,3,4,11,900,901,902])):=rx
@[simp] theorem x13_2:RX 21 r13_2 (.str [oq 14 (.mv (tq 7)),oq 15 (.bin .neq 34 (tq 14) (ci 0))]) (some ([3,4,6,7],[2,3,4,11,900,901,902])):=rx
@[simp] theorem x13_3:RX 21 r13_3 (.str [oq 16 (.build 33 []),oq 17 (.mv (tq 7)),os (.sto 33 (tq 4) (tq 16)),oq 5 (.mv (tq 17))]) (some ([4,7],[4])):=rx
@[simp] theorem x13_4 (n:Nat) (st:XS):execA Try.prog ann kn (n + 1) 21 r13_4 st = toN (runR Try.prog (envA Try.prog ann kn n) (.str [oq 18 (.mv (tq 6)),oq 19 (.ld 23 (tq 3)),oq 20 (.call true none (.func 46) [tq 18,tq 19]),os (.sto 33 (tq 4) (tq 20)),oq 5 (.mv (ci 0))]) (trimO (some ([3,4,6],[2,3,4,11,900,901,902])) (ghO [902] st))) :=
 exec_regT (by kernel_rfl) (by kernel_rfl) (by kernel_rfl) (by kernel_rfl) (by kernel_rfl)
def r44_0:=rg Try.f44 2
def r44_1:=rg Try.f44 5
def c44:Code:=(.seq r44_0 (.seq r44_1 .ret))
theorem b44:Try.f44.body = some c44:=by kernel_rfl
@[simp] theorem x44_0:RX 6 r44_0 (.str [oq 2 (.mv (cb false))]) (some ([0,1],[])):=rx
@[simp] theorem x44_1:RX 6 r44_1 (.str [oq 3 (.ld 40 (tq 0)),oq 4 (.ld 23 (tq 1)),oq 5 (.call false none (.func 45) [tq 3,tq 4]),oq 2 (.mv (tq 5))]) (some ([0,1],[])):=rx
def r49_0:=rg Try.f49 2
def r49_1:=rg Try.f49 9
def r49_2:=rg Try.f49 69
def r49_3:=rg Try.f49 1125
def r49_4:=rg Try.f49 2661
def r49_5:=rg Try.f49 9829
def r49_6:=rg Try.f49 71269
def r49_7:=rg Try.f49 1152613
def r49_8:=rg Try.f49 4822629
def r49_9:=rg Try.f49 36279909
def r49_10:=rg Try.f49 589928037
def r49_11:=rg Try.f49 858363493
def r49_12:=rg Try.f49 254383717
def r49_13:=rg Try.f49 3774053
def r49_14:=rg Try.f49 497253
def r49_15:=rg Try.f49 7781
def r49_16:=rg Try.f49 485
def r49_17:=rg Try.f49 11
def lb49_9:Code:=(.seq r49_9 (.seq (.cond (.tmp 29) .skip (.exit 4)) (.seq (.block 5 (.seq r49_10 r49_11)) r49_12)))
@[simp] theorem u49_9 (n:Nat) (st:XS):execA Try.prog ann kn n 67 lb49_9 st = execA Try.prog ann kn n 67 (.seq r49_9 (.seq (.cond (.tmp 29) .skip (.exit 4)) (.seq (.block 5 (.seq r49_10 r49_11)) r49_12))) st:=rfl
def lb49_6:Code:=(.seq r49_6 (.seq (.cond (.tmp 24) .skip (.exit 2)) (.seq (.block 3 (.seq r49_7 (.seq (.seq r49_8 (.block 4 (.loop lb49_9))) r49_13))) r49_14)))
@[simp] theorem u49_6 (n:Nat) (st:XS):execA Try.prog ann kn n 67 lb49_6 st = execA Try.prog ann kn n 67 (.seq r49_6 (.seq (.cond (.tmp 24) .skip (.exit 2)) (.seq (.block 3 (.seq r49_7 (.seq (.seq r49_8 (.block 4 (.loop lb49_9))) r49_13))) r49_14))) st:=rfl
def lb49_2:Code:=(.seq r49_2 (.seq (.cond (.tmp 16) .skip (.exit 0)) (.seq (.block 1 (.seq r49_3 (.seq r49_4 (.seq (.seq r49_5 (.block 2 (.loop lb49_6))) r49_15)))) r49_16)))
@[simp] theorem u49_2 (n:Nat) (st:XS):execA Try.prog ann kn n 67 lb49_2 st = execA Try.prog ann kn n 67 (.seq r49_2 (.seq (.cond (.tmp 16) .skip (.exit 0)) (.seq (.block 1 (.seq r49_3 (.seq r49_4 (.seq (.seq r49_5 (.block 2 (.loop lb49_6))) r49_15)))) r49_16))) st:=rfl
def c49:Code:=(.seq r49_0 (.seq (.seq r49_1 (.block 0 (.loop lb49_2))) (.seq r49_17 .ret)))
@[simp] theorem x49_0:RX 67 r49_0 (.str [oq 3 (.box (tq 0)),oq 6 (.mv (.const (.slice none 0 0))),oq 7 (.mv (ci 0))]) (some ([0,1,2],[3])):=rx
@[simp] theorem x49_1:RX 67 r49_1 (.str [oq 13 (.fa 40 (tq 3) 1),oq 14 (.ld 3 (tq 13)),oq 15 (.mv (ci 0))]) (some ([1,2,3,6,7],[3,63])):=rx
@[simp] theorem x49_2:RX 67 r49_2 (.str [oq 16 (.bin .lss 3 (tq 15) (tq 14))]) (some ([1,2,3,6,7,14,15],[3,63])):=rx
@[simp] theorem x49_3:RX 67 r49_3 (.str [oq 17 (.mv (tq 15)),oq 8 (.mv (tq 17))]) (some ([1,2,3,6,7,14,15],[3,63])):=rx
@[simp] theorem x49_4:RX 67 r49_4 (.str [oq 18 (.fa 40 (tq 3) 2),oq 19 (.ld 3 (tq 18)),oq 20 (.mkS 59 (tq 19) (tq 19)),oq 9 (.mv (tq 20))]) (some ([1,2,3,6,7,8,14,15],[3,63])):=rx
@[simp] theorem x49_5:RX 67 r49_5 (.str [oq 21 (.mv (tq 9)),oq 22 (.oth (.call ⟨.builtin .len,#[tq 21],#[59]⟩)),oq 23 (.mv (ci 0))]) (some ([1,2,3,6,7,8,9,14,15],[3,20,63])):=rx
@[simp] theorem x49_6:RX 67 r49_6 (.str [oq 24 (.bin .lss 3 (tq 23) (tq 22))]) (some ([1,2,3,6,7,8,9,14,15,22,23],[3,20,63])):=rx
@[simp] theorem x49_7:RX 67 r49_7 (.str [oq 25 (.mv (tq 23)),oq 10 (.mv (tq 25))]) (some ([1,2,3,6,7,8,9,14,15,22,23],[3,20,63])):=rx
@[simp] theorem x49_8:RX 67 r49_8 (.str [oq 26 (.mv (tq 2)),oq 27 (.oth (.call ⟨.builtin .len,#[tq 26],#[22]⟩)),oq 28 (.mv (ci 0))]) (some ([1,2,3,6,7,8,9,10,14,15,22,23],[3,20,63])):=rx
@[simp] theorem x49_9:RX 67 r49_9 (.str [oq 29 (.bin .lss 3 (tq 28) (tq 27))]) (some ([1,2,3,6,7,8,9,10,14,15,22,23,26,27,28],[3,20,63])):=rx
@[simp] theorem x49_10:RX 67 r49_10 (.str [oq 30 (.mv (tq 28)),oq 31 (.oth (.indexAddr 22 (tq 26) (tq 28))),oq 32 (.ld 3 (tq 31)),oq 11 (.mv (tq 30)),oq 12 (.mv (tq 32))]) (some ([1,2,3,6,7,8,9,10,14,15,22,23,26,27,28],[3,20,63])):=rx
@[simp] theorem x49_11:RX 67 r49_11 (.drw [⟨[],[oq 33 (.mv (tq 9)),oq 34 (.mv (tq 10)),oq 35 (.oth (.indexAddr 59 (tq 33) (tq 34))),oq 36 (.ld 40 (tq 3)),oq 37 (.mv (tq 8)),oq 38 (.mv (tq 10)),oq 39 (.build 66 [(0,tq 37),(1,tq 38)]),oq 40 (.mv (tq 11)),oq 41 (.mv (tq 1)),oq 42 (.mv (tq 11)),oq 43 (.oth (.indexAddr 23 (tq 41) (tq 42))),oq 44 (.ld 22 (tq 43)),oq 45 (.mv (tq 8)),oq 46 (.oth (.indexAddr 22 (tq 44) (tq 45))),oq 47 (.ld 3 (tq 46)),oq 48 (.mv (tq 12)),oq 49 (.call false none (.func 63) [tq 36,tq 39,tq 40,tq 47,tq 48])],[oq 50 (.call false none (.func 83) [tq 35,tq 49])]⟩,⟨[],[],[]⟩]) (some ([1,2,3,6,7,8,9,10,11,12,14,15,22,23,26,27,28],[3,20,63])):=rx
@[simp] theorem x49_12:RX 67 r49_12 (.str [oq 51 (.bin .add 3 (tq 28) (ci 1)),oq 28 (.mv (tq 51))]) (some ([1,2,3,6,7,8,9,10,14,15,22,23,26,27,28],[3,20,63])):=rx
@[simp] theorem x49_13:RX 67 r49_13 (.str [oq 52 (.mv (tq 7)),oq 53 (.mv (tq 9)),oq 54 (.mv (tq 10)),oq 55 (.oth (.indexAddr 59 (tq 53) (tq 54))),oq 56 (.fa 58 (tq 55) 2),oq 57 (.ld 3 (tq 56)),oq 58 (.bin .add 3 (tq 52) (tq 57)),oq 7 (.mv (tq 58))]) (some ([1,2,3,6,7,8,9,10,14,15,22,23],[3,20,63])):=rx
@[simp] theorem x49_14:RX 67 r49_14 (.str [oq 59 (.bin .add 3 (tq 23) (ci 1)),oq 23 (.mv (tq 59))]) (some ([1,2,3,6,7,8,9,14,15,22,23],[3,20,63])):=rx
@[simp] theorem x49_15 (n:Nat) (st:XS):execA Try.prog ann kn (n + 1) 67 r49_15 st = toN (runR Try.prog (envA Try.prog ann kn n) (.str [oq 60 (.mv (tq 6)),oq 61 (.mv (tq 9)),oq 62 (.buildS 51 1 [(0,tq 61)]),oq 63 (.app [tq 60,tq 62] [51,51]),oq 6 (.mv (tq 63))]) (trimO (some ([1,2,3,6,7,9,14,15],[3,20,63])) (ghO [20] st))) :=
 exec_regT (by kernel_rfl) (by kernel_rfl) (by kernel_rfl) (by kernel_rfl) (by kernel_rfl)
@[simp] theorem x49_16:RX 67 r49_16 (.str [oq 64 (.bin .add 3 (tq 15) (ci 1)),oq 15 (.mv (tq 64))]) (some ([1,2,3,6,7,14,15],[3,63])):=rx
@[simp] theorem x49_17:RX 67 r49_17 (.str [oq 65 (.mv (tq 6)),oq 66 (.mv (tq 7)),oq 6 (.mv (tq 65)),oq 7 (.mv (tq 66))]) (some ([6,7],[63])):=rx
@[simp] theorem l49_2:ann 67 (fstR lb49_2) = some ([1,2,3,6,7,14,15],[3,63]):=by kernel_rfl
@[simp] theorem l49_6:ann 67 (fstR lb49_6) = some ([1,2,3,6,7,8,9,14,15,22,23],[3,20,63]):=by kernel_rfl
@[simp] theorem l49_9:ann 67 (fstR lb49_9) = some ([1,2,3,6,7,8,9,10,14,15,22,23,26,27,28],[3,20,63]):=by kernel_rfl
def r83_0:=rg Try.f83 2
def r83_1:=rg Try.f83 3
def c83:Code:=(.seq r83_0 r83_1)
def r20_0:=rg Try.f20 2
def r20_1:=rg Try.f20 9
def r20_2:=rg Try.f20 21
def r20_3:=rg Try.f20 77
def r20_4:=rg Try.f20 19
def r20_5:=rg Try.f20 75
def r20_6:=rg Try.f20 23
def r20_7:=rg Try.f20 47
def c20:Code:=(.seq r20_0 (.seq (.seq r20_1 (.seq r20_2 (.cond (.tmp 14) (.seq r20_3 .ret) .skip))) (.seq (.seq r20_4 (.cond (.tmp 25) (.seq r20_5 .ret) .skip)) (.seq r20_6 (.seq r20_7 .ret)))))
def r14_0:=rg Try.f14 2
def r14_1:=rg Try.f14 5
def r14_2:=rg Try.f14 19
def r14_3:=rg Try.f14 267
def r14_5:=rg Try.f14 587
def r14_4:=rg Try.f14 459
def r14_6:=rg Try.f14 39
def r14_7:=rg Try.f14 535
def r14_9:=rg Try.f14 1175
def r14_8:=rg Try.f14 919
def r14_10:=rg Try.f14 47
def lb14_3:Code:=(.seq (.seq r14_3 (.cond (.tmp 28) .skip (.exit 0))) (.seq (.block 1 r14_5) r14_4))
@[simp] theorem u14_3 (n:Nat) (st:XS):execA Try.prog ann kn n 68 lb14_3 st = execA Try.prog ann kn n 68 (.seq (.seq r14_3 (.cond (.tmp 28) .skip (.exit 0))) (.seq (.block 1 r14_5) r14_4)) st:=rfl
def lb14_7:Code:=(.seq (.seq r14_7 (.cond (.tmp 46) .skip (.exit 2))) (.seq (.block 3 r14_9) r14_8))
@[simp] theorem u14_7 (n:Nat) (st:XS):execA Try.prog ann kn n 68 lb14_7 st = execA Try.prog ann kn n 68 (.seq (.seq r14_7 (.cond (.tmp 46) .skip (.exit 2))) (.seq (.block 3 r14_9) r14_8)) st:=rfl
def c14:Code:=(.seq r14_0 (.seq r14_1 (.seq (.seq r14_2 (.block 0 (.loop lb14_3))) (.seq (.seq r14_6 (.block 2 (.loop lb14_7))) (.seq r14_10 .ret)))))
theorem b14:Try.f14.body = some c14:=by kernel_rfl
@[simp] theorem x14_0:RX 68 r14_0 (.str [oq 1 (.box (tq 0)),oq 2 (.alloc 40)]) (some ([0],[1,2,3,16,19,22,40,65])):=rx
@[simp] theorem x14_1:RX 68 r14_1 (.drw [⟨[3],[oq 6 (.fa 27 (tq 1) 0),oq 7 (.ldz 3 (tq 6)),oq 8 (.fa 27 (tq 1) 1),oq 9 (.ldz 3 (tq 8)),oq 10 (.fa 27 (tq 1) 2),oq 11 (.ldz 3 (tq 10)),oq 12 (.fa 27 (tq 1) 3),oq 13 (.ldz 3 (tq 12)),oq 14 (.fa 27 (tq 1) 4),oq 15 (.ldz 22 (tq 14)),oq 16 (.call false none (.func 16) [tq 15]),oq 17 (.fa 27 (tq 1) 5),oq 18 (.ldz 22 (tq 17)),oq 19 (.call false none (.func 16) [tq 18]),oq 20 (.fa 27 (tq 1) 6),oq 21 (.ldz 23 (tq 20)),oq 22 (.call false none (.func 15) [tq 21]),oq 23 (.build 40 [(0,tq 7),(1,tq 9),(2,tq 11),(3,tq 13),(4,tq 16),(5,tq 19),(6,tq 22)]),oq 3 (.alloc 40)],[os (.sto 40 (tq 3) (tq 23))]⟩]) (some ([1,2],[1,2,40,65])):=rx
@[simp] theorem x14_2:RX 68 r14_2 (.str [oq 4 (.mv (ci 0))]) (some ([1,2,3],[1,2,3,16,19,22,40,65])):=rx
@[simp] theorem x14_3:RX 68 r14_3 (.str [oq 24 (.mv (tq 4)),oq 25 (.fa 27 (tq 1) 7),oq 26 (.ld 24 (tq 25)),oq 27 (.oth (.call ⟨.builtin .len,#[tq 26],#[24]⟩)),oq 28 (.bin .lss 3 (tq 24) (tq 27))]) (some ([1,2,3,4],[1,2,3,16,19,22,40,65])):=rx
@[simp] theorem x14_5:RX 68 r14_5 (.drw [⟨[],[oq 31 (.fa 40 (tq 3) 7),oq 32 (.ldz 37 (tq 31)),oq 33 (.fa 27 (tq 1) 7),oq 34 (.ld 24 (tq 33)),oq 35 (.mv (tq 4)),oq 36 (.oth (.indexAddr 24 (tq 34) (tq 35))),oq 37 (.ld 48 (tq 36)),oq 38 (.call false none (.func 47) [tq 37]),oq 39 (.buildS 37 1 [(0,tq 38)]),oq 40 (.app [tq 32,tq 39] [37,37]),oq 41 (.fa 40 (tq 3) 7)],[os (.sto 37 (tq 41) (tq 40))]⟩]) (some ([1,2,3,4],[1,2,3,16,19,22,40,65])):=rx
@[simp] theorem x14_4:RX 68 r14_4 (.str [oq 29 (.mv (tq 4)),oq 30 (.bin .add 3 (tq 29) (ci 1)),oq 4 (.mv (tq 30))]) (some ([1,2,3,4],[1,2,3,16,19,22,40,65])):=rx
@[simp] theorem x14_6:RX 68 r14_6 (.str [oq 5 (.mv (ci 0))]) (some ([1,2,3],[1,2,3,16,19,22,40,65])):=rx
@[simp] theorem x14_7:RX 68 r14_7 (.str [oq 42 (.mv (tq 5)),oq 43 (.fa 27 (tq 1) 8),oq 44 (.ld 25 (tq 43)),oq 45 (.oth (.call ⟨.builtin .len,#[tq 44],#[25]⟩)),oq 46 (.bin .lss 3 (tq 42) (tq 45))]) (some ([1,2,3,5],[1,2,3,16,19,22,40,65])):=rx
@[simp] theorem x14_9:RX 68 r14_9 (.drw [⟨[],[oq 49 (.fa 40 (tq 3) 8),oq 50 (.ldz 38 (tq 49)),oq 51 (.fa 27 (tq 1) 8),oq 52 (.ld 25 (tq 51)),oq 53 (.mv (tq 5)),oq 54 (.oth (.indexAddr 25 (tq 52) (tq 53))),oq 55 (.fa 63 (tq 54) 0),oq 56 (.ld 3 (tq 55)),oq 57 (.fa 27 (tq 1) 8),oq 58 (.ld 25 (tq 57)),oq 59 (.mv (tq 5)),oq 60 (.oth (.indexAddr 25 (tq 58) (tq 59))),oq 61 (.fa 63 (tq 60) 1),oq 62 (.ld 3 (tq 61)),oq 63 (.build 89 [(0,tq 56),(1,tq 62)]),oq 64 (.buildS 38 1 [(0,tq 63)]),oq 65 (.app [tq 50,tq 64] [38,38]),oq 66 (.fa 40 (tq 3) 8)],[os (.sto 38 (tq 66) (tq 65))]⟩]) (some ([1,2,3,5],[1,2,3,16,19,22,40,65])):=rx
@[simp] theorem x14_8:RX 68 r14_8 (.str [oq 47 (.mv (tq 5)),oq 48 (.bin .add 3 (tq 47) (ci 1)),oq 5 (.mv (tq 48))]) (some ([1,2,3,5],[1,2,3,16,19,22,40,65])):=rx
@[simp] theorem x14_10:RX 68 r14_10 (.str [oq 67 (.ld 40 (tq 3)),os (.sto 40 (tq 2) (tq 67))]) (some ([2,3],[1,2,3,16,19,22,40,65])):=rx
@[simp] theorem l14_3:ann 68 (fstR lb14_3) = some ([1,2,3,4],[1,2,3,16,19,22,40,65]):=by kernel_rfl
@[simp] theorem l14_7:ann 68 (fstR lb14_7) = some ([1,2,3,5],[1,2,3,16,19,22,40,65]):=by kernel_rfl
def r22_0:=rg Try.f22 2
def r22_1:=rg Try.f22 9
def r22_2:=rg Try.f22 133
def r22_4:=rg Try.f22 549
def r22_5:=rg Try.f22 2341
def r22_3:=rg Try.f22 229
def r22_6:=rg Try.f22 11
def lb22_2:Code:=(.seq (.seq r22_2 (.cond (.tmp 9) .skip (.exit 0))) (.seq (.block 1 (.seq r22_4 (.cond (.tmp 19) (.seq r22_5 .ret) .skip))) r22_3))
@[simp] theorem u22_2 (n:Nat) (st:XS):execA Try.prog ann kn n 25 lb22_2 st = execA Try.prog ann kn n 25 (.seq (.seq r22_2 (.cond (.tmp 9) .skip (.exit 0))) (.seq (.block 1 (.seq r22_4 (.cond (.tmp 19) (.seq r22_5 .ret) .skip))) r22_3)) st:=rfl
def c22:Code:=(.seq r22_0 (.seq (.seq r22_1 (.block 0 (.loop lb22_2))) (.seq r22_6 .ret)))
@[simp] theorem x22_0:RX 25 r22_0 (.str [oq 2 (.box (tq 0)),oq 4 (.mv (cb false))]) (some ([0,1],[2])):=rx
@[simp] theorem x22_1:RX 25 r22_1 (.str [oq 5 (.mv (ci 0))]) (some ([1,2],[2])):=rx
@[simp] theorem x22_2:RX 25 r22_2 (.str [oq 6 (.mv (tq 5)),oq 7 (.mv (tq 1)),oq 8 (.oth (.call ⟨.builtin .len,#[tq 7],#[51]⟩)),oq 9 (.bin .lss 3 (tq 6) (tq 8))]) (some ([1,2,5],[2])):=rx
@[simp] theorem x22_4:RX 25 r22_4 (.drw [⟨[],[oq 12 (.mv (tq 1)),oq 13 (.mv (tq 5)),oq 14 (.oth (.indexAddr 51 (tq 12) (tq 13))),oq 15 (.ld 59 (tq 14)),oq 16 (.oth (.call ⟨.builtin .len,#[tq 15],#[59]⟩)),oq 17 (.fa 27 (tq 2) 2),oq 18 (.ld 3 (tq 17)),oq 19 (.bin .neq 3 (tq 16) (tq 18))],[]⟩]) (some ([1,2,5],[2])):=rx
@[simp] theorem x22_5:RX 25 r22_5 (.str [oq 4 (.mv (cb false))]) (some ([],[])):=rx
@[simp] theorem x22_3:RX 25 r22_3 (.str [oq 10 (.mv (tq 5)),oq 11 (.bin .add 3 (tq 10) (ci 1)),oq 5 (.mv (tq 11))]) (some ([1,2,5],[2])):=rx
@[simp] theorem x22_6:RX 25 r22_6 (.str [oq 20 (.mv (tq 1)),oq 21 (.oth (.call ⟨.builtin .len,#[tq 20],#[51]⟩)),oq 22 (.fa 27 (tq 2) 1),oq 23 (.ld 3 (tq 22)),oq 24 (.bin .eql 3 (tq 21) (tq 23)),oq 4 (.mv (tq 24))]) (some ([1,2],[2])):=rx
@[simp] theorem l22_2:ann 25 (fstR lb22_2) = some ([1,2,5],[2]):=by kernel_rfl
def r86_0:=rg Try.f86 2
def r86_1:=rg Try.f86 5
def r86_2:=rg Try.f86 11
def r86_3:=rg Try.f86 39
def r86_4:=rg Try.f86 151
def r86_5:=rg Try.f86 215
def r86_6:=rg Try.f86 47
def c86:Code:=(.seq r86_0 (.seq r86_1 (.seq r86_2 (.seq (.seq r86_3 (.cond (.tmp 23) (.seq r86_4 r86_5) .skip)) (.seq r86_6 .ret)))))
theorem b86:Try.f86.body = some c86:=by kernel_rfl
@[simp] theorem x86_0:RX 36 r86_0 (.str [oq 5 (.box (tq 2)),oq 6 (.mv (ci 0))]) (some ([0,1,2],[])):=rx
@[simp] theorem x86_1:RX 36 r86_1 (.str [oq 10 (.mv (tq 1)),oq 11 (.ld 103 (tq 5)),oq 12 (.build 106 [(0,tq 10),(2,tq 11)]),oq 7 (.alloc 106),os (.sto 106 (tq 7) (tq 12))]) (some ([0,1,5],[5])):=rx
@[simp] theorem x86_2:RX 36 r86_2 (.drw [⟨[],[oq 14 (.mv (tq 0)),oq 15 (.oth (.nilCheck (tq 14))),oq 16 (.fa 114 (tq 15) 3),oq 17 (.ld 112 (tq 16)),oq 18 (.ld 106 (tq 7)),oq 19 (.oth (.lookup 112 (tq 17) (tq 18) true)),oq 13 (.mv (tq 19)),oq 20 (.oth (.extract (tq 13) 0)),oq 21 (.oth (.extract (tq 13) 1)),oq 8 (.mv (tq 20)),oq 9 (.mv (tq 21))],[]⟩]) (some ([0,1,5,7],[5,7])):=rx
@[simp] theorem x86_3:RX 36 r86_3 (.str [oq 22 (.mv (tq 9)),oq 23 (.oth (.unOp .not 4 (tq 22)))]) (some ([0,1,5,7,8,9],[5,7])):=rx
@[simp] theorem x86_4 (n:Nat) (st:XS):execA Try.prog ann kn (n + 1) 36 r86_4 st = toN (runR Try.prog (cfU [10902] (envA Try.prog ann kn n)) (.str [oq 24 (.mv (tq 0)),oq 25 (.mv (tq 1)),oq 26 (.ld 103 (tq 5)),oq 27 (.call false none (.func 82) [tq 24,tq 25,tq 26]),oq 28 (.oth (.field 33 (tq 27) 0)),oq 8 (.mv (tq 28))]) (trimO (some ([0,1,5,7],[5,7])) (ghO [] st))) :=
 exec_regU (by kernel_rfl) (by kernel_rfl) (by kernel_rfl) (by kernel_rfl) (by kernel_rfl) (by kernel_rfl)
@[simp] theorem x86_5:RX 36 r86_5 (.drw [⟨[],[oq 29 (.mv (tq 0)),oq 30 (.oth (.nilCheck (tq 29))),oq 31 (.fa 114 (tq 30) 3),oq 32 (.ld 112 (tq 31)),oq 33 (.ld 106 (tq 7)),oq 34 (.mv (tq 8))],[os (.upd 112 (tq 32) (tq 33) (tq 34))]⟩]) (some ([0,7,8],[7])):=rx
@[simp] theorem x86_6:RX 36 r86_6 (.str [oq 35 (.mv (tq 8)),oq 6 (.mv (tq 35))]) (some ([8],[])):=rx
def r87_0:=rg Try.f87 2
def r87_1:=rg Try.f87 5
def r87_2:=rg Try.f87 11
def c87:Code:=(.seq r87_0 (.seq r87_1 (.seq r87_2 .ret)))
theorem b87:Try.f87.body = some c87:=by kernel_rfl
@[simp] theorem x87_0:RX 18 r87_0 (.str [oq 4 (.mv (ci 0))]) (some ([0,1,2,3],[])):=rx
@[simp] theorem x87_1:RX 18 r87_1 (.str [oq 6 (.mv (tq 0)),oq 7 (.mv (tq 1)),oq 8 (.bin .sub 3 (tq 6) (tq 7)),oq 9 (.mv (tq 1)),oq 10 (.mv (tq 0)),oq 11 (.bin .sub 3 (tq 9) (tq 10)),oq 12 (.oth (.call ⟨.builtin .max,#[tq 8,tq 11],#[3,3]⟩)),oq 5 (.mv (tq 12))]) (some ([0,1],[])):=rx
@[simp] theorem x87_2:RX 18 r87_2 (.str [oq 13 (.mv (tq 5)),oq 14 (.mv (tq 5)),oq 15 (.bin .sub 3 (ci 4) (tq 14)),oq 16 (.buildS 22 2 [(0,tq 13),(1,tq 15)]),oq 17 (.call false none (.func 106) [tq 16]),oq 4 (.mv (tq 17))]) (some ([5],[])):=rx
def r55_0:=rg Try.f55 2
def r55_1:=rg Try.f55 9
def r55_2:=rg Try.f55 69
def r55_3:=rg Try.f55 1125
def r55_4:=rg Try.f55 1637
def r55_5:=rg Try.f55 485
def r55_6:=rg Try.f55 11
def lb55_2:Code:=(.seq r55_2 (.seq (.cond (.tmp 11) .skip (.exit 0)) (.seq (.block 1 (.seq r55_3 r55_4)) r55_5)))
@[simp] theorem u55_2 (n:Nat) (st:XS):execA Try.prog ann kn n 27 lb55_2 st = execA Try.prog ann kn n 27 (.seq r55_2 (.seq (.cond (.tmp 11) .skip (.exit 0)) (.seq (.block 1 (.seq r55_3 r55_4)) r55_5))) st:=rfl
def c55:Code:=(.seq r55_0 (.seq (.seq r55_1 (.block 0 (.loop lb55_2))) (.seq r55_6 .ret)))
theorem b55:Try.f55.body = some c55:=by kernel_rfl
@[simp] theorem x55_0:RX 27 r55_0 (.str [oq 3 (.box (tq 0)),oq 4 (.box (tq 1)),oq 5 (.box (tq 2)),oq 6 (.mv (ci 0))]) (some ([0,1,2],[3])):=rx
@[simp] theorem x55_1:RX 27 r55_1 (.str [oq 8 (.fa 40 (tq 3) 1),oq 9 (.ld 3 (tq 8)),oq 10 (.mv (ci 0))]) (some ([3,4,5,6],[3,4,5])):=rx
@[simp] theorem x55_2:RX 27 r55_2 (.str [oq 11 (.bin .lss 3 (tq 10) (tq 9))]) (some ([3,4,5,6,9,10],[3,4,5])):=rx
@[simp] theorem x55_3:RX 27 r55_3 (.str [oq 12 (.mv (tq 10)),oq 7 (.mv (tq 12))]) (some ([3,4,5,6,9,10],[3,4,5])):=rx
@[simp] theorem x55_4:RX 27 r55_4 (.drw [⟨[],[oq 13 (.mv (tq 6)),oq 14 (.mv (tq 7)),oq 15 (.oth (.indexAddr 103 (tq 4) (tq 14))),oq 16 (.ld 3 (tq 15)),oq 17 (.mv (tq 7)),oq 18 (.oth (.indexAddr 103 (tq 5) (tq 17))),oq 19 (.ld 3 (tq 18)),oq 20 (.call false none (.func 87) [tq 16,tq 19]),oq 21 (.fa 40 (tq 3) 2),oq 22 (.ld 3 (tq 21)),oq 23 (.bin .mul 3 (tq 20) (tq 22)),oq 24 (.bin .add 3 (tq 13) (tq 23)),oq 6 (.mv (tq 24))],[]⟩]) (some ([3,4,5,6,7,9,10],[3,4,5])):=rx
@[simp] theorem x55_5:RX 27 r55_5 (.str [oq 25 (.bin .add 3 (tq 10) (ci 1)),oq 10 (.mv (tq 25))]) (some ([3,4,5,6,9,10],[3,4,5])):=rx
@[simp] theorem x55_6:RX 27 r55_6 (.str [oq 26 (.mv (tq 6)),oq 6 (.mv (tq 26))]) (some ([6],[])):=rx
@[simp] theorem l55_2:ann 27 (fstR lb55_2) = some ([3,4,5,6,9,10],[3,4,5]):=by kernel_rfl
def r67_0:=rg Try.f67 2
def r67_1:=rg Try.f67 5
def r67_2:=rg Try.f67 19
def r67_3:=rg Try.f67 139
def r67_4:=rg Try.f67 2251
def r67_5:=rg Try.f67 5323
def r67_6:=rg Try.f67 11467
def r67_7:=rg Try.f67 40139
def r67_8:=rg Try.f67 56523
def r67_9:=rg Try.f67 971
def r67_10:=rg Try.f67 23
def lb67_3:Code:=(.seq r67_3 (.seq (.cond (.tmp 15) .skip (.exit 0)) (.seq (.block 1 (.seq r67_4 (.seq r67_5 (.seq r67_6 (.cond (.tmp 22) (.seq r67_7 r67_8) .skip))))) r67_9)))
@[simp] theorem u67_3 (n:Nat) (st:XS):execA Try.prog ann kn n 32 lb67_3 st = execA Try.prog ann kn n 32 (.seq r67_3 (.seq (.cond (.tmp 15) .skip (.exit 0)) (.seq (.block 1 (.seq r67_4 (.seq r67_5 (.seq r67_6 (.cond (.tmp 22) (.seq r67_7 r67_8) .skip))))) r67_9))) st:=rfl
def c67:Code:=(.seq r67_0 (.seq r67_1 (.seq (.seq r67_2 (.block 0 (.loop lb67_3))) (.seq r67_10 .ret))))
@[simp] theorem x67_0:RX 32 r67_0 (.str [oq 2 (.box (tq 0)),oq 4 (.mv (ci 0))]) (some ([0,1],[2])):=rx
@[simp] theorem x67_1:RX 32 r67_1 (.str [oq 9 (.fa 40 (tq 2) 4),oq 10 (.ld 22 (tq 9)),oq 11 (.call true none (.func 52) [tq 10]),oq 5 (.alloc 103),os (.sto 103 (tq 5) (tq 11))]) (some ([1,2,4],[2])):=rx
@[simp] theorem x67_2:RX 32 r67_2 (.str [oq 12 (.mv (tq 1)),oq 13 (.oth (.call ⟨.builtin .len,#[tq 12],#[23]⟩)),oq 14 (.mv (ci 0))]) (some ([1,2,4,5],[2,5])):=rx
@[simp] theorem x67_3:RX 32 r67_3 (.str [oq 15 (.bin .lss 3 (tq 14) (tq 13))]) (some ([2,4,5,12,13,14],[2,5])):=rx
@[simp] theorem x67_4:RX 32 r67_4 (.str [oq 16 (.oth (.indexAddr 23 (tq 12) (tq 14))),oq 17 (.ld 22 (tq 16)),oq 7 (.mv (tq 17))]) (some ([2,4,5,12,13,14],[2,5])):=rx
@[simp] theorem x67_5:RX 32 r67_5 (.str [oq 18 (.mv (tq 7)),oq 19 (.call true none (.func 52) [tq 18]),oq 8 (.alloc 103),os (.sto 103 (tq 8) (tq 19))]) (some ([2,4,5,7,12,13,14],[2,5])):=rx
@[simp] theorem x67_6:RX 32 r67_6 (.str [oq 20 (.ld 103 (tq 8)),oq 21 (.ld 103 (tq 5)),oq 22 (.bin .neq 103 (tq 20) (tq 21))]) (some ([2,4,5,8,12,13,14],[2,5,8])):=rx
@[simp] theorem x67_7:RX 32 r67_7 (.str [oq 23 (.mv (tq 4)),oq 24 (.ld 40 (tq 2)),oq 25 (.ld 103 (tq 5)),oq 26 (.ld 103 (tq 8)),oq 27 (.call false none (.func 55) [tq 24,tq 25,tq 26]),oq 28 (.bin .add 3 (tq 23) (tq 27)),oq 4 (.mv (tq 28))]) (some ([2,4,5,8,12,13,14],[2,5,8])):=rx
@[simp] theorem x67_8:RX 32 r67_8 (.str [oq 29 (.ld 103 (tq 8)),os (.sto 103 (tq 5) (tq 29))]) (some ([2,4,5,8,12,13,14],[2,5,8])):=rx
@[simp] theorem x67_9:RX 32 r67_9 (.str [oq 30 (.bin .add 3 (tq 14) (ci 1)),oq 14 (.mv (tq 30))]) (some ([2,4,5,12,13,14],[2,5])):=rx
@[simp] theorem x67_10:RX 32 r67_10 (.str [oq 31 (.mv (tq 4)),oq 4 (.mv (tq 31))]) (some ([4],[])):=rx
@[simp] theorem l67_3:ann 32 (fstR lb67_3) = some ([2,4,5,12,13,14],[2,5]):=by kernel_rfl
def r34_0:=rg Try.f34 2
def r34_1:=rg Try.f34 9
def r34_2:=rg Try.f34 21
def r34_3:=rg Try.f34 77
def r34_4:=rg Try.f34 19
def r34_5:=rg Try.f34 75
def r34_6:=rg Try.f34 23
def c34:Code:=(.seq r34_0 (.seq (.seq r34_1 (.seq r34_2 (.cond (.tmp 10) (.seq r34_3 .ret) .skip))) (.seq (.seq r34_4 (.cond (.tmp 15) (.seq r34_5 .ret) .skip)) (.seq r34_6 .ret))))
def r53_0:=rg Try.f53 2
def r53_1:=rg Try.f53 9
def r53_2:=rg Try.f53 37
def r53_3:=rg Try.f53 19
def r53_4:=rg Try.f53 43
def r53_5:=rg Try.f53 155
def r53_6:=rg Try.f53 23
def r53_7:=rg Try.f53 47
def r53_8:=rg Try.f53 95
def r53_9:=rg Try.f53 191
def c53:Code:=(.seq r53_0 (.seq (.seq r53_1 (.cond (.tmp 15) (.seq r53_2 .ret) .skip)) (.seq (.seq r53_3 (.seq r53_4 (.cond (.tmp 26) (.seq r53_5 .ret) .skip))) (.seq r53_6 (.seq r53_7 (.seq r53_8 (.seq r53_9 .ret)))))))
theorem b53:Try.f53.body = some c53:=by kernel_rfl
@[simp] theorem x53_0:RX 39 r53_0 (.str [oq 2 (.box (tq 0)),oq 3 (.box (tq 1)),oq 4 (.alloc 108)]) (some ([0,1],[2,3,7])):=rx
@[simp] theorem x53_1:RX 39 r53_1 (.drw [⟨[],[oq 8 (.fa 106 (tq 3) 0),oq 9 (.ld 3 (tq 8)),oq 10 (.ld 93 (tq 2)),oq 11 (.oth (.nilCheck (tq 10))),oq 12 (.fa 114 (tq 11) 0),oq 13 (.fa 40 (tq 12) 0),oq 14 (.ld 3 (tq 13)),oq 15 (.bin .gtr 3 (tq 9) (tq 14))],[]⟩]) (some ([2,3,4],[2,3,4,7])):=rx
@[simp] theorem x53_2:RX 39 r53_2 (.str [oq 16 (.build 108 []),os (.sto 108 (tq 4) (tq 16))]) (some ([4],[4])):=rx
@[simp] theorem x53_3:RX 39 r53_3 (.drw [⟨[5],[oq 18 (.ldz 93 (tq 2)),oq 19 (.oth (.nilCheck (tq 18))),oq 20 (.fa 114 (tq 19) 2),oq 21 (.ldz 111 (tq 20)),oq 22 (.ldz 106 (tq 3)),oq 23 (.oth (.lookup 111 (tq 21) (tq 22) true)),oq 17 (.mv (tq 23)),oq 24 (.oth (.extract (tq 17) 0)),oq 25 (.oth (.extract (tq 17) 1)),oq 5 (.alloc 108),os (.sto 108 (tq 5) (tq 24)),oq 6 (.mv (tq 25))],[]⟩]) (some ([2,3,4],[2,3,4,7])):=rx
@[simp] theorem x53_4:RX 39 r53_4 (.str [oq 26 (.mv (tq 6))]) (some ([2,3,4,5,6],[2,3,4,5,7])):=rx
@[simp] theorem x53_5:RX 39 r53_5 (.str [oq 27 (.ld 108 (tq 5)),os (.sto 108 (tq 4) (tq 27))]) (some ([4,5],[4,5])):=rx
@[simp] theorem x53_6:RX 39 r53_6 (.str [oq 28 (.build 108 [(0,.const (.int .i64 (Int.negSucc 0)))]),oq 7 (.alloc 108),os (.sto 108 (tq 7) (tq 28))]) (some ([2,3,4],[2,3,4,7])):=rx
@[simp] theorem x53_7 (n:Nat) (st:XS):execA Try.prog ann kn (n + 1) 39 r53_7 st = toN (runR Try.prog (envA Try.prog ann kn n) (.str [oq 29 (.ld 93 (tq 2)),oq 30 (.oth (.makeFunc (.func 85) #[] #[tq 2,tq 3,tq 7])),oq 31 (.call false none (.func 84) [tq 29,tq 30])]) (trimO (some ([2,3,4,7],[2,3,4,7])) (ghO [2,3] st))) :=
 exec_regT (by kernel_rfl) (by kernel_rfl) (by kernel_rfl) (by kernel_rfl) (by kernel_rfl)
@[simp] theorem x53_8:RX 39 r53_8 (.drw [⟨[],[oq 32 (.ld 93 (tq 2)),oq 33 (.oth (.nilCheck (tq 32))),oq 34 (.fa 114 (tq 33) 2),oq 35 (.ld 111 (tq 34)),oq 36 (.ld 106 (tq 3)),oq 37 (.ld 108 (tq 7))],[os (.upd 111 (tq 35) (tq 36) (tq 37))]⟩]) (some ([2,3,4,7],[2,3,4,7])):=rx
@[simp] theorem x53_9:RX 39 r53_9 (.str [oq 38 (.ld 108 (tq 7)),os (.sto 108 (tq 4) (tq 38))]) (some ([4,7],[2,3,4,7])):=rx
def r85_0:=rg Try.f85 2
def r85_1:=rg Try.f85 5
def r85_2:=rg Try.f85 19
def r85_3:=rg Try.f85 23
def r85_4:=rg Try.f85 47
def r85_5:=rg Try.f85 95
def c85:Code:=(.seq r85_0 (.seq r85_1 (.seq (.seq r85_2 (.cond (.tmp 18) .ret .skip)) (.seq r85_3 (.seq r85_4 (.cond (.tmp 40) r85_5 .skip))))))
theorem b85:Try.f85.body = some c85:=by kernel_rfl
@[simp] theorem x85_0:RX 44 r85_0 (.str [oq 4 (.box (tq 0))]) (some ([0,1,2,3],[])):=rx
@[simp] theorem x85_1 (n:Nat) (st:XS):execA Try.prog ann kn (n + 1) 44 r85_1 st = toN (runR Try.prog (envA Try.prog ann kn n) (.drw [⟨[],[oq 7 (.ld 93 (tq 1)),oq 8 (.oth (.nilCheck (tq 7))),oq 9 (.fa 114 (tq 8) 0),oq 10 (.ld 40 (tq 9)),oq 11 (.fa 106 (tq 2) 2),oq 12 (.ld 103 (tq 11)),oq 13 (.ld 103 (tq 4))],[oq 14 (.call false none (.func 55) [tq 10,tq 12,tq 13])]⟩,⟨[],[oq 5 (.mv (tq 14))],[]⟩]) (trimO (some ([1,2,3,4],[4])) (ghO [4] st))) :=
 exec_regT (by kernel_rfl) (by kernel_rfl) (by kernel_rfl) (by kernel_rfl) (by kernel_rfl)
@[simp] theorem x85_2:RX 44 r85_2 (.str [oq 15 (.mv (tq 5)),oq 16 (.fa 106 (tq 2) 1),oq 17 (.ld 3 (tq 16)),oq 18 (.bin .gtr 3 (tq 15) (tq 17))]) (some ([1,2,3,4,5],[4])):=rx
@[simp] theorem x85_4:RX 44 r85_4 (.str [oq 37 (.mv (tq 6)),oq 38 (.fa 108 (tq 3) 0),oq 39 (.ld 3 (tq 38)),oq 40 (.bin .gtr 3 (tq 37) (tq 39))]) (some ([3,4,6],[4])):=rx
@[simp] theorem x85_5:RX 44 r85_5 (.str [oq 41 (.mv (tq 6)),oq 42 (.ld 103 (tq 4)),oq 43 (.build 108 [(0,tq 41),(1,tq 42)]),os (.sto 108 (tq 3) (tq 43))]) (some ([3,4,6],[4])):=rx
def r84_0:=rg Try.f84 2
def r84_1:=rg Try.f84 5
def r84_2:=rg Try.f84 11
def r84_3:=rg Try.f84 23
def r84_4:=rg Try.f84 31
def c84:Code:=(.seq r84_0 (.seq r84_1 (.seq r84_2 (.seq r84_3 r84_4))))
theorem b84:Try.f84.body = some c84:=by kernel_rfl
@[simp] theorem x84_0:RX 9 r84_0 (.str [oq 2 (.box (tq 0)),oq 3 (.box (tq 1))]) (some ([0,1],[2,3,4,5,7])):=rx
@[simp] theorem x84_1:RX 9 r84_1 (.str [oq 4 (.alloc 103)]) (some ([2,3],[2,3,4,5])):=rx
@[simp] theorem x84_2:RX 9 r84_2 (.str [oq 5 (.alloc 147)]) (some ([2,3,4],[2,3,4,5])):=rx
@[simp] theorem x84_3:RX 9 r84_3 (.str [oq 6 (.oth (.makeFunc (.func 105) #[] #[tq 2,tq 3,tq 4,tq 5])),os (.sto 147 (tq 5) (tq 6))]) (some ([2,3,4,5],[2,3,4,5])):=rx
@[simp] theorem x84_4:RX 9 r84_4 (.str [oq 7 (.ld 147 (tq 5)),oq 8 (.call false none (tq 7) [ci 0])]) (some ([5],[2,3,4,5])):=rx
def r105_0:=rg Try.f105 4
def r105_1:=rg Try.f105 18
def r105_2:=rg Try.f105 5
def r105_3:=rg Try.f105 35
def r105_4:=rg Try.f105 563
def r105_5:=rg Try.f105 1331
def r105_6:=rg Try.f105 1843
def r105_7:=rg Try.f105 243
def lb105_3:Code:=(.seq r105_3 (.seq (.cond (.tmp 18) .skip (.exit 0)) (.seq (.block 1 (.seq r105_4 (.seq r105_5 r105_6))) r105_7)))
@[simp] theorem u105_3 (n:Nat) (st:XS):execA Try.prog ann kn n 28 lb105_3 st = execA Try.prog ann kn n 28 (.seq r105_3 (.seq (.cond (.tmp 18) .skip (.exit 0)) (.seq (.block 1 (.seq r105_4 (.seq r105_5 r105_6))) r105_7))) st:=rfl
def c105:Code:=(.seq (.seq r105_0 (.cond (.tmp 13) (.seq r105_1 .ret) .skip)) (.seq r105_2 (.block 0 (.loop lb105_3))))
theorem b105:Try.f105.body = some c105:=by kernel_rfl
@[simp] theorem x105_0:RX 28 r105_0 (.str [oq 7 (.mv (tq 0)),oq 8 (.ld 93 (tq 1)),oq 9 (.oth (.nilCheck (tq 8))),oq 10 (.fa 114 (tq 9) 0),oq 11 (.fa 40 (tq 10) 1),oq 12 (.ld 3 (tq 11)),oq 13 (.bin .eql 3 (tq 7) (tq 12))]) (some ([0,1,2,3,4],[])):=rx
@[simp] theorem x105_1:RX 28 r105_1 (.str [oq 14 (.ld 139 (tq 2)),oq 15 (.ld 103 (tq 3)),oq 16 (.call false none (tq 14) [tq 15])]) (some ([2,3],[])):=rx
@[simp] theorem x105_2:RX 28 r105_2 (.str [oq 17 (.mv (ci 0))]) (some ([0,3,4],[])):=rx
@[simp] theorem x105_3:RX 28 r105_3 (.str [oq 18 (.bin .lss 3 (tq 17) (ci 4))]) (some ([0,3,4,17],[])):=rx
@[simp] theorem x105_4:RX 28 r105_4 (.str [oq 19 (.mv (tq 17)),oq 6 (.mv (tq 19))]) (some ([0,3,4,17],[])):=rx
@[simp] theorem x105_5:RX 28 r105_5 (.str [oq 20 (.mv (tq 0)),oq 21 (.mv (tq 6)),oq 22 (.oth (.indexAddr 103 (tq 3) (tq 20))),os (.sto 3 (tq 22) (tq 21))]) (some ([0,3,4,6,17],[])):=rx
@[simp] theorem x105_6:RX 28 r105_6 (.str [oq 23 (.ld 147 (tq 4)),oq 24 (.mv (tq 0)),oq 25 (.bin .add 3 (tq 24) (ci 1)),oq 26 (.call false none (tq 23) [tq 25])]) (some ([0,3,4,17],[])):=rx
@[simp] theorem x105_7:RX 28 r105_7 (.str [oq 27 (.bin .add 3 (tq 17) (ci 1)),oq 17 (.mv (tq 27))]) (some ([0,3,4,17],[])):=rx
@[simp] theorem l105_3:ann 28 (fstR lb105_3) = some ([0,3,4,17],[]):=by kernel_rfl
def r21_0:=rg Try.f21 2
def r21_1:=rg Try.f21 5
def r21_2:=rg Try.f21 19
def r21_3:=rg Try.f21 75
def r21_4:=rg Try.f21 23
def r21_5:=rg Try.f21 47
def r21_6:=rg Try.f21 159
def r21_7:=rg Try.f21 1119
def r21_8:=rg Try.f21 18015
def r21_9:=rg Try.f21 42591
def r21_10:=rg Try.f21 58975
def r21_11:=rg Try.f21 7775
def r21_12:=rg Try.f21 191
def lb21_7:Code:=(.seq r21_7 (.seq (.cond (.tmp 32) .skip (.exit 0)) (.seq (.block 1 (.seq r21_8 (.seq r21_9 r21_10))) r21_11)))
@[simp] theorem u21_7 (n:Nat) (st:XS):execA Try.prog ann kn n 65 lb21_7 st = execA Try.prog ann kn n 65 (.seq r21_7 (.seq (.cond (.tmp 32) .skip (.exit 0)) (.seq (.block 1 (.seq r21_8 (.seq r21_9 r21_10))) r21_11))) st:=rfl
def c21:Code:=(.seq r21_0 (.seq r21_1 (.seq (.seq r21_2 (.cond (.tmp 17) (.seq r21_3 .ret) .skip)) (.seq r21_4 (.seq r21_5 (.seq (.seq r21_6 (.block 0 (.loop lb21_7))) (.seq r21_12 .ret)))))))
theorem b21:Try.f21.body = some c21:=by kernel_rfl
@[simp] theorem x21_0:RX 65 r21_0 (.str [oq 2 (.box (tq 0)),oq 3 (.box (tq 1)),oq 4 (.mv (.const (.slice none 0 0))),oq 5 (.mv (ci 0)),oq 6 (.mv (ci 0))]) (some ([0,1],[2,3,13,900,901,902])):=rx
@[simp] theorem x21_1:RX 65 r21_1 (.str [oq 11 (.ld 40 (tq 2)),oq 12 (.oth (.makeFunc (.func 50) #[] #[tq 3])),oq 13 (.call false none (.func 43) [tq 11,tq 12]),oq 10 (.mv (tq 13)),oq 14 (.oth (.extract (tq 10) 0)),oq 15 (.oth (.extract (tq 10) 1)),oq 7 (.mv (tq 14)),oq 6 (.mv (tq 15))]) (some ([2,3,4],[2,3,13,43,900,901,902])):=rx
@[simp] theorem x21_2:RX 65 r21_2 (.str [oq 16 (.mv (tq 6)),oq 17 (.bin .neq 34 (tq 16) (ci 0))]) (some ([2,3,4,6,7],[2,3,13,43,900,901,902])):=rx
@[simp] theorem x21_3:RX 65 r21_3 (.str [oq 18 (.mv (tq 6)),oq 4 (.mv (.const (.slice none 0 0))),oq 5 (.mv (ci 0)),oq 6 (.mv (tq 18))]) (some ([6],[])):=rx
@[simp] theorem x21_4:RX 65 r21_4 (.drw [⟨[8],[oq 19 (.ldz 3 (tq 3)),oq 20 (.fa 40 (tq 2) 4),oq 21 (.ldz 22 (tq 20)),oq 22 (.call false none (.func 52) [tq 21]),oq 23 (.build 106 [(0,ci 0),(1,tq 19),(2,tq 22)]),oq 8 (.alloc 106)],[os (.sto 106 (tq 8) (tq 23))]⟩]) (some ([2,3,4,7],[2,3,13,43,900,901,902])):=rx
@[simp] theorem x21_5:RX 65 r21_5 (.str [oq 24 (.mv (tq 7)),oq 25 (.ld 106 (tq 8)),oq 26 (.call false none (.func 53) [tq 24,tq 25]),oq 27 (.oth (.field 108 (tq 26) 0)),oq 5 (.mv (tq 27))]) (some ([2,4,7,8],[2,3,8,13,43,900,901,902])):=rx
@[simp] theorem x21_6:RX 65 r21_6 (.str [oq 28 (.fa 40 (tq 2) 0),oq 29 (.ld 3 (tq 28)),oq 30 (.bin .add 3 (tq 29) (ci 1)),oq 31 (.mv (ci 0))]) (some ([2,4,5,7,8],[2,3,8,13,43,900,901,902])):=rx
@[simp] theorem x21_7:RX 65 r21_7 (.str [oq 32 (.bin .lss 3 (tq 31) (tq 30))]) (some ([2,4,5,7,8,30,31],[2,3,8,13,43,900,901,902])):=rx
@[simp] theorem x21_8:RX 65 r21_8 (.str [oq 33 (.mv (tq 7)),oq 34 (.ld 106 (tq 8)),oq 35 (.call true none (.func 53) [tq 33,tq 34]),oq 9 (.alloc 108),os (.sto 108 (tq 9) (tq 35))]) (some ([2,4,5,7,8,30,31],[2,3,8,13,43,900,901,902])):=rx
@[simp] theorem x21_9:RX 65 r21_9 (.str [oq 36 (.mv (tq 4)),oq 37 (.fa 108 (tq 9) 1),oq 38 (.fa 40 (tq 2) 1),oq 39 (.ld 3 (tq 38)),oq 40 (.oth (.slice 103 (tq 37) none (some (tq 39)) none)),oq 41 (.call false none (.func 54) [tq 40]),oq 42 (.buildS 23 1 [(0,tq 41)]),oq 43 (.app [tq 36,tq 42] [23,23]),oq 4 (.mv (tq 43))]) (some ([2,4,5,7,8,9,30,31],[2,3,8,9,13,41,43,900,901,902])):=rx
@[simp] theorem x21_10 (n:Nat) (st:XS):execA Try.prog ann kn (n + 1) 65 r21_10 st = toN (runR Try.prog (envA Try.prog ann kn n) (.drw [⟨[],[oq 44 (.fa 106 (tq 8) 0),oq 45 (.ldz 3 (tq 44)),oq 46 (.bin .add 3 (tq 45) (ci 1)),oq 47 (.fa 106 (tq 8) 1),oq 48 (.ldz 3 (tq 47)),oq 49 (.mv (tq 7)),oq 50 (.oth (.nilCheck (tq 49))),oq 51 (.fa 114 (tq 50) 0),oq 52 (.ldz 40 (tq 51)),oq 53 (.fa 106 (tq 8) 2),oq 54 (.ldz 103 (tq 53)),oq 55 (.fa 108 (tq 9) 1),oq 56 (.ldz 103 (tq 55)),oq 57 (.call false none (.func 55) [tq 52,tq 54,tq 56]),oq 58 (.bin .sub 3 (tq 48) (tq 57)),oq 59 (.fa 108 (tq 9) 1),oq 60 (.ldz 103 (tq 59)),oq 61 (.build 106 [(0,tq 46),(1,tq 58),(2,tq 60)])],[os (.sto 106 (tq 8) (tq 61))]⟩]) (trimO (some ([2,4,5,7,8,9,30,31],[2,3,8,9,13,41,43,900,901,902])) (ghO [41] st))) :=
 exec_regT (by kernel_rfl) (by kernel_rfl) (by kernel_rfl) (by kernel_rfl) (by kernel_rfl)
@[simp] theorem x21_11:RX 65 r21_11 (.str [oq 62 (.bin .add 3 (tq 31) (ci 1)),oq 31 (.mv (tq 62))]) (some ([2,4,5,7,8,30,31],[2,3,8,13,43,900,901,902])):=rx
@[simp] theorem x21_12:RX 65 r21_12 (.str [oq 63 (.mv (tq 4)),oq 64 (.mv (tq 5)),oq 4 (.mv (tq 63)),oq 5 (.mv (tq 64)),oq 6 (.mv (ci 0))]) (some ([4,5],[43])):=rx
@[simp] theorem l21_7:ann 65 (fstR lb21_7) = some ([2,4,5,7,8,30,31],[2,3,8,13,43,900,901,902]):=by kernel_rfl
def r50_0:=rg Try.f50 2
def r50_1:=rg Try.f50 5
def c50:Code:=(.seq r50_0 (.seq r50_1 .ret))
theorem b50:Try.f50.body = some c50:=by kernel_rfl
@[simp] theorem x50_0:RX 4 r50_0 (.str [oq 1 (.mv (cb false))]) (some ([0],[])):=rx
@[simp] theorem x50_1:RX 4 r50_1 (.str [oq 2 (.ld 3 (tq 0)),oq 3 (.call false none (.func 51) [tq 2,ci 0,ci 99]),oq 1 (.mv (tq 3))]) (some ([0],[])):=rx
def r25_0:=rg Try.f25 2
def r25_1:=rg Try.f25 5
def c25:Code:=(.seq r25_0 (.seq r25_1 .ret))
theorem b25:Try.f25.body = some c25:=by kernel_rfl
@[simp] theorem x25_0:RX 17 r25_0 (.str [oq 2 (.box (tq 0)),oq 3 (.box (tq 1)),oq 4 (.mv (cb false))]) (some ([0,1],[])):=rx
@[simp] theorem x25_1:RX 17 r25_1 (.str [oq 5 (.fa 33 (tq 2) 0),oq 6 (.ld 3 (tq 5)),oq 7 (.fa 33 (tq 3) 0),oq 8 (.ld 3 (tq 7)),oq 9 (.bin .geq 3 (tq 6) (tq 8)),oq 10 (.mv (tq 9)),og 10 true 11 (.fa 33 (tq 2) 1),og 10 true 12 (.ld 3 (tq 11)),og 10 true 13 (.fa 33 (tq 3) 1),og 10 true 14 (.ld 3 (tq 13)),og 10 true 15 (.bin .leq 3 (tq 12) (tq 14)),oq 16 (.pick (tq 10) (tq 15) (cb false)),oq 4 (.mv (tq 16))]) (some ([2,3],[2,3])):=rx
def r7_0:=rg Try.f7 2
def r7_1:=rg Try.f7 9
def r7_2:=rg Try.f7 37
def r7_3:=rg Try.f7 11
def r7_4:=rg Try.f7 23
def r7_5:=rg Try.f7 47
def r7_6:=rg Try.f7 95
def r7_7:=rg Try.f7 319
def r7_8:=rg Try.f7 4287
def r7_10:=rg Try.f7 17599
def r7_11:=rg Try.f7 42175
def r7_9:=rg Try.f7 7359
def r7_12:=rg Try.f7 639
def r7_13:=rg Try.f7 2431
def r7_14:=rg Try.f7 767
def r7_15:=rg Try.f7 1535
def r7_16:=rg Try.f7 5119
def r7_17:=rg Try.f7 19455
def r7_18:=rg Try.f7 10239
def r7_19:=rg Try.f7 38911
def r7_20:=rg Try.f7 12287
def r7_21:=rg Try.f7 24575
def r7_22:=rg Try.f7 49151
def r7_23:=rg Try.f7 98303
def r7_24:=rg Try.f7 196607
def r7_25:=rg Try.f7 393215
def lb7_8:Code:=(.seq (.seq r7_8 (.cond (.tmp 51) .skip (.exit 0))) (.seq (.block 1 (.seq r7_10 (.cond (.tmp 65) r7_11 .skip))) r7_9))
@[simp] theorem u7_8 (n:Nat) (st:XS):execA Try.prog ann kn n 177 lb7_8 st = execA Try.prog ann kn n 177 (.seq (.seq r7_8 (.cond (.tmp 51) .skip (.exit 0))) (.seq (.block 1 (.seq r7_10 (.cond (.tmp 65) r7_11 .skip))) r7_9)) st:=rfl
def c7:Code:=(.seq r7_0 (.seq (.seq r7_1 (.cond (.tmp 30) (.seq r7_2 .ret) .skip)) (.seq r7_3 (.seq r7_4 (.seq r7_5 (.seq r7_6 (.seq (.seq r7_7 (.block 0 (.loop lb7_8))) (.seq (.seq r7_12 (.cond (.tmp 80) (.seq r7_13 .ret) .skip)) (.seq r7_14 (.seq r7_15 (.seq (.seq r7_16 (.cond (.tmp 106) (.seq r7_17 .ret) .skip)) (.seq (.seq r7_18 (.cond (.tmp 109) (.seq r7_19 .ret) .skip)) (.seq r7_20 (.seq r7_21 (.seq r7_22 (.seq r7_23 (.seq r7_24 (.seq r7_25 .ret))))))))))))))))))
theorem b7:Try.f7.body = some c7:=by kernel_rfl
@[simp] theorem x7_0:RX 177 r7_0 (.str [oq 4 (.box (tq 0)),oq 8 (.mv (cb false))]) (some ([0,1,2,3],[4,9,35,76,84,85,90,91,113,116,118,124,126,132,136,142,146])):=rx
@[simp] theorem x7_1:RX 177 r7_1 (.str [oq 28 (.ld 27 (tq 4)),oq 29 (.call false none (.func 10) [tq 28]),oq 30 (.oth (.unOp .not 4 (tq 29)))]) (some ([1,2,3,4],[4,9,35,76,84,85,90,91,113,116,118,124,126,132,136,142,146])):=rx
@[simp] theorem x7_2:RX 177 r7_2 (.str [oq 31 (.call false none (.func 11) []),oq 8 (.mv (tq 31))]) (some ([],[])):=rx
@[simp] theorem x7_3:RX 177 r7_3 (.str [oq 32 (.ld 27 (tq 4)),oq 9 (.alloc 27),os (.sto 27 (tq 9) (tq 32))]) (some ([1,2,3,4],[4,9,35,76,84,85,90,91,113,116,118,124,126,132,136,142,146])):=rx
@[simp] theorem x7_4:RX 177 r7_4 (.str [oq 33 (.fa 27 (tq 4) 6),oq 34 (.ld 23 (tq 33)),oq 35 (.call true none (.func 15) [tq 34]),oq 36 (.fa 27 (tq 9) 6),os (.sto 23 (tq 36) (tq 35))]) (some ([1,2,3,4,9],[4,9,35,76,84,85,90,91,113,116,118,124,126,132,136,142,146])):=rx
@[simp] theorem x7_5:RX 177 r7_5 (.str [oq 37 (.mv (tq 1)),oq 38 (.oth (.convert 5 3 (tq 37))),oq 39 (.fa 27 (tq 4) 0),oq 40 (.ld 3 (tq 39)),oq 41 (.bin .add 3 (tq 40) (ci 1)),oq 42 (.bin .rem 3 (tq 38) (tq 41)),oq 43 (.mv (tq 2)),oq 44 (.oth (.convert 5 3 (tq 43))),oq 45 (.bin .rem 3 (tq 44) (ci 4)),oq 10 (.mv (tq 42)),oq 11 (.mv (tq 45))]) (some ([1,2,3,4,9],[4,9,35,76,84,85,90,91,113,116,118,124,126,132,136,142,146])):=rx
@[simp] theorem x7_6:RX 177 r7_6 (.str [oq 46 (.fa 27 (tq 9) 6),oq 47 (.ld 23 (tq 46)),oq 48 (.mv (tq 10)),oq 49 (.oth (.indexAddr 23 (tq 47) (tq 48))),os (.sto 22 (tq 49) (.const (.slice none 0 0)))]) (some ([2,3,4,9,10,11],[4,9,35,76,84,85,90,91,113,116,118,124,126,132,136,142,146])):=rx
@[simp] theorem x7_7:RX 177 r7_7 (.str [oq 12 (.mv (ci 0))]) (some ([2,3,4,9,10,11],[4,9,35,76,84,85,90,91,113,116,118,124,126,132,136,142,146])):=rx
@[simp] theorem x7_8:RX 177 r7_8 (.str [oq 50 (.mv (tq 12)),oq 51 (.bin .lss 3 (tq 50) (ci 4))]) (some ([2,3,4,9,10,11,12],[4,9,35,76,84,85,90,91,113,116,118,124,126,132,136,142,146])):=rx
@[simp] theorem x7_10:RX 177 r7_10 (.str [oq 54 (.mv (tq 12)),oq 55 (.mv (tq 11)),oq 56 (.bin .eql 3 (tq 54) (tq 55)),oq 57 (.mv (tq 56)),og 57 false 58 (.fa 27 (tq 4) 6),og 57 false 59 (.ld 23 (tq 58)),og 57 false 60 (.mv (tq 10)),og 57 false 61 (.oth (.indexAddr 23 (tq 59) (tq 60))),og 57 false 62 (.ld 22 (tq 61)),og 57 false 63 (.mv (tq 12)),og 57 false 64 (.call false none (.func 26) [tq 62,tq 63]),oq 65 (.pick (tq 57) (cb true) (tq 64))]) (some ([2,3,4,9,10,11,12],[4,9,35,76,84,85,90,91,113,116,118,124,126,132,136,142,146])):=rx
@[simp] theorem x7_11:RX 177 r7_11 (.drw [⟨[],[oq 66 (.fa 27 (tq 9) 6),oq 67 (.ld 23 (tq 66)),oq 68 (.mv (tq 10)),oq 69 (.fa 27 (tq 9) 6),oq 70 (.ld 23 (tq 69)),oq 71 (.mv (tq 10)),oq 72 (.oth (.indexAddr 23 (tq 70) (tq 71))),oq 73 (.ldz 22 (tq 72)),oq 74 (.mv (tq 12)),oq 75 (.buildS 22 1 [(0,tq 74)]),oq 76 (.app [tq 73,tq 75] [22,22]),oq 77 (.oth (.indexAddr 23 (tq 67) (tq 68)))],[os (.sto 22 (tq 77) (tq 76))]⟩]) (some ([2,3,4,9,10,11,12],[4,9,35,76,84,85,90,91,113,116,118,124,126,132,136,142,146])):=rx
@[simp] theorem x7_9:RX 177 r7_9 (.str [oq 52 (.mv (tq 12)),oq 53 (.bin .add 3 (tq 52) (ci 1)),oq 12 (.mv (tq 53))]) (some ([2,3,4,9,10,11,12],[4,9,35,76,84,85,90,91,113,116,118,124,126,132,136,142,146])):=rx
@[simp] theorem x7_12 (n:Nat) (st:XS):execA Try.prog ann kn (n + 1) 177 r7_12 st = toN (runR Try.prog (envA Try.prog ann kn n) (.str [oq 78 (.ld 27 (tq 9)),oq 79 (.call false none (.func 10) [tq 78]),oq 80 (.oth (.unOp .not 4 (tq 79)))]) (trimO (some ([2,3,4,9],[4,9,35,76,84,85,90,91,113,116,118,124,126,132,136,142,146])) (ghO [76,35] st))) :=
 exec_regT (by kernel_rfl) (by kernel_rfl) (by kernel_rfl) (by kernel_rfl) (by kernel_rfl)
@[simp] theorem x7_13:RX 177 r7_13 (.str [oq 81 (.call false none (.func 11) []),oq 8 (.mv (tq 81))]) (some ([],[])):=rx
@[simp] theorem x7_14:RX 177 r7_14 (.str [oq 83 (.ld 27 (tq 4)),oq 84 (.call false none (.func 14) [tq 83]),oq 85 (.call false none (.func 23) [tq 84]),oq 82 (.mv (tq 85)),oq 86 (.oth (.extract (tq 82) 0)),oq 87 (.oth (.extract (tq 82) 1)),oq 13 (.mv (tq 86)),oq 14 (.mv (tq 87))]) (some ([2,3,4,9],[4,9,35,76,84,85,90,91,113,116,118,124,126,132,136,142,146])):=rx
@[simp] theorem x7_15:RX 177 r7_15 (.str [oq 89 (.ld 27 (tq 9)),oq 90 (.call false none (.func 14) [tq 89]),oq 91 (.call false none (.func 23) [tq 90]),oq 88 (.mv (tq 91)),oq 92 (.oth (.extract (tq 88) 0)),oq 93 (.oth (.extract (tq 88) 1)),oq 15 (.mv (tq 92)),oq 16 (.mv (tq 93))]) (some ([2,3,4,9,13,14],[4,9,35,76,84,85,90,91,113,116,118,124,126,132,136,142,146])):=rx
@[simp] theorem x7_16:RX 177 r7_16 (.str [oq 94 (.mv (tq 14)),oq 95 (.bin .neq 34 (tq 94) (ci 0)),oq 96 (.mv (tq 95)),og 96 false 97 (.mv (tq 16)),og 96 false 98 (.bin .neq 34 (tq 97) (ci 0)),oq 99 (.pick (tq 96) (cb true) (tq 98)),oq 100 (.mv (tq 99)),og 100 false 101 (.mv (tq 15)),og 100 false 102 (.oth (.call ⟨.builtin .len,#[tq 101],#[22]⟩)),og 100 false 103 (.mv (tq 13)),og 100 false 104 (.oth (.call ⟨.builtin .len,#[tq 103],#[22]⟩)),og 100 false 105 (.bin .gtr 3 (tq 102) (tq 104)),oq 106 (.pick (tq 100) (cb true) (tq 105))]) (some ([2,3,4,9,13,14,15,16],[4,9,35,76,84,85,90,91,113,116,118,124,126,132,136,142,146])):=rx
@[simp] theorem x7_18:RX 177 r7_18 (.str [oq 107 (.mv (tq 13)),oq 108 (.oth (.call ⟨.builtin .len,#[tq 107],#[22]⟩)),oq 109 (.bin .gtr 3 (tq 108) (ci 0))]) (some ([2,3,4,9,13],[4,9,35,76,84,85,90,91,113,116,118,124,126,132,136,142,146])):=rx
@[simp] theorem x7_19:RX 177 r7_19 (.str [oq 110 (.call false none (.func 11) []),oq 8 (.mv (tq 110))]) (some ([],[])):=rx
@[simp] theorem x7_20:RX 177 r7_20 (.str [oq 111 (.ld 27 (tq 4)),oq 112 (.mv (tq 3)),oq 113 (.call false none (.func 12) [tq 111,tq 112]),oq 17 (.mv (tq 113))]) (some ([2,3,4,9],[4,9,35,76,84,85,90,91,113,116,118,124,126,132,136,142,146])):=rx
@[simp] theorem x7_21:RX 177 r7_21 (.str [oq 115 (.ld 27 (tq 4)),oq 116 (.call false none (.func 14) [tq 115]),oq 117 (.mv (tq 17)),oq 118 (.call false none (.func 15) [tq 117]),oq 119 (.call false none (.func 13) [tq 116,tq 118]),oq 114 (.mv (tq 119)),oq 120 (.oth (.extract (tq 114) 0)),oq 121 (.oth (.extract (tq 114) 1)),oq 18 (.alloc 33),os (.sto 33 (tq 18) (tq 120)),oq 19 (.mv (tq 121))]) (some ([2,4,9,17],[4,9,35,76,84,85,90,91,113,116,118,124,126,132,136,142,146])):=rx
@[simp] theorem x7_22:RX 177 r7_22 (.str [oq 123 (.ld 27 (tq 9)),oq 124 (.call false none (.func 14) [tq 123]),oq 125 (.mv (tq 17)),oq 126 (.call false none (.func 15) [tq 125]),oq 127 (.call false none (.func 13) [tq 124,tq 126]),oq 122 (.mv (tq 127)),oq 128 (.oth (.extract (tq 122) 0)),oq 129 (.oth (.extract (tq 122) 1)),oq 20 (.alloc 33),os (.sto 33 (tq 20) (tq 128)),oq 21 (.mv (tq 129))]) (some ([2,4,9,17,18,19],[4,9,18,35,76,84,85,90,91,113,116,118,124,126,132,136,142,146])):=rx
@[simp] theorem x7_23:RX 177 r7_23 (.str [oq 131 (.ld 27 (tq 4)),oq 132 (.call false none (.func 14) [tq 131]),oq 133 (.mv (tq 2)),oq 134 (.oth (.convert 5 3 (tq 133))),oq 135 (.bin .rem 3 (tq 134) (ci 40)),oq 136 (.call false none (.func 21) [tq 132,tq 135]),oq 130 (.mv (tq 136)),oq 137 (.oth (.extract (tq 130) 0)),oq 138 (.oth (.extract (tq 130) 1)),oq 139 (.oth (.extract (tq 130) 2)),oq 22 (.mv (tq 137)),oq 23 (.mv (tq 138)),oq 24 (.mv (tq 139))]) (some ([2,4,9,18,19,20,21],[4,9,18,20,35,76,84,85,90,91,113,116,118,124,126,132,136,142,146])):=rx
@[simp] theorem x7_24:RX 177 r7_24 (.str [oq 141 (.ld 27 (tq 9)),oq 142 (.call false none (.func 14) [tq 141]),oq 143 (.mv (tq 2)),oq 144 (.oth (.convert 5 3 (tq 143))),oq 145 (.bin .rem 3 (tq 144) (ci 40)),oq 146 (.call false none (.func 21) [tq 142,tq 145]),oq 140 (.mv (tq 146)),oq 147 (.oth (.extract (tq 140) 0)),oq 148 (.oth (.extract (tq 140) 1)),oq 149 (.oth (.extract (tq 140) 2)),oq 25 (.mv (tq 147)),oq 26 (.mv (tq 148)),oq 27 (.mv (tq 149))]) (some ([2,9,18,19,20,21,23,24],[4,9,18,20,35,76,84,85,90,91,113,116,118,124,126,132,136,142,146])):=rx
@[simp] theorem x7_25:RX 177 r7_25 (.str [oq 150 (.mv (tq 19)),oq 151 (.bin .eql 34 (tq 150) (ci 0)),oq 152 (.mv (tq 151)),og 152 true 153 (.mv (tq 21)),og 152 true 154 (.bin .eql 34 (tq 153) (ci 0)),oq 155 (.pick (tq 152) (tq 154) (cb false)),oq 156 (.mv (tq 155)),og 156 true 157 (.ld 33 (tq 18)),og 156 true 158 (.ld 33 (tq 20)),og 156 true 159 (.call false none (.func 25) [tq 157,tq 158]),oq 160 (.pick (tq 156) (tq 159) (cb false)),oq 161 (.mv (tq 160)),og 161 true 162 (.mv (tq 24)),og 161 true 163 (.bin .eql 34 (tq 162) (ci 0)),oq 164 (.pick (tq 161) (tq 163) (cb false)),oq 165 (.mv (tq 164)),og 165 true 166 (.mv (tq 27)),og 165 true 167 (.bin .eql 34 (tq 166) (ci 0)),oq 168 (.pick (tq 165) (tq 167) (cb false)),oq 169 (.mv (tq 168)),og 169 true 170 (.mv (tq 26)),og 169 true 171 (.mv (tq 23)),og 169 true 172 (.bin .leq 3 (tq 170) (tq 171)),oq 173 (.pick (tq 169) (tq 172) (cb false)),oq 174 (.mv (tq 173)),og 174 true 175 (.call false none (.func 11) []),oq 176 (.pick (tq 174) (tq 175) (cb false)),oq 8 (.mv (tq 176))]) (some ([18,19,20,21,23,24,26,27],[18,20])):=rx
@[simp] theorem l7_8:ann 177 (fstR lb7_8) = some ([2,3,4,9,10,11,12],[4,9,35,76,84,85,90,91,113,116,118,124,126,132,136,142,146]):=by kernel_rfl
end
end Go.Proofs.Try.Op
