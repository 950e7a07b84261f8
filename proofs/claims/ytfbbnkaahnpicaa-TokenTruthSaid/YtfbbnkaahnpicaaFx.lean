/- The walk's ground of functions: their regions worked out. No condition. -/
import Derived.Test.YtfbbnkaahnpicaaGa
set_option maxRecDepth 100000
namespace Go.Proofs.Try.Op
open Go Go.Pg
noncomputable section
def r25_0:=rg Try.f25 2
def r25_1:=rg Try.f25 5
def c25:Code:=(.seq r25_0 (.seq r25_1 .ret))
theorem b25:Try.f25.body = some c25:=by kernel_rfl
@[simp] theorem x25_0:RX 15 r25_0 (.str [oq 6 (.mv (cb false))]) (some ([0,1,2],[])):=rx
@[simp] theorem x25_1:RX 15 r25_1 (.str [oq 7 (.mv (tq 0)),oq 8 (.mv (tq 1)),oq 9 (.bin .geq 3 (tq 7) (tq 8)),oq 10 (.mv (tq 9)),og 10 true 11 (.mv (tq 0)),og 10 true 12 (.mv (tq 2)),og 10 true 13 (.bin .leq 3 (tq 11) (tq 12)),oq 14 (.pick (tq 10) (tq 13) (cb false)),oq 6 (.mv (tq 14))]) (some ([0,1,2],[])):=rx
def r69_0:=rg Try.f69 2
def r69_1:=rg Try.f69 5
def c69:Code:=(.seq r69_0 (.seq r69_1 .ret))
theorem b69:Try.f69.body = some c69:=by kernel_rfl
@[simp] theorem x69_0:RX 15 r69_0 (.str [oq 6 (.mv (cb false))]) (some ([0,1,2],[])):=rx
@[simp] theorem x69_1:RX 15 r69_1 (.str [oq 7 (.mv (tq 1)),oq 8 (.mv (tq 0)),oq 9 (.bin .leq 3 (tq 7) (tq 8)),oq 10 (.mv (tq 9)),og 10 true 11 (.mv (tq 0)),og 10 true 12 (.mv (tq 2)),og 10 true 13 (.bin .leq 3 (tq 11) (tq 12)),oq 14 (.pick (tq 10) (tq 13) (cb false)),oq 6 (.mv (tq 14))]) (some ([0,1,2],[])):=rx
def r99_0:=rg Try.f99 2
def r99_1:=rg Try.f99 5
def c99:Code:=(.seq r99_0 (.seq r99_1 .ret))
theorem b99:Try.f99.body = some c99:=by kernel_rfl
@[simp] theorem x99_0:RX 39 r99_0 (.str [oq 2 (.box (tq 0)),oq 3 (.box (tq 1)),oq 4 (.mv (cb false))]) (some ([0,1],[2])):=rx
@[simp] theorem x99_1:RX 39 r99_1 (.str [oq 5 (.fa 75 (tq 2) 0),oq 6 (.ld 3 (tq 5)),oq 7 (.bin .eql 3 (tq 6) (ci 0)),oq 8 (.mv (tq 7)),og 8 false 9 (.fa 75 (tq 2) 0),og 8 false 10 (.ld 3 (tq 9)),og 8 false 11 (.fa 75 (tq 3) 0),og 8 false 12 (.ld 3 (tq 11)),og 8 false 13 (.bin .eql 3 (tq 10) (tq 12)),oq 14 (.pick (tq 8) (cb true) (tq 13)),oq 15 (.mv (tq 14)),og 15 true 16 (.fa 75 (tq 2) 1),og 15 true 17 (.ld 3 (tq 16)),og 15 true 18 (.bin .lss 3 (tq 17) (ci 0)),og 15 true 19 (.mv (tq 18)),og 19 false 20 (.fa 75 (tq 2) 1),og 19 false 21 (.ld 3 (tq 20)),og 19 false 22 (.fa 75 (tq 3) 1),og 19 false 23 (.ld 3 (tq 22)),og 19 false 24 (.bin .eql 3 (tq 21) (tq 23)),og 15 true 25 (.pick (tq 19) (cb true) (tq 24)),oq 26 (.pick (tq 15) (tq 25) (cb false)),oq 27 (.mv (tq 26)),og 27 true 28 (.fa 75 (tq 2) 2),og 27 true 29 (.ld 3 (tq 28)),og 27 true 30 (.bin .lss 3 (tq 29) (ci 0)),og 27 true 31 (.mv (tq 30)),og 31 false 32 (.fa 75 (tq 2) 2),og 31 false 33 (.ld 3 (tq 32)),og 31 false 34 (.fa 75 (tq 3) 2),og 31 false 35 (.ld 3 (tq 34)),og 31 false 36 (.bin .eql 3 (tq 33) (tq 35)),og 27 true 37 (.pick (tq 31) (cb true) (tq 36)),oq 38 (.pick (tq 27) (tq 37) (cb false)),oq 4 (.mv (tq 38))]) (some ([2,3],[2,3])):=rx
def r83_0:=rg Try.f83 2
def r83_1:=rg Try.f83 5
def r83_2:=rg Try.f83 19
def r83_3:=rg Try.f83 267
def r83_5:=rg Try.f83 1099
def r83_6:=rg Try.f83 16971
def r83_8:=rg Try.f83 70219
def r83_9:=rg Try.f83 1086027
def r83_11:=rg Try.f83 4493899
def r83_12:=rg Try.f83 10785355
def r83_10:=rg Try.f83 1872459
def r83_7:=rg Try.f83 29259
def r83_4:=rg Try.f83 459
def r83_13:=rg Try.f83 23
def lb83_9:Code:=(.seq (.seq r83_9 (.cond (.tmp 22) .skip (.exit 4))) (.seq (.block 5 (.seq r83_11 (.cond (.tmp 30) r83_12 .skip))) r83_10))
@[simp] theorem u83_9 (n:Nat) (st:XS):execA Try.prog ann kn n 39 lb83_9 st = execA Try.prog ann kn n 39 (.seq (.seq r83_9 (.cond (.tmp 22) .skip (.exit 4))) (.seq (.block 5 (.seq r83_11 (.cond (.tmp 30) r83_12 .skip))) r83_10)) st:=rfl
def lb83_6:Code:=(.seq (.seq r83_6 (.cond (.tmp 16) .skip (.exit 2))) (.seq (.block 3 (.seq r83_8 (.block 4 (.loop lb83_9)))) r83_7))
@[simp] theorem u83_6 (n:Nat) (st:XS):execA Try.prog ann kn n 39 lb83_6 st = execA Try.prog ann kn n 39 (.seq (.seq r83_6 (.cond (.tmp 16) .skip (.exit 2))) (.seq (.block 3 (.seq r83_8 (.block 4 (.loop lb83_9)))) r83_7)) st:=rfl
def lb83_3:Code:=(.seq (.seq r83_3 (.cond (.tmp 10) .skip (.exit 0))) (.seq (.block 1 (.seq r83_5 (.block 2 (.loop lb83_6)))) r83_4))
@[simp] theorem u83_3 (n:Nat) (st:XS):execA Try.prog ann kn n 39 lb83_3 st = execA Try.prog ann kn n 39 (.seq (.seq r83_3 (.cond (.tmp 10) .skip (.exit 0))) (.seq (.block 1 (.seq r83_5 (.block 2 (.loop lb83_6)))) r83_4)) st:=rfl
def c83:Code:=(.seq r83_0 (.seq r83_1 (.seq (.seq r83_2 (.block 0 (.loop lb83_3))) (.seq r83_13 .ret))))
theorem b83:Try.f83.body = some c83:=by kernel_rfl
@[simp] theorem x83_0:RX 39 r83_0 (.str [oq 2 (.box (tq 0)),oq 3 (.box (tq 1)),oq 4 (.mv (.const (.slice none 0 0)))]) (some ([0,1],[2])):=rx
@[simp] theorem x83_1:RX 39 r83_1 (.str [oq 5 (.mv (.const (.slice none 0 0)))]) (some ([2,3],[2,3])):=rx
@[simp] theorem x83_2:RX 39 r83_2 (.str [oq 6 (.mv (ci 1))]) (some ([2,3,5],[2,3,37])):=rx
@[simp] theorem x83_3:RX 39 r83_3 (.str [oq 9 (.mv (tq 6)),oq 10 (.bin .leq 3 (tq 9) (ci 2))]) (some ([2,3,5,6],[2,3,37])):=rx
@[simp] theorem x83_5:RX 39 r83_5 (.str [oq 7 (.mv (ci 0))]) (some ([2,3,5,6],[2,3,37])):=rx
@[simp] theorem x83_6:RX 39 r83_6 (.str [oq 13 (.mv (tq 7)),oq 14 (.fa 25 (tq 2) 0),oq 15 (.ld 3 (tq 14)),oq 16 (.bin .lss 3 (tq 13) (tq 15))]) (some ([2,3,5,6,7],[2,3,37])):=rx
@[simp] theorem x83_8:RX 39 r83_8 (.str [oq 8 (.mv (ci 0))]) (some ([2,3,5,6,7],[2,3,37])):=rx
@[simp] theorem x83_9:RX 39 r83_9 (.str [oq 19 (.mv (tq 8)),oq 20 (.fa 25 (tq 2) 0),oq 21 (.ld 3 (tq 20)),oq 22 (.bin .lss 3 (tq 19) (tq 21))]) (some ([2,3,5,6,7,8],[2,3,37])):=rx
@[simp] theorem x83_11:RX 39 r83_11 (.str [oq 25 (.ld 75 (tq 3)),oq 26 (.mv (tq 6)),oq 27 (.mv (tq 7)),oq 28 (.mv (tq 8)),oq 29 (.build 75 [(0,tq 26),(1,tq 27),(2,tq 28)]),oq 30 (.call false none (.func 99) [tq 25,tq 29])]) (some ([2,3,5,6,7,8],[2,3,37])):=rx
@[simp] theorem x83_12:RX 39 r83_12 (.str [oq 31 (.mv (tq 5)),oq 32 (.mv (tq 6)),oq 33 (.mv (tq 7)),oq 34 (.mv (tq 8)),oq 35 (.build 75 [(0,tq 32),(1,tq 33),(2,tq 34)]),oq 36 (.buildS 22 1 [(0,tq 35)]),oq 37 (.app [tq 31,tq 36] [22,22]),oq 5 (.mv (tq 37))]) (some ([2,3,5,6,7,8],[2,3,37])):=rx
@[simp] theorem x83_10:RX 39 r83_10 (.str [oq 23 (.mv (tq 8)),oq 24 (.bin .add 3 (tq 23) (ci 1)),oq 8 (.mv (tq 24))]) (some ([2,3,5,6,7,8],[2,3,37])):=rx
@[simp] theorem x83_7:RX 39 r83_7 (.str [oq 17 (.mv (tq 7)),oq 18 (.bin .add 3 (tq 17) (ci 1)),oq 7 (.mv (tq 18))]) (some ([2,3,5,6,7],[2,3,37])):=rx
@[simp] theorem x83_4:RX 39 r83_4 (.str [oq 11 (.mv (tq 6)),oq 12 (.bin .add 3 (tq 11) (ci 1)),oq 6 (.mv (tq 12))]) (some ([2,3,5,6],[2,3,37])):=rx
@[simp] theorem x83_13:RX 39 r83_13 (.str [oq 38 (.mv (tq 5)),oq 4 (.mv (tq 38))]) (some ([5],[37])):=rx
@[simp] theorem l83_3:ann 39 (fstR lb83_3) = some ([2,3,5,6],[2,3,37]):=by kernel_rfl
@[simp] theorem l83_6:ann 39 (fstR lb83_6) = some ([2,3,5,6,7],[2,3,37]):=by kernel_rfl
@[simp] theorem l83_9:ann 39 (fstR lb83_9) = some ([2,3,5,6,7,8],[2,3,37]):=by kernel_rfl
def r52_0:=rg Try.f52 2
def r52_1:=rg Try.f52 5
def r52_2:=rg Try.f52 19
def r52_3:=rg Try.f52 267
def r52_5:=rg Try.f52 587
def r52_4:=rg Try.f52 459
def r52_6:=rg Try.f52 23
def lb52_3:Code:=(.seq (.seq r52_3 (.cond (.tmp 9) .skip (.exit 0))) (.seq (.block 1 r52_5) r52_4))
@[simp] theorem u52_3 (n:Nat) (st:XS):execA Try.prog ann kn n 24 lb52_3 st = execA Try.prog ann kn n 24 (.seq (.seq r52_3 (.cond (.tmp 9) .skip (.exit 0))) (.seq (.block 1 r52_5) r52_4)) st:=rfl
def c52:Code:=(.seq r52_0 (.seq r52_1 (.seq (.seq r52_2 (.block 0 (.loop lb52_3))) (.seq r52_6 .ret))))
theorem b52:Try.f52.body = some c52:=by kernel_rfl
@[simp] theorem x52_0:RX 24 r52_0 (.str [oq 1 (.box (tq 0)),oq 2 (.mv (ci 0))]) (some ([0],[1,19])):=rx
@[simp] theorem x52_1:RX 24 r52_1 (.str [oq 3 (.mv (ci 1))]) (some ([1],[1,19])):=rx
@[simp] theorem x52_2:RX 24 r52_2 (.str [oq 4 (.mv (ci 0))]) (some ([1,3],[1,19])):=rx
@[simp] theorem x52_3:RX 24 r52_3 (.str [oq 5 (.mv (tq 4)),oq 6 (.fa 25 (tq 1) 3),oq 7 (.ld 22 (tq 6)),oq 8 (.oth (.call ⟨.builtin .len,#[tq 7],#[22]⟩)),oq 9 (.bin .lss 3 (tq 5) (tq 8))]) (some ([1,3,4],[1,19])):=rx
@[simp] theorem x52_5:RX 24 r52_5 (.drw [⟨[],[oq 12 (.mv (tq 3)),oq 13 (.ld 25 (tq 1)),oq 14 (.fa 25 (tq 1) 3),oq 15 (.ld 22 (tq 14)),oq 16 (.mv (tq 4)),oq 17 (.oth (.indexAddr 22 (tq 15) (tq 16))),oq 18 (.ld 75 (tq 17)),oq 19 (.call false none (.func 83) [tq 13,tq 18]),oq 20 (.oth (.call ⟨.builtin .len,#[tq 19],#[22]⟩)),oq 21 (.bin .mul 3 (tq 12) (tq 20)),oq 22 (.oth (.call ⟨.builtin .min,#[ci 5000,tq 21],#[3,3]⟩)),oq 3 (.mv (tq 22))],[]⟩]) (some ([1,3,4],[1])):=rx
@[simp] theorem x52_4:RX 24 r52_4 (.str [oq 10 (.mv (tq 4)),oq 11 (.bin .add 3 (tq 10) (ci 1)),oq 4 (.mv (tq 11))]) (some ([1,3,4],[1,19])):=rx
@[simp] theorem x52_6:RX 24 r52_6 (.str [oq 23 (.mv (tq 3)),oq 2 (.mv (tq 23))]) (some ([3],[])):=rx
@[simp] theorem l52_3:ann 24 (fstR lb52_3) = some ([1,3,4],[1,19]):=by kernel_rfl
def r67_0:=rg Try.f67 2
def r67_1:=rg Try.f67 9
def r67_2:=rg Try.f67 37
def r67_3:=rg Try.f67 19
def r67_4:=rg Try.f67 75
def r67_5:=rg Try.f67 39
def r67_6:=rg Try.f67 535
def r67_8:=rg Try.f67 2199
def r67_9:=rg Try.f67 5271
def r67_10:=rg Try.f67 19607
def r67_7:=rg Try.f67 919
def r67_11:=rg Try.f67 79
def r67_12:=rg Try.f67 1071
def r67_14:=rg Try.f67 4399
def r67_15:=rg Try.f67 10543
def r67_16:=rg Try.f67 39215
def r67_13:=rg Try.f67 1839
def r67_17:=rg Try.f67 159
def r67_18:=rg Try.f67 607
def r67_19:=rg Try.f67 191
def lb67_6:Code:=(.seq (.seq r67_6 (.cond (.tmp 37) .skip (.exit 0))) (.seq (.block 1 (.seq r67_8 (.seq r67_9 (.cond (.tmp 66) (.seq r67_10 .ret) .skip)))) r67_7))
@[simp] theorem u67_6 (n:Nat) (st:XS):execA Try.prog ann kn n 110 lb67_6 st = execA Try.prog ann kn n 110 (.seq (.seq r67_6 (.cond (.tmp 37) .skip (.exit 0))) (.seq (.block 1 (.seq r67_8 (.seq r67_9 (.cond (.tmp 66) (.seq r67_10 .ret) .skip)))) r67_7)) st:=rfl
def lb67_12:Code:=(.seq (.seq r67_12 (.cond (.tmp 71) .skip (.exit 2))) (.seq (.block 3 (.seq r67_14 (.seq r67_15 (.cond (.tmp 106) (.seq r67_16 .ret) .skip)))) r67_13))
@[simp] theorem u67_12 (n:Nat) (st:XS):execA Try.prog ann kn n 110 lb67_12 st = execA Try.prog ann kn n 110 (.seq (.seq r67_12 (.cond (.tmp 71) .skip (.exit 2))) (.seq (.block 3 (.seq r67_14 (.seq r67_15 (.cond (.tmp 106) (.seq r67_16 .ret) .skip)))) r67_13)) st:=rfl
def c67:Code:=(.seq r67_0 (.seq (.seq r67_1 (.cond (.tmp 16) (.seq r67_2 .ret) .skip)) (.seq (.seq r67_3 (.cond (.tmp 32) (.seq r67_4 .ret) .skip)) (.seq (.seq r67_5 (.block 0 (.loop lb67_6))) (.seq (.seq r67_11 (.block 2 (.loop lb67_12))) (.seq (.seq r67_17 (.cond (.tmp 109) (.seq r67_18 .ret) .skip)) (.seq r67_19 .ret)))))))
theorem b67:Try.f67.body = some c67:=by kernel_rfl
@[simp] theorem x67_0:RX 110 r67_0 (.str [oq 1 (.box (tq 0)),oq 2 (.mv (ci 0))]) (some ([0],[1])):=rx
@[simp] theorem x67_1:RX 110 r67_1 (.str [oq 7 (.fa 25 (tq 1) 3),oq 8 (.ld 22 (tq 7)),oq 9 (.oth (.call ⟨.builtin .len,#[tq 8],#[22]⟩)),oq 10 (.bin .gtr 3 (tq 9) (ci 8)),oq 11 (.mv (tq 10)),og 11 false 12 (.fa 25 (tq 1) 4),og 11 false 13 (.ld 23 (tq 12)),og 11 false 14 (.oth (.call ⟨.builtin .len,#[tq 13],#[23]⟩)),og 11 false 15 (.bin .gtr 3 (tq 14) (ci 4)),oq 16 (.pick (tq 11) (cb true) (tq 15))]) (some ([1],[1])):=rx
@[simp] theorem x67_2:RX 110 r67_2 (.str [oq 2 (.mv (ci 3))]) (some ([],[])):=rx
@[simp] theorem x67_3:RX 110 r67_3 (.str [oq 17 (.fa 25 (tq 1) 0),oq 18 (.ld 3 (tq 17)),oq 19 (.call false none (.func 25) [tq 18,ci 1,ci 4]),oq 20 (.oth (.unOp .not 4 (tq 19))),oq 21 (.mv (tq 20)),og 21 false 22 (.fa 25 (tq 1) 1),og 21 false 23 (.ld 3 (tq 22)),og 21 false 24 (.call false none (.func 25) [tq 23,ci 1,ci 99]),og 21 false 25 (.oth (.unOp .not 4 (tq 24))),oq 26 (.pick (tq 21) (cb true) (tq 25)),oq 27 (.mv (tq 26)),og 27 false 28 (.fa 25 (tq 1) 2),og 27 false 29 (.ld 3 (tq 28)),og 27 false 30 (.call false none (.func 25) [tq 29,ci 0,ci 999]),og 27 false 31 (.oth (.unOp .not 4 (tq 30))),oq 32 (.pick (tq 27) (cb true) (tq 31))]) (some ([1],[1])):=rx
@[simp] theorem x67_4:RX 110 r67_4 (.str [oq 2 (.mv (ci 1))]) (some ([],[])):=rx
@[simp] theorem x67_5:RX 110 r67_5 (.str [oq 3 (.mv (ci 0))]) (some ([1],[1])):=rx
@[simp] theorem x67_6:RX 110 r67_6 (.str [oq 33 (.mv (tq 3)),oq 34 (.fa 25 (tq 1) 3),oq 35 (.ld 22 (tq 34)),oq 36 (.oth (.call ⟨.builtin .len,#[tq 35],#[22]⟩)),oq 37 (.bin .lss 3 (tq 33) (tq 36))]) (some ([1,3],[1])):=rx
@[simp] theorem x67_8:RX 110 r67_8 (.str [oq 40 (.fa 25 (tq 1) 3),oq 41 (.ld 22 (tq 40)),oq 42 (.mv (tq 3)),oq 43 (.oth (.indexAddr 22 (tq 41) (tq 42))),oq 44 (.ld 75 (tq 43)),oq 4 (.alloc 75),os (.sto 75 (tq 4) (tq 44))]) (some ([1,3],[1])):=rx
@[simp] theorem x67_9:RX 110 r67_9 (.str [oq 45 (.fa 75 (tq 4) 0),oq 46 (.ld 3 (tq 45)),oq 47 (.call false none (.func 25) [tq 46,ci 0,ci 2]),oq 48 (.oth (.unOp .not 4 (tq 47))),oq 49 (.mv (tq 48)),og 49 false 50 (.fa 75 (tq 4) 1),og 49 false 51 (.ld 3 (tq 50)),og 49 false 52 (.fa 25 (tq 1) 0),og 49 false 53 (.ld 3 (tq 52)),og 49 false 54 (.bin .sub 3 (tq 53) (ci 1)),og 49 false 55 (.call false none (.func 25) [tq 51,.const (.int .i64 (Int.negSucc 0)),tq 54]),og 49 false 56 (.oth (.unOp .not 4 (tq 55))),oq 57 (.pick (tq 49) (cb true) (tq 56)),oq 58 (.mv (tq 57)),og 58 false 59 (.fa 75 (tq 4) 2),og 58 false 60 (.ld 3 (tq 59)),og 58 false 61 (.fa 25 (tq 1) 0),og 58 false 62 (.ld 3 (tq 61)),og 58 false 63 (.bin .sub 3 (tq 62) (ci 1)),og 58 false 64 (.call false none (.func 25) [tq 60,.const (.int .i64 (Int.negSucc 0)),tq 63]),og 58 false 65 (.oth (.unOp .not 4 (tq 64))),oq 66 (.pick (tq 58) (cb true) (tq 65))]) (some ([1,3,4],[1,4])):=rx
@[simp] theorem x67_10:RX 110 r67_10 (.str [oq 2 (.mv (ci 1))]) (some ([],[])):=rx
@[simp] theorem x67_7:RX 110 r67_7 (.str [oq 38 (.mv (tq 3)),oq 39 (.bin .add 3 (tq 38) (ci 1)),oq 3 (.mv (tq 39))]) (some ([1,3],[1])):=rx
@[simp] theorem x67_11:RX 110 r67_11 (.str [oq 5 (.mv (ci 0))]) (some ([1],[1])):=rx
@[simp] theorem x67_12:RX 110 r67_12 (.str [oq 67 (.mv (tq 5)),oq 68 (.fa 25 (tq 1) 4),oq 69 (.ld 23 (tq 68)),oq 70 (.oth (.call ⟨.builtin .len,#[tq 69],#[23]⟩)),oq 71 (.bin .lss 3 (tq 67) (tq 70))]) (some ([1,5],[1])):=rx
@[simp] theorem x67_14:RX 110 r67_14 (.str [oq 74 (.fa 25 (tq 1) 4),oq 75 (.ld 23 (tq 74)),oq 76 (.mv (tq 5)),oq 77 (.oth (.indexAddr 23 (tq 75) (tq 76))),oq 78 (.ld 78 (tq 77)),oq 6 (.alloc 78),os (.sto 78 (tq 6) (tq 78))]) (some ([1,5],[1])):=rx
@[simp] theorem x67_15:RX 110 r67_15 (.str [oq 79 (.fa 78 (tq 6) 0),oq 80 (.ld 3 (tq 79)),oq 81 (.fa 25 (tq 1) 3),oq 82 (.ld 22 (tq 81)),oq 83 (.oth (.call ⟨.builtin .len,#[tq 82],#[22]⟩)),oq 84 (.call false none (.func 25) [tq 80,ci 0,tq 83]),oq 85 (.oth (.unOp .not 4 (tq 84))),oq 86 (.mv (tq 85)),og 86 false 87 (.fa 78 (tq 6) 1),og 86 false 88 (.fa 50 (tq 87) 0),og 86 false 89 (.ld 3 (tq 88)),og 86 false 90 (.bin .lss 3 (tq 89) (ci 0)),oq 91 (.pick (tq 86) (cb true) (tq 90)),oq 92 (.mv (tq 91)),og 92 false 93 (.fa 78 (tq 6) 1),og 92 false 94 (.fa 50 (tq 93) 0),og 92 false 95 (.ld 3 (tq 94)),og 92 false 96 (.fa 78 (tq 6) 1),og 92 false 97 (.fa 50 (tq 96) 1),og 92 false 98 (.ld 3 (tq 97)),og 92 false 99 (.bin .gtr 3 (tq 95) (tq 98)),oq 100 (.pick (tq 92) (cb true) (tq 99)),oq 101 (.mv (tq 100)),og 101 false 102 (.fa 78 (tq 6) 1),og 101 false 103 (.fa 50 (tq 102) 1),og 101 false 104 (.ld 3 (tq 103)),og 101 false 105 (.bin .gtr 3 (tq 104) (ci 2000)),oq 106 (.pick (tq 101) (cb true) (tq 105))]) (some ([1,5,6],[1,6])):=rx
@[simp] theorem x67_16:RX 110 r67_16 (.str [oq 2 (.mv (ci 1))]) (some ([],[])):=rx
@[simp] theorem x67_13:RX 110 r67_13 (.str [oq 72 (.mv (tq 5)),oq 73 (.bin .add 3 (tq 72) (ci 1)),oq 5 (.mv (tq 73))]) (some ([1,5],[1])):=rx
@[simp] theorem x67_17:RX 110 r67_17 (.str [oq 107 (.ld 25 (tq 1)),oq 108 (.call false none (.func 52) [tq 107]),oq 109 (.bin .gtr 3 (tq 108) (ci 4096))]) (some ([1],[1])):=rx
@[simp] theorem x67_18:RX 110 r67_18 (.str [oq 2 (.mv (ci 3))]) (some ([],[])):=rx
@[simp] theorem x67_19:RX 110 r67_19 (.str [oq 2 (.mv (ci 0))]) (some ([],[])):=rx
@[simp] theorem l67_6:ann 110 (fstR lb67_6) = some ([1,3],[1]):=by kernel_rfl
@[simp] theorem l67_12:ann 110 (fstR lb67_12) = some ([1,5],[1]):=by kernel_rfl
def r24_0:=rg Try.f24 2
def r24_1:=rg Try.f24 5
def c24:Code:=(.seq r24_0 (.seq r24_1 .ret))
def r19_0:=rg Try.f19 2
def r19_1:=rg Try.f19 5
def c19:Code:=(.seq r19_0 (.seq r19_1 .ret))
theorem b19:Try.f19.body = some c19:=by kernel_rfl
@[simp] theorem x19_0:RX 23 r19_0 (.str [oq 1 (.box (tq 0)),oq 2 (.mv (cb false))]) (some ([0],[1,3,19])):=rx
@[simp] theorem x19_1:RX 23 r19_1 (.str [oq 3 (.fa 25 (tq 1) 3),oq 4 (.ld 22 (tq 3)),oq 5 (.oth (.call ⟨.builtin .len,#[tq 4],#[22]⟩)),oq 6 (.bin .leq 3 (tq 5) (ci 10)),oq 7 (.mv (tq 6)),og 7 true 8 (.fa 25 (tq 1) 4),og 7 true 9 (.ld 23 (tq 8)),og 7 true 10 (.oth (.call ⟨.builtin .len,#[tq 9],#[23]⟩)),og 7 true 11 (.bin .leq 3 (tq 10) (ci 6)),oq 12 (.pick (tq 7) (tq 11) (cb false)),oq 13 (.mv (tq 12)),og 13 true 14 (.ld 25 (tq 1)),og 13 true 15 (.call false none (.func 67) [tq 14]),og 13 true 16 (.bin .neq 3 (tq 15) (ci 0)),og 13 true 17 (.mv (tq 16)),og 17 false 18 (.ld 25 (tq 1)),og 17 false 19 (.call false none (.func 52) [tq 18]),og 17 false 20 (.bin .leq 3 (tq 19) (ci 100)),og 13 true 21 (.pick (tq 17) (cb true) (tq 20)),oq 22 (.pick (tq 13) (tq 21) (cb false)),oq 2 (.mv (tq 22))]) (some ([1],[1])):=rx
def r30_0:=rg Try.f30 2
def r30_1:=rg Try.f30 5
def c30:Code:=(.seq r30_0 (.seq r30_1 .ret))
theorem b30:Try.f30.body = some c30:=by kernel_rfl
@[simp] theorem x30_0:RX 8 r30_0 (.str [oq 1 (.box (tq 0)),oq 2 (.alloc 45)]) (some ([0],[])):=rx
@[simp] theorem x30_1:RX 8 r30_1 (.str [oq 3 (.fa 50 (tq 1) 0),oq 4 (.ld 3 (tq 3)),oq 5 (.fa 50 (tq 1) 1),oq 6 (.ld 3 (tq 5)),oq 7 (.build 45 [(0,tq 4),(1,tq 6)]),os (.sto 45 (tq 2) (tq 7))]) (some ([1,2],[1,2])):=rx
def r35_0:=rg Try.f35 2
def r35_1:=rg Try.f35 5
def r35_2:=rg Try.f35 19
def r35_3:=rg Try.f35 267
def r35_5:=rg Try.f35 587
def r35_4:=rg Try.f35 459
def r35_6:=rg Try.f35 23
def lb35_3:Code:=(.seq (.seq r35_3 (.cond (.tmp 8) .skip (.exit 0))) (.seq (.block 1 r35_5) r35_4))
@[simp] theorem u35_3 (n:Nat) (st:XS):execA Try.prog ann kn n 31 lb35_3 st = execA Try.prog ann kn n 31 (.seq (.seq r35_3 (.cond (.tmp 8) .skip (.exit 0))) (.seq (.block 1 r35_5) r35_4)) st:=rfl
def c35:Code:=(.seq r35_0 (.seq r35_1 (.seq (.seq r35_2 (.block 0 (.loop lb35_3))) (.seq r35_6 .ret))))
theorem b35:Try.f35.body = some c35:=by kernel_rfl
@[simp] theorem x35_0:RX 31 r35_0 (.str [oq 2 (.mv (.const (.slice none 0 0)))]) (some ([0],[])):=rx
@[simp] theorem x35_1:RX 31 r35_1 (.str [oq 3 (.mv (.const (.slice none 0 0)))]) (some ([0],[])):=rx
@[simp] theorem x35_2:RX 31 r35_2 (.str [oq 4 (.mv (ci 0))]) (some ([0,3],[29])):=rx
@[simp] theorem x35_3:RX 31 r35_3 (.str [oq 5 (.mv (tq 4)),oq 6 (.mv (tq 0)),oq 7 (.oth (.call ⟨.builtin .len,#[tq 6],#[22]⟩)),oq 8 (.bin .lss 3 (tq 5) (tq 7))]) (some ([0,3,4],[29])):=rx
@[simp] theorem x35_5:RX 31 r35_5 (.drw [⟨[],[oq 11 (.mv (tq 3)),oq 12 (.mv (tq 0)),oq 13 (.mv (tq 4)),oq 14 (.oth (.indexAddr 22 (tq 12) (tq 13))),oq 15 (.fa 75 (tq 14) 0),oq 16 (.ld 3 (tq 15)),oq 17 (.mv (tq 0)),oq 18 (.mv (tq 4)),oq 19 (.oth (.indexAddr 22 (tq 17) (tq 18))),oq 20 (.fa 75 (tq 19) 1),oq 21 (.ld 3 (tq 20)),oq 22 (.mv (tq 0)),oq 23 (.mv (tq 4)),oq 24 (.oth (.indexAddr 22 (tq 22) (tq 23))),oq 25 (.fa 75 (tq 24) 2),oq 26 (.ld 3 (tq 25)),oq 27 (.build 96 [(0,tq 16),(1,tq 21),(2,tq 26)]),oq 28 (.buildS 32 1 [(0,tq 27)]),oq 29 (.app [tq 11,tq 28] [32,32]),oq 3 (.mv (tq 29))],[]⟩]) (some ([0,3,4],[29])):=rx
@[simp] theorem x35_4:RX 31 r35_4 (.str [oq 9 (.mv (tq 4)),oq 10 (.bin .add 3 (tq 9) (ci 1)),oq 4 (.mv (tq 10))]) (some ([0,3,4],[29])):=rx
@[simp] theorem x35_6:RX 31 r35_6 (.str [oq 30 (.mv (tq 3)),oq 2 (.mv (tq 30))]) (some ([3],[29])):=rx
@[simp] theorem l35_3:ann 31 (fstR lb35_3) = some ([0,3,4],[29]):=by kernel_rfl
def r22_0:=rg Try.f22 2
def r22_1:=rg Try.f22 5
def r22_2:=rg Try.f22 19
def r22_3:=rg Try.f22 267
def r22_5:=rg Try.f22 587
def r22_4:=rg Try.f22 459
def r22_6:=rg Try.f22 23
def lb22_3:Code:=(.seq (.seq r22_3 (.cond (.tmp 19) .skip (.exit 0))) (.seq (.block 1 r22_5) r22_4))
@[simp] theorem u22_3 (n:Nat) (st:XS):execA Try.prog ann kn n 42 lb22_3 st = execA Try.prog ann kn n 42 (.seq (.seq r22_3 (.cond (.tmp 19) .skip (.exit 0))) (.seq (.block 1 r22_5) r22_4)) st:=rfl
def c22:Code:=(.seq r22_0 (.seq r22_1 (.seq (.seq r22_2 (.block 0 (.loop lb22_3))) (.seq r22_6 .ret))))
theorem b22:Try.f22.body = some c22:=by kernel_rfl
@[simp] theorem x22_0:RX 42 r22_0 (.str [oq 1 (.box (tq 0)),oq 2 (.alloc 35)]) (some ([0],[1,2,3,13,39])):=rx
@[simp] theorem x22_1:RX 42 r22_1 (.drw [⟨[3],[oq 5 (.fa 25 (tq 1) 0),oq 6 (.ld 3 (tq 5)),oq 7 (.fa 25 (tq 1) 1),oq 8 (.ld 3 (tq 7)),oq 9 (.fa 25 (tq 1) 2),oq 10 (.ld 3 (tq 9)),oq 11 (.fa 25 (tq 1) 3),oq 12 (.ld 22 (tq 11)),oq 13 (.call false none (.func 35) [tq 12]),oq 14 (.build 35 [(0,tq 6),(1,tq 8),(2,tq 10),(3,tq 13)]),oq 3 (.alloc 35)],[os (.sto 35 (tq 3) (tq 14))]⟩]) (some ([1,2],[1,2,39])):=rx
@[simp] theorem x22_2:RX 42 r22_2 (.str [oq 4 (.mv (ci 0))]) (some ([1,2,3],[1,2,3,13,39])):=rx
@[simp] theorem x22_3:RX 42 r22_3 (.str [oq 15 (.mv (tq 4)),oq 16 (.fa 25 (tq 1) 4),oq 17 (.ld 23 (tq 16)),oq 18 (.oth (.call ⟨.builtin .len,#[tq 17],#[23]⟩)),oq 19 (.bin .lss 3 (tq 15) (tq 18))]) (some ([1,2,3,4],[1,2,3,13,39])):=rx
@[simp] theorem x22_5:RX 42 r22_5 (.drw [⟨[],[oq 22 (.fa 35 (tq 3) 4),oq 23 (.ld 33 (tq 22)),oq 24 (.fa 25 (tq 1) 4),oq 25 (.ld 23 (tq 24)),oq 26 (.mv (tq 4)),oq 27 (.oth (.indexAddr 23 (tq 25) (tq 26))),oq 28 (.fa 78 (tq 27) 0),oq 29 (.ld 3 (tq 28)),oq 30 (.fa 25 (tq 1) 4),oq 31 (.ld 23 (tq 30)),oq 32 (.mv (tq 4)),oq 33 (.oth (.indexAddr 23 (tq 31) (tq 32))),oq 34 (.fa 78 (tq 33) 1),oq 35 (.ld 50 (tq 34)),oq 36 (.call false none (.func 30) [tq 35]),oq 37 (.build 99 [(0,tq 29),(1,tq 36)]),oq 38 (.buildS 33 1 [(0,tq 37)]),oq 39 (.app [tq 23,tq 38] [33,33]),oq 40 (.fa 35 (tq 3) 4)],[os (.sto 33 (tq 40) (tq 39))]⟩]) (some ([1,2,3,4],[1,2,3,13,39])):=rx
@[simp] theorem x22_4:RX 42 r22_4 (.str [oq 20 (.mv (tq 4)),oq 21 (.bin .add 3 (tq 20) (ci 1)),oq 4 (.mv (tq 21))]) (some ([1,2,3,4],[1,2,3,13,39])):=rx
@[simp] theorem x22_6:RX 42 r22_6 (.str [oq 41 (.ld 35 (tq 3)),os (.sto 35 (tq 2) (tq 41))]) (some ([2,3],[1,2,3,13,39])):=rx
@[simp] theorem l22_3:ann 42 (fstR lb22_3) = some ([1,2,3,4],[1,2,3,13,39]):=by kernel_rfl
def r107_0:=rg Try.f107 2
def r107_1:=rg Try.f107 9
def r107_2:=rg Try.f107 37
def r107_3:=rg Try.f107 19
def r107_4:=rg Try.f107 267
def r107_6:=rg Try.f107 587
def r107_5:=rg Try.f107 459
def r107_7:=rg Try.f107 23
def lb107_4:Code:=(.seq (.seq r107_4 (.cond (.tmp 18) .skip (.exit 0))) (.seq (.block 1 r107_6) r107_5))
@[simp] theorem u107_4 (n:Nat) (st:XS):execA Try.prog ann kn n 26 lb107_4 st = execA Try.prog ann kn n 26 (.seq (.seq r107_4 (.cond (.tmp 18) .skip (.exit 0))) (.seq (.block 1 r107_6) r107_5)) st:=rfl
def c107:Code:=(.seq r107_0 (.seq (.seq r107_1 (.cond (.tmp 12) (.seq r107_2 .ret) .skip)) (.seq (.seq r107_3 (.block 0 (.loop lb107_4))) (.seq r107_7 .ret))))
theorem b107:Try.f107.body = some c107:=by kernel_rfl
@[simp] theorem x107_0:RX 26 r107_0 (.str [oq 8 (.mv (.const (.slice none 0 0)))]) (some ([0,1,2,3],[])):=rx
@[simp] theorem x107_1:RX 26 r107_1 (.str [oq 10 (.mv (tq 0)),oq 11 (.mv (tq 1)),oq 12 (.bin .neq 3 (tq 10) (tq 11))]) (some ([0,1,2,3,8],[24])):=rx
@[simp] theorem x107_2:RX 26 r107_2 (.str [oq 13 (.mv (tq 0)),oq 14 (.buildS 28 1 [(0,tq 13)]),oq 8 (.mv (tq 14))]) (some ([0],[])):=rx
@[simp] theorem x107_3:RX 26 r107_3 (.str [oq 15 (.mv (tq 2)),oq 9 (.mv (tq 15))]) (some ([2,3,8],[24])):=rx
@[simp] theorem x107_4:RX 26 r107_4 (.str [oq 16 (.mv (tq 9)),oq 17 (.mv (tq 3)),oq 18 (.bin .leq 3 (tq 16) (tq 17))]) (some ([3,8,9],[24])):=rx
@[simp] theorem x107_6:RX 26 r107_6 (.str [oq 21 (.mv (tq 8)),oq 22 (.mv (tq 9)),oq 23 (.buildS 28 1 [(0,tq 22)]),oq 24 (.app [tq 21,tq 23] [28,28]),oq 8 (.mv (tq 24))]) (some ([3,8,9],[24])):=rx
@[simp] theorem x107_5:RX 26 r107_5 (.str [oq 19 (.mv (tq 9)),oq 20 (.bin .add 3 (tq 19) (ci 1)),oq 9 (.mv (tq 20))]) (some ([3,8,9],[24])):=rx
@[simp] theorem x107_7:RX 26 r107_7 (.str [oq 25 (.mv (tq 8)),oq 8 (.mv (tq 25))]) (some ([8],[24])):=rx
@[simp] theorem l107_4:ann 26 (fstR lb107_4) = some ([3,8,9],[24]):=by kernel_rfl
def r81_0:=rg Try.f81 2
def r81_1:=rg Try.f81 9
def r81_2:=rg Try.f81 69
def r81_3:=rg Try.f81 1125
def r81_4:=rg Try.f81 2661
def r81_5:=rg Try.f81 18021
def r81_6:=rg Try.f81 288357
def r81_7:=rg Try.f81 681573
def r81_8:=rg Try.f81 4613733
def r81_9:=rg Try.f81 73819749
def r81_10:=rg Try.f81 107374181
def r81_11:=rg Try.f81 31876709
def r81_12:=rg Try.f81 124517
def r81_13:=rg Try.f81 485
def r81_14:=rg Try.f81 11
def lb81_8:Code:=(.seq r81_8 (.seq (.cond (.tmp 38) .skip (.exit 4)) (.seq (.block 5 (.seq r81_9 r81_10)) r81_11)))
@[simp] theorem u81_8 (n:Nat) (st:XS):execA Try.prog ann kn n 52 lb81_8 st = execA Try.prog ann kn n 52 (.seq r81_8 (.seq (.cond (.tmp 38) .skip (.exit 4)) (.seq (.block 5 (.seq r81_9 r81_10)) r81_11))) st:=rfl
def lb81_5:Code:=(.seq r81_5 (.seq (.cond (.tmp 27) .skip (.exit 2)) (.seq (.block 3 (.seq r81_6 (.seq r81_7 (.block 4 (.loop lb81_8))))) r81_12)))
@[simp] theorem u81_5 (n:Nat) (st:XS):execA Try.prog ann kn n 52 lb81_5 st = execA Try.prog ann kn n 52 (.seq r81_5 (.seq (.cond (.tmp 27) .skip (.exit 2)) (.seq (.block 3 (.seq r81_6 (.seq r81_7 (.block 4 (.loop lb81_8))))) r81_12))) st:=rfl
def lb81_2:Code:=(.seq r81_2 (.seq (.cond (.tmp 16) .skip (.exit 0)) (.seq (.block 1 (.seq r81_3 (.seq r81_4 (.block 2 (.loop lb81_5))))) r81_13)))
@[simp] theorem u81_2 (n:Nat) (st:XS):execA Try.prog ann kn n 52 lb81_2 st = execA Try.prog ann kn n 52 (.seq r81_2 (.seq (.cond (.tmp 16) .skip (.exit 0)) (.seq (.block 1 (.seq r81_3 (.seq r81_4 (.block 2 (.loop lb81_5))))) r81_13))) st:=rfl
def c81:Code:=(.seq r81_0 (.seq (.seq r81_1 (.block 0 (.loop lb81_2))) (.seq r81_14 .ret)))
theorem b81:Try.f81.body = some c81:=by kernel_rfl
@[simp] theorem x81_0:RX 52 r81_0 (.str [oq 2 (.box (tq 0)),oq 3 (.box (tq 1)),oq 4 (.mv (.const (.slice none 0 0)))]) (some ([0,1],[2])):=rx
@[simp] theorem x81_1:RX 52 r81_1 (.str [oq 11 (.fa 96 (tq 3) 0),oq 12 (.ld 3 (tq 11)),oq 13 (.call false none (.func 107) [tq 12,ci 0,ci 1,ci 2]),oq 14 (.oth (.call ⟨.builtin .len,#[tq 13],#[28]⟩)),oq 15 (.mv (ci 0))]) (some ([2,3,4],[2,3,47])):=rx
@[simp] theorem x81_2:RX 52 r81_2 (.str [oq 16 (.bin .lss 3 (tq 15) (tq 14))]) (some ([2,3,4,13,14,15],[2,3,13,47])):=rx
@[simp] theorem x81_3:RX 52 r81_3 (.str [oq 17 (.oth (.indexAddr 28 (tq 13) (tq 15))),oq 18 (.ld 3 (tq 17)),oq 6 (.mv (tq 18))]) (some ([2,3,4,13,14,15],[2,3,13,47])):=rx
@[simp] theorem x81_4:RX 52 r81_4 (.str [oq 19 (.fa 96 (tq 3) 1),oq 20 (.ld 3 (tq 19)),oq 21 (.fa 35 (tq 2) 0),oq 22 (.ld 3 (tq 21)),oq 23 (.bin .sub 3 (tq 22) (ci 1)),oq 24 (.call false none (.func 107) [tq 20,.const (.int .i64 (Int.negSucc 0)),ci 0,tq 23]),oq 25 (.oth (.call ⟨.builtin .len,#[tq 24],#[28]⟩)),oq 26 (.mv (ci 0))]) (some ([2,3,4,6,13,14,15],[2,3,13,47])):=rx
@[simp] theorem x81_5:RX 52 r81_5 (.str [oq 27 (.bin .lss 3 (tq 26) (tq 25))]) (some ([2,3,4,6,13,14,15,24,25,26],[2,3,13,24,47])):=rx
@[simp] theorem x81_6:RX 52 r81_6 (.str [oq 28 (.oth (.indexAddr 28 (tq 24) (tq 26))),oq 29 (.ld 3 (tq 28)),oq 8 (.mv (tq 29))]) (some ([2,3,4,6,13,14,15,24,25,26],[2,3,13,24,47])):=rx
@[simp] theorem x81_7:RX 52 r81_7 (.str [oq 30 (.fa 96 (tq 3) 2),oq 31 (.ld 3 (tq 30)),oq 32 (.fa 35 (tq 2) 0),oq 33 (.ld 3 (tq 32)),oq 34 (.bin .sub 3 (tq 33) (ci 1)),oq 35 (.call false none (.func 107) [tq 31,.const (.int .i64 (Int.negSucc 0)),ci 0,tq 34]),oq 36 (.oth (.call ⟨.builtin .len,#[tq 35],#[28]⟩)),oq 37 (.mv (ci 0))]) (some ([2,3,4,6,8,13,14,15,24,25,26],[2,3,13,24,47])):=rx
@[simp] theorem x81_8:RX 52 r81_8 (.str [oq 38 (.bin .lss 3 (tq 37) (tq 36))]) (some ([2,3,4,6,8,13,14,15,24,25,26,35,36,37],[2,3,13,24,35,47])):=rx
@[simp] theorem x81_9:RX 52 r81_9 (.str [oq 39 (.oth (.indexAddr 28 (tq 35) (tq 37))),oq 40 (.ld 3 (tq 39)),oq 10 (.mv (tq 40))]) (some ([2,3,4,6,8,13,14,15,24,25,26,35,36,37],[2,3,13,24,35,47])):=rx
@[simp] theorem x81_10:RX 52 r81_10 (.str [oq 41 (.mv (tq 4)),oq 42 (.mv (tq 6)),oq 43 (.mv (tq 8)),oq 44 (.mv (tq 10)),oq 45 (.build 96 [(0,tq 42),(1,tq 43),(2,tq 44)]),oq 46 (.buildS 32 1 [(0,tq 45)]),oq 47 (.app [tq 41,tq 46] [32,32]),oq 4 (.mv (tq 47))]) (some ([2,3,4,6,8,10,13,14,15,24,25,26,35,36,37],[2,3,13,24,35,47])):=rx
@[simp] theorem x81_11:RX 52 r81_11 (.str [oq 48 (.bin .add 3 (tq 37) (ci 1)),oq 37 (.mv (tq 48))]) (some ([2,3,4,6,8,13,14,15,24,25,26,35,36,37],[2,3,13,24,35,47])):=rx
@[simp] theorem x81_12:RX 52 r81_12 (.str [oq 49 (.bin .add 3 (tq 26) (ci 1)),oq 26 (.mv (tq 49))]) (some ([2,3,4,6,13,14,15,24,25,26],[2,3,13,24,47])):=rx
@[simp] theorem x81_13:RX 52 r81_13 (.str [oq 50 (.bin .add 3 (tq 15) (ci 1)),oq 15 (.mv (tq 50))]) (some ([2,3,4,13,14,15],[2,3,13,47])):=rx
@[simp] theorem x81_14:RX 52 r81_14 (.str [oq 51 (.mv (tq 4)),oq 4 (.mv (tq 51))]) (some ([4],[47])):=rx
@[simp] theorem l81_2:ann 52 (fstR lb81_2) = some ([2,3,4,13,14,15],[2,3,13,47]):=by kernel_rfl
@[simp] theorem l81_5:ann 52 (fstR lb81_5) = some ([2,3,4,6,13,14,15,24,25,26],[2,3,13,24,47]):=by kernel_rfl
@[simp] theorem l81_8:ann 52 (fstR lb81_8) = some ([2,3,4,6,8,13,14,15,24,25,26,35,36,37],[2,3,13,24,35,47]):=by kernel_rfl
def r98_0:=rg Try.f98 2
def r98_1:=rg Try.f98 5
def c98:Code:=(.seq r98_0 (.seq r98_1 .ret))
theorem b98:Try.f98.body = some c98:=by kernel_rfl
@[simp] theorem x98_0:RX 5 r98_0 (.str [oq 2 (.mv (ci 0))]) (some ([0],[])):=rx
@[simp] theorem x98_1:RX 5 r98_1 (.str [oq 3 (.mv (tq 0)),oq 4 (.call false none (.func 117) [tq 3]),oq 2 (.mv (tq 4))]) (some ([0,1],[1])):=rx
def r117_0:=rg Try.f117 2
def r117_1:=rg Try.f117 9
def r117_2:=rg Try.f117 21
def r117_3:=rg Try.f117 11
def r117_4:=rg Try.f117 39
def r117_5:=rg Try.f117 535
def r117_7:=rg Try.f117 1175
def r117_6:=rg Try.f117 919
def r117_8:=rg Try.f117 47
def lb117_5:Code:=(.seq (.seq r117_5 (.cond (.tmp 15) .skip (.exit 0))) (.seq (.block 1 r117_7) r117_6))
@[simp] theorem u117_5 (n:Nat) (st:XS):execA Try.prog ann kn n 25 lb117_5 st = execA Try.prog ann kn n 25 (.seq (.seq r117_5 (.cond (.tmp 15) .skip (.exit 0))) (.seq (.block 1 r117_7) r117_6)) st:=rfl
def c117:Code:=(.seq r117_0 (.seq (.seq r117_1 (.cond (.tmp 7) r117_2 .skip)) (.seq r117_3 (.seq (.seq r117_4 (.block 0 (.loop lb117_5))) (.seq r117_8 .ret)))))
theorem b117:Try.f117.body = some c117:=by kernel_rfl
@[simp] theorem x117_0:RX 25 r117_0 (.str [oq 2 (.mv (ci 0))]) (some ([0],[])):=rx
@[simp] theorem x117_1:RX 25 r117_1 (.str [oq 5 (.mv (tq 0)),oq 6 (.oth (.call ⟨.builtin .len,#[tq 5],#[28]⟩)),oq 7 (.bin .lss 3 (tq 6) (ci 1))]) (some ([0],[])):=rx
@[simp] theorem x117_3:RX 25 r117_3 (.str [oq 9 (.mv (tq 0)),oq 10 (.oth (.indexAddr 28 (tq 9) (ci 0))),oq 11 (.ld 3 (tq 10)),oq 3 (.mv (tq 11))]) (some ([0],[])):=rx
@[simp] theorem x117_4:RX 25 r117_4 (.str [oq 4 (.mv (ci 1))]) (some ([0,3],[])):=rx
@[simp] theorem x117_5:RX 25 r117_5 (.str [oq 12 (.mv (tq 4)),oq 13 (.mv (tq 0)),oq 14 (.oth (.call ⟨.builtin .len,#[tq 13],#[28]⟩)),oq 15 (.bin .lss 3 (tq 12) (tq 14))]) (some ([0,3,4],[])):=rx
@[simp] theorem x117_7:RX 25 r117_7 (.str [oq 18 (.mv (tq 3)),oq 19 (.mv (tq 0)),oq 20 (.mv (tq 4)),oq 21 (.oth (.indexAddr 28 (tq 19) (tq 20))),oq 22 (.ld 3 (tq 21)),oq 23 (.oth (.call ⟨.builtin .min,#[tq 18,tq 22],#[3,3]⟩)),oq 3 (.mv (tq 23))]) (some ([0,3,4],[])):=rx
@[simp] theorem x117_6:RX 25 r117_6 (.str [oq 16 (.mv (tq 4)),oq 17 (.bin .add 3 (tq 16) (ci 1)),oq 4 (.mv (tq 17))]) (some ([0,3,4],[])):=rx
@[simp] theorem x117_8:RX 25 r117_8 (.str [oq 24 (.mv (tq 3)),oq 2 (.mv (tq 24))]) (some ([3],[])):=rx
@[simp] theorem l117_5:ann 25 (fstR lb117_5) = some ([0,3,4],[]):=by kernel_rfl
def r94_0:=rg Try.f94 2
def r94_1:=rg Try.f94 5
def c94:Code:=(.seq r94_0 (.seq r94_1 .ret))
theorem b94:Try.f94.body = some c94:=by kernel_rfl
@[simp] theorem x94_0:RX 24 r94_0 (.str [oq 2 (.box (tq 0)),oq 3 (.box (tq 1)),oq 4 (.mv (cb false))]) (some ([0,1],[2])):=rx
@[simp] theorem x94_1:RX 24 r94_1 (.str [oq 5 (.fa 96 (tq 3) 0),oq 6 (.ld 3 (tq 5)),oq 7 (.call false none (.func 69) [tq 6,ci 0,ci 2]),oq 8 (.mv (tq 7)),og 8 true 9 (.fa 96 (tq 3) 1),og 8 true 10 (.ld 3 (tq 9)),og 8 true 11 (.fa 35 (tq 2) 0),og 8 true 12 (.ld 3 (tq 11)),og 8 true 13 (.bin .sub 3 (tq 12) (ci 1)),og 8 true 14 (.call false none (.func 69) [tq 10,.const (.int .i64 (Int.negSucc 0)),tq 13]),oq 15 (.pick (tq 8) (tq 14) (cb false)),oq 16 (.mv (tq 15)),og 16 true 17 (.fa 96 (tq 3) 2),og 16 true 18 (.ld 3 (tq 17)),og 16 true 19 (.fa 35 (tq 2) 0),og 16 true 20 (.ld 3 (tq 19)),og 16 true 21 (.bin .sub 3 (tq 20) (ci 1)),og 16 true 22 (.call false none (.func 69) [tq 18,.const (.int .i64 (Int.negSucc 0)),tq 21]),oq 23 (.pick (tq 16) (tq 22) (cb false)),oq 4 (.mv (tq 23))]) (some ([2,3],[2,3])):=rx
def r95_0:=rg Try.f95 2
def r95_1:=rg Try.f95 5
def r95_2:=rg Try.f95 11
def c95:Code:=(.seq r95_0 (.seq r95_1 (.seq r95_2 .ret)))
theorem b95:Try.f95.body = some c95:=by kernel_rfl
@[simp] theorem x95_0:RX 31 r95_0 (.str [oq 2 (.box (tq 0)),oq 3 (.box (tq 1)),oq 4 (.mv (cb false))]) (some ([0,1],[2])):=rx
@[simp] theorem x95_1:RX 31 r95_1 (.str [oq 6 (.fa 99 (tq 3) 1),oq 7 (.ld 45 (tq 6)),oq 5 (.alloc 45),os (.sto 45 (tq 5) (tq 7))]) (some ([2,3],[2,3])):=rx
@[simp] theorem x95_2:RX 31 r95_2 (.str [oq 8 (.fa 99 (tq 3) 0),oq 9 (.ld 3 (tq 8)),oq 10 (.fa 35 (tq 2) 3),oq 11 (.ld 32 (tq 10)),oq 12 (.oth (.call ⟨.builtin .len,#[tq 11],#[32]⟩)),oq 13 (.call false none (.func 69) [tq 9,ci 0,tq 12]),oq 14 (.mv (tq 13)),og 14 true 15 (.fa 45 (tq 5) 0),og 14 true 16 (.ld 3 (tq 15)),og 14 true 17 (.bin .leq 3 (ci 0) (tq 16)),oq 18 (.pick (tq 14) (tq 17) (cb false)),oq 19 (.mv (tq 18)),og 19 true 20 (.fa 45 (tq 5) 0),og 19 true 21 (.ld 3 (tq 20)),og 19 true 22 (.fa 45 (tq 5) 1),og 19 true 23 (.ld 3 (tq 22)),og 19 true 24 (.bin .leq 3 (tq 21) (tq 23)),oq 25 (.pick (tq 19) (tq 24) (cb false)),oq 26 (.mv (tq 25)),og 26 true 27 (.fa 45 (tq 5) 1),og 26 true 28 (.ld 3 (tq 27)),og 26 true 29 (.bin .leq 3 (tq 28) (ci 2000)),oq 30 (.pick (tq 26) (tq 29) (cb false)),oq 4 (.mv (tq 30))]) (some ([2,3,5],[2,3,5])):=rx
def r112_0:=rg Try.f112 2
def r112_1:=rg Try.f112 5
def c112:Code:=(.seq r112_0 (.seq r112_1 .ret))
theorem b112:Try.f112.body = some c112:=by kernel_rfl
@[simp] theorem x112_0:RX 11 r112_0 (.str [oq 2 (.box (tq 0)),oq 4 (.mv (cb false))]) (some ([0,1],[])):=rx
@[simp] theorem x112_1:RX 11 r112_1 (.str [oq 5 (.mv (tq 1)),oq 6 (.fa 45 (tq 2) 0),oq 7 (.ld 3 (tq 6)),oq 8 (.fa 45 (tq 2) 1),oq 9 (.ld 3 (tq 8)),oq 10 (.call false none (.func 69) [tq 5,tq 7,tq 9]),oq 4 (.mv (tq 10))]) (some ([1,2],[2])):=rx
end
end Go.Proofs.Try.Op
