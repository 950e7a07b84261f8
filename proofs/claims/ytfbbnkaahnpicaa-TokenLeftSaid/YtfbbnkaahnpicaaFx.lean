/- The walk's ground of functions: their regions worked out. No condition. -/
import Derived.Test.YtfbbnkaahnpicaaGa
set_option maxRecDepth 100000
namespace Go.Proofs.Try.Op
open Go Go.Pg
noncomputable section
def r25_0 := rg Try.f25 2
def r25_1 := rg Try.f25 5
def c25 : Code := (.seq r25_0 (.seq r25_1 .ret))
theorem b25 : Try.f25.body = some c25 := by kernel_rfl
@[simp] theorem x25_0 : RX 15 r25_0 (.str [⟨none, some 6, .mv (.const (.bool false))⟩]) (some ([0, 1, 2], [])) := rx
@[simp] theorem x25_1 : RX 15 r25_1 (.str [⟨none, some 7, .mv (.tmp 0)⟩, ⟨none, some 8, .mv (.tmp 1)⟩, ⟨none, some 9, .bin .geq 3 (.tmp 7) (.tmp 8)⟩, ⟨none, some 10, .mv (.tmp 9)⟩, ⟨some (10, true), some 11, .mv (.tmp 0)⟩, ⟨some (10, true), some 12, .mv (.tmp 2)⟩, ⟨some (10, true), some 13, .bin .leq 3 (.tmp 11) (.tmp 12)⟩, ⟨none, some 14, .pick (.tmp 10) (.tmp 13) (.const (.bool false))⟩, ⟨none, some 6, .mv (.tmp 14)⟩]) (some ([0, 1, 2], [])) := rx
def r69_0 := rg Try.f69 2
def r69_1 := rg Try.f69 5
def c69 : Code := (.seq r69_0 (.seq r69_1 .ret))
theorem b69 : Try.f69.body = some c69 := by kernel_rfl
@[simp] theorem x69_0 : RX 15 r69_0 (.str [⟨none, some 6, .mv (.const (.bool false))⟩]) (some ([0, 1, 2], [])) := rx
@[simp] theorem x69_1 : RX 15 r69_1 (.str [⟨none, some 7, .mv (.tmp 1)⟩, ⟨none, some 8, .mv (.tmp 0)⟩, ⟨none, some 9, .bin .leq 3 (.tmp 7) (.tmp 8)⟩, ⟨none, some 10, .mv (.tmp 9)⟩, ⟨some (10, true), some 11, .mv (.tmp 0)⟩, ⟨some (10, true), some 12, .mv (.tmp 2)⟩, ⟨some (10, true), some 13, .bin .leq 3 (.tmp 11) (.tmp 12)⟩, ⟨none, some 14, .pick (.tmp 10) (.tmp 13) (.const (.bool false))⟩, ⟨none, some 6, .mv (.tmp 14)⟩]) (some ([0, 1, 2], [])) := rx
def r99_0 := rg Try.f99 2
def r99_1 := rg Try.f99 5
def c99 : Code := (.seq r99_0 (.seq r99_1 .ret))
theorem b99 : Try.f99.body = some c99 := by kernel_rfl
@[simp] theorem x99_0 : RX 39 r99_0 (.str [⟨none, some 2, .box (.tmp 0)⟩, ⟨none, some 3, .box (.tmp 1)⟩, ⟨none, some 4, .mv (.const (.bool false))⟩]) (some ([0, 1], [2])) := rx
@[simp] theorem x99_1 : RX 39 r99_1 (.str [⟨none, some 5, .fa 75 (.tmp 2) 0⟩, ⟨none, some 6, .ld 3 (.tmp 5)⟩, ⟨none, some 7, .bin .eql 3 (.tmp 6) (.const (.int .i64 0))⟩, ⟨none, some 8, .mv (.tmp 7)⟩, ⟨some (8, false), some 9, .fa 75 (.tmp 2) 0⟩, ⟨some (8, false), some 10, .ld 3 (.tmp 9)⟩, ⟨some (8, false), some 11, .fa 75 (.tmp 3) 0⟩, ⟨some (8, false), some 12, .ld 3 (.tmp 11)⟩, ⟨some (8, false), some 13, .bin .eql 3 (.tmp 10) (.tmp 12)⟩, ⟨none, some 14, .pick (.tmp 8) (.const (.bool true)) (.tmp 13)⟩, ⟨none, some 15, .mv (.tmp 14)⟩, ⟨some (15, true), some 16, .fa 75 (.tmp 2) 1⟩, ⟨some (15, true), some 17, .ld 3 (.tmp 16)⟩, ⟨some (15, true), some 18, .bin .lss 3 (.tmp 17) (.const (.int .i64 0))⟩, ⟨some (15, true), some 19, .mv (.tmp 18)⟩, ⟨some (19, false), some 20, .fa 75 (.tmp 2) 1⟩, ⟨some (19, false), some 21, .ld 3 (.tmp 20)⟩, ⟨some (19, false), some 22, .fa 75 (.tmp 3) 1⟩, ⟨some (19, false), some 23, .ld 3 (.tmp 22)⟩, ⟨some (19, false), some 24, .bin .eql 3 (.tmp 21) (.tmp 23)⟩, ⟨some (15, true), some 25, .pick (.tmp 19) (.const (.bool true)) (.tmp 24)⟩, ⟨none, some 26, .pick (.tmp 15) (.tmp 25) (.const (.bool false))⟩, ⟨none, some 27, .mv (.tmp 26)⟩, ⟨some (27, true), some 28, .fa 75 (.tmp 2) 2⟩, ⟨some (27, true), some 29, .ld 3 (.tmp 28)⟩, ⟨some (27, true), some 30, .bin .lss 3 (.tmp 29) (.const (.int .i64 0))⟩, ⟨some (27, true), some 31, .mv (.tmp 30)⟩, ⟨some (31, false), some 32, .fa 75 (.tmp 2) 2⟩, ⟨some (31, false), some 33, .ld 3 (.tmp 32)⟩, ⟨some (31, false), some 34, .fa 75 (.tmp 3) 2⟩, ⟨some (31, false), some 35, .ld 3 (.tmp 34)⟩, ⟨some (31, false), some 36, .bin .eql 3 (.tmp 33) (.tmp 35)⟩, ⟨some (27, true), some 37, .pick (.tmp 31) (.const (.bool true)) (.tmp 36)⟩, ⟨none, some 38, .pick (.tmp 27) (.tmp 37) (.const (.bool false))⟩, ⟨none, some 4, .mv (.tmp 38)⟩]) (some ([2, 3], [2, 3])) := rx
def r83_0 := rg Try.f83 2
def r83_1 := rg Try.f83 5
def r83_2 := rg Try.f83 19
def r83_3 := rg Try.f83 267
def r83_5 := rg Try.f83 1099
def r83_6 := rg Try.f83 16971
def r83_8 := rg Try.f83 70219
def r83_9 := rg Try.f83 1086027
def r83_11 := rg Try.f83 4493899
def r83_12 := rg Try.f83 10785355
def r83_10 := rg Try.f83 1872459
def r83_7 := rg Try.f83 29259
def r83_4 := rg Try.f83 459
def r83_13 := rg Try.f83 23
def lb83_9 : Code := (.seq (.seq r83_9 (.cond (.tmp 22) .skip (.exit 4))) (.seq (.block 5 (.seq r83_11 (.cond (.tmp 30) r83_12 .skip))) r83_10))
@[simp] theorem u83_9 (n : Nat) (st : XS) : execA Try.prog ann kn n 39 lb83_9 st = execA Try.prog ann kn n 39 (.seq (.seq r83_9 (.cond (.tmp 22) .skip (.exit 4))) (.seq (.block 5 (.seq r83_11 (.cond (.tmp 30) r83_12 .skip))) r83_10)) st := rfl
def lb83_6 : Code := (.seq (.seq r83_6 (.cond (.tmp 16) .skip (.exit 2))) (.seq (.block 3 (.seq r83_8 (.block 4 (.loop lb83_9)))) r83_7))
@[simp] theorem u83_6 (n : Nat) (st : XS) : execA Try.prog ann kn n 39 lb83_6 st = execA Try.prog ann kn n 39 (.seq (.seq r83_6 (.cond (.tmp 16) .skip (.exit 2))) (.seq (.block 3 (.seq r83_8 (.block 4 (.loop lb83_9)))) r83_7)) st := rfl
def lb83_3 : Code := (.seq (.seq r83_3 (.cond (.tmp 10) .skip (.exit 0))) (.seq (.block 1 (.seq r83_5 (.block 2 (.loop lb83_6)))) r83_4))
@[simp] theorem u83_3 (n : Nat) (st : XS) : execA Try.prog ann kn n 39 lb83_3 st = execA Try.prog ann kn n 39 (.seq (.seq r83_3 (.cond (.tmp 10) .skip (.exit 0))) (.seq (.block 1 (.seq r83_5 (.block 2 (.loop lb83_6)))) r83_4)) st := rfl
def c83 : Code := (.seq r83_0 (.seq r83_1 (.seq (.seq r83_2 (.block 0 (.loop lb83_3))) (.seq r83_13 .ret))))
theorem b83 : Try.f83.body = some c83 := by kernel_rfl
@[simp] theorem x83_0 : RX 39 r83_0 (.str [⟨none, some 2, .box (.tmp 0)⟩, ⟨none, some 3, .box (.tmp 1)⟩, ⟨none, some 4, .mv (.const (.slice none 0 0))⟩]) (some ([0, 1], [2])) := rx
@[simp] theorem x83_1 : RX 39 r83_1 (.str [⟨none, some 5, .mv (.const (.slice none 0 0))⟩]) (some ([2, 3], [2, 3])) := rx
@[simp] theorem x83_2 : RX 39 r83_2 (.str [⟨none, some 6, .mv (.const (.int .i64 1))⟩]) (some ([2, 3, 5], [2, 3, 37])) := rx
@[simp] theorem x83_3 : RX 39 r83_3 (.str [⟨none, some 9, .mv (.tmp 6)⟩, ⟨none, some 10, .bin .leq 3 (.tmp 9) (.const (.int .i64 2))⟩]) (some ([2, 3, 5, 6], [2, 3, 37])) := rx
@[simp] theorem x83_5 : RX 39 r83_5 (.str [⟨none, some 7, .mv (.const (.int .i64 0))⟩]) (some ([2, 3, 5, 6], [2, 3, 37])) := rx
@[simp] theorem x83_6 : RX 39 r83_6 (.str [⟨none, some 13, .mv (.tmp 7)⟩, ⟨none, some 14, .fa 25 (.tmp 2) 0⟩, ⟨none, some 15, .ld 3 (.tmp 14)⟩, ⟨none, some 16, .bin .lss 3 (.tmp 13) (.tmp 15)⟩]) (some ([2, 3, 5, 6, 7], [2, 3, 37])) := rx
@[simp] theorem x83_8 : RX 39 r83_8 (.str [⟨none, some 8, .mv (.const (.int .i64 0))⟩]) (some ([2, 3, 5, 6, 7], [2, 3, 37])) := rx
@[simp] theorem x83_9 : RX 39 r83_9 (.str [⟨none, some 19, .mv (.tmp 8)⟩, ⟨none, some 20, .fa 25 (.tmp 2) 0⟩, ⟨none, some 21, .ld 3 (.tmp 20)⟩, ⟨none, some 22, .bin .lss 3 (.tmp 19) (.tmp 21)⟩]) (some ([2, 3, 5, 6, 7, 8], [2, 3, 37])) := rx
@[simp] theorem x83_11 : RX 39 r83_11 (.str [⟨none, some 25, .ld 75 (.tmp 3)⟩, ⟨none, some 26, .mv (.tmp 6)⟩, ⟨none, some 27, .mv (.tmp 7)⟩, ⟨none, some 28, .mv (.tmp 8)⟩, ⟨none, some 29, .build 75 [(0, .tmp 26), (1, .tmp 27), (2, .tmp 28)]⟩, ⟨none, some 30, .call false none (.func 99) [.tmp 25, .tmp 29]⟩]) (some ([2, 3, 5, 6, 7, 8], [2, 3, 37])) := rx
@[simp] theorem x83_12 : RX 39 r83_12 (.str [⟨none, some 31, .mv (.tmp 5)⟩, ⟨none, some 32, .mv (.tmp 6)⟩, ⟨none, some 33, .mv (.tmp 7)⟩, ⟨none, some 34, .mv (.tmp 8)⟩, ⟨none, some 35, .build 75 [(0, .tmp 32), (1, .tmp 33), (2, .tmp 34)]⟩, ⟨none, some 36, .buildS 22 1 [(0, .tmp 35)]⟩, ⟨none, some 37, .app [.tmp 31, .tmp 36] [22, 22]⟩, ⟨none, some 5, .mv (.tmp 37)⟩]) (some ([2, 3, 5, 6, 7, 8], [2, 3, 37])) := rx
@[simp] theorem x83_10 : RX 39 r83_10 (.str [⟨none, some 23, .mv (.tmp 8)⟩, ⟨none, some 24, .bin .add 3 (.tmp 23) (.const (.int .i64 1))⟩, ⟨none, some 8, .mv (.tmp 24)⟩]) (some ([2, 3, 5, 6, 7, 8], [2, 3, 37])) := rx
@[simp] theorem x83_7 : RX 39 r83_7 (.str [⟨none, some 17, .mv (.tmp 7)⟩, ⟨none, some 18, .bin .add 3 (.tmp 17) (.const (.int .i64 1))⟩, ⟨none, some 7, .mv (.tmp 18)⟩]) (some ([2, 3, 5, 6, 7], [2, 3, 37])) := rx
@[simp] theorem x83_4 : RX 39 r83_4 (.str [⟨none, some 11, .mv (.tmp 6)⟩, ⟨none, some 12, .bin .add 3 (.tmp 11) (.const (.int .i64 1))⟩, ⟨none, some 6, .mv (.tmp 12)⟩]) (some ([2, 3, 5, 6], [2, 3, 37])) := rx
@[simp] theorem x83_13 : RX 39 r83_13 (.str [⟨none, some 38, .mv (.tmp 5)⟩, ⟨none, some 4, .mv (.tmp 38)⟩]) (some ([5], [37])) := rx
@[simp] theorem l83_3 : ann 39 (fstR lb83_3) = some ([2, 3, 5, 6], [2, 3, 37]) := by kernel_rfl
@[simp] theorem l83_6 : ann 39 (fstR lb83_6) = some ([2, 3, 5, 6, 7], [2, 3, 37]) := by kernel_rfl
@[simp] theorem l83_9 : ann 39 (fstR lb83_9) = some ([2, 3, 5, 6, 7, 8], [2, 3, 37]) := by kernel_rfl
def r52_0 := rg Try.f52 2
def r52_1 := rg Try.f52 5
def r52_2 := rg Try.f52 19
def r52_3 := rg Try.f52 267
def r52_5 := rg Try.f52 587
def r52_4 := rg Try.f52 459
def r52_6 := rg Try.f52 23
def lb52_3 : Code := (.seq (.seq r52_3 (.cond (.tmp 9) .skip (.exit 0))) (.seq (.block 1 r52_5) r52_4))
@[simp] theorem u52_3 (n : Nat) (st : XS) : execA Try.prog ann kn n 24 lb52_3 st = execA Try.prog ann kn n 24 (.seq (.seq r52_3 (.cond (.tmp 9) .skip (.exit 0))) (.seq (.block 1 r52_5) r52_4)) st := rfl
def c52 : Code := (.seq r52_0 (.seq r52_1 (.seq (.seq r52_2 (.block 0 (.loop lb52_3))) (.seq r52_6 .ret))))
theorem b52 : Try.f52.body = some c52 := by kernel_rfl
@[simp] theorem x52_0 : RX 24 r52_0 (.str [⟨none, some 1, .box (.tmp 0)⟩, ⟨none, some 2, .mv (.const (.int .i64 0))⟩]) (some ([0], [1, 19])) := rx
@[simp] theorem x52_1 : RX 24 r52_1 (.str [⟨none, some 3, .mv (.const (.int .i64 1))⟩]) (some ([1], [1, 19])) := rx
@[simp] theorem x52_2 : RX 24 r52_2 (.str [⟨none, some 4, .mv (.const (.int .i64 0))⟩]) (some ([1, 3], [1, 19])) := rx
@[simp] theorem x52_3 : RX 24 r52_3 (.str [⟨none, some 5, .mv (.tmp 4)⟩, ⟨none, some 6, .fa 25 (.tmp 1) 3⟩, ⟨none, some 7, .ld 22 (.tmp 6)⟩, ⟨none, some 8, .oth (.call ⟨.builtin .len, #[.tmp 7], #[22]⟩)⟩, ⟨none, some 9, .bin .lss 3 (.tmp 5) (.tmp 8)⟩]) (some ([1, 3, 4], [1, 19])) := rx
@[simp] theorem x52_5 : RX 24 r52_5 (.drw [⟨[], [⟨none, some 12, .mv (.tmp 3)⟩, ⟨none, some 13, .ld 25 (.tmp 1)⟩, ⟨none, some 14, .fa 25 (.tmp 1) 3⟩, ⟨none, some 15, .ld 22 (.tmp 14)⟩, ⟨none, some 16, .mv (.tmp 4)⟩, ⟨none, some 17, .oth (.indexAddr 22 (.tmp 15) (.tmp 16))⟩, ⟨none, some 18, .ld 75 (.tmp 17)⟩, ⟨none, some 19, .call false none (.func 83) [.tmp 13, .tmp 18]⟩, ⟨none, some 20, .oth (.call ⟨.builtin .len, #[.tmp 19], #[22]⟩)⟩, ⟨none, some 21, .bin .mul 3 (.tmp 12) (.tmp 20)⟩, ⟨none, some 22, .oth (.call ⟨.builtin .min, #[.const (.int .i64 5000), .tmp 21], #[3, 3]⟩)⟩, ⟨none, some 3, .mv (.tmp 22)⟩], []⟩]) (some ([1, 3, 4], [1])) := rx
@[simp] theorem x52_4 : RX 24 r52_4 (.str [⟨none, some 10, .mv (.tmp 4)⟩, ⟨none, some 11, .bin .add 3 (.tmp 10) (.const (.int .i64 1))⟩, ⟨none, some 4, .mv (.tmp 11)⟩]) (some ([1, 3, 4], [1, 19])) := rx
@[simp] theorem x52_6 : RX 24 r52_6 (.str [⟨none, some 23, .mv (.tmp 3)⟩, ⟨none, some 2, .mv (.tmp 23)⟩]) (some ([3], [])) := rx
@[simp] theorem l52_3 : ann 24 (fstR lb52_3) = some ([1, 3, 4], [1, 19]) := by kernel_rfl
def r67_0 := rg Try.f67 2
def r67_1 := rg Try.f67 9
def r67_2 := rg Try.f67 37
def r67_3 := rg Try.f67 19
def r67_4 := rg Try.f67 75
def r67_5 := rg Try.f67 39
def r67_6 := rg Try.f67 535
def r67_8 := rg Try.f67 2199
def r67_9 := rg Try.f67 5271
def r67_10 := rg Try.f67 19607
def r67_7 := rg Try.f67 919
def r67_11 := rg Try.f67 79
def r67_12 := rg Try.f67 1071
def r67_14 := rg Try.f67 4399
def r67_15 := rg Try.f67 10543
def r67_16 := rg Try.f67 39215
def r67_13 := rg Try.f67 1839
def r67_17 := rg Try.f67 159
def r67_18 := rg Try.f67 607
def r67_19 := rg Try.f67 191
def lb67_6 : Code := (.seq (.seq r67_6 (.cond (.tmp 37) .skip (.exit 0))) (.seq (.block 1 (.seq r67_8 (.seq r67_9 (.cond (.tmp 66) (.seq r67_10 .ret) .skip)))) r67_7))
@[simp] theorem u67_6 (n : Nat) (st : XS) : execA Try.prog ann kn n 110 lb67_6 st = execA Try.prog ann kn n 110 (.seq (.seq r67_6 (.cond (.tmp 37) .skip (.exit 0))) (.seq (.block 1 (.seq r67_8 (.seq r67_9 (.cond (.tmp 66) (.seq r67_10 .ret) .skip)))) r67_7)) st := rfl
def lb67_12 : Code := (.seq (.seq r67_12 (.cond (.tmp 71) .skip (.exit 2))) (.seq (.block 3 (.seq r67_14 (.seq r67_15 (.cond (.tmp 106) (.seq r67_16 .ret) .skip)))) r67_13))
@[simp] theorem u67_12 (n : Nat) (st : XS) : execA Try.prog ann kn n 110 lb67_12 st = execA Try.prog ann kn n 110 (.seq (.seq r67_12 (.cond (.tmp 71) .skip (.exit 2))) (.seq (.block 3 (.seq r67_14 (.seq r67_15 (.cond (.tmp 106) (.seq r67_16 .ret) .skip)))) r67_13)) st := rfl
def c67 : Code := (.seq r67_0 (.seq (.seq r67_1 (.cond (.tmp 16) (.seq r67_2 .ret) .skip)) (.seq (.seq r67_3 (.cond (.tmp 32) (.seq r67_4 .ret) .skip)) (.seq (.seq r67_5 (.block 0 (.loop lb67_6))) (.seq (.seq r67_11 (.block 2 (.loop lb67_12))) (.seq (.seq r67_17 (.cond (.tmp 109) (.seq r67_18 .ret) .skip)) (.seq r67_19 .ret)))))))
theorem b67 : Try.f67.body = some c67 := by kernel_rfl
@[simp] theorem x67_0 : RX 110 r67_0 (.str [⟨none, some 1, .box (.tmp 0)⟩, ⟨none, some 2, .mv (.const (.int .i64 0))⟩]) (some ([0], [1])) := rx
@[simp] theorem x67_1 : RX 110 r67_1 (.str [⟨none, some 7, .fa 25 (.tmp 1) 3⟩, ⟨none, some 8, .ld 22 (.tmp 7)⟩, ⟨none, some 9, .oth (.call ⟨.builtin .len, #[.tmp 8], #[22]⟩)⟩, ⟨none, some 10, .bin .gtr 3 (.tmp 9) (.const (.int .i64 8))⟩, ⟨none, some 11, .mv (.tmp 10)⟩, ⟨some (11, false), some 12, .fa 25 (.tmp 1) 4⟩, ⟨some (11, false), some 13, .ld 23 (.tmp 12)⟩, ⟨some (11, false), some 14, .oth (.call ⟨.builtin .len, #[.tmp 13], #[23]⟩)⟩, ⟨some (11, false), some 15, .bin .gtr 3 (.tmp 14) (.const (.int .i64 4))⟩, ⟨none, some 16, .pick (.tmp 11) (.const (.bool true)) (.tmp 15)⟩]) (some ([1], [1])) := rx
@[simp] theorem x67_2 : RX 110 r67_2 (.str [⟨none, some 2, .mv (.const (.int .i64 3))⟩]) (some ([], [])) := rx
@[simp] theorem x67_3 : RX 110 r67_3 (.str [⟨none, some 17, .fa 25 (.tmp 1) 0⟩, ⟨none, some 18, .ld 3 (.tmp 17)⟩, ⟨none, some 19, .call false none (.func 25) [.tmp 18, .const (.int .i64 1), .const (.int .i64 4)]⟩, ⟨none, some 20, .oth (.unOp .not 4 (.tmp 19))⟩, ⟨none, some 21, .mv (.tmp 20)⟩, ⟨some (21, false), some 22, .fa 25 (.tmp 1) 1⟩, ⟨some (21, false), some 23, .ld 3 (.tmp 22)⟩, ⟨some (21, false), some 24, .call false none (.func 25) [.tmp 23, .const (.int .i64 1), .const (.int .i64 99)]⟩, ⟨some (21, false), some 25, .oth (.unOp .not 4 (.tmp 24))⟩, ⟨none, some 26, .pick (.tmp 21) (.const (.bool true)) (.tmp 25)⟩, ⟨none, some 27, .mv (.tmp 26)⟩, ⟨some (27, false), some 28, .fa 25 (.tmp 1) 2⟩, ⟨some (27, false), some 29, .ld 3 (.tmp 28)⟩, ⟨some (27, false), some 30, .call false none (.func 25) [.tmp 29, .const (.int .i64 0), .const (.int .i64 999)]⟩, ⟨some (27, false), some 31, .oth (.unOp .not 4 (.tmp 30))⟩, ⟨none, some 32, .pick (.tmp 27) (.const (.bool true)) (.tmp 31)⟩]) (some ([1], [1])) := rx
@[simp] theorem x67_4 : RX 110 r67_4 (.str [⟨none, some 2, .mv (.const (.int .i64 1))⟩]) (some ([], [])) := rx
@[simp] theorem x67_5 : RX 110 r67_5 (.str [⟨none, some 3, .mv (.const (.int .i64 0))⟩]) (some ([1], [1])) := rx
@[simp] theorem x67_6 : RX 110 r67_6 (.str [⟨none, some 33, .mv (.tmp 3)⟩, ⟨none, some 34, .fa 25 (.tmp 1) 3⟩, ⟨none, some 35, .ld 22 (.tmp 34)⟩, ⟨none, some 36, .oth (.call ⟨.builtin .len, #[.tmp 35], #[22]⟩)⟩, ⟨none, some 37, .bin .lss 3 (.tmp 33) (.tmp 36)⟩]) (some ([1, 3], [1])) := rx
@[simp] theorem x67_8 : RX 110 r67_8 (.str [⟨none, some 40, .fa 25 (.tmp 1) 3⟩, ⟨none, some 41, .ld 22 (.tmp 40)⟩, ⟨none, some 42, .mv (.tmp 3)⟩, ⟨none, some 43, .oth (.indexAddr 22 (.tmp 41) (.tmp 42))⟩, ⟨none, some 44, .ld 75 (.tmp 43)⟩, ⟨none, some 4, .alloc 75⟩, ⟨none, none, .sto 75 (.tmp 4) (.tmp 44)⟩]) (some ([1, 3], [1])) := rx
@[simp] theorem x67_9 : RX 110 r67_9 (.str [⟨none, some 45, .fa 75 (.tmp 4) 0⟩, ⟨none, some 46, .ld 3 (.tmp 45)⟩, ⟨none, some 47, .call false none (.func 25) [.tmp 46, .const (.int .i64 0), .const (.int .i64 2)]⟩, ⟨none, some 48, .oth (.unOp .not 4 (.tmp 47))⟩, ⟨none, some 49, .mv (.tmp 48)⟩, ⟨some (49, false), some 50, .fa 75 (.tmp 4) 1⟩, ⟨some (49, false), some 51, .ld 3 (.tmp 50)⟩, ⟨some (49, false), some 52, .fa 25 (.tmp 1) 0⟩, ⟨some (49, false), some 53, .ld 3 (.tmp 52)⟩, ⟨some (49, false), some 54, .bin .sub 3 (.tmp 53) (.const (.int .i64 1))⟩, ⟨some (49, false), some 55, .call false none (.func 25) [.tmp 51, .const (.int .i64 (Int.negSucc 0)), .tmp 54]⟩, ⟨some (49, false), some 56, .oth (.unOp .not 4 (.tmp 55))⟩, ⟨none, some 57, .pick (.tmp 49) (.const (.bool true)) (.tmp 56)⟩, ⟨none, some 58, .mv (.tmp 57)⟩, ⟨some (58, false), some 59, .fa 75 (.tmp 4) 2⟩, ⟨some (58, false), some 60, .ld 3 (.tmp 59)⟩, ⟨some (58, false), some 61, .fa 25 (.tmp 1) 0⟩, ⟨some (58, false), some 62, .ld 3 (.tmp 61)⟩, ⟨some (58, false), some 63, .bin .sub 3 (.tmp 62) (.const (.int .i64 1))⟩, ⟨some (58, false), some 64, .call false none (.func 25) [.tmp 60, .const (.int .i64 (Int.negSucc 0)), .tmp 63]⟩, ⟨some (58, false), some 65, .oth (.unOp .not 4 (.tmp 64))⟩, ⟨none, some 66, .pick (.tmp 58) (.const (.bool true)) (.tmp 65)⟩]) (some ([1, 3, 4], [1, 4])) := rx
@[simp] theorem x67_10 : RX 110 r67_10 (.str [⟨none, some 2, .mv (.const (.int .i64 1))⟩]) (some ([], [])) := rx
@[simp] theorem x67_7 : RX 110 r67_7 (.str [⟨none, some 38, .mv (.tmp 3)⟩, ⟨none, some 39, .bin .add 3 (.tmp 38) (.const (.int .i64 1))⟩, ⟨none, some 3, .mv (.tmp 39)⟩]) (some ([1, 3], [1])) := rx
@[simp] theorem x67_11 : RX 110 r67_11 (.str [⟨none, some 5, .mv (.const (.int .i64 0))⟩]) (some ([1], [1])) := rx
@[simp] theorem x67_12 : RX 110 r67_12 (.str [⟨none, some 67, .mv (.tmp 5)⟩, ⟨none, some 68, .fa 25 (.tmp 1) 4⟩, ⟨none, some 69, .ld 23 (.tmp 68)⟩, ⟨none, some 70, .oth (.call ⟨.builtin .len, #[.tmp 69], #[23]⟩)⟩, ⟨none, some 71, .bin .lss 3 (.tmp 67) (.tmp 70)⟩]) (some ([1, 5], [1])) := rx
@[simp] theorem x67_14 : RX 110 r67_14 (.str [⟨none, some 74, .fa 25 (.tmp 1) 4⟩, ⟨none, some 75, .ld 23 (.tmp 74)⟩, ⟨none, some 76, .mv (.tmp 5)⟩, ⟨none, some 77, .oth (.indexAddr 23 (.tmp 75) (.tmp 76))⟩, ⟨none, some 78, .ld 78 (.tmp 77)⟩, ⟨none, some 6, .alloc 78⟩, ⟨none, none, .sto 78 (.tmp 6) (.tmp 78)⟩]) (some ([1, 5], [1])) := rx
@[simp] theorem x67_15 : RX 110 r67_15 (.str [⟨none, some 79, .fa 78 (.tmp 6) 0⟩, ⟨none, some 80, .ld 3 (.tmp 79)⟩, ⟨none, some 81, .fa 25 (.tmp 1) 3⟩, ⟨none, some 82, .ld 22 (.tmp 81)⟩, ⟨none, some 83, .oth (.call ⟨.builtin .len, #[.tmp 82], #[22]⟩)⟩, ⟨none, some 84, .call false none (.func 25) [.tmp 80, .const (.int .i64 0), .tmp 83]⟩, ⟨none, some 85, .oth (.unOp .not 4 (.tmp 84))⟩, ⟨none, some 86, .mv (.tmp 85)⟩, ⟨some (86, false), some 87, .fa 78 (.tmp 6) 1⟩, ⟨some (86, false), some 88, .fa 50 (.tmp 87) 0⟩, ⟨some (86, false), some 89, .ld 3 (.tmp 88)⟩, ⟨some (86, false), some 90, .bin .lss 3 (.tmp 89) (.const (.int .i64 0))⟩, ⟨none, some 91, .pick (.tmp 86) (.const (.bool true)) (.tmp 90)⟩, ⟨none, some 92, .mv (.tmp 91)⟩, ⟨some (92, false), some 93, .fa 78 (.tmp 6) 1⟩, ⟨some (92, false), some 94, .fa 50 (.tmp 93) 0⟩, ⟨some (92, false), some 95, .ld 3 (.tmp 94)⟩, ⟨some (92, false), some 96, .fa 78 (.tmp 6) 1⟩, ⟨some (92, false), some 97, .fa 50 (.tmp 96) 1⟩, ⟨some (92, false), some 98, .ld 3 (.tmp 97)⟩, ⟨some (92, false), some 99, .bin .gtr 3 (.tmp 95) (.tmp 98)⟩, ⟨none, some 100, .pick (.tmp 92) (.const (.bool true)) (.tmp 99)⟩, ⟨none, some 101, .mv (.tmp 100)⟩, ⟨some (101, false), some 102, .fa 78 (.tmp 6) 1⟩, ⟨some (101, false), some 103, .fa 50 (.tmp 102) 1⟩, ⟨some (101, false), some 104, .ld 3 (.tmp 103)⟩, ⟨some (101, false), some 105, .bin .gtr 3 (.tmp 104) (.const (.int .i64 2000))⟩, ⟨none, some 106, .pick (.tmp 101) (.const (.bool true)) (.tmp 105)⟩]) (some ([1, 5, 6], [1, 6])) := rx
@[simp] theorem x67_16 : RX 110 r67_16 (.str [⟨none, some 2, .mv (.const (.int .i64 1))⟩]) (some ([], [])) := rx
@[simp] theorem x67_13 : RX 110 r67_13 (.str [⟨none, some 72, .mv (.tmp 5)⟩, ⟨none, some 73, .bin .add 3 (.tmp 72) (.const (.int .i64 1))⟩, ⟨none, some 5, .mv (.tmp 73)⟩]) (some ([1, 5], [1])) := rx
@[simp] theorem x67_17 : RX 110 r67_17 (.str [⟨none, some 107, .ld 25 (.tmp 1)⟩, ⟨none, some 108, .call false none (.func 52) [.tmp 107]⟩, ⟨none, some 109, .bin .gtr 3 (.tmp 108) (.const (.int .i64 4096))⟩]) (some ([1], [1])) := rx
@[simp] theorem x67_18 : RX 110 r67_18 (.str [⟨none, some 2, .mv (.const (.int .i64 3))⟩]) (some ([], [])) := rx
@[simp] theorem x67_19 : RX 110 r67_19 (.str [⟨none, some 2, .mv (.const (.int .i64 0))⟩]) (some ([], [])) := rx
@[simp] theorem l67_6 : ann 110 (fstR lb67_6) = some ([1, 3], [1]) := by kernel_rfl
@[simp] theorem l67_12 : ann 110 (fstR lb67_12) = some ([1, 5], [1]) := by kernel_rfl
def r24_0 := rg Try.f24 2
def r24_1 := rg Try.f24 5
def c24 : Code := (.seq r24_0 (.seq r24_1 .ret))
theorem b24 : Try.f24.body = some c24 := by kernel_rfl
@[simp] theorem x24_0 : RX 5 r24_0 (.str [⟨none, some 1, .box (.tmp 0)⟩, ⟨none, some 2, .mv (.const (.int .i64 0))⟩]) (some ([0], [1])) := rx
@[simp] theorem x24_1 : RX 5 r24_1 (.str [⟨none, some 3, .ld 25 (.tmp 1)⟩, ⟨none, some 4, .call false none (.func 67) [.tmp 3]⟩, ⟨none, some 2, .mv (.tmp 4)⟩]) (some ([0, 1], [1])) := rx
def r19_0 := rg Try.f19 2
def r19_1 := rg Try.f19 5
def c19 : Code := (.seq r19_0 (.seq r19_1 .ret))
theorem b19 : Try.f19.body = some c19 := by kernel_rfl
@[simp] theorem x19_0 : RX 23 r19_0 (.str [⟨none, some 1, .box (.tmp 0)⟩, ⟨none, some 2, .mv (.const (.bool false))⟩]) (some ([0], [1, 3, 19])) := rx
@[simp] theorem x19_1 : RX 23 r19_1 (.str [⟨none, some 3, .fa 25 (.tmp 1) 3⟩, ⟨none, some 4, .ld 22 (.tmp 3)⟩, ⟨none, some 5, .oth (.call ⟨.builtin .len, #[.tmp 4], #[22]⟩)⟩, ⟨none, some 6, .bin .leq 3 (.tmp 5) (.const (.int .i64 10))⟩, ⟨none, some 7, .mv (.tmp 6)⟩, ⟨some (7, true), some 8, .fa 25 (.tmp 1) 4⟩, ⟨some (7, true), some 9, .ld 23 (.tmp 8)⟩, ⟨some (7, true), some 10, .oth (.call ⟨.builtin .len, #[.tmp 9], #[23]⟩)⟩, ⟨some (7, true), some 11, .bin .leq 3 (.tmp 10) (.const (.int .i64 6))⟩, ⟨none, some 12, .pick (.tmp 7) (.tmp 11) (.const (.bool false))⟩, ⟨none, some 13, .mv (.tmp 12)⟩, ⟨some (13, true), some 14, .ld 25 (.tmp 1)⟩, ⟨some (13, true), some 15, .call false none (.func 67) [.tmp 14]⟩, ⟨some (13, true), some 16, .bin .neq 3 (.tmp 15) (.const (.int .i64 0))⟩, ⟨some (13, true), some 17, .mv (.tmp 16)⟩, ⟨some (17, false), some 18, .ld 25 (.tmp 1)⟩, ⟨some (17, false), some 19, .call false none (.func 52) [.tmp 18]⟩, ⟨some (17, false), some 20, .bin .leq 3 (.tmp 19) (.const (.int .i64 100))⟩, ⟨some (13, true), some 21, .pick (.tmp 17) (.const (.bool true)) (.tmp 20)⟩, ⟨none, some 22, .pick (.tmp 13) (.tmp 21) (.const (.bool false))⟩, ⟨none, some 2, .mv (.tmp 22)⟩]) (some ([1], [1])) := rx
def r30_0 := rg Try.f30 2
def r30_1 := rg Try.f30 5
def c30 : Code := (.seq r30_0 (.seq r30_1 .ret))
theorem b30 : Try.f30.body = some c30 := by kernel_rfl
@[simp] theorem x30_0 : RX 8 r30_0 (.str [⟨none, some 1, .box (.tmp 0)⟩, ⟨none, some 2, .alloc 45⟩]) (some ([0], [])) := rx
@[simp] theorem x30_1 : RX 8 r30_1 (.str [⟨none, some 3, .fa 50 (.tmp 1) 0⟩, ⟨none, some 4, .ld 3 (.tmp 3)⟩, ⟨none, some 5, .fa 50 (.tmp 1) 1⟩, ⟨none, some 6, .ld 3 (.tmp 5)⟩, ⟨none, some 7, .build 45 [(0, .tmp 4), (1, .tmp 6)]⟩, ⟨none, none, .sto 45 (.tmp 2) (.tmp 7)⟩]) (some ([1, 2], [1, 2])) := rx
def r35_0 := rg Try.f35 2
def r35_1 := rg Try.f35 5
def r35_2 := rg Try.f35 19
def r35_3 := rg Try.f35 267
def r35_5 := rg Try.f35 587
def r35_4 := rg Try.f35 459
def r35_6 := rg Try.f35 23
def lb35_3 : Code := (.seq (.seq r35_3 (.cond (.tmp 8) .skip (.exit 0))) (.seq (.block 1 r35_5) r35_4))
@[simp] theorem u35_3 (n : Nat) (st : XS) : execA Try.prog ann kn n 31 lb35_3 st = execA Try.prog ann kn n 31 (.seq (.seq r35_3 (.cond (.tmp 8) .skip (.exit 0))) (.seq (.block 1 r35_5) r35_4)) st := rfl
def c35 : Code := (.seq r35_0 (.seq r35_1 (.seq (.seq r35_2 (.block 0 (.loop lb35_3))) (.seq r35_6 .ret))))
theorem b35 : Try.f35.body = some c35 := by kernel_rfl
@[simp] theorem x35_0 : RX 31 r35_0 (.str [⟨none, some 2, .mv (.const (.slice none 0 0))⟩]) (some ([0], [])) := rx
@[simp] theorem x35_1 : RX 31 r35_1 (.str [⟨none, some 3, .mv (.const (.slice none 0 0))⟩]) (some ([0], [])) := rx
@[simp] theorem x35_2 : RX 31 r35_2 (.str [⟨none, some 4, .mv (.const (.int .i64 0))⟩]) (some ([0, 3], [29])) := rx
@[simp] theorem x35_3 : RX 31 r35_3 (.str [⟨none, some 5, .mv (.tmp 4)⟩, ⟨none, some 6, .mv (.tmp 0)⟩, ⟨none, some 7, .oth (.call ⟨.builtin .len, #[.tmp 6], #[22]⟩)⟩, ⟨none, some 8, .bin .lss 3 (.tmp 5) (.tmp 7)⟩]) (some ([0, 3, 4], [29])) := rx
@[simp] theorem x35_5 : RX 31 r35_5 (.drw [⟨[], [⟨none, some 11, .mv (.tmp 3)⟩, ⟨none, some 12, .mv (.tmp 0)⟩, ⟨none, some 13, .mv (.tmp 4)⟩, ⟨none, some 14, .oth (.indexAddr 22 (.tmp 12) (.tmp 13))⟩, ⟨none, some 15, .fa 75 (.tmp 14) 0⟩, ⟨none, some 16, .ld 3 (.tmp 15)⟩, ⟨none, some 17, .mv (.tmp 0)⟩, ⟨none, some 18, .mv (.tmp 4)⟩, ⟨none, some 19, .oth (.indexAddr 22 (.tmp 17) (.tmp 18))⟩, ⟨none, some 20, .fa 75 (.tmp 19) 1⟩, ⟨none, some 21, .ld 3 (.tmp 20)⟩, ⟨none, some 22, .mv (.tmp 0)⟩, ⟨none, some 23, .mv (.tmp 4)⟩, ⟨none, some 24, .oth (.indexAddr 22 (.tmp 22) (.tmp 23))⟩, ⟨none, some 25, .fa 75 (.tmp 24) 2⟩, ⟨none, some 26, .ld 3 (.tmp 25)⟩, ⟨none, some 27, .build 96 [(0, .tmp 16), (1, .tmp 21), (2, .tmp 26)]⟩, ⟨none, some 28, .buildS 32 1 [(0, .tmp 27)]⟩, ⟨none, some 29, .app [.tmp 11, .tmp 28] [32, 32]⟩, ⟨none, some 3, .mv (.tmp 29)⟩], []⟩]) (some ([0, 3, 4], [29])) := rx
@[simp] theorem x35_4 : RX 31 r35_4 (.str [⟨none, some 9, .mv (.tmp 4)⟩, ⟨none, some 10, .bin .add 3 (.tmp 9) (.const (.int .i64 1))⟩, ⟨none, some 4, .mv (.tmp 10)⟩]) (some ([0, 3, 4], [29])) := rx
@[simp] theorem x35_6 : RX 31 r35_6 (.str [⟨none, some 30, .mv (.tmp 3)⟩, ⟨none, some 2, .mv (.tmp 30)⟩]) (some ([3], [29])) := rx
@[simp] theorem l35_3 : ann 31 (fstR lb35_3) = some ([0, 3, 4], [29]) := by kernel_rfl
def r22_0 := rg Try.f22 2
def r22_1 := rg Try.f22 5
def r22_2 := rg Try.f22 19
def r22_3 := rg Try.f22 267
def r22_5 := rg Try.f22 587
def r22_4 := rg Try.f22 459
def r22_6 := rg Try.f22 23
def lb22_3 : Code := (.seq (.seq r22_3 (.cond (.tmp 19) .skip (.exit 0))) (.seq (.block 1 r22_5) r22_4))
@[simp] theorem u22_3 (n : Nat) (st : XS) : execA Try.prog ann kn n 42 lb22_3 st = execA Try.prog ann kn n 42 (.seq (.seq r22_3 (.cond (.tmp 19) .skip (.exit 0))) (.seq (.block 1 r22_5) r22_4)) st := rfl
def c22 : Code := (.seq r22_0 (.seq r22_1 (.seq (.seq r22_2 (.block 0 (.loop lb22_3))) (.seq r22_6 .ret))))
theorem b22 : Try.f22.body = some c22 := by kernel_rfl
@[simp] theorem x22_0 : RX 42 r22_0 (.str [⟨none, some 1, .box (.tmp 0)⟩, ⟨none, some 2, .alloc 35⟩]) (some ([0], [1, 2, 3, 13, 39])) := rx
@[simp] theorem x22_1 : RX 42 r22_1 (.drw [⟨[3], [⟨none, some 5, .fa 25 (.tmp 1) 0⟩, ⟨none, some 6, .ld 3 (.tmp 5)⟩, ⟨none, some 7, .fa 25 (.tmp 1) 1⟩, ⟨none, some 8, .ld 3 (.tmp 7)⟩, ⟨none, some 9, .fa 25 (.tmp 1) 2⟩, ⟨none, some 10, .ld 3 (.tmp 9)⟩, ⟨none, some 11, .fa 25 (.tmp 1) 3⟩, ⟨none, some 12, .ld 22 (.tmp 11)⟩, ⟨none, some 13, .call false none (.func 35) [.tmp 12]⟩, ⟨none, some 14, .build 35 [(0, .tmp 6), (1, .tmp 8), (2, .tmp 10), (3, .tmp 13)]⟩, ⟨none, some 3, .alloc 35⟩], [⟨none, none, .sto 35 (.tmp 3) (.tmp 14)⟩]⟩]) (some ([1, 2], [1, 2, 39])) := rx
@[simp] theorem x22_2 : RX 42 r22_2 (.str [⟨none, some 4, .mv (.const (.int .i64 0))⟩]) (some ([1, 2, 3], [1, 2, 3, 13, 39])) := rx
@[simp] theorem x22_3 : RX 42 r22_3 (.str [⟨none, some 15, .mv (.tmp 4)⟩, ⟨none, some 16, .fa 25 (.tmp 1) 4⟩, ⟨none, some 17, .ld 23 (.tmp 16)⟩, ⟨none, some 18, .oth (.call ⟨.builtin .len, #[.tmp 17], #[23]⟩)⟩, ⟨none, some 19, .bin .lss 3 (.tmp 15) (.tmp 18)⟩]) (some ([1, 2, 3, 4], [1, 2, 3, 13, 39])) := rx
@[simp] theorem x22_5 : RX 42 r22_5 (.drw [⟨[], [⟨none, some 22, .fa 35 (.tmp 3) 4⟩, ⟨none, some 23, .ld 33 (.tmp 22)⟩, ⟨none, some 24, .fa 25 (.tmp 1) 4⟩, ⟨none, some 25, .ld 23 (.tmp 24)⟩, ⟨none, some 26, .mv (.tmp 4)⟩, ⟨none, some 27, .oth (.indexAddr 23 (.tmp 25) (.tmp 26))⟩, ⟨none, some 28, .fa 78 (.tmp 27) 0⟩, ⟨none, some 29, .ld 3 (.tmp 28)⟩, ⟨none, some 30, .fa 25 (.tmp 1) 4⟩, ⟨none, some 31, .ld 23 (.tmp 30)⟩, ⟨none, some 32, .mv (.tmp 4)⟩, ⟨none, some 33, .oth (.indexAddr 23 (.tmp 31) (.tmp 32))⟩, ⟨none, some 34, .fa 78 (.tmp 33) 1⟩, ⟨none, some 35, .ld 50 (.tmp 34)⟩, ⟨none, some 36, .call false none (.func 30) [.tmp 35]⟩, ⟨none, some 37, .build 99 [(0, .tmp 29), (1, .tmp 36)]⟩, ⟨none, some 38, .buildS 33 1 [(0, .tmp 37)]⟩, ⟨none, some 39, .app [.tmp 23, .tmp 38] [33, 33]⟩, ⟨none, some 40, .fa 35 (.tmp 3) 4⟩], [⟨none, none, .sto 33 (.tmp 40) (.tmp 39)⟩]⟩]) (some ([1, 2, 3, 4], [1, 2, 3, 13, 39])) := rx
@[simp] theorem x22_4 : RX 42 r22_4 (.str [⟨none, some 20, .mv (.tmp 4)⟩, ⟨none, some 21, .bin .add 3 (.tmp 20) (.const (.int .i64 1))⟩, ⟨none, some 4, .mv (.tmp 21)⟩]) (some ([1, 2, 3, 4], [1, 2, 3, 13, 39])) := rx
@[simp] theorem x22_6 : RX 42 r22_6 (.str [⟨none, some 41, .ld 35 (.tmp 3)⟩, ⟨none, none, .sto 35 (.tmp 2) (.tmp 41)⟩]) (some ([2, 3], [1, 2, 3, 13, 39])) := rx
@[simp] theorem l22_3 : ann 42 (fstR lb22_3) = some ([1, 2, 3, 4], [1, 2, 3, 13, 39]) := by kernel_rfl
def r107_0 := rg Try.f107 2
def r107_1 := rg Try.f107 9
def r107_2 := rg Try.f107 37
def r107_3 := rg Try.f107 19
def r107_4 := rg Try.f107 267
def r107_6 := rg Try.f107 587
def r107_5 := rg Try.f107 459
def r107_7 := rg Try.f107 23
def lb107_4 : Code := (.seq (.seq r107_4 (.cond (.tmp 18) .skip (.exit 0))) (.seq (.block 1 r107_6) r107_5))
@[simp] theorem u107_4 (n : Nat) (st : XS) : execA Try.prog ann kn n 26 lb107_4 st = execA Try.prog ann kn n 26 (.seq (.seq r107_4 (.cond (.tmp 18) .skip (.exit 0))) (.seq (.block 1 r107_6) r107_5)) st := rfl
def c107 : Code := (.seq r107_0 (.seq (.seq r107_1 (.cond (.tmp 12) (.seq r107_2 .ret) .skip)) (.seq (.seq r107_3 (.block 0 (.loop lb107_4))) (.seq r107_7 .ret))))
theorem b107 : Try.f107.body = some c107 := by kernel_rfl
@[simp] theorem x107_0 : RX 26 r107_0 (.str [⟨none, some 8, .mv (.const (.slice none 0 0))⟩]) (some ([0, 1, 2, 3], [])) := rx
@[simp] theorem x107_1 : RX 26 r107_1 (.str [⟨none, some 10, .mv (.tmp 0)⟩, ⟨none, some 11, .mv (.tmp 1)⟩, ⟨none, some 12, .bin .neq 3 (.tmp 10) (.tmp 11)⟩]) (some ([0, 1, 2, 3, 8], [24])) := rx
@[simp] theorem x107_2 : RX 26 r107_2 (.str [⟨none, some 13, .mv (.tmp 0)⟩, ⟨none, some 14, .buildS 28 1 [(0, .tmp 13)]⟩, ⟨none, some 8, .mv (.tmp 14)⟩]) (some ([0], [])) := rx
@[simp] theorem x107_3 : RX 26 r107_3 (.str [⟨none, some 15, .mv (.tmp 2)⟩, ⟨none, some 9, .mv (.tmp 15)⟩]) (some ([2, 3, 8], [24])) := rx
@[simp] theorem x107_4 : RX 26 r107_4 (.str [⟨none, some 16, .mv (.tmp 9)⟩, ⟨none, some 17, .mv (.tmp 3)⟩, ⟨none, some 18, .bin .leq 3 (.tmp 16) (.tmp 17)⟩]) (some ([3, 8, 9], [24])) := rx
@[simp] theorem x107_6 : RX 26 r107_6 (.str [⟨none, some 21, .mv (.tmp 8)⟩, ⟨none, some 22, .mv (.tmp 9)⟩, ⟨none, some 23, .buildS 28 1 [(0, .tmp 22)]⟩, ⟨none, some 24, .app [.tmp 21, .tmp 23] [28, 28]⟩, ⟨none, some 8, .mv (.tmp 24)⟩]) (some ([3, 8, 9], [24])) := rx
@[simp] theorem x107_5 : RX 26 r107_5 (.str [⟨none, some 19, .mv (.tmp 9)⟩, ⟨none, some 20, .bin .add 3 (.tmp 19) (.const (.int .i64 1))⟩, ⟨none, some 9, .mv (.tmp 20)⟩]) (some ([3, 8, 9], [24])) := rx
@[simp] theorem x107_7 : RX 26 r107_7 (.str [⟨none, some 25, .mv (.tmp 8)⟩, ⟨none, some 8, .mv (.tmp 25)⟩]) (some ([8], [24])) := rx
@[simp] theorem l107_4 : ann 26 (fstR lb107_4) = some ([3, 8, 9], [24]) := by kernel_rfl
def r81_0 := rg Try.f81 2
def r81_1 := rg Try.f81 9
def r81_2 := rg Try.f81 69
def r81_3 := rg Try.f81 1125
def r81_4 := rg Try.f81 2661
def r81_5 := rg Try.f81 18021
def r81_6 := rg Try.f81 288357
def r81_7 := rg Try.f81 681573
def r81_8 := rg Try.f81 4613733
def r81_9 := rg Try.f81 73819749
def r81_10 := rg Try.f81 107374181
def r81_11 := rg Try.f81 31876709
def r81_12 := rg Try.f81 124517
def r81_13 := rg Try.f81 485
def r81_14 := rg Try.f81 11
def lb81_8 : Code := (.seq r81_8 (.seq (.cond (.tmp 38) .skip (.exit 4)) (.seq (.block 5 (.seq r81_9 r81_10)) r81_11)))
@[simp] theorem u81_8 (n : Nat) (st : XS) : execA Try.prog ann kn n 52 lb81_8 st = execA Try.prog ann kn n 52 (.seq r81_8 (.seq (.cond (.tmp 38) .skip (.exit 4)) (.seq (.block 5 (.seq r81_9 r81_10)) r81_11))) st := rfl
def lb81_5 : Code := (.seq r81_5 (.seq (.cond (.tmp 27) .skip (.exit 2)) (.seq (.block 3 (.seq r81_6 (.seq r81_7 (.block 4 (.loop lb81_8))))) r81_12)))
@[simp] theorem u81_5 (n : Nat) (st : XS) : execA Try.prog ann kn n 52 lb81_5 st = execA Try.prog ann kn n 52 (.seq r81_5 (.seq (.cond (.tmp 27) .skip (.exit 2)) (.seq (.block 3 (.seq r81_6 (.seq r81_7 (.block 4 (.loop lb81_8))))) r81_12))) st := rfl
def lb81_2 : Code := (.seq r81_2 (.seq (.cond (.tmp 16) .skip (.exit 0)) (.seq (.block 1 (.seq r81_3 (.seq r81_4 (.block 2 (.loop lb81_5))))) r81_13)))
@[simp] theorem u81_2 (n : Nat) (st : XS) : execA Try.prog ann kn n 52 lb81_2 st = execA Try.prog ann kn n 52 (.seq r81_2 (.seq (.cond (.tmp 16) .skip (.exit 0)) (.seq (.block 1 (.seq r81_3 (.seq r81_4 (.block 2 (.loop lb81_5))))) r81_13))) st := rfl
def c81 : Code := (.seq r81_0 (.seq (.seq r81_1 (.block 0 (.loop lb81_2))) (.seq r81_14 .ret)))
theorem b81 : Try.f81.body = some c81 := by kernel_rfl
@[simp] theorem x81_0 : RX 52 r81_0 (.str [⟨none, some 2, .box (.tmp 0)⟩, ⟨none, some 3, .box (.tmp 1)⟩, ⟨none, some 4, .mv (.const (.slice none 0 0))⟩]) (some ([0, 1], [2])) := rx
@[simp] theorem x81_1 : RX 52 r81_1 (.str [⟨none, some 11, .fa 96 (.tmp 3) 0⟩, ⟨none, some 12, .ld 3 (.tmp 11)⟩, ⟨none, some 13, .call false none (.func 107) [.tmp 12, .const (.int .i64 0), .const (.int .i64 1), .const (.int .i64 2)]⟩, ⟨none, some 14, .oth (.call ⟨.builtin .len, #[.tmp 13], #[28]⟩)⟩, ⟨none, some 15, .mv (.const (.int .i64 0))⟩]) (some ([2, 3, 4], [2, 3, 47])) := rx
@[simp] theorem x81_2 : RX 52 r81_2 (.str [⟨none, some 16, .bin .lss 3 (.tmp 15) (.tmp 14)⟩]) (some ([2, 3, 4, 13, 14, 15], [2, 3, 13, 47])) := rx
@[simp] theorem x81_3 : RX 52 r81_3 (.str [⟨none, some 17, .oth (.indexAddr 28 (.tmp 13) (.tmp 15))⟩, ⟨none, some 18, .ld 3 (.tmp 17)⟩, ⟨none, some 6, .mv (.tmp 18)⟩]) (some ([2, 3, 4, 13, 14, 15], [2, 3, 13, 47])) := rx
@[simp] theorem x81_4 : RX 52 r81_4 (.str [⟨none, some 19, .fa 96 (.tmp 3) 1⟩, ⟨none, some 20, .ld 3 (.tmp 19)⟩, ⟨none, some 21, .fa 35 (.tmp 2) 0⟩, ⟨none, some 22, .ld 3 (.tmp 21)⟩, ⟨none, some 23, .bin .sub 3 (.tmp 22) (.const (.int .i64 1))⟩, ⟨none, some 24, .call false none (.func 107) [.tmp 20, .const (.int .i64 (Int.negSucc 0)), .const (.int .i64 0), .tmp 23]⟩, ⟨none, some 25, .oth (.call ⟨.builtin .len, #[.tmp 24], #[28]⟩)⟩, ⟨none, some 26, .mv (.const (.int .i64 0))⟩]) (some ([2, 3, 4, 6, 13, 14, 15], [2, 3, 13, 47])) := rx
@[simp] theorem x81_5 : RX 52 r81_5 (.str [⟨none, some 27, .bin .lss 3 (.tmp 26) (.tmp 25)⟩]) (some ([2, 3, 4, 6, 13, 14, 15, 24, 25, 26], [2, 3, 13, 24, 47])) := rx
@[simp] theorem x81_6 : RX 52 r81_6 (.str [⟨none, some 28, .oth (.indexAddr 28 (.tmp 24) (.tmp 26))⟩, ⟨none, some 29, .ld 3 (.tmp 28)⟩, ⟨none, some 8, .mv (.tmp 29)⟩]) (some ([2, 3, 4, 6, 13, 14, 15, 24, 25, 26], [2, 3, 13, 24, 47])) := rx
@[simp] theorem x81_7 : RX 52 r81_7 (.str [⟨none, some 30, .fa 96 (.tmp 3) 2⟩, ⟨none, some 31, .ld 3 (.tmp 30)⟩, ⟨none, some 32, .fa 35 (.tmp 2) 0⟩, ⟨none, some 33, .ld 3 (.tmp 32)⟩, ⟨none, some 34, .bin .sub 3 (.tmp 33) (.const (.int .i64 1))⟩, ⟨none, some 35, .call false none (.func 107) [.tmp 31, .const (.int .i64 (Int.negSucc 0)), .const (.int .i64 0), .tmp 34]⟩, ⟨none, some 36, .oth (.call ⟨.builtin .len, #[.tmp 35], #[28]⟩)⟩, ⟨none, some 37, .mv (.const (.int .i64 0))⟩]) (some ([2, 3, 4, 6, 8, 13, 14, 15, 24, 25, 26], [2, 3, 13, 24, 47])) := rx
@[simp] theorem x81_8 : RX 52 r81_8 (.str [⟨none, some 38, .bin .lss 3 (.tmp 37) (.tmp 36)⟩]) (some ([2, 3, 4, 6, 8, 13, 14, 15, 24, 25, 26, 35, 36, 37], [2, 3, 13, 24, 35, 47])) := rx
@[simp] theorem x81_9 : RX 52 r81_9 (.str [⟨none, some 39, .oth (.indexAddr 28 (.tmp 35) (.tmp 37))⟩, ⟨none, some 40, .ld 3 (.tmp 39)⟩, ⟨none, some 10, .mv (.tmp 40)⟩]) (some ([2, 3, 4, 6, 8, 13, 14, 15, 24, 25, 26, 35, 36, 37], [2, 3, 13, 24, 35, 47])) := rx
@[simp] theorem x81_10 : RX 52 r81_10 (.str [⟨none, some 41, .mv (.tmp 4)⟩, ⟨none, some 42, .mv (.tmp 6)⟩, ⟨none, some 43, .mv (.tmp 8)⟩, ⟨none, some 44, .mv (.tmp 10)⟩, ⟨none, some 45, .build 96 [(0, .tmp 42), (1, .tmp 43), (2, .tmp 44)]⟩, ⟨none, some 46, .buildS 32 1 [(0, .tmp 45)]⟩, ⟨none, some 47, .app [.tmp 41, .tmp 46] [32, 32]⟩, ⟨none, some 4, .mv (.tmp 47)⟩]) (some ([2, 3, 4, 6, 8, 10, 13, 14, 15, 24, 25, 26, 35, 36, 37], [2, 3, 13, 24, 35, 47])) := rx
@[simp] theorem x81_11 : RX 52 r81_11 (.str [⟨none, some 48, .bin .add 3 (.tmp 37) (.const (.int .i64 1))⟩, ⟨none, some 37, .mv (.tmp 48)⟩]) (some ([2, 3, 4, 6, 8, 13, 14, 15, 24, 25, 26, 35, 36, 37], [2, 3, 13, 24, 35, 47])) := rx
@[simp] theorem x81_12 : RX 52 r81_12 (.str [⟨none, some 49, .bin .add 3 (.tmp 26) (.const (.int .i64 1))⟩, ⟨none, some 26, .mv (.tmp 49)⟩]) (some ([2, 3, 4, 6, 13, 14, 15, 24, 25, 26], [2, 3, 13, 24, 47])) := rx
@[simp] theorem x81_13 : RX 52 r81_13 (.str [⟨none, some 50, .bin .add 3 (.tmp 15) (.const (.int .i64 1))⟩, ⟨none, some 15, .mv (.tmp 50)⟩]) (some ([2, 3, 4, 13, 14, 15], [2, 3, 13, 47])) := rx
@[simp] theorem x81_14 : RX 52 r81_14 (.str [⟨none, some 51, .mv (.tmp 4)⟩, ⟨none, some 4, .mv (.tmp 51)⟩]) (some ([4], [47])) := rx
@[simp] theorem l81_2 : ann 52 (fstR lb81_2) = some ([2, 3, 4, 13, 14, 15], [2, 3, 13, 47]) := by kernel_rfl
@[simp] theorem l81_5 : ann 52 (fstR lb81_5) = some ([2, 3, 4, 6, 13, 14, 15, 24, 25, 26], [2, 3, 13, 24, 47]) := by kernel_rfl
@[simp] theorem l81_8 : ann 52 (fstR lb81_8) = some ([2, 3, 4, 6, 8, 13, 14, 15, 24, 25, 26, 35, 36, 37], [2, 3, 13, 24, 35, 47]) := by kernel_rfl
def r98_0 := rg Try.f98 2
def r98_1 := rg Try.f98 5
def c98 : Code := (.seq r98_0 (.seq r98_1 .ret))
theorem b98 : Try.f98.body = some c98 := by kernel_rfl
@[simp] theorem x98_0 : RX 5 r98_0 (.str [⟨none, some 2, .mv (.const (.int .i64 0))⟩]) (some ([0], [])) := rx
@[simp] theorem x98_1 : RX 5 r98_1 (.str [⟨none, some 3, .mv (.tmp 0)⟩, ⟨none, some 4, .call false none (.func 117) [.tmp 3]⟩, ⟨none, some 2, .mv (.tmp 4)⟩]) (some ([0, 1], [1])) := rx
def r117_0 := rg Try.f117 2
def r117_1 := rg Try.f117 9
def r117_2 := rg Try.f117 21
def r117_3 := rg Try.f117 11
def r117_4 := rg Try.f117 39
def r117_5 := rg Try.f117 535
def r117_7 := rg Try.f117 1175
def r117_6 := rg Try.f117 919
def r117_8 := rg Try.f117 47
def lb117_5 : Code := (.seq (.seq r117_5 (.cond (.tmp 15) .skip (.exit 0))) (.seq (.block 1 r117_7) r117_6))
@[simp] theorem u117_5 (n : Nat) (st : XS) : execA Try.prog ann kn n 25 lb117_5 st = execA Try.prog ann kn n 25 (.seq (.seq r117_5 (.cond (.tmp 15) .skip (.exit 0))) (.seq (.block 1 r117_7) r117_6)) st := rfl
def c117 : Code := (.seq r117_0 (.seq (.seq r117_1 (.cond (.tmp 7) r117_2 .skip)) (.seq r117_3 (.seq (.seq r117_4 (.block 0 (.loop lb117_5))) (.seq r117_8 .ret)))))
theorem b117 : Try.f117.body = some c117 := by kernel_rfl
@[simp] theorem x117_0 : RX 25 r117_0 (.str [⟨none, some 2, .mv (.const (.int .i64 0))⟩]) (some ([0], [])) := rx
@[simp] theorem x117_1 : RX 25 r117_1 (.str [⟨none, some 5, .mv (.tmp 0)⟩, ⟨none, some 6, .oth (.call ⟨.builtin .len, #[.tmp 5], #[28]⟩)⟩, ⟨none, some 7, .bin .lss 3 (.tmp 6) (.const (.int .i64 1))⟩]) (some ([0], [])) := rx
@[simp] theorem x117_3 : RX 25 r117_3 (.str [⟨none, some 9, .mv (.tmp 0)⟩, ⟨none, some 10, .oth (.indexAddr 28 (.tmp 9) (.const (.int .i64 0)))⟩, ⟨none, some 11, .ld 3 (.tmp 10)⟩, ⟨none, some 3, .mv (.tmp 11)⟩]) (some ([0], [])) := rx
@[simp] theorem x117_4 : RX 25 r117_4 (.str [⟨none, some 4, .mv (.const (.int .i64 1))⟩]) (some ([0, 3], [])) := rx
@[simp] theorem x117_5 : RX 25 r117_5 (.str [⟨none, some 12, .mv (.tmp 4)⟩, ⟨none, some 13, .mv (.tmp 0)⟩, ⟨none, some 14, .oth (.call ⟨.builtin .len, #[.tmp 13], #[28]⟩)⟩, ⟨none, some 15, .bin .lss 3 (.tmp 12) (.tmp 14)⟩]) (some ([0, 3, 4], [])) := rx
@[simp] theorem x117_7 : RX 25 r117_7 (.str [⟨none, some 18, .mv (.tmp 3)⟩, ⟨none, some 19, .mv (.tmp 0)⟩, ⟨none, some 20, .mv (.tmp 4)⟩, ⟨none, some 21, .oth (.indexAddr 28 (.tmp 19) (.tmp 20))⟩, ⟨none, some 22, .ld 3 (.tmp 21)⟩, ⟨none, some 23, .oth (.call ⟨.builtin .min, #[.tmp 18, .tmp 22], #[3, 3]⟩)⟩, ⟨none, some 3, .mv (.tmp 23)⟩]) (some ([0, 3, 4], [])) := rx
@[simp] theorem x117_6 : RX 25 r117_6 (.str [⟨none, some 16, .mv (.tmp 4)⟩, ⟨none, some 17, .bin .add 3 (.tmp 16) (.const (.int .i64 1))⟩, ⟨none, some 4, .mv (.tmp 17)⟩]) (some ([0, 3, 4], [])) := rx
@[simp] theorem x117_8 : RX 25 r117_8 (.str [⟨none, some 24, .mv (.tmp 3)⟩, ⟨none, some 2, .mv (.tmp 24)⟩]) (some ([3], [])) := rx
@[simp] theorem l117_5 : ann 25 (fstR lb117_5) = some ([0, 3, 4], []) := by kernel_rfl
def r94_0 := rg Try.f94 2
def r94_1 := rg Try.f94 5
def c94 : Code := (.seq r94_0 (.seq r94_1 .ret))
theorem b94 : Try.f94.body = some c94 := by kernel_rfl
@[simp] theorem x94_0 : RX 24 r94_0 (.str [⟨none, some 2, .box (.tmp 0)⟩, ⟨none, some 3, .box (.tmp 1)⟩, ⟨none, some 4, .mv (.const (.bool false))⟩]) (some ([0, 1], [2])) := rx
@[simp] theorem x94_1 : RX 24 r94_1 (.str [⟨none, some 5, .fa 96 (.tmp 3) 0⟩, ⟨none, some 6, .ld 3 (.tmp 5)⟩, ⟨none, some 7, .call false none (.func 69) [.tmp 6, .const (.int .i64 0), .const (.int .i64 2)]⟩, ⟨none, some 8, .mv (.tmp 7)⟩, ⟨some (8, true), some 9, .fa 96 (.tmp 3) 1⟩, ⟨some (8, true), some 10, .ld 3 (.tmp 9)⟩, ⟨some (8, true), some 11, .fa 35 (.tmp 2) 0⟩, ⟨some (8, true), some 12, .ld 3 (.tmp 11)⟩, ⟨some (8, true), some 13, .bin .sub 3 (.tmp 12) (.const (.int .i64 1))⟩, ⟨some (8, true), some 14, .call false none (.func 69) [.tmp 10, .const (.int .i64 (Int.negSucc 0)), .tmp 13]⟩, ⟨none, some 15, .pick (.tmp 8) (.tmp 14) (.const (.bool false))⟩, ⟨none, some 16, .mv (.tmp 15)⟩, ⟨some (16, true), some 17, .fa 96 (.tmp 3) 2⟩, ⟨some (16, true), some 18, .ld 3 (.tmp 17)⟩, ⟨some (16, true), some 19, .fa 35 (.tmp 2) 0⟩, ⟨some (16, true), some 20, .ld 3 (.tmp 19)⟩, ⟨some (16, true), some 21, .bin .sub 3 (.tmp 20) (.const (.int .i64 1))⟩, ⟨some (16, true), some 22, .call false none (.func 69) [.tmp 18, .const (.int .i64 (Int.negSucc 0)), .tmp 21]⟩, ⟨none, some 23, .pick (.tmp 16) (.tmp 22) (.const (.bool false))⟩, ⟨none, some 4, .mv (.tmp 23)⟩]) (some ([2, 3], [2, 3])) := rx
def r95_0 := rg Try.f95 2
def r95_1 := rg Try.f95 5
def r95_2 := rg Try.f95 11
def c95 : Code := (.seq r95_0 (.seq r95_1 (.seq r95_2 .ret)))
theorem b95 : Try.f95.body = some c95 := by kernel_rfl
@[simp] theorem x95_0 : RX 31 r95_0 (.str [⟨none, some 2, .box (.tmp 0)⟩, ⟨none, some 3, .box (.tmp 1)⟩, ⟨none, some 4, .mv (.const (.bool false))⟩]) (some ([0, 1], [2])) := rx
@[simp] theorem x95_1 : RX 31 r95_1 (.str [⟨none, some 6, .fa 99 (.tmp 3) 1⟩, ⟨none, some 7, .ld 45 (.tmp 6)⟩, ⟨none, some 5, .alloc 45⟩, ⟨none, none, .sto 45 (.tmp 5) (.tmp 7)⟩]) (some ([2, 3], [2, 3])) := rx
@[simp] theorem x95_2 : RX 31 r95_2 (.str [⟨none, some 8, .fa 99 (.tmp 3) 0⟩, ⟨none, some 9, .ld 3 (.tmp 8)⟩, ⟨none, some 10, .fa 35 (.tmp 2) 3⟩, ⟨none, some 11, .ld 32 (.tmp 10)⟩, ⟨none, some 12, .oth (.call ⟨.builtin .len, #[.tmp 11], #[32]⟩)⟩, ⟨none, some 13, .call false none (.func 69) [.tmp 9, .const (.int .i64 0), .tmp 12]⟩, ⟨none, some 14, .mv (.tmp 13)⟩, ⟨some (14, true), some 15, .fa 45 (.tmp 5) 0⟩, ⟨some (14, true), some 16, .ld 3 (.tmp 15)⟩, ⟨some (14, true), some 17, .bin .leq 3 (.const (.int .i64 0)) (.tmp 16)⟩, ⟨none, some 18, .pick (.tmp 14) (.tmp 17) (.const (.bool false))⟩, ⟨none, some 19, .mv (.tmp 18)⟩, ⟨some (19, true), some 20, .fa 45 (.tmp 5) 0⟩, ⟨some (19, true), some 21, .ld 3 (.tmp 20)⟩, ⟨some (19, true), some 22, .fa 45 (.tmp 5) 1⟩, ⟨some (19, true), some 23, .ld 3 (.tmp 22)⟩, ⟨some (19, true), some 24, .bin .leq 3 (.tmp 21) (.tmp 23)⟩, ⟨none, some 25, .pick (.tmp 19) (.tmp 24) (.const (.bool false))⟩, ⟨none, some 26, .mv (.tmp 25)⟩, ⟨some (26, true), some 27, .fa 45 (.tmp 5) 1⟩, ⟨some (26, true), some 28, .ld 3 (.tmp 27)⟩, ⟨some (26, true), some 29, .bin .leq 3 (.tmp 28) (.const (.int .i64 2000))⟩, ⟨none, some 30, .pick (.tmp 26) (.tmp 29) (.const (.bool false))⟩, ⟨none, some 4, .mv (.tmp 30)⟩]) (some ([2, 3, 5], [2, 3, 5])) := rx
def r112_0 := rg Try.f112 2
def r112_1 := rg Try.f112 5
def c112 : Code := (.seq r112_0 (.seq r112_1 .ret))
theorem b112 : Try.f112.body = some c112 := by kernel_rfl
@[simp] theorem x112_0 : RX 11 r112_0 (.str [⟨none, some 2, .box (.tmp 0)⟩, ⟨none, some 4, .mv (.const (.bool false))⟩]) (some ([0, 1], [])) := rx
@[simp] theorem x112_1 : RX 11 r112_1 (.str [⟨none, some 5, .mv (.tmp 1)⟩, ⟨none, some 6, .fa 45 (.tmp 2) 0⟩, ⟨none, some 7, .ld 3 (.tmp 6)⟩, ⟨none, some 8, .fa 45 (.tmp 2) 1⟩, ⟨none, some 9, .ld 3 (.tmp 8)⟩, ⟨none, some 10, .call false none (.func 69) [.tmp 5, .tmp 7, .tmp 9]⟩, ⟨none, some 4, .mv (.tmp 10)⟩]) (some ([1, 2], [2])) := rx
end
end Go.Proofs.Try.Op
