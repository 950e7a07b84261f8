/- The walk's ground of function 118: its regions worked out. No condition. -/
import Derived.Test.YtfbbnkaahnpicaaGa
set_option maxRecDepth 100000
namespace Go.Proofs.Try.Op
open Go Go.Pg
noncomputable section
def r118_0 := rg Try.f118 2
def r118_1 := rg Try.f118 9
def r118_2 := rg Try.f118 69
def r118_3 := rg Try.f118 1125
def r118_4 := rg Try.f118 1637
def r118_5 := rg Try.f118 485
def r118_6 := rg Try.f118 11
def lb118_2 : Code := (.seq r118_2 (.seq (.cond (.tmp 7) .skip (.exit 0)) (.seq (.block 1 (.seq r118_3 r118_4)) r118_5)))
@[simp] theorem u118_2 (n : Nat) (st : XS) : execA Try.prog ann kn n 17 lb118_2 st = execA Try.prog ann kn n 17 (.seq r118_2 (.seq (.cond (.tmp 7) .skip (.exit 0)) (.seq (.block 1 (.seq r118_3 r118_4)) r118_5))) st := rfl
def c118 : Code := (.seq r118_0 (.seq (.seq r118_1 (.block 0 (.loop lb118_2))) (.seq r118_6 .ret)))
theorem b118 : Try.f118.body = some c118 := by kernel_rfl
@[simp] theorem x118_0 : RX 17 r118_0 (.str [⟨none, some 1, .box (.tmp 0)⟩, ⟨none, some 2, .alloc 111⟩]) (some ([0], [])) := rx
@[simp] theorem x118_1 : RX 17 r118_1 (.str [⟨none, some 5, .ld 111 (.tmp 1)⟩, ⟨none, some 6, .mv (.const (.int .i64 0))⟩]) (some ([1, 2], [1, 2])) := rx
@[simp] theorem x118_2 : RX 17 r118_2 (.str [⟨none, some 7, .bin .lss 3 (.tmp 6) (.const (.int .i64 4))⟩]) (some ([2, 5, 6], [2])) := rx
@[simp] theorem x118_3 : RX 17 r118_3 (.str [⟨none, some 8, .mv (.tmp 6)⟩, ⟨none, some 9, .oth (.index 111 (.tmp 5) (.tmp 6))⟩, ⟨none, some 3, .mv (.tmp 8)⟩, ⟨none, some 4, .mv (.tmp 9)⟩]) (some ([2, 5, 6], [2])) := rx
@[simp] theorem x118_4 : RX 17 r118_4 (.str [⟨none, some 10, .mv (.tmp 3)⟩, ⟨none, some 11, .mv (.tmp 4)⟩, ⟨none, some 12, .buildS 28 2 [(0, .tmp 11), (1, .const (.int .i64 1))]⟩, ⟨none, some 13, .call true none (.func 98) [.tmp 12]⟩, ⟨none, some 14, .oth (.indexAddr 111 (.tmp 2) (.tmp 10))⟩, ⟨none, none, .sto 3 (.tmp 14) (.tmp 13)⟩]) (some ([2, 3, 4, 5, 6], [2])) := rx
@[simp] theorem x118_5 : RX 17 r118_5 (.str [⟨none, some 15, .bin .add 3 (.tmp 6) (.const (.int .i64 1))⟩, ⟨none, some 6, .mv (.tmp 15)⟩]) (some ([2, 5, 6], [2])) := rx
@[simp] theorem x118_6 : RX 17 r118_6 (.str [⟨none, some 16, .ld 111 (.tmp 2)⟩, ⟨none, none, .sto 111 (.tmp 2) (.tmp 16)⟩]) (some ([2], [2])) := rx
@[simp] theorem l118_2 : ann 17 (fstR lb118_2) = some ([2, 5, 6], [2]) := by kernel_rfl
def r108_0 := rg Try.f108 2
def r108_1 := rg Try.f108 9
def r108_2 := rg Try.f108 37
def r108_3 := rg Try.f108 19
def r108_4 := rg Try.f108 75
def r108_5 := rg Try.f108 23
def r108_6 := rg Try.f108 47
def r108_7 := rg Try.f108 159
def r108_8 := rg Try.f108 607
def r108_9 := rg Try.f108 319
def r108_10 := rg Try.f108 2239
def r108_11 := rg Try.f108 36031
def r108_12 := rg Try.f108 85183
def r108_13 := rg Try.f108 183487
def r108_14 := rg Try.f108 642239
def r108_15 := rg Try.f108 15551
def r108_16 := rg Try.f108 383
def r108_17 := rg Try.f108 767
def lb108_10 : Code := (.seq r108_10 (.seq (.cond (.tmp 64) .skip (.exit 0)) (.seq (.block 1 (.seq r108_11 (.seq r108_12 (.seq r108_13 (.cond (.tmp 85) (.seq r108_14 (.exit 0)) .skip))))) r108_15)))
@[simp] theorem u108_10 (n : Nat) (st : XS) : execA Try.prog ann kn n 94 lb108_10 st = execA Try.prog ann kn n 94 (.seq r108_10 (.seq (.cond (.tmp 64) .skip (.exit 0)) (.seq (.block 1 (.seq r108_11 (.seq r108_12 (.seq r108_13 (.cond (.tmp 85) (.seq r108_14 (.exit 0)) .skip))))) r108_15))) st := rfl
def c108 : Code := (.seq r108_0 (.seq (.seq r108_1 (.cond (.tmp 21) (.seq r108_2 .ret) .skip)) (.seq (.seq r108_3 (.cond (.tmp 29) (.seq r108_4 .ret) .skip)) (.seq r108_5 (.seq r108_6 (.seq (.seq r108_7 (.cond (.tmp 47) (.seq r108_8 .ret) .skip)) (.seq (.seq r108_9 (.block 0 (.loop lb108_10))) (.seq r108_16 (.seq r108_17 .ret)))))))))
theorem b108 : Try.f108.body = some c108 := by kernel_rfl
@[simp] theorem x108_0 : RX 94 r108_0 (.str [⟨none, some 4, .box (.tmp 1)⟩, ⟨none, some 6, .mv (.const (.bool false))⟩]) (some ([0, 1, 2], [61])) := rx
@[simp] theorem x108_1 : RX 94 r108_1 (.drw [⟨[], [⟨none, some 14, .mv (.tmp 0)⟩, ⟨none, some 15, .oth (.nilCheck (.tmp 14))⟩, ⟨none, some 16, .fa 153 (.tmp 15) 0⟩, ⟨none, some 17, .ld 35 (.tmp 16)⟩, ⟨none, some 18, .ld 113 (.tmp 4)⟩, ⟨none, some 19, .mv (.tmp 2)⟩], [⟨none, some 20, .call false none (.func 93) [.tmp 17, .tmp 18, .tmp 19]⟩]⟩, ⟨[], [⟨none, some 21, .oth (.unOp .not 4 (.tmp 20))⟩], []⟩]) (some ([0, 2, 4], [4, 61])) := rx
@[simp] theorem x108_2 : RX 94 r108_2 (.str [⟨none, some 6, .mv (.const (.bool false))⟩]) (some ([], [])) := rx
@[simp] theorem x108_3 : RX 94 r108_3 (.str [⟨none, some 22, .mv (.tmp 2)⟩, ⟨none, some 23, .mv (.tmp 0)⟩, ⟨none, some 24, .oth (.nilCheck (.tmp 23))⟩, ⟨none, some 25, .fa 153 (.tmp 24) 0⟩, ⟨none, some 26, .fa 35 (.tmp 25) 3⟩, ⟨none, some 27, .ld 32 (.tmp 26)⟩, ⟨none, some 28, .oth (.call ⟨.builtin .len, #[.tmp 27], #[32]⟩)⟩, ⟨none, some 29, .bin .eql 3 (.tmp 22) (.tmp 28)⟩]) (some ([0, 2, 4], [4, 61])) := rx
@[simp] theorem x108_4 : RX 94 r108_4 (.str [⟨none, some 6, .mv (.const (.bool true))⟩]) (some ([], [])) := rx
@[simp] theorem x108_5 : RX 94 r108_5 (.drw [⟨[7], [⟨none, some 30, .mv (.tmp 2)⟩, ⟨none, some 31, .fa 113 (.tmp 4) 0⟩, ⟨none, some 32, .ld 111 (.tmp 31)⟩, ⟨none, some 33, .call false none (.func 118) [.tmp 32]⟩, ⟨none, some 34, .fa 113 (.tmp 4) 1⟩, ⟨none, some 35, .ld 111 (.tmp 34)⟩, ⟨none, some 36, .call false none (.func 118) [.tmp 35]⟩, ⟨none, some 37, .build 159 [(0, .tmp 30), (1, .tmp 33), (2, .tmp 36)]⟩, ⟨none, some 7, .alloc 159⟩], [⟨none, none, .sto 159 (.tmp 7) (.tmp 37)⟩]⟩]) (some ([0, 2, 4], [4, 61])) := rx
@[simp] theorem x108_6 : RX 94 r108_6 (.drw [⟨[], [⟨none, some 39, .mv (.tmp 0)⟩, ⟨none, some 40, .oth (.nilCheck (.tmp 39))⟩, ⟨none, some 41, .fa 153 (.tmp 40) 1⟩, ⟨none, some 42, .ld 151 (.tmp 41)⟩, ⟨none, some 43, .ld 159 (.tmp 7)⟩, ⟨none, some 44, .oth (.lookup 151 (.tmp 42) (.tmp 43) true)⟩, ⟨none, some 38, .mv (.tmp 44)⟩, ⟨none, some 45, .oth (.extract (.tmp 38) 0)⟩, ⟨none, some 46, .oth (.extract (.tmp 38) 1)⟩, ⟨none, some 8, .mv (.tmp 45)⟩, ⟨none, some 9, .mv (.tmp 46)⟩], []⟩]) (some ([0, 2, 4, 7], [4, 7, 61])) := rx
@[simp] theorem x108_7 : RX 94 r108_7 (.str [⟨none, some 47, .mv (.tmp 9)⟩]) (some ([0, 2, 4, 7, 8, 9], [4, 7, 61])) := rx
@[simp] theorem x108_8 : RX 94 r108_8 (.str [⟨none, some 48, .mv (.tmp 8)⟩, ⟨none, some 6, .mv (.tmp 48)⟩]) (some ([8], [])) := rx
@[simp] theorem x108_9 : RX 94 r108_9 (.drw [⟨[], [⟨none, some 49, .mv (.tmp 0)⟩, ⟨none, some 50, .oth (.nilCheck (.tmp 49))⟩, ⟨none, some 51, .fa 153 (.tmp 50) 0⟩, ⟨none, some 52, .ld 35 (.tmp 51)⟩, ⟨none, some 53, .mv (.tmp 0)⟩, ⟨none, some 54, .oth (.nilCheck (.tmp 53))⟩, ⟨none, some 55, .fa 153 (.tmp 54) 0⟩, ⟨none, some 56, .fa 35 (.tmp 55) 3⟩, ⟨none, some 57, .ld 32 (.tmp 56)⟩, ⟨none, some 58, .mv (.tmp 2)⟩, ⟨none, some 59, .oth (.indexAddr 32 (.tmp 57) (.tmp 58))⟩, ⟨none, some 60, .ld 96 (.tmp 59)⟩, ⟨none, some 61, .call false none (.func 81) [.tmp 52, .tmp 60]⟩, ⟨none, some 62, .oth (.call ⟨.builtin .len, #[.tmp 61], #[32]⟩)⟩, ⟨none, some 63, .mv (.const (.int .i64 0))⟩], []⟩]) (some ([0, 2, 4, 7, 8], [4, 7])) := rx
@[simp] theorem x108_10 : RX 94 r108_10 (.str [⟨none, some 64, .bin .lss 3 (.tmp 63) (.tmp 62)⟩]) (some ([0, 2, 4, 7, 8, 61, 62, 63], [4, 7, 61])) := rx
@[simp] theorem x108_11 : RX 94 r108_11 (.str [⟨none, some 65, .oth (.indexAddr 32 (.tmp 61) (.tmp 63))⟩, ⟨none, some 66, .ld 96 (.tmp 65)⟩, ⟨none, some 11, .alloc 96⟩, ⟨none, none, .sto 96 (.tmp 11) (.tmp 66)⟩]) (some ([0, 2, 4, 7, 8, 61, 62, 63], [4, 7, 61])) := rx
@[simp] theorem x108_12 : RX 94 r108_12 (.drw [⟨[12], [⟨none, some 68, .mv (.tmp 0)⟩, ⟨none, some 69, .oth (.nilCheck (.tmp 68))⟩, ⟨none, some 70, .fa 153 (.tmp 69) 0⟩, ⟨none, some 71, .ld 35 (.tmp 70)⟩, ⟨none, some 72, .ld 113 (.tmp 4)⟩, ⟨none, some 73, .mv (.tmp 2)⟩, ⟨none, some 74, .ld 96 (.tmp 11)⟩, ⟨none, some 75, .call false none (.func 104) [.tmp 71, .tmp 72, .tmp 73, .tmp 74]⟩, ⟨none, some 67, .mv (.tmp 75)⟩, ⟨none, some 76, .oth (.extract (.tmp 67) 0)⟩, ⟨none, some 77, .oth (.extract (.tmp 67) 1)⟩, ⟨none, some 12, .alloc 113⟩, ⟨none, none, .sto 113 (.tmp 12) (.tmp 76)⟩, ⟨none, some 13, .mv (.tmp 77)⟩], []⟩]) (some ([0, 2, 4, 7, 8, 11, 61, 62, 63], [4, 7, 11, 61])) := rx
@[simp] theorem x108_13 : RX 94 r108_13 (.str [⟨none, some 78, .mv (.tmp 13)⟩, ⟨none, some 79, .mv (.tmp 78)⟩, ⟨some (79, true), some 80, .mv (.tmp 0)⟩, ⟨some (79, true), some 81, .ld 113 (.tmp 12)⟩, ⟨some (79, true), some 82, .mv (.tmp 2)⟩, ⟨some (79, true), some 83, .bin .add 3 (.tmp 82) (.const (.int .i64 1))⟩, ⟨some (79, true), some 84, .call false none (.func 108) [.tmp 80, .tmp 81, .tmp 83]⟩, ⟨none, some 85, .pick (.tmp 79) (.tmp 84) (.const (.bool false))⟩]) (some ([0, 2, 4, 7, 8, 12, 13, 61, 62, 63], [4, 7, 12, 61])) := rx
@[simp] theorem x108_14 : RX 94 r108_14 (.str [⟨none, some 8, .mv (.const (.bool true))⟩]) (some ([0, 7], [7, 61])) := rx
@[simp] theorem x108_15 : RX 94 r108_15 (.str [⟨none, some 86, .bin .add 3 (.tmp 63) (.const (.int .i64 1))⟩, ⟨none, some 63, .mv (.tmp 86)⟩]) (some ([0, 2, 4, 7, 8, 61, 62, 63], [4, 7, 61])) := rx
@[simp] theorem x108_16 : RX 94 r108_16 (.drw [⟨[], [⟨none, some 87, .mv (.tmp 0)⟩, ⟨none, some 88, .oth (.nilCheck (.tmp 87))⟩, ⟨none, some 89, .fa 153 (.tmp 88) 1⟩, ⟨none, some 90, .ld 151 (.tmp 89)⟩, ⟨none, some 91, .ld 159 (.tmp 7)⟩, ⟨none, some 92, .mv (.tmp 8)⟩], [⟨none, none, .upd 151 (.tmp 90) (.tmp 91) (.tmp 92)⟩]⟩]) (some ([0, 7, 8], [7, 61])) := rx
@[simp] theorem x108_17 : RX 94 r108_17 (.str [⟨none, some 93, .mv (.tmp 8)⟩, ⟨none, some 6, .mv (.tmp 93)⟩]) (some ([8], [])) := rx
@[simp] theorem l108_10 : ann 94 (fstR lb108_10) = some ([0, 2, 4, 7, 8, 61, 62, 63], [4, 7, 61]) := by kernel_rfl
def r84_0 := rg Try.f84 2
def r84_1 := rg Try.f84 5
def c84 : Code := (.seq r84_0 (.seq r84_1 .ret))
theorem b84 : Try.f84.body = some c84 := by kernel_rfl
@[simp] theorem x84_0 : RX 10 r84_0 (.str [⟨none, some 1, .box (.tmp 0)⟩, ⟨none, some 2, .mv (.const (.bool false))⟩]) (some ([0], [1, 4, 6])) := rx
@[simp] theorem x84_1 : RX 10 r84_1 (.drw [⟨[4, 6], [⟨none, some 3, .ld 35 (.tmp 1)⟩, ⟨none, some 7, .ld 35 (.tmp 1)⟩, ⟨none, some 8, .call false none (.func 105) [.tmp 7]⟩, ⟨none, some 4, .mkM none⟩, ⟨none, some 5, .build 153 [(0, .tmp 3), (1, .tmp 4)]⟩, ⟨none, some 6, .box (.tmp 5)⟩], [⟨none, some 9, .call false none (.func 108) [.tmp 6, .tmp 8, .const (.int .i64 0)]⟩]⟩, ⟨[], [⟨none, some 2, .mv (.tmp 9)⟩], []⟩]) (some ([1], [1])) := rx
def r119_0 := rg Try.f119 2
def r119_1 := rg Try.f119 9
def r119_2 := rg Try.f119 69
def r119_3 := rg Try.f119 1125
def r119_4 := rg Try.f119 2661
def r119_5 := rg Try.f119 9829
def r119_6 := rg Try.f119 485
def r119_7 := rg Try.f119 11
def lb119_2 : Code := (.seq r119_2 (.seq (.cond (.tmp 9) .skip (.exit 0)) (.seq (.block 1 (.seq r119_3 (.seq r119_4 (.cond (.tmp 16) (.seq r119_5 .ret) .skip)))) r119_6)))
@[simp] theorem u119_2 (n : Nat) (st : XS) : execA Try.prog ann kn n 19 lb119_2 st = execA Try.prog ann kn n 19 (.seq r119_2 (.seq (.cond (.tmp 9) .skip (.exit 0)) (.seq (.block 1 (.seq r119_3 (.seq r119_4 (.cond (.tmp 16) (.seq r119_5 .ret) .skip)))) r119_6))) st := rfl
def c119 : Code := (.seq r119_0 (.seq (.seq r119_1 (.block 0 (.loop lb119_2))) (.seq r119_7 .ret)))
theorem b119 : Try.f119.body = some c119 := by kernel_rfl
@[simp] theorem x119_0 : RX 19 r119_0 (.str [⟨none, some 4, .mv (.const (.int .i64 0))⟩]) (some ([0, 1], [])) := rx
@[simp] theorem x119_1 : RX 19 r119_1 (.str [⟨none, some 6, .mv (.tmp 0)⟩, ⟨none, some 7, .oth (.call ⟨.builtin .len, #[.tmp 6], #[28]⟩)⟩, ⟨none, some 8, .mv (.const (.int .i64 0))⟩]) (some ([0, 1, 2, 3], [2, 3])) := rx
@[simp] theorem x119_2 : RX 19 r119_2 (.str [⟨none, some 9, .bin .lss 3 (.tmp 8) (.tmp 7)⟩]) (some ([0, 1, 3, 7, 8], [3])) := rx
@[simp] theorem x119_3 : RX 19 r119_3 (.str [⟨none, some 10, .mv (.tmp 8)⟩, ⟨none, some 5, .mv (.tmp 10)⟩]) (some ([0, 1, 3, 7, 8], [3])) := rx
@[simp] theorem x119_4 : RX 19 r119_4 (.str [⟨none, some 11, .mv (.tmp 1)⟩, ⟨none, some 12, .mv (.tmp 0)⟩, ⟨none, some 13, .mv (.tmp 5)⟩, ⟨none, some 14, .oth (.indexAddr 28 (.tmp 12) (.tmp 13))⟩, ⟨none, some 15, .ld 3 (.tmp 14)⟩, ⟨none, some 16, .bin .eql 3 (.tmp 11) (.tmp 15)⟩]) (some ([0, 1, 3, 5, 7, 8], [3])) := rx
@[simp] theorem x119_5 : RX 19 r119_5 (.str [⟨none, some 17, .mv (.tmp 5)⟩, ⟨none, some 4, .mv (.tmp 17)⟩]) (some ([5], [])) := rx
@[simp] theorem x119_6 : RX 19 r119_6 (.str [⟨none, some 18, .bin .add 3 (.tmp 8) (.const (.int .i64 1))⟩, ⟨none, some 8, .mv (.tmp 18)⟩]) (some ([0, 1, 3, 7, 8], [3])) := rx
@[simp] theorem x119_7 : RX 19 r119_7 (.str [⟨none, some 4, .mv (.const (.int .i64 (Int.negSucc 0)))⟩]) (some ([], [])) := rx
@[simp] theorem l119_2 : ann 19 (fstR lb119_2) = some ([0, 1, 3, 7, 8], [3]) := by kernel_rfl
def r109_0 := rg Try.f109 2
def r109_1 := rg Try.f109 5
def c109 : Code := (.seq r109_0 (.seq r109_1 .ret))
theorem b109 : Try.f109.body = some c109 := by kernel_rfl
@[simp] theorem x109_0 : RX 9 r109_0 (.str [⟨none, some 4, .mv (.const (.bool false))⟩]) (some ([0, 1], [])) := rx
@[simp] theorem x109_1 : RX 9 r109_1 (.str [⟨none, some 5, .mv (.tmp 0)⟩, ⟨none, some 6, .mv (.tmp 1)⟩, ⟨none, some 7, .call false none (.func 119) [.tmp 5, .tmp 6]⟩, ⟨none, some 8, .bin .geq 3 (.tmp 7) (.const (.int .i64 0))⟩, ⟨none, some 4, .mv (.tmp 8)⟩]) (some ([0, 1, 3], [3])) := rx
def r87_0 := rg Try.f87 2
def r87_1 := rg Try.f87 9
def r87_2 := rg Try.f87 37
def r87_3 := rg Try.f87 11
def c87 : Code := (.seq r87_0 (.seq (.seq r87_1 (.cond (.tmp 4) (.seq r87_2 .ret) .skip)) (.seq r87_3 .ret)))
theorem b87 : Try.f87.body = some c87 := by kernel_rfl
@[simp] theorem x87_0 : RX 8 r87_0 (.str [⟨none, some 2, .mv (.const (.slice none 0 0))⟩]) (some ([0], [])) := rx
@[simp] theorem x87_1 : RX 8 r87_1 (.str [⟨none, some 3, .mv (.tmp 0)⟩, ⟨none, some 4, .bin .eql 28 (.tmp 3) (.const (.slice none 0 0))⟩]) (some ([0], [])) := rx
@[simp] theorem x87_2 : RX 8 r87_2 (.str [⟨none, some 2, .mv (.const (.slice none 0 0))⟩]) (some ([], [])) := rx
@[simp] theorem x87_3 : RX 8 r87_3 (.str [⟨none, some 5, .buildS 28 0 []⟩, ⟨none, some 6, .mv (.tmp 0)⟩, ⟨none, some 7, .app [.tmp 5, .tmp 6] [28, 28]⟩, ⟨none, some 2, .mv (.tmp 7)⟩]) (some ([0], [])) := rx
def r86_0 := rg Try.f86 2
def r86_1 := rg Try.f86 5
def r86_2 := rg Try.f86 11
def r86_3 := rg Try.f86 39
def r86_4 := rg Try.f86 279
def r86_5 := rg Try.f86 4503
def r86_6 := rg Try.f86 10647
def r86_7 := rg Try.f86 22935
def r86_8 := rg Try.f86 1943
def r86_9 := rg Try.f86 79
def r86_10 := rg Try.f86 559
def r86_11 := rg Try.f86 9007
def r86_12 := rg Try.f86 21295
def r86_13 := rg Try.f86 78639
def r86_14 := rg Try.f86 570159
def r86_15 := rg Try.f86 9220911
def r86_16 := rg Try.f86 21803823
def r86_17 := rg Try.f86 46969647
def r86_18 := rg Try.f86 3978031
def r86_19 := rg Try.f86 62255
def r86_20 := rg Try.f86 3887
def r86_21 := rg Try.f86 95
def lb86_4 : Code := (.seq r86_4 (.seq (.cond (.tmp 20) .skip (.exit 0)) (.seq (.block 1 (.seq r86_5 (.seq r86_6 (.cond (.tmp 27) r86_7 .skip)))) r86_8)))
@[simp] theorem u86_4 (n : Nat) (st : XS) : execA Try.prog ann kn n 69 lb86_4 st = execA Try.prog ann kn n 69 (.seq r86_4 (.seq (.cond (.tmp 20) .skip (.exit 0)) (.seq (.block 1 (.seq r86_5 (.seq r86_6 (.cond (.tmp 27) r86_7 .skip)))) r86_8))) st := rfl
def lb86_14 : Code := (.seq r86_14 (.seq (.cond (.tmp 45) .skip (.exit 4)) (.seq (.block 5 (.seq r86_15 (.seq r86_16 (.cond (.tmp 51) r86_17 .skip)))) r86_18)))
@[simp] theorem u86_14 (n : Nat) (st : XS) : execA Try.prog ann kn n 69 lb86_14 st = execA Try.prog ann kn n 69 (.seq r86_14 (.seq (.cond (.tmp 45) .skip (.exit 4)) (.seq (.block 5 (.seq r86_15 (.seq r86_16 (.cond (.tmp 51) r86_17 .skip)))) r86_18))) st := rfl
def lb86_10 : Code := (.seq r86_10 (.seq (.cond (.tmp 39) .skip (.exit 2)) (.seq (.block 3 (.seq r86_11 (.seq r86_12 (.seq (.seq r86_13 (.block 4 (.loop lb86_14))) r86_19)))) r86_20)))
@[simp] theorem u86_10 (n : Nat) (st : XS) : execA Try.prog ann kn n 69 lb86_10 st = execA Try.prog ann kn n 69 (.seq r86_10 (.seq (.cond (.tmp 39) .skip (.exit 2)) (.seq (.block 3 (.seq r86_11 (.seq r86_12 (.seq (.seq r86_13 (.block 4 (.loop lb86_14))) r86_19)))) r86_20))) st := rfl
def c86 : Code := (.seq r86_0 (.seq r86_1 (.seq r86_2 (.seq (.seq r86_3 (.block 0 (.loop lb86_4))) (.seq (.seq r86_9 (.block 2 (.loop lb86_10))) (.seq r86_21 .ret))))))
theorem b86 : Try.f86.body = some c86 := by kernel_rfl
@[simp] theorem x86_0 : RX 69 r86_0 (.str [⟨none, some 2, .box (.tmp 0)⟩, ⟨none, some 4, .alloc 35⟩]) (some ([0, 1], [2, 4, 5, 32, 65])) := rx
@[simp] theorem x86_1 : RX 69 r86_1 (.str [⟨none, some 13, .ld 35 (.tmp 2)⟩, ⟨none, some 5, .alloc 35⟩, ⟨none, none, .sto 35 (.tmp 5) (.tmp 13)⟩]) (some ([1, 2, 4], [2, 4, 5, 32, 65])) := rx
@[simp] theorem x86_2 : RX 69 r86_2 (.str [⟨none, some 14, .fa 35 (.tmp 5) 3⟩, ⟨none, none, .sto 32 (.tmp 14) (.const (.slice none 0 0))⟩, ⟨none, some 15, .fa 35 (.tmp 5) 4⟩, ⟨none, none, .sto 33 (.tmp 15) (.const (.slice none 0 0))⟩]) (some ([1, 2, 4, 5], [2, 4, 5, 32, 65])) := rx
@[simp] theorem x86_3 : RX 69 r86_3 (.str [⟨none, some 16, .fa 35 (.tmp 2) 3⟩, ⟨none, some 17, .ld 32 (.tmp 16)⟩, ⟨none, some 18, .oth (.call ⟨.builtin .len, #[.tmp 17], #[32]⟩)⟩, ⟨none, some 19, .mv (.const (.int .i64 0))⟩]) (some ([1, 2, 4, 5], [2, 4, 5, 32, 65])) := rx
@[simp] theorem x86_4 : RX 69 r86_4 (.str [⟨none, some 20, .bin .lss 3 (.tmp 19) (.tmp 18)⟩]) (some ([1, 2, 4, 5, 17, 18, 19], [2, 4, 5, 32, 65])) := rx
@[simp] theorem x86_5 : RX 69 r86_5 (.str [⟨none, some 21, .mv (.tmp 19)⟩, ⟨none, some 22, .oth (.indexAddr 32 (.tmp 17) (.tmp 19))⟩, ⟨none, some 23, .ld 96 (.tmp 22)⟩, ⟨none, some 7, .alloc 96⟩, ⟨none, some 6, .mv (.tmp 21)⟩, ⟨none, none, .sto 96 (.tmp 7) (.tmp 23)⟩]) (some ([1, 2, 4, 5, 17, 18, 19], [2, 4, 5, 32, 65])) := rx
@[simp] theorem x86_6 : RX 69 r86_6 (.str [⟨none, some 24, .mv (.tmp 1)⟩, ⟨none, some 25, .mv (.tmp 6)⟩, ⟨none, some 26, .call false none (.func 109) [.tmp 24, .tmp 25]⟩, ⟨none, some 27, .oth (.unOp .not 4 (.tmp 26))⟩]) (some ([1, 2, 4, 5, 6, 7, 17, 18, 19], [2, 4, 5, 7, 32, 65])) := rx
@[simp] theorem x86_7 : RX 69 r86_7 (.str [⟨none, some 28, .fa 35 (.tmp 5) 3⟩, ⟨none, some 29, .ld 32 (.tmp 28)⟩, ⟨none, some 30, .ld 96 (.tmp 7)⟩, ⟨none, some 31, .buildS 32 1 [(0, .tmp 30)]⟩, ⟨none, some 32, .app [.tmp 29, .tmp 31] [32, 32]⟩, ⟨none, some 33, .fa 35 (.tmp 5) 3⟩, ⟨none, none, .sto 32 (.tmp 33) (.tmp 32)⟩]) (some ([1, 2, 4, 5, 7, 17, 18, 19], [2, 4, 5, 7, 32, 65])) := rx
@[simp] theorem x86_8 : RX 69 r86_8 (.str [⟨none, some 34, .bin .add 3 (.tmp 19) (.const (.int .i64 1))⟩, ⟨none, some 19, .mv (.tmp 34)⟩]) (some ([1, 2, 4, 5, 17, 18, 19], [2, 4, 5, 32, 65])) := rx
@[simp] theorem x86_9 : RX 69 r86_9 (.str [⟨none, some 35, .fa 35 (.tmp 2) 4⟩, ⟨none, some 36, .ld 33 (.tmp 35)⟩, ⟨none, some 37, .oth (.call ⟨.builtin .len, #[.tmp 36], #[33]⟩)⟩, ⟨none, some 38, .mv (.const (.int .i64 0))⟩]) (some ([1, 2, 4, 5], [2, 4, 5, 32, 65])) := rx
@[simp] theorem x86_10 : RX 69 r86_10 (.str [⟨none, some 39, .bin .lss 3 (.tmp 38) (.tmp 37)⟩]) (some ([1, 4, 5, 36, 37, 38], [2, 4, 5, 32, 65])) := rx
@[simp] theorem x86_11 : RX 69 r86_11 (.str [⟨none, some 40, .oth (.indexAddr 33 (.tmp 36) (.tmp 38))⟩, ⟨none, some 41, .ld 99 (.tmp 40)⟩, ⟨none, some 9, .alloc 99⟩, ⟨none, none, .sto 99 (.tmp 9) (.tmp 41)⟩]) (some ([1, 4, 5, 36, 37, 38], [2, 4, 5, 32, 65])) := rx
@[simp] theorem x86_12 : RX 69 r86_12 (.str [⟨none, some 10, .mv (.const (.int .i64 0))⟩]) (some ([1, 4, 5, 9, 36, 37, 38], [2, 4, 5, 9, 32, 65])) := rx
@[simp] theorem x86_13 : RX 69 r86_13 (.str [⟨none, some 42, .mv (.tmp 1)⟩, ⟨none, some 43, .oth (.call ⟨.builtin .len, #[.tmp 42], #[28]⟩)⟩, ⟨none, some 44, .mv (.const (.int .i64 0))⟩]) (some ([1, 4, 5, 9, 10, 36, 37, 38], [2, 4, 5, 9, 32, 65])) := rx
@[simp] theorem x86_14 : RX 69 r86_14 (.str [⟨none, some 45, .bin .lss 3 (.tmp 44) (.tmp 43)⟩]) (some ([1, 4, 5, 9, 10, 36, 37, 38, 42, 43, 44], [2, 4, 5, 9, 32, 65])) := rx
@[simp] theorem x86_15 : RX 69 r86_15 (.str [⟨none, some 46, .oth (.indexAddr 28 (.tmp 42) (.tmp 44))⟩, ⟨none, some 47, .ld 3 (.tmp 46)⟩, ⟨none, some 12, .mv (.tmp 47)⟩]) (some ([1, 4, 5, 9, 10, 36, 37, 38, 42, 43, 44], [2, 4, 5, 9, 32, 65])) := rx
@[simp] theorem x86_16 : RX 69 r86_16 (.str [⟨none, some 48, .mv (.tmp 12)⟩, ⟨none, some 49, .fa 99 (.tmp 9) 0⟩, ⟨none, some 50, .ld 3 (.tmp 49)⟩, ⟨none, some 51, .bin .lss 3 (.tmp 48) (.tmp 50)⟩]) (some ([1, 4, 5, 9, 10, 12, 36, 37, 38, 42, 43, 44], [2, 4, 5, 9, 32, 65])) := rx
@[simp] theorem x86_17 : RX 69 r86_17 (.str [⟨none, some 52, .mv (.tmp 10)⟩, ⟨none, some 53, .bin .add 3 (.tmp 52) (.const (.int .i64 1))⟩, ⟨none, some 10, .mv (.tmp 53)⟩]) (some ([1, 4, 5, 9, 10, 36, 37, 38, 42, 43, 44], [2, 4, 5, 9, 32, 65])) := rx
@[simp] theorem x86_18 : RX 69 r86_18 (.str [⟨none, some 54, .bin .add 3 (.tmp 44) (.const (.int .i64 1))⟩, ⟨none, some 44, .mv (.tmp 54)⟩]) (some ([1, 4, 5, 9, 10, 36, 37, 38, 42, 43, 44], [2, 4, 5, 9, 32, 65])) := rx
@[simp] theorem x86_19 : RX 69 r86_19 (.str [⟨none, some 55, .fa 35 (.tmp 5) 4⟩, ⟨none, some 56, .ld 33 (.tmp 55)⟩, ⟨none, some 57, .fa 99 (.tmp 9) 0⟩, ⟨none, some 58, .ld 3 (.tmp 57)⟩, ⟨none, some 59, .mv (.tmp 10)⟩, ⟨none, some 60, .bin .sub 3 (.tmp 58) (.tmp 59)⟩, ⟨none, some 61, .fa 99 (.tmp 9) 1⟩, ⟨none, some 62, .ld 45 (.tmp 61)⟩, ⟨none, some 63, .build 99 [(0, .tmp 60), (1, .tmp 62)]⟩, ⟨none, some 64, .buildS 33 1 [(0, .tmp 63)]⟩, ⟨none, some 65, .app [.tmp 56, .tmp 64] [33, 33]⟩, ⟨none, some 66, .fa 35 (.tmp 5) 4⟩, ⟨none, none, .sto 33 (.tmp 66) (.tmp 65)⟩]) (some ([1, 4, 5, 9, 10, 36, 37, 38], [2, 4, 5, 9, 32, 65])) := rx
@[simp] theorem x86_20 : RX 69 r86_20 (.str [⟨none, some 67, .bin .add 3 (.tmp 38) (.const (.int .i64 1))⟩, ⟨none, some 38, .mv (.tmp 67)⟩]) (some ([1, 4, 5, 36, 37, 38], [2, 4, 5, 32, 65])) := rx
@[simp] theorem x86_21 : RX 69 r86_21 (.str [⟨none, some 68, .ld 35 (.tmp 5)⟩, ⟨none, none, .sto 35 (.tmp 4) (.tmp 68)⟩]) (some ([4, 5], [2, 4, 5, 32, 65])) := rx
@[simp] theorem l86_4 : ann 69 (fstR lb86_4) = some ([1, 2, 4, 5, 17, 18, 19], [2, 4, 5, 32, 65]) := by kernel_rfl
@[simp] theorem l86_10 : ann 69 (fstR lb86_10) = some ([1, 4, 5, 36, 37, 38], [2, 4, 5, 32, 65]) := by kernel_rfl
@[simp] theorem l86_14 : ann 69 (fstR lb86_14) = some ([1, 4, 5, 9, 10, 36, 37, 38, 42, 43, 44], [2, 4, 5, 9, 32, 65]) := by kernel_rfl
def r37_0 := rg Try.f37 2
def r37_1 := rg Try.f37 9
def r37_2 := rg Try.f37 21
def r37_3 := rg Try.f37 77
def r37_4 := rg Try.f37 11
def r37_5 := rg Try.f37 23
def r37_6 := rg Try.f37 79
def r37_7 := rg Try.f37 559
def r37_8 := rg Try.f37 9007
def r37_9 := rg Try.f37 21295
def r37_10 := rg Try.f37 45871
def r37_11 := rg Try.f37 160559
def r37_12 := rg Try.f37 3887
def r37_13 := rg Try.f37 95
def lb37_7 : Code := (.seq r37_7 (.seq (.cond (.tmp 18) .skip (.exit 0)) (.seq (.block 1 (.seq r37_8 (.seq r37_9 (.seq r37_10 (.cond (.tmp 28) (.seq r37_11 .ret) .skip))))) r37_12)))
@[simp] theorem u37_7 (n : Nat) (st : XS) : execA Try.prog ann kn n 31 lb37_7 st = execA Try.prog ann kn n 31 (.seq r37_7 (.seq (.cond (.tmp 18) .skip (.exit 0)) (.seq (.block 1 (.seq r37_8 (.seq r37_9 (.seq r37_10 (.cond (.tmp 28) (.seq r37_11 .ret) .skip))))) r37_12))) st := rfl
def c37 : Code := (.seq r37_0 (.seq (.seq r37_1 (.seq r37_2 (.cond (.tmp 10) (.seq r37_3 .ret) .skip))) (.seq r37_4 (.seq r37_5 (.seq (.seq r37_6 (.block 0 (.loop lb37_7))) (.seq r37_13 .ret))))))
theorem b37 : Try.f37.body = some c37 := by kernel_rfl
@[simp] theorem x37_0 : RX 31 r37_0 (.str [⟨none, some 1, .box (.tmp 0)⟩, ⟨none, some 2, .mv (.const (.int .i64 0))⟩, ⟨none, some 3, .mv (.const (.int .i64 0))⟩]) (some ([0], [1, 5])) := rx
@[simp] theorem x37_1 : RX 31 r37_1 (.str [⟨none, some 7, .ld 35 (.tmp 1)⟩, ⟨none, some 8, .call false none (.func 55) [.tmp 7]⟩, ⟨none, some 4, .mv (.tmp 8)⟩]) (some ([1], [1, 5])) := rx
@[simp] theorem x37_2 : RX 31 r37_2 (.str [⟨none, some 9, .mv (.tmp 4)⟩, ⟨none, some 10, .bin .neq 29 (.tmp 9) (.const (.int .i64 0))⟩]) (some ([1, 4], [1, 5])) := rx
@[simp] theorem x37_3 : RX 31 r37_3 (.str [⟨none, some 11, .mv (.tmp 4)⟩, ⟨none, some 2, .mv (.const (.int .i64 0))⟩, ⟨none, some 3, .mv (.tmp 11)⟩]) (some ([1, 2, 3, 4, 7, 8], [3])) := rx
@[simp] theorem x37_4 : RX 31 r37_4 (.str [⟨none, some 12, .ld 35 (.tmp 1)⟩, ⟨none, some 5, .alloc 35⟩, ⟨none, none, .sto 35 (.tmp 5) (.tmp 12)⟩]) (some ([1], [1, 5])) := rx
@[simp] theorem x37_5 : RX 31 r37_5 (.str [⟨none, some 13, .fa 35 (.tmp 5) 4⟩, ⟨none, none, .sto 33 (.tmp 13) (.const (.slice none 0 0))⟩]) (some ([1, 5], [1, 5])) := rx
@[simp] theorem x37_6 : RX 31 r37_6 (.str [⟨none, some 14, .fa 35 (.tmp 1) 3⟩, ⟨none, some 15, .ld 32 (.tmp 14)⟩, ⟨none, some 16, .oth (.call ⟨.builtin .len, #[.tmp 15], #[32]⟩)⟩, ⟨none, some 17, .mv (.const (.int .i64 0))⟩]) (some ([1, 5], [1, 5])) := rx
@[simp] theorem x37_7 : RX 31 r37_7 (.str [⟨none, some 18, .bin .lss 3 (.tmp 17) (.tmp 16)⟩]) (some ([1, 5, 16, 17], [1, 5])) := rx
@[simp] theorem x37_8 : RX 31 r37_8 (.str [⟨none, some 19, .mv (.tmp 17)⟩, ⟨none, some 6, .mv (.tmp 19)⟩]) (some ([1, 5, 16, 17], [1, 5])) := rx
@[simp] theorem x37_9 : RX 31 r37_9 (.str [⟨none, some 20, .fa 35 (.tmp 1) 3⟩, ⟨none, some 21, .ld 32 (.tmp 20)⟩, ⟨none, some 22, .mv (.tmp 6)⟩, ⟨none, some 23, .bin .add 3 (.tmp 22) (.const (.int .i64 1))⟩, ⟨none, some 24, .oth (.slice 32 (.tmp 21) none (some (.tmp 23)) none)⟩, ⟨none, some 25, .fa 35 (.tmp 5) 3⟩, ⟨none, none, .sto 32 (.tmp 25) (.tmp 24)⟩]) (some ([1, 5, 6, 16, 17], [1, 5])) := rx
@[simp] theorem x37_10 : RX 31 r37_10 (.str [⟨none, some 26, .ld 35 (.tmp 5)⟩, ⟨none, some 27, .call false none (.func 84) [.tmp 26]⟩, ⟨none, some 28, .oth (.unOp .not 4 (.tmp 27))⟩]) (some ([1, 5, 6, 16, 17], [1, 5])) := rx
@[simp] theorem x37_11 : RX 31 r37_11 (.str [⟨none, some 29, .mv (.tmp 6)⟩, ⟨none, some 2, .mv (.tmp 29)⟩, ⟨none, some 3, .mv (.const (.int .i64 0))⟩]) (some ([6], [])) := rx
@[simp] theorem x37_12 : RX 31 r37_12 (.str [⟨none, some 30, .bin .add 3 (.tmp 17) (.const (.int .i64 1))⟩, ⟨none, some 17, .mv (.tmp 30)⟩]) (some ([1, 5, 16, 17], [1, 5])) := rx
@[simp] theorem x37_13 : RX 31 r37_13 (.str [⟨none, some 2, .mv (.const (.int .i64 0))⟩, ⟨none, some 3, .mv (.const (.int .i64 7))⟩]) (some ([], [])) := rx
@[simp] theorem l37_7 : ann 31 (fstR lb37_7) = some ([1, 5, 16, 17], [1, 5]) := by kernel_rfl
def r68_0 := rg Try.f68 2
def r68_1 := rg Try.f68 9
def r68_2 := rg Try.f68 37
def r68_3 := rg Try.f68 149
def r68_4 := rg Try.f68 181
def r68_5 := rg Try.f68 629
def r68_6 := rg Try.f68 757
def r68_7 := rg Try.f68 2549
def r68_8 := rg Try.f68 11
def c68 : Code := (.seq r68_0 (.seq (.seq r68_1 (.block 0 (.seq r68_2 (.cond (.tmp 8) (.seq r68_3 .ret) (.seq r68_4 (.cond (.tmp 12) (.seq r68_5 .ret) (.seq r68_6 (.cond (.tmp 15) (.seq r68_7 .ret) .skip)))))))) (.seq r68_8 .ret)))
theorem b68 : Try.f68.body = some c68 := by kernel_rfl
@[simp] theorem x68_0 : RX 19 r68_0 (.str [⟨none, some 2, .box (.tmp 0)⟩, ⟨none, some 4, .mv (.const (.int .i64 0))⟩]) (some ([0, 1], [2])) := rx
@[simp] theorem x68_1 : RX 19 r68_1 (.str [⟨none, some 6, .ld 35 (.tmp 2)⟩, ⟨none, some 7, .call false none (.func 55) [.tmp 6]⟩, ⟨none, some 5, .mv (.tmp 7)⟩]) (some ([0, 1, 2, 3], [2, 3])) := rx
@[simp] theorem x68_2 : RX 19 r68_2 (.str [⟨none, some 9, .mv (.tmp 5)⟩, ⟨none, some 10, .bin .neq 29 (.tmp 9) (.const (.int .i64 0))⟩, ⟨none, some 8, .mv (.tmp 10)⟩]) (some ([1, 2, 5], [2])) := rx
@[simp] theorem x68_3 : RX 19 r68_3 (.str [⟨none, some 11, .mv (.tmp 5)⟩, ⟨none, some 4, .mv (.tmp 11)⟩]) (some ([5], [])) := rx
@[simp] theorem x68_4 : RX 19 r68_4 (.str [⟨none, some 13, .mv (.tmp 1)⟩, ⟨none, some 14, .oth (.unOp .not 4 (.tmp 13))⟩, ⟨none, some 12, .mv (.tmp 14)⟩]) (some ([1, 2], [2])) := rx
@[simp] theorem x68_5 : RX 19 r68_5 (.str [⟨none, some 4, .mv (.const (.int .i64 2))⟩]) (some ([], [])) := rx
@[simp] theorem x68_6 : RX 19 r68_6 (.str [⟨none, some 16, .ld 35 (.tmp 2)⟩, ⟨none, some 17, .call false none (.func 84) [.tmp 16]⟩, ⟨none, some 18, .oth (.unOp .not 4 (.tmp 17))⟩, ⟨none, some 15, .mv (.tmp 18)⟩]) (some ([2], [2])) := rx
@[simp] theorem x68_7 : RX 19 r68_7 (.str [⟨none, some 4, .mv (.const (.int .i64 11))⟩]) (some ([], [])) := rx
@[simp] theorem x68_8 : RX 19 r68_8 (.str [⟨none, some 4, .mv (.const (.int .i64 0))⟩]) (some ([], [])) := rx
def r79_0 := rg Try.f79 2
def r79_1 := rg Try.f79 5
def c79 : Code := (.seq r79_0 (.seq r79_1 .ret))
theorem b79 : Try.f79.body = some c79 := by kernel_rfl
@[simp] theorem x79_0 : RX 4 r79_0 (.str [⟨none, some 1, .box (.tmp 0)⟩, ⟨none, some 2, .mv (.const .nilFunc)⟩]) (some ([0], [1])) := rx
@[simp] theorem x79_1 : RX 4 r79_1 (.str [⟨none, some 3, .oth (.makeFunc (.func 102) #[] #[.tmp 1])⟩, ⟨none, some 2, .mv (.tmp 3)⟩]) (some ([1], [1])) := rx
def r102_0 := rg Try.f102 2
def r102_1 := rg Try.f102 5
def r102_2 := rg Try.f102 11
def r102_3 := rg Try.f102 23
def r102_4 := rg Try.f102 47
def r102_5 := rg Try.f102 63
def c102 : Code := (.seq r102_0 (.seq r102_1 (.seq r102_2 (.seq r102_3 (.seq r102_4 r102_5)))))
theorem b102 : Try.f102.body = some c102 := by kernel_rfl
@[simp] theorem x102_0 : RX 22 r102_0 (.str [⟨none, some 2, .box (.tmp 0)⟩]) (some ([0, 1], [2, 3, 4, 5, 9, 14])) := rx
@[simp] theorem x102_1 : RX 22 r102_1 (.drw [⟨[9, 14, 3, 4], [⟨none, some 6, .fa 35 (.tmp 1) 3⟩, ⟨none, some 7, .ld 32 (.tmp 6)⟩, ⟨none, some 8, .oth (.call ⟨.builtin .len, #[.tmp 7], #[32]⟩)⟩, ⟨none, some 10, .fa 35 (.tmp 1) 3⟩, ⟨none, some 11, .ld 32 (.tmp 10)⟩, ⟨none, some 12, .oth (.call ⟨.builtin .len, #[.tmp 11], #[32]⟩)⟩, ⟨none, some 13, .bin .add 3 (.tmp 12) (.const (.int .i64 1))⟩, ⟨none, some 9, .mkS 32 (.tmp 8) (.tmp 8)⟩, ⟨none, some 14, .mkS 134 (.tmp 13) (.tmp 13)⟩, ⟨none, some 3, .alloc 32⟩, ⟨none, some 4, .alloc 134⟩, ⟨none, none, .sto 32 (.tmp 3) (.tmp 9)⟩], [⟨none, none, .sto 134 (.tmp 4) (.tmp 14)⟩]⟩]) (some ([1, 2], [2, 5])) := rx
@[simp] theorem x102_2 : RX 22 r102_2 (.str [⟨none, some 5, .alloc 109⟩]) (some ([1, 2, 3, 4], [2, 3, 4, 5, 9, 14])) := rx
@[simp] theorem x102_3 : RX 22 r102_3 (.str [⟨none, some 15, .oth (.makeFunc (.func 103) #[] #[.tmp 1, .tmp 4, .tmp 3, .tmp 2, .tmp 5])⟩, ⟨none, none, .sto 109 (.tmp 5) (.tmp 15)⟩]) (some ([1, 2, 3, 4, 5], [2, 3, 4, 5, 9, 14])) := rx
@[simp] theorem x102_4 : RX 22 r102_4 (.drw [⟨[18], [⟨none, some 16, .ld 134 (.tmp 4)⟩, ⟨none, some 17, .ld 35 (.tmp 1)⟩, ⟨none, some 18, .call true none (.func 105) [.tmp 17]⟩, ⟨none, some 19, .oth (.indexAddr 134 (.tmp 16) (.const (.int .i64 0)))⟩], [⟨none, none, .sto 113 (.tmp 19) (.tmp 18)⟩]⟩]) (some ([1, 4, 5], [2, 3, 4, 5, 9, 14])) := rx
@[simp] theorem x102_5 : RX 22 r102_5 (.str [⟨none, some 20, .ld 109 (.tmp 5)⟩, ⟨none, some 21, .call false none (.tmp 20) [.const (.int .i64 0)]⟩]) (some ([5], [2, 3, 4, 5, 9, 14])) := rx
def r103_0 := rg Try.f103 2
def r103_1 := rg Try.f103 9
def r103_2 := rg Try.f103 37
def r103_3 := rg Try.f103 19
def r103_4 := rg Try.f103 75
def r103_5 := rg Try.f103 39
def r103_6 := rg Try.f103 279
def r103_7 := rg Try.f103 4503
def r103_8 := rg Try.f103 10647
def r103_9 := rg Try.f103 39319
def r103_10 := rg Try.f103 47511
def r103_11 := rg Try.f103 96663
def r103_12 := rg Try.f103 326039
def r103_13 := rg Try.f103 1943
def r103_14 := rg Try.f103 47
def lb103_6 : Code := (.seq r103_6 (.seq (.cond (.tmp 37) .skip (.exit 0)) (.seq (.block 1 (.seq r103_7 (.seq r103_8 (.seq (.seq r103_9 (.cond (.tmp 52) (.exit 1) .skip)) (.seq r103_10 (.seq r103_11 (.cond (.tmp 66) (.seq r103_12 .ret) .skip))))))) r103_13)))
@[simp] theorem u103_6 (n : Nat) (st : XS) : execA Try.prog ann kn n 68 lb103_6 st = execA Try.prog ann kn n 68 (.seq r103_6 (.seq (.cond (.tmp 37) .skip (.exit 0)) (.seq (.block 1 (.seq r103_7 (.seq r103_8 (.seq (.seq r103_9 (.cond (.tmp 52) (.exit 1) .skip)) (.seq r103_10 (.seq r103_11 (.cond (.tmp 66) (.seq r103_12 .ret) .skip))))))) r103_13))) st := rfl
def c103 : Code := (.seq r103_0 (.seq (.seq r103_1 (.cond (.tmp 19) (.seq r103_2 .ret) .skip)) (.seq (.seq r103_3 (.cond (.tmp 23) (.seq r103_4 .ret) .skip)) (.seq (.seq r103_5 (.block 0 (.loop lb103_6))) (.seq r103_14 .ret)))))
theorem b103 : Try.f103.body = some c103 := by kernel_rfl
@[simp] theorem x103_0 : RX 68 r103_0 (.str [⟨none, some 7, .mv (.const (.bool false))⟩]) (some ([0, 1, 2, 3, 4, 5], [34])) := rx
@[simp] theorem x103_1 : RX 68 r103_1 (.drw [⟨[], [⟨none, some 12, .ld 35 (.tmp 1)⟩, ⟨none, some 13, .ld 134 (.tmp 2)⟩, ⟨none, some 14, .mv (.tmp 0)⟩, ⟨none, some 15, .oth (.indexAddr 134 (.tmp 13) (.tmp 14))⟩, ⟨none, some 16, .ld 113 (.tmp 15)⟩, ⟨none, some 17, .mv (.tmp 0)⟩], [⟨none, some 18, .call false none (.func 93) [.tmp 12, .tmp 16, .tmp 17]⟩]⟩, ⟨[], [⟨none, some 19, .oth (.unOp .not 4 (.tmp 18))⟩], []⟩]) (some ([0, 1, 2, 3, 4, 5], [34])) := rx
@[simp] theorem x103_2 : RX 68 r103_2 (.str [⟨none, some 7, .mv (.const (.bool true))⟩]) (some ([], [])) := rx
@[simp] theorem x103_3 : RX 68 r103_3 (.str [⟨none, some 20, .mv (.tmp 0)⟩, ⟨none, some 21, .ld 32 (.tmp 3)⟩, ⟨none, some 22, .oth (.call ⟨.builtin .len, #[.tmp 21], #[32]⟩)⟩, ⟨none, some 23, .bin .eql 3 (.tmp 20) (.tmp 22)⟩]) (some ([0, 1, 2, 3, 4, 5], [34])) := rx
@[simp] theorem x103_4 : RX 68 r103_4 (.str [⟨none, some 24, .ld 144 (.tmp 4)⟩, ⟨none, some 25, .ld 32 (.tmp 3)⟩, ⟨none, some 26, .ld 134 (.tmp 2)⟩, ⟨none, some 27, .call false none (.tmp 24) [.tmp 25, .tmp 26]⟩, ⟨none, some 7, .mv (.tmp 27)⟩]) (some ([2, 3, 4], [])) := rx
@[simp] theorem x103_5 : RX 68 r103_5 (.drw [⟨[], [⟨none, some 28, .ld 35 (.tmp 1)⟩, ⟨none, some 29, .fa 35 (.tmp 1) 3⟩, ⟨none, some 30, .ld 32 (.tmp 29)⟩, ⟨none, some 31, .mv (.tmp 0)⟩, ⟨none, some 32, .oth (.indexAddr 32 (.tmp 30) (.tmp 31))⟩, ⟨none, some 33, .ld 96 (.tmp 32)⟩, ⟨none, some 34, .call false none (.func 81) [.tmp 28, .tmp 33]⟩, ⟨none, some 35, .oth (.call ⟨.builtin .len, #[.tmp 34], #[32]⟩)⟩, ⟨none, some 36, .mv (.const (.int .i64 0))⟩], []⟩]) (some ([0, 1, 2, 3, 5], [])) := rx
@[simp] theorem x103_6 : RX 68 r103_6 (.str [⟨none, some 37, .bin .lss 3 (.tmp 36) (.tmp 35)⟩]) (some ([0, 1, 2, 3, 5, 34, 35, 36], [34])) := rx
@[simp] theorem x103_7 : RX 68 r103_7 (.str [⟨none, some 38, .oth (.indexAddr 32 (.tmp 34) (.tmp 36))⟩, ⟨none, some 39, .ld 96 (.tmp 38)⟩, ⟨none, some 9, .alloc 96⟩, ⟨none, none, .sto 96 (.tmp 9) (.tmp 39)⟩]) (some ([0, 1, 2, 3, 5, 34, 35, 36], [34])) := rx
@[simp] theorem x103_8 : RX 68 r103_8 (.drw [⟨[10], [⟨none, some 41, .ld 35 (.tmp 1)⟩, ⟨none, some 42, .ld 134 (.tmp 2)⟩, ⟨none, some 43, .mv (.tmp 0)⟩, ⟨none, some 44, .oth (.indexAddr 134 (.tmp 42) (.tmp 43))⟩, ⟨none, some 45, .ld 113 (.tmp 44)⟩, ⟨none, some 46, .mv (.tmp 0)⟩, ⟨none, some 47, .ld 96 (.tmp 9)⟩, ⟨none, some 48, .call false none (.func 104) [.tmp 41, .tmp 45, .tmp 46, .tmp 47]⟩, ⟨none, some 40, .mv (.tmp 48)⟩, ⟨none, some 49, .oth (.extract (.tmp 40) 0)⟩, ⟨none, some 50, .oth (.extract (.tmp 40) 1)⟩, ⟨none, some 10, .alloc 113⟩, ⟨none, none, .sto 113 (.tmp 10) (.tmp 49)⟩, ⟨none, some 11, .mv (.tmp 50)⟩], []⟩]) (some ([0, 1, 2, 3, 5, 9, 34, 35, 36], [9, 34])) := rx
@[simp] theorem x103_9 : RX 68 r103_9 (.str [⟨none, some 51, .mv (.tmp 11)⟩, ⟨none, some 52, .oth (.unOp .not 4 (.tmp 51))⟩]) (some ([0, 1, 2, 3, 5, 9, 10, 11, 34, 35, 36], [9, 10, 34])) := rx
@[simp] theorem x103_10 : RX 68 r103_10 (.drw [⟨[], [⟨none, some 53, .ld 32 (.tmp 3)⟩, ⟨none, some 54, .mv (.tmp 0)⟩, ⟨none, some 55, .ld 134 (.tmp 2)⟩, ⟨none, some 56, .mv (.tmp 0)⟩, ⟨none, some 57, .bin .add 3 (.tmp 56) (.const (.int .i64 1))⟩, ⟨none, some 58, .ld 96 (.tmp 9)⟩, ⟨none, some 59, .ld 113 (.tmp 10)⟩, ⟨none, some 60, .oth (.indexAddr 32 (.tmp 53) (.tmp 54))⟩, ⟨none, none, .sto 96 (.tmp 60) (.tmp 58)⟩, ⟨none, some 61, .oth (.indexAddr 134 (.tmp 55) (.tmp 57))⟩], [⟨none, none, .sto 113 (.tmp 61) (.tmp 59)⟩]⟩]) (some ([0, 1, 2, 3, 5, 9, 10, 34, 35, 36], [9, 10, 34])) := rx
@[simp] theorem x103_11 : RX 68 r103_11 (.str [⟨none, some 62, .ld 109 (.tmp 5)⟩, ⟨none, some 63, .mv (.tmp 0)⟩, ⟨none, some 64, .bin .add 3 (.tmp 63) (.const (.int .i64 1))⟩, ⟨none, some 65, .call false none (.tmp 62) [.tmp 64]⟩, ⟨none, some 66, .oth (.unOp .not 4 (.tmp 65))⟩]) (some ([0, 1, 2, 3, 5, 34, 35, 36], [34])) := rx
@[simp] theorem x103_13 : RX 68 r103_13 (.str [⟨none, some 67, .bin .add 3 (.tmp 36) (.const (.int .i64 1))⟩, ⟨none, some 36, .mv (.tmp 67)⟩]) (some ([0, 1, 2, 3, 5, 34, 35, 36], [34])) := rx
@[simp] theorem x103_14 : RX 68 r103_14 (.str [⟨none, some 7, .mv (.const (.bool true))⟩]) (some ([], [])) := rx
@[simp] theorem l103_6 : ann 68 (fstR lb103_6) = some ([0, 1, 2, 3, 5, 34, 35, 36], [34]) := by kernel_rfl
def r85_0 := rg Try.f85 2
def r85_1 := rg Try.f85 9
def r85_2 := rg Try.f85 37
def r85_3 := rg Try.f85 85
def r85_4 := rg Try.f85 19
def r85_5 := rg Try.f85 267
def r85_7 := rg Try.f85 1099
def r85_8 := rg Try.f85 4683
def r85_6 := rg Try.f85 459
def r85_9 := rg Try.f85 23
def lb85_5 : Code := (.seq (.seq r85_5 (.cond (.tmp 25) .skip (.exit 0))) (.seq (.block 1 (.seq r85_7 (.cond (.tmp 38) (.seq r85_8 .ret) .skip))) r85_6))
@[simp] theorem u85_5 (n : Nat) (st : XS) : execA Try.prog ann kn n 39 lb85_5 st = execA Try.prog ann kn n 39 (.seq (.seq r85_5 (.cond (.tmp 25) .skip (.exit 0))) (.seq (.block 1 (.seq r85_7 (.cond (.tmp 38) (.seq r85_8 .ret) .skip))) r85_6)) st := rfl
def c85 : Code := (.seq r85_0 (.seq (.seq r85_1 (.cond (.tmp 12) (.seq r85_2 (.seq r85_3 .ret)) .skip)) (.seq (.seq r85_4 (.block 0 (.loop lb85_5))) (.seq r85_9 .ret))))
theorem b85 : Try.f85.body = some c85 := by kernel_rfl
@[simp] theorem x85_0 : RX 39 r85_0 (.str [⟨none, some 9, .mv (.const (.bool false))⟩]) (some ([0, 1, 2, 3, 4, 5], [16, 30, 33])) := rx
@[simp] theorem x85_1 : RX 39 r85_1 (.str [⟨none, some 11, .mv (.tmp 2)⟩, ⟨none, some 12, .bin .eql 3 (.tmp 11) (.const (.int .i64 0))⟩]) (some ([0, 1, 2, 3, 4, 5], [16, 30, 33])) := rx
@[simp] theorem x85_2 : RX 39 r85_2 (.str [⟨none, some 13, .mv (.tmp 0)⟩, ⟨none, none, .sto 28 (.tmp 3) (.tmp 13)⟩]) (some ([0, 3, 4], [16, 30, 33])) := rx
@[simp] theorem x85_3 : RX 39 r85_3 (.str [⟨none, some 14, .ld 35 (.tmp 4)⟩, ⟨none, some 15, .mv (.tmp 0)⟩, ⟨none, some 16, .call false none (.func 86) [.tmp 14, .tmp 15]⟩, ⟨none, some 17, .call false none (.func 84) [.tmp 16]⟩, ⟨none, some 9, .mv (.tmp 17)⟩]) (some ([0, 4], [16, 30, 33])) := rx
@[simp] theorem x85_4 : RX 39 r85_4 (.str [⟨none, some 18, .mv (.tmp 1)⟩, ⟨none, some 10, .mv (.tmp 18)⟩]) (some ([0, 1, 2, 4, 5], [16, 30, 33])) := rx
@[simp] theorem x85_5 : RX 39 r85_5 (.str [⟨none, some 19, .mv (.tmp 10)⟩, ⟨none, some 20, .fa 35 (.tmp 4) 3⟩, ⟨none, some 21, .ld 32 (.tmp 20)⟩, ⟨none, some 22, .oth (.call ⟨.builtin .len, #[.tmp 21], #[32]⟩)⟩, ⟨none, some 23, .mv (.tmp 2)⟩, ⟨none, some 24, .bin .sub 3 (.tmp 22) (.tmp 23)⟩, ⟨none, some 25, .bin .leq 3 (.tmp 19) (.tmp 24)⟩]) (some ([0, 2, 4, 5, 10], [16, 30, 33])) := rx
@[simp] theorem x85_7 : RX 39 r85_7 (.drw [⟨[30], [⟨none, some 28, .ld 130 (.tmp 5)⟩, ⟨none, some 29, .mv (.tmp 0)⟩, ⟨none, some 31, .mv (.tmp 10)⟩, ⟨none, some 32, .buildS 28 1 [(0, .tmp 31)]⟩, ⟨none, some 34, .mv (.tmp 10)⟩, ⟨none, some 35, .bin .add 3 (.tmp 34) (.const (.int .i64 1))⟩, ⟨none, some 36, .mv (.tmp 2)⟩, ⟨none, some 37, .bin .sub 3 (.tmp 36) (.const (.int .i64 1))⟩, ⟨none, some 30, .call true none (.func 87) [.tmp 29]⟩, ⟨none, some 33, .app [.tmp 30, .tmp 32] [28, 28]⟩], [⟨none, some 38, .call false (some 33) (.tmp 28) [.tmp 33, .tmp 35, .tmp 37]⟩]⟩, ⟨[], [], []⟩]) (some ([0, 2, 4, 5, 10], [16, 33])) := rx
@[simp] theorem x85_8 : RX 39 r85_8 (.str [⟨none, some 9, .mv (.const (.bool true))⟩]) (some ([], [])) := rx
@[simp] theorem x85_6 : RX 39 r85_6 (.str [⟨none, some 26, .mv (.tmp 10)⟩, ⟨none, some 27, .bin .add 3 (.tmp 26) (.const (.int .i64 1))⟩, ⟨none, some 10, .mv (.tmp 27)⟩]) (some ([0, 2, 4, 5, 10], [16, 30, 33])) := rx
@[simp] theorem x85_9 : RX 39 r85_9 (.str [⟨none, some 9, .mv (.const (.bool false))⟩]) (some ([], [])) := rx
@[simp] theorem l85_5 : ann 39 (fstR lb85_5) = some ([0, 2, 4, 5, 10], [16, 30, 33]) := by kernel_rfl
def r38_0 := rg Try.f38 2
def r38_1 := rg Try.f38 17
def r38_2 := rg Try.f38 41
def r38_3 := rg Try.f38 153
def r38_4 := rg Try.f38 21
def r38_5 := rg Try.f38 45
def r38_6 := rg Try.f38 93
def r38_7 := rg Try.f38 189
def r38_8 := rg Try.f38 1277
def r38_9 := rg Try.f38 8957
def r38_10 := rg Try.f38 144125
def r38_11 := rg Try.f38 340733
def r38_12 := rg Try.f38 733949
def r38_13 := rg Try.f38 62205
def r38_14 := rg Try.f38 2557
def r38_15 := rg Try.f38 9725
def r38_16 := rg Try.f38 3069
def lb38_9 : Code := (.seq r38_9 (.seq (.cond (.tmp 20) .skip (.exit 0)) (.seq (.block 1 (.seq r38_10 (.seq r38_11 (.seq r38_12 (.cond (.tmp 25) (.exit 0) .skip))))) r38_13)))
@[simp] theorem u38_9 (n : Nat) (st : XS) : execA Try.prog ann kn n 30 lb38_9 st = execA Try.prog ann kn n 30 (.seq r38_9 (.seq (.cond (.tmp 20) .skip (.exit 0)) (.seq (.block 1 (.seq r38_10 (.seq r38_11 (.seq r38_12 (.cond (.tmp 25) (.exit 0) .skip))))) r38_13))) st := rfl
def c38 : Code := (.seq r38_0 (.scope (.seq (.seq r38_1 (.seq r38_2 (.cond (.tmp 12) (.seq r38_3 .ret) .skip))) (.seq r38_4 (.seq r38_5 (.seq r38_6 (.seq r38_7 (.seq (.label 0) (.seq (.seq r38_8 (.block 0 (.loop lb38_9))) (.seq (.seq r38_14 (.cond (.tmp 28) (.seq r38_15 .ret) .skip)) (.seq r38_16 .ret)))))))))))
theorem b38 : Try.f38.body = some c38 := by kernel_rfl
@[simp] theorem x38_0 : RX 30 r38_0 (.str [⟨none, some 1, .box (.tmp 0)⟩, ⟨none, some 2, .mv (.const (.slice none 0 0))⟩, ⟨none, some 3, .mv (.const (.int .i64 0))⟩]) (some ([0], [1, 5, 6])) := rx
@[simp] theorem x38_1 : RX 30 r38_1 (.str [⟨none, some 9, .ld 35 (.tmp 1)⟩, ⟨none, some 10, .call false none (.func 55) [.tmp 9]⟩, ⟨none, some 4, .mv (.tmp 10)⟩]) (some ([1], [1, 5, 6])) := rx
@[simp] theorem x38_2 : RX 30 r38_2 (.str [⟨none, some 11, .mv (.tmp 4)⟩, ⟨none, some 12, .bin .neq 29 (.tmp 11) (.const (.int .i64 0))⟩]) (some ([1, 4], [1, 5, 6])) := rx
@[simp] theorem x38_3 : RX 30 r38_3 (.str [⟨none, some 13, .mv (.tmp 4)⟩, ⟨none, some 2, .mv (.const (.slice none 0 0))⟩, ⟨none, some 3, .mv (.tmp 13)⟩]) (some ([4], [])) := rx
@[simp] theorem x38_4 : RX 30 r38_4 (.str [⟨none, some 5, .alloc 28⟩]) (some ([1], [1, 5, 6])) := rx
@[simp] theorem x38_5 : RX 30 r38_5 (.str [⟨none, some 6, .alloc 130⟩]) (some ([1, 5], [1, 5, 6])) := rx
@[simp] theorem x38_6 : RX 30 r38_6 (.str [⟨none, some 14, .oth (.makeFunc (.func 85) #[] #[.tmp 5, .tmp 1, .tmp 6])⟩, ⟨none, none, .sto 130 (.tmp 6) (.tmp 14)⟩]) (some ([1, 5, 6], [1, 5, 6])) := rx
@[simp] theorem x38_7 : RX 30 r38_7 (.str [⟨none, some 7, .mv (.const (.bool false))⟩]) (some ([1, 5, 6], [1, 5, 6])) := rx
@[simp] theorem x38_8 : RX 30 r38_8 (.str [⟨none, some 15, .fa 35 (.tmp 1) 3⟩, ⟨none, some 16, .ld 32 (.tmp 15)⟩, ⟨none, some 17, .oth (.call ⟨.builtin .len, #[.tmp 16], #[32]⟩)⟩, ⟨none, some 18, .bin .add 3 (.tmp 17) (.const (.int .i64 1))⟩, ⟨none, some 19, .mv (.const (.int .i64 0))⟩]) (some ([1, 5, 6, 7], [1, 5, 6])) := rx
@[simp] theorem x38_9 : RX 30 r38_9 (.str [⟨none, some 20, .bin .lss 3 (.tmp 19) (.tmp 18)⟩]) (some ([5, 6, 7, 18, 19], [1, 5, 6])) := rx
@[simp] theorem x38_10 : RX 30 r38_10 (.str [⟨none, some 21, .mv (.tmp 19)⟩, ⟨none, some 8, .mv (.tmp 21)⟩]) (some ([5, 6, 18, 19], [1, 5, 6])) := rx
@[simp] theorem x38_11 : RX 30 r38_11 (.str [⟨none, some 22, .ld 130 (.tmp 6)⟩, ⟨none, some 23, .mv (.tmp 8)⟩, ⟨none, some 24, .call false none (.tmp 22) [.const (.slice none 0 0), .const (.int .i64 0), .tmp 23]⟩, ⟨none, some 7, .mv (.tmp 24)⟩]) (some ([5, 6, 8, 18, 19], [1, 5, 6])) := rx
@[simp] theorem x38_12 : RX 30 r38_12 (.str [⟨none, some 25, .mv (.tmp 7)⟩]) (some ([5, 6, 7, 18, 19], [1, 5, 6])) := rx
@[simp] theorem x38_13 : RX 30 r38_13 (.str [⟨none, some 26, .bin .add 3 (.tmp 19) (.const (.int .i64 1))⟩, ⟨none, some 19, .mv (.tmp 26)⟩]) (some ([5, 6, 7, 18, 19], [1, 5, 6])) := rx
@[simp] theorem x38_14 : RX 30 r38_14 (.str [⟨none, some 27, .mv (.tmp 7)⟩, ⟨none, some 28, .oth (.unOp .not 4 (.tmp 27))⟩]) (some ([5, 7], [1, 5, 6])) := rx
@[simp] theorem x38_15 : RX 30 r38_15 (.str [⟨none, some 2, .mv (.const (.slice none 0 0))⟩, ⟨none, some 3, .mv (.const (.int .i64 10))⟩]) (some ([], [])) := rx
@[simp] theorem x38_16 : RX 30 r38_16 (.str [⟨none, some 29, .ld 28 (.tmp 5)⟩, ⟨none, some 2, .mv (.tmp 29)⟩, ⟨none, some 3, .mv (.const (.int .i64 0))⟩]) (some ([5], [1, 5, 6])) := rx
@[simp] theorem l38_9 : ann 30 (fstR lb38_9) = some ([5, 6, 7, 18, 19], [1, 5, 6]) := by kernel_rfl
def r74_0 := rg Try.f74 2
def r74_1 := rg Try.f74 5
def r74_2 := rg Try.f74 19
def r74_3 := rg Try.f74 75
def r74_4 := rg Try.f74 299
def r74_5 := rg Try.f74 1195
def r74_6 := rg Try.f74 2731
def r74_7 := rg Try.f74 939
def r74_8 := rg Try.f74 23
def c74 : Code := (.seq r74_0 (.seq r74_1 (.seq (.seq r74_2 (.block 0 (.rangeFunc (.tmp 12) #[13, 14] r74_3 (.block 1 (.seq r74_4 (.seq (.seq r74_5 (.cond (.tmp 21) r74_6 .skip)) r74_7)))))) (.seq r74_8 .ret))))
theorem b74 : Try.f74.body = some c74 := by kernel_rfl
@[simp] theorem x74_0 : RX 29 r74_0 (.str [⟨none, some 3, .box (.tmp 0)⟩, ⟨none, some 4, .box (.tmp 1)⟩, ⟨none, some 5, .box (.tmp 2)⟩, ⟨none, some 6, .alloc 45⟩]) (some ([0, 1, 2], [3, 5, 12])) := rx
@[simp] theorem x74_1 : RX 29 r74_1 (.str [⟨none, some 7, .alloc 4⟩, ⟨none, none, .sto 4 (.tmp 7) (.const (.bool true))⟩]) (some ([3, 4, 5, 6], [3, 4, 5, 6, 12])) := rx
@[simp] theorem x74_2 : RX 29 r74_2 (.str [⟨none, some 11, .ld 35 (.tmp 3)⟩, ⟨none, some 12, .call false none (.func 79) [.tmp 11]⟩]) (some ([3, 4, 5, 6, 7], [3, 4, 5, 6, 7, 12])) := rx
@[simp] theorem x74_3 : RX 29 r74_3 (.str [⟨none, some 9, .mv (.tmp 14)⟩]) (some ([4, 5, 6, 7, 14], [4, 5, 6, 7])) := rx
@[simp] theorem x74_4 : RX 29 r74_4 (.drw [⟨[], [⟨none, some 15, .ld 119 (.tmp 5)⟩, ⟨none, some 16, .mv (.tmp 9)⟩, ⟨none, some 17, .ld 3 (.tmp 4)⟩, ⟨none, some 18, .oth (.indexAddr 134 (.tmp 16) (.tmp 17))⟩, ⟨none, some 19, .ld 113 (.tmp 18)⟩], [⟨none, some 20, .call false none (.tmp 15) [.tmp 19]⟩]⟩, ⟨[], [⟨none, some 10, .mv (.tmp 20)⟩], []⟩]) (some ([4, 5, 6, 7, 9], [4, 5, 6, 7])) := rx
@[simp] theorem x74_5 : RX 29 r74_5 (.str [⟨none, some 21, .ld 4 (.tmp 7)⟩]) (some ([6, 7, 10], [6, 7])) := rx
@[simp] theorem x74_6 : RX 29 r74_6 (.str [⟨none, some 22, .mv (.tmp 10)⟩, ⟨none, some 23, .mv (.tmp 10)⟩, ⟨none, some 24, .build 45 [(0, .tmp 22), (1, .tmp 23)]⟩, ⟨none, none, .sto 45 (.tmp 6) (.tmp 24)⟩, ⟨none, none, .sto 4 (.tmp 7) (.const (.bool false))⟩]) (some ([6, 7, 10], [6, 7])) := rx
@[simp] theorem x74_7 : RX 29 r74_7 (.str [⟨none, some 25, .ld 45 (.tmp 6)⟩, ⟨none, some 26, .mv (.tmp 10)⟩, ⟨none, some 27, .call true none (.func 101) [.tmp 25, .tmp 26]⟩, ⟨none, none, .sto 45 (.tmp 6) (.tmp 27)⟩]) (some ([6, 10], [6])) := rx
@[simp] theorem x74_8 : RX 29 r74_8 (.str [⟨none, some 28, .ld 45 (.tmp 6)⟩, ⟨none, none, .sto 45 (.tmp 6) (.tmp 28)⟩]) (some ([6], [6])) := rx
def r75_0 := rg Try.f75 2
def r75_1 := rg Try.f75 5
def c75 : Code := (.seq r75_0 (.seq r75_1 .ret))
def r76_0 := rg Try.f76 2
def r76_1 := rg Try.f76 5
def c76 : Code := (.seq r76_0 (.seq r76_1 .ret))
theorem b76 : Try.f76.body = some c76 := by kernel_rfl
@[simp] theorem x76_0 : RX 5 r76_0 (.str [⟨none, some 1, .box (.tmp 0)⟩, ⟨none, some 2, .mv (.const (.int .i64 0))⟩]) (some ([0], [1])) := rx
@[simp] theorem x76_1 : RX 5 r76_1 (.str [⟨none, some 3, .fa 113 (.tmp 1) 3⟩, ⟨none, some 4, .ld 3 (.tmp 3)⟩, ⟨none, some 2, .mv (.tmp 4)⟩]) (some ([0, 1], [1])) := rx
def r101_0 := rg Try.f101 2
def r101_1 := rg Try.f101 5
def c101 : Code := (.seq r101_0 (.seq r101_1 .ret))
theorem b101 : Try.f101.body = some c101 := by kernel_rfl
@[simp] theorem x101_0 : RX 15 r101_0 (.str [⟨none, some 2, .box (.tmp 0)⟩, ⟨none, some 4, .alloc 45⟩]) (some ([0, 1], [])) := rx
@[simp] theorem x101_1 : RX 15 r101_1 (.drw [⟨[], [⟨none, some 5, .fa 45 (.tmp 2) 0⟩, ⟨none, some 6, .ld 3 (.tmp 5)⟩, ⟨none, some 7, .mv (.tmp 1)⟩, ⟨none, some 8, .buildS 28 2 [(0, .tmp 6), (1, .tmp 7)]⟩, ⟨none, some 9, .call false none (.func 98) [.tmp 8]⟩, ⟨none, some 10, .fa 45 (.tmp 2) 1⟩, ⟨none, some 11, .ld 3 (.tmp 10)⟩, ⟨none, some 12, .mv (.tmp 1)⟩, ⟨none, some 13, .oth (.call ⟨.builtin .max, #[.tmp 11, .tmp 12], #[3, 3]⟩)⟩, ⟨none, some 14, .build 45 [(0, .tmp 9), (1, .tmp 13)]⟩], [⟨none, none, .sto 45 (.tmp 4) (.tmp 14)⟩]⟩]) (some ([0, 1, 2, 3, 4], [2, 3, 4])) := rx
def r70_0 := rg Try.f70 2
def r70_1 := rg Try.f70 5
def c70 : Code := (.seq r70_0 (.seq r70_1 .ret))
def r71_0 := rg Try.f71 2
def r71_1 := rg Try.f71 5
def r71_2 := rg Try.f71 11
def r71_3 := rg Try.f71 39
def r71_4 := rg Try.f71 151
def r71_5 := rg Try.f71 599
def r71_6 := rg Try.f71 2391
def r71_7 := rg Try.f71 2903
def r71_8 := rg Try.f71 5975
def r71_9 := rg Try.f71 12119
def r71_10 := rg Try.f71 73559
def r71_11 := rg Try.f71 1154903
def r71_12 := rg Try.f71 2727767
def r71_13 := rg Try.f71 5873495
def r71_14 := rg Try.f71 499543
def r71_15 := rg Try.f71 79
def r71_16 := rg Try.f71 559
def r71_17 := rg Try.f71 9007
def r71_18 := rg Try.f71 21295
def r71_20 := rg Try.f71 78639
def r71_21 := rg Try.f71 176943
def r71_22 := rg Try.f71 373551
def r71_23 := rg Try.f71 766767
def r71_19 := rg Try.f71 1028911
def r71_24 := rg Try.f71 3887
def r71_25 := rg Try.f71 95
def lb71_10 : Code := (.seq r71_10 (.seq (.cond (.tmp 49) .skip (.exit 2)) (.seq (.block 3 (.seq r71_11 (.seq r71_12 (.cond (.tmp 55) r71_13 .skip)))) r71_14)))
@[simp] theorem u71_10 (n : Nat) (st : XS) : execA Try.prog ann kn n 87 lb71_10 st = execA Try.prog ann kn n 87 (.seq r71_10 (.seq (.cond (.tmp 49) .skip (.exit 2)) (.seq (.block 3 (.seq r71_11 (.seq r71_12 (.cond (.tmp 55) r71_13 .skip)))) r71_14))) st := rfl
def lb71_16 : Code := (.seq r71_16 (.seq (.cond (.tmp 66) .skip (.exit 4)) (.seq (.block 5 (.seq r71_17 (.seq r71_18 (.block 6 (.seq r71_20 (.cond (.tmp 74) r71_21 (.seq r71_22 (.cond (.tmp 80) r71_23 r71_19)))))))) r71_24)))
@[simp] theorem u71_16 (n : Nat) (st : XS) : execA Try.prog ann kn n 87 lb71_16 st = execA Try.prog ann kn n 87 (.seq r71_16 (.seq (.cond (.tmp 66) .skip (.exit 4)) (.seq (.block 5 (.seq r71_17 (.seq r71_18 (.block 6 (.seq r71_20 (.cond (.tmp 74) r71_21 (.seq r71_22 (.cond (.tmp 80) r71_23 r71_19)))))))) r71_24))) st := rfl
def c71 : Code := (.seq r71_0 (.seq r71_1 (.seq r71_2 (.seq (.seq r71_3 (.block 0 (.rangeFunc (.tmp 20) #[21, 22] r71_4 (.block 1 (.seq r71_5 (.seq (.seq r71_6 (.cond (.tmp 42) (.exit 1) .skip)) (.seq r71_7 (.seq r71_8 (.seq r71_9 (.block 2 (.loop lb71_10))))))))))) (.seq (.seq r71_15 (.block 4 (.loop lb71_16))) (.seq r71_25 .ret))))))
@[simp] theorem x71_0 : RX 87 r71_0 (.str [⟨none, some 3, .box (.tmp 0)⟩, ⟨none, some 4, .box (.tmp 1)⟩, ⟨none, some 5, .box (.tmp 2)⟩, ⟨none, some 6, .mv (.const (.slice none 0 0))⟩]) (some ([0, 1, 2], [3, 4, 20])) := rx
@[simp] theorem x71_1 : RX 87 r71_1 (.str [⟨none, some 16, .fa 35 (.tmp 4) 0⟩, ⟨none, some 17, .ld 3 (.tmp 16)⟩, ⟨none, some 18, .mkS 28 (.tmp 17) (.tmp 17)⟩, ⟨none, some 7, .alloc 28⟩, ⟨none, some 8, .alloc 3⟩, ⟨none, none, .sto 28 (.tmp 7) (.tmp 18)⟩, ⟨none, none, .sto 3 (.tmp 8) (.const (.int .i64 0))⟩]) (some ([3, 4, 5], [3, 4, 5, 20])) := rx
@[simp] theorem x71_2 : RX 87 r71_2 (.str [⟨none, some 9, .alloc 113⟩]) (some ([3, 4, 5, 7, 8], [3, 4, 5, 7, 8, 18, 20])) := rx
@[simp] theorem x71_3 : RX 87 r71_3 (.str [⟨none, some 19, .ld 35 (.tmp 4)⟩, ⟨none, some 20, .call false none (.func 79) [.tmp 19]⟩]) (some ([3, 4, 5, 7, 8, 9], [3, 4, 5, 7, 8, 9, 18, 20])) := rx
@[simp] theorem x71_4 : RX 87 r71_4 (.str [⟨none, some 11, .mv (.tmp 22)⟩]) (some ([3, 5, 7, 8, 9, 22], [3, 5, 7, 8, 9, 18])) := rx
@[simp] theorem x71_5 : RX 87 r71_5 (.str [⟨none, some 23, .mv (.tmp 11)⟩, ⟨none, some 24, .ld 3 (.tmp 5)⟩, ⟨none, some 25, .oth (.indexAddr 134 (.tmp 23) (.tmp 24))⟩, ⟨none, some 26, .ld 113 (.tmp 25)⟩, ⟨none, some 12, .alloc 113⟩, ⟨none, none, .sto 113 (.tmp 12) (.tmp 26)⟩]) (some ([3, 5, 7, 8, 9, 11], [3, 5, 7, 8, 9, 18])) := rx
@[simp] theorem x71_6 : RX 87 r71_6 (.str [⟨none, some 27, .ld 3 (.tmp 8)⟩, ⟨none, some 28, .bin .gtr 3 (.tmp 27) (.const (.int .i64 0))⟩, ⟨none, some 29, .mv (.tmp 28)⟩, ⟨some (29, true), some 30, .fa 113 (.tmp 12) 0⟩, ⟨some (29, true), some 31, .ld 111 (.tmp 30)⟩, ⟨some (29, true), some 32, .fa 113 (.tmp 9) 0⟩, ⟨some (29, true), some 33, .ld 111 (.tmp 32)⟩, ⟨some (29, true), some 34, .bin .eql 111 (.tmp 31) (.tmp 33)⟩, ⟨none, some 35, .pick (.tmp 29) (.tmp 34) (.const (.bool false))⟩, ⟨none, some 36, .mv (.tmp 35)⟩, ⟨some (36, true), some 37, .fa 113 (.tmp 12) 1⟩, ⟨some (36, true), some 38, .ld 111 (.tmp 37)⟩, ⟨some (36, true), some 39, .fa 113 (.tmp 9) 1⟩, ⟨some (36, true), some 40, .ld 111 (.tmp 39)⟩, ⟨some (36, true), some 41, .bin .eql 111 (.tmp 38) (.tmp 40)⟩, ⟨none, some 42, .pick (.tmp 36) (.tmp 41) (.const (.bool false))⟩]) (some ([3, 7, 8, 9, 12], [3, 7, 8, 9, 12, 18])) := rx
@[simp] theorem x71_7 : RX 87 r71_7 (.str [⟨none, some 43, .ld 113 (.tmp 12)⟩, ⟨none, none, .sto 113 (.tmp 9) (.tmp 43)⟩]) (some ([3, 7, 8, 9, 12], [3, 7, 8, 9, 12, 18])) := rx
@[simp] theorem x71_8 : RX 87 r71_8 (.str [⟨none, some 44, .ld 3 (.tmp 8)⟩, ⟨none, some 45, .bin .add 3 (.tmp 44) (.const (.int .i64 1))⟩, ⟨none, none, .sto 3 (.tmp 8) (.tmp 45)⟩]) (some ([3, 7, 8, 12], [3, 7, 8, 12, 18])) := rx
@[simp] theorem x71_9 : RX 87 r71_9 (.str [⟨none, some 46, .ld 28 (.tmp 7)⟩, ⟨none, some 47, .oth (.call ⟨.builtin .len, #[.tmp 46], #[28]⟩)⟩, ⟨none, some 48, .mv (.const (.int .i64 0))⟩]) (some ([3, 7, 12], [3, 7, 12, 18])) := rx
@[simp] theorem x71_10 : RX 87 r71_10 (.str [⟨none, some 49, .bin .lss 3 (.tmp 48) (.tmp 47)⟩]) (some ([3, 7, 12, 47, 48], [3, 7, 12, 18])) := rx
@[simp] theorem x71_11 : RX 87 r71_11 (.str [⟨none, some 50, .mv (.tmp 48)⟩, ⟨none, some 13, .mv (.tmp 50)⟩]) (some ([3, 7, 12, 47, 48], [3, 7, 12, 18])) := rx
@[simp] theorem x71_12 : RX 87 r71_12 (.str [⟨none, some 51, .fa 115 (.tmp 3) 0⟩, ⟨none, some 52, .ld 108 (.tmp 51)⟩, ⟨none, some 53, .ld 113 (.tmp 12)⟩, ⟨none, some 54, .mv (.tmp 13)⟩, ⟨none, some 55, .call false none (.tmp 52) [.tmp 53, .tmp 54]⟩]) (some ([3, 7, 12, 13, 47, 48], [3, 7, 12, 18])) := rx
@[simp] theorem x71_13 : RX 87 r71_13 (.str [⟨none, some 56, .ld 28 (.tmp 7)⟩, ⟨none, some 57, .mv (.tmp 13)⟩, ⟨none, some 58, .oth (.indexAddr 28 (.tmp 56) (.tmp 57))⟩, ⟨none, some 59, .ld 3 (.tmp 58)⟩, ⟨none, some 60, .bin .add 3 (.tmp 59) (.const (.int .i64 1))⟩, ⟨none, some 61, .oth (.indexAddr 28 (.tmp 56) (.tmp 57))⟩, ⟨none, none, .sto 3 (.tmp 61) (.tmp 60)⟩]) (some ([3, 7, 12, 13, 47, 48], [3, 7, 12, 18])) := rx
@[simp] theorem x71_14 : RX 87 r71_14 (.str [⟨none, some 62, .bin .add 3 (.tmp 48) (.const (.int .i64 1))⟩, ⟨none, some 48, .mv (.tmp 62)⟩]) (some ([3, 7, 12, 47, 48], [3, 7, 12, 18])) := rx
@[simp] theorem x71_15 : RX 87 r71_15 (.str [⟨none, some 63, .ld 28 (.tmp 7)⟩, ⟨none, some 64, .oth (.call ⟨.builtin .len, #[.tmp 63], #[28]⟩)⟩, ⟨none, some 65, .mv (.const (.int .i64 0))⟩]) (some ([7, 8], [7, 8, 18])) := rx
@[simp] theorem x71_16 : RX 87 r71_16 (.str [⟨none, some 66, .bin .lss 3 (.tmp 65) (.tmp 64)⟩]) (some ([7, 8, 63, 64, 65], [7, 8, 18])) := rx
@[simp] theorem x71_17 : RX 87 r71_17 (.str [⟨none, some 67, .mv (.tmp 65)⟩, ⟨none, some 68, .oth (.indexAddr 28 (.tmp 63) (.tmp 65))⟩, ⟨none, some 69, .ld 3 (.tmp 68)⟩, ⟨none, some 14, .mv (.tmp 67)⟩, ⟨none, some 15, .mv (.tmp 69)⟩]) (some ([7, 8, 63, 64, 65], [7, 8, 18])) := rx
@[simp] theorem x71_18 : RX 87 r71_18 (.str [⟨none, some 70, .mv (.tmp 15)⟩]) (some ([7, 8, 14, 15, 63, 64, 65], [7, 8, 18])) := rx
@[simp] theorem x71_20 : RX 87 r71_20 (.str [⟨none, some 75, .ld 3 (.tmp 8)⟩, ⟨none, some 76, .bin .eql 3 (.tmp 70) (.tmp 75)⟩, ⟨none, some 74, .mv (.tmp 76)⟩]) (some ([7, 8, 14, 63, 64, 65, 70], [7, 8, 18])) := rx
@[simp] theorem x71_21 : RX 87 r71_21 (.str [⟨none, some 77, .ld 28 (.tmp 7)⟩, ⟨none, some 78, .mv (.tmp 14)⟩, ⟨none, some 79, .oth (.indexAddr 28 (.tmp 77) (.tmp 78))⟩, ⟨none, none, .sto 3 (.tmp 79) (.const (.int .i64 1))⟩]) (some ([7, 8, 14, 63, 64, 65], [7, 8, 18])) := rx
@[simp] theorem x71_22 : RX 87 r71_22 (.str [⟨none, some 81, .bin .eql 3 (.tmp 70) (.const (.int .i64 0))⟩, ⟨none, some 80, .mv (.tmp 81)⟩]) (some ([7, 8, 14, 63, 64, 65, 70], [7, 8, 18])) := rx
@[simp] theorem x71_23 : RX 87 r71_23 (.str [⟨none, some 82, .ld 28 (.tmp 7)⟩, ⟨none, some 83, .mv (.tmp 14)⟩, ⟨none, some 84, .oth (.indexAddr 28 (.tmp 82) (.tmp 83))⟩, ⟨none, none, .sto 3 (.tmp 84) (.const (.int .i64 2))⟩]) (some ([7, 8, 14, 63, 64, 65], [7, 8, 18])) := rx
@[simp] theorem x71_19 : RX 87 r71_19 (.str [⟨none, some 71, .ld 28 (.tmp 7)⟩, ⟨none, some 72, .mv (.tmp 14)⟩, ⟨none, some 73, .oth (.indexAddr 28 (.tmp 71) (.tmp 72))⟩, ⟨none, none, .sto 3 (.tmp 73) (.const (.int .i64 3))⟩]) (some ([7, 8, 14, 63, 64, 65], [7, 8, 18])) := rx
@[simp] theorem x71_24 : RX 87 r71_24 (.str [⟨none, some 85, .bin .add 3 (.tmp 65) (.const (.int .i64 1))⟩, ⟨none, some 65, .mv (.tmp 85)⟩]) (some ([7, 8, 63, 64, 65], [7, 8, 18])) := rx
@[simp] theorem x71_25 : RX 87 r71_25 (.str [⟨none, some 86, .ld 28 (.tmp 7)⟩, ⟨none, some 6, .mv (.tmp 86)⟩]) (some ([7], [7, 18])) := rx
@[simp] theorem l71_10 : ann 87 (fstR lb71_10) = some ([3, 7, 12, 47, 48], [3, 7, 12, 18]) := by kernel_rfl
@[simp] theorem l71_16 : ann 87 (fstR lb71_16) = some ([7, 8, 63, 64, 65], [7, 8, 18]) := by kernel_rfl
def r72_0 := rg Try.f72 2
def r72_1 := rg Try.f72 5
def c72 : Code := (.seq r72_0 (.seq r72_1 .ret))
def r21_0 := rg Try.f21 2
def r21_1 := rg Try.f21 9
def r21_2 := rg Try.f21 21
def r21_3 := rg Try.f21 77
def r21_4 := rg Try.f21 11
def c21 : Code := (.seq r21_0 (.seq (.seq r21_1 (.seq r21_2 (.cond (.tmp 16) (.seq r21_3 .ret) .skip))) (.seq r21_4 .ret)))
def r28_0 := rg Try.f28 2
def r28_1 := rg Try.f28 9
def r28_2 := rg Try.f28 21
def r28_3 := rg Try.f28 77
def r28_4 := rg Try.f28 11
def c28 : Code := (.seq r28_0 (.seq (.seq r28_1 (.seq r28_2 (.cond (.tmp 15) (.seq r28_3 .ret) .skip))) (.seq r28_4 .ret)))
def r29_0 := rg Try.f29 2
def r29_1 := rg Try.f29 9
def r29_2 := rg Try.f29 21
def r29_3 := rg Try.f29 77
def r29_4 := rg Try.f29 11
def c29 : Code := (.seq r29_0 (.seq (.seq r29_1 (.seq r29_2 (.cond (.tmp 8) (.seq r29_3 .ret) .skip))) (.seq r29_4 .ret)))
theorem b29 : Try.f29.body = some c29 := by kernel_rfl
@[simp] theorem x29_0 : RX 16 r29_0 (.str [⟨none, some 1, .box (.tmp 0)⟩, ⟨none, some 2, .alloc 45⟩, ⟨none, some 3, .mv (.const (.int .i64 0))⟩]) (some ([0], [1])) := rx
@[simp] theorem x29_1 : RX 16 r29_1 (.str [⟨none, some 5, .ld 35 (.tmp 1)⟩, ⟨none, some 6, .call false none (.func 68) [.tmp 5, .const (.bool true)]⟩, ⟨none, some 4, .mv (.tmp 6)⟩]) (some ([0, 1, 2], [1, 2])) := rx
@[simp] theorem x29_2 : RX 16 r29_2 (.str [⟨none, some 7, .mv (.tmp 4)⟩, ⟨none, some 8, .bin .neq 29 (.tmp 7) (.const (.int .i64 0))⟩]) (some ([1, 2, 4], [1, 2])) := rx
@[simp] theorem x29_3 : RX 16 r29_3 (.str [⟨none, some 9, .build 45 []⟩, ⟨none, some 10, .mv (.tmp 4)⟩, ⟨none, none, .sto 45 (.tmp 2) (.tmp 9)⟩, ⟨none, some 3, .mv (.tmp 10)⟩]) (some ([2, 4], [2])) := rx
@[simp] theorem x29_4 : RX 16 r29_4 (.str [⟨none, some 11, .ld 35 (.tmp 1)⟩, ⟨none, some 12, .fa 35 (.tmp 1) 3⟩, ⟨none, some 13, .ld 32 (.tmp 12)⟩, ⟨none, some 14, .oth (.call ⟨.builtin .len, #[.tmp 13], #[32]⟩)⟩, ⟨none, some 15, .call true none (.func 74) [.tmp 11, .tmp 14, .func 76]⟩, ⟨none, none, .sto 45 (.tmp 2) (.tmp 15)⟩, ⟨none, some 3, .mv (.const (.int .i64 0))⟩]) (some ([1, 2], [1, 2])) := rx
def r51_0 := rg Try.f51 2
def r51_1 := rg Try.f51 5
def r51_2 := rg Try.f51 19
def r51_3 := rg Try.f51 267
def r51_5 := rg Try.f51 1099
def r51_6 := rg Try.f51 1611
def r51_4 := rg Try.f51 459
def r51_7 := rg Try.f51 23
def lb51_3 : Code := (.seq (.seq r51_3 (.cond (.tmp 12) .skip (.exit 0))) (.seq (.block 1 (.seq r51_5 r51_6)) r51_4))
@[simp] theorem u51_3 (n : Nat) (st : XS) : execA Try.prog ann kn n 37 lb51_3 st = execA Try.prog ann kn n 37 (.seq (.seq r51_3 (.cond (.tmp 12) .skip (.exit 0))) (.seq (.block 1 (.seq r51_5 r51_6)) r51_4)) st := rfl
def c51 : Code := (.seq r51_0 (.seq r51_1 (.seq (.seq r51_2 (.block 0 (.loop lb51_3))) (.seq r51_7 .ret))))
theorem b51 : Try.f51.body = some c51 := by kernel_rfl
@[simp] theorem x51_0 : RX 37 r51_0 (.str [⟨none, some 2, .box (.tmp 0)⟩, ⟨none, some 4, .mv (.const (.slice none 0 0))⟩]) (some ([0, 1], [2, 21])) := rx
@[simp] theorem x51_1 : RX 37 r51_1 (.str [⟨none, some 5, .mv (.const (.slice none 0 0))⟩]) (some ([1, 2], [2, 21])) := rx
@[simp] theorem x51_2 : RX 37 r51_2 (.str [⟨none, some 6, .mv (.const (.int .i64 0))⟩]) (some ([1, 2, 5], [2, 21, 31])) := rx
@[simp] theorem x51_3 : RX 37 r51_3 (.str [⟨none, some 8, .mv (.tmp 6)⟩, ⟨none, some 9, .fa 25 (.tmp 2) 3⟩, ⟨none, some 10, .ld 22 (.tmp 9)⟩, ⟨none, some 11, .oth (.call ⟨.builtin .len, #[.tmp 10], #[22]⟩)⟩, ⟨none, some 12, .bin .lss 3 (.tmp 8) (.tmp 11)⟩]) (some ([1, 2, 5, 6], [2, 21, 31])) := rx
@[simp] theorem x51_5 : RX 37 r51_5 (.drw [⟨[], [⟨none, some 15, .ld 25 (.tmp 2)⟩, ⟨none, some 16, .fa 25 (.tmp 2) 3⟩, ⟨none, some 17, .ld 22 (.tmp 16)⟩, ⟨none, some 18, .mv (.tmp 6)⟩, ⟨none, some 19, .oth (.indexAddr 22 (.tmp 17) (.tmp 18))⟩, ⟨none, some 20, .ld 75 (.tmp 19)⟩], [⟨none, some 21, .call false none (.func 83) [.tmp 15, .tmp 20]⟩]⟩, ⟨[], [⟨none, some 7, .mv (.tmp 21)⟩], []⟩]) (some ([1, 2, 5, 6], [2, 31])) := rx
@[simp] theorem x51_6 : RX 37 r51_6 (.drw [⟨[], [⟨none, some 22, .mv (.tmp 5)⟩, ⟨none, some 23, .mv (.tmp 7)⟩, ⟨none, some 24, .mv (.tmp 1)⟩, ⟨none, some 25, .mv (.tmp 7)⟩, ⟨none, some 26, .oth (.call ⟨.builtin .len, #[.tmp 25], #[22]⟩)⟩, ⟨none, some 27, .bin .rem 3 (.tmp 24) (.tmp 26)⟩, ⟨none, some 28, .oth (.indexAddr 22 (.tmp 23) (.tmp 27))⟩, ⟨none, some 29, .ld 75 (.tmp 28)⟩, ⟨none, some 30, .buildS 22 1 [(0, .tmp 29)]⟩, ⟨none, some 32, .mv (.tmp 1)⟩, ⟨none, some 33, .mv (.tmp 7)⟩, ⟨none, some 34, .oth (.call ⟨.builtin .len, #[.tmp 33], #[22]⟩)⟩, ⟨none, some 35, .bin .quo 3 (.tmp 32) (.tmp 34)⟩, ⟨none, some 31, .app [.tmp 22, .tmp 30] [22, 22]⟩, ⟨none, some 5, .mv (.tmp 31)⟩, ⟨none, some 1, .mv (.tmp 35)⟩], []⟩]) (some ([1, 2, 5, 6, 7], [2, 21, 31])) := rx
@[simp] theorem x51_4 : RX 37 r51_4 (.str [⟨none, some 13, .mv (.tmp 6)⟩, ⟨none, some 14, .bin .add 3 (.tmp 13) (.const (.int .i64 1))⟩, ⟨none, some 6, .mv (.tmp 14)⟩]) (some ([1, 2, 5, 6], [2, 21, 31])) := rx
@[simp] theorem x51_7 : RX 37 r51_7 (.str [⟨none, some 36, .mv (.tmp 5)⟩, ⟨none, some 4, .mv (.tmp 36)⟩]) (some ([5], [31])) := rx
@[simp] theorem l51_3 : ann 37 (fstR lb51_3) = some ([1, 2, 5, 6], [2, 21, 31]) := by kernel_rfl
def r43_0 := rg Try.f43 2
def r43_1 := rg Try.f43 5
def r43_2 := rg Try.f43 19
def r43_3 := rg Try.f43 267
def r43_5 := rg Try.f43 1099
def r43_6 := rg Try.f43 2635
def r43_7 := rg Try.f43 5707
def r43_4 := rg Try.f43 459
def r43_8 := rg Try.f43 23
def lb43_3 : Code := (.seq (.seq r43_3 (.cond (.tmp 9) .skip (.exit 0))) (.seq (.block 1 (.seq r43_5 (.seq r43_6 (.cond (.tmp 21) r43_7 .skip)))) r43_4))
@[simp] theorem u43_3 (n : Nat) (st : XS) : execA Try.prog ann kn n 27 lb43_3 st = execA Try.prog ann kn n 27 (.seq (.seq r43_3 (.cond (.tmp 9) .skip (.exit 0))) (.seq (.block 1 (.seq r43_5 (.seq r43_6 (.cond (.tmp 21) r43_7 .skip)))) r43_4)) st := rfl
def c43 : Code := (.seq r43_0 (.seq r43_1 (.seq (.seq r43_2 (.block 0 (.loop lb43_3))) (.seq r43_8 .ret))))
@[simp] theorem x43_0 : RX 27 r43_0 (.str [⟨none, some 1, .box (.tmp 0)⟩, ⟨none, some 2, .mv (.const (.slice none 0 0))⟩]) (some ([0], [1, 14])) := rx
@[simp] theorem x43_1 : RX 27 r43_1 (.str [⟨none, some 3, .mv (.const (.slice none 0 0))⟩]) (some ([1], [1, 14])) := rx
@[simp] theorem x43_2 : RX 27 r43_2 (.str [⟨none, some 4, .mv (.const (.int .i64 0))⟩]) (some ([1, 3], [1, 14, 25])) := rx
@[simp] theorem x43_3 : RX 27 r43_3 (.str [⟨none, some 6, .mv (.tmp 4)⟩, ⟨none, some 7, .ld 25 (.tmp 1)⟩, ⟨none, some 8, .call false none (.func 52) [.tmp 7]⟩, ⟨none, some 9, .bin .lss 3 (.tmp 6) (.tmp 8)⟩]) (some ([1, 3, 4], [1, 14, 25])) := rx
@[simp] theorem x43_5 : RX 27 r43_5 (.str [⟨none, some 12, .ld 25 (.tmp 1)⟩, ⟨none, some 13, .mv (.tmp 4)⟩, ⟨none, some 14, .call false none (.func 51) [.tmp 12, .tmp 13]⟩, ⟨none, some 5, .mv (.tmp 14)⟩]) (some ([1, 3, 4], [1, 14, 25])) := rx
@[simp] theorem x43_6 : RX 27 r43_6 (.str [⟨none, some 15, .mv (.tmp 5)⟩, ⟨none, some 16, .call false none (.func 58) [.tmp 15]⟩, ⟨none, some 17, .mv (.tmp 16)⟩, ⟨some (17, true), some 18, .ld 25 (.tmp 1)⟩, ⟨some (17, true), some 19, .mv (.tmp 5)⟩, ⟨some (17, true), some 20, .call false none (.func 89) [.tmp 18, .tmp 19]⟩, ⟨none, some 21, .pick (.tmp 17) (.tmp 20) (.const (.bool false))⟩]) (some ([1, 3, 4, 5], [1, 14, 25])) := rx
@[simp] theorem x43_7 : RX 27 r43_7 (.str [⟨none, some 22, .mv (.tmp 3)⟩, ⟨none, some 23, .mv (.tmp 5)⟩, ⟨none, some 24, .buildS 37 1 [(0, .tmp 23)]⟩, ⟨none, some 25, .app [.tmp 22, .tmp 24] [37, 37]⟩, ⟨none, some 3, .mv (.tmp 25)⟩]) (some ([1, 3, 4, 5], [1, 14, 25])) := rx
@[simp] theorem x43_4 : RX 27 r43_4 (.str [⟨none, some 10, .mv (.tmp 4)⟩, ⟨none, some 11, .bin .add 3 (.tmp 10) (.const (.int .i64 1))⟩, ⟨none, some 4, .mv (.tmp 11)⟩]) (some ([1, 3, 4], [1, 14, 25])) := rx
@[simp] theorem x43_8 : RX 27 r43_8 (.str [⟨none, some 26, .mv (.tmp 3)⟩, ⟨none, some 2, .mv (.tmp 26)⟩]) (some ([3], [25])) := rx
@[simp] theorem l43_3 : ann 27 (fstR lb43_3) = some ([1, 3, 4], [1, 14, 25]) := by kernel_rfl
def r23_0 := rg Try.f23 2
def r23_1 := rg Try.f23 9
def r23_2 := rg Try.f23 21
def r23_3 := rg Try.f23 77
def r23_4 := rg Try.f23 11
def r23_5 := rg Try.f23 39
def r23_6 := rg Try.f23 151
def r23_7 := rg Try.f23 47
def c23 : Code := (.seq r23_0 (.seq (.seq r23_1 (.seq r23_2 (.cond (.tmp 9) (.seq r23_3 .ret) .skip))) (.seq r23_4 (.seq (.seq r23_5 (.cond (.tmp 15) (.seq r23_6 .ret) .skip)) (.seq r23_7 .ret)))))
def r73_0 := rg Try.f73 2
def r73_1 := rg Try.f73 9
def r73_2 := rg Try.f73 37
def r73_3 := rg Try.f73 19
def r73_4 := rg Try.f73 75
def r73_5 := rg Try.f73 23
def c73 : Code := (.seq r73_0 (.seq (.seq r73_1 (.cond (.tmp 7) (.seq r73_2 .ret) .skip)) (.seq (.seq r73_3 (.cond (.tmp 9) (.seq r73_4 .ret) .skip)) (.seq r73_5 .ret))))
def r26_0 := rg Try.f26 2
def r26_1 := rg Try.f26 5
def r26_2 := rg Try.f26 19
def r26_3 := rg Try.f26 267
def r26_5 := rg Try.f26 1099
def r26_6 := rg Try.f26 2635
def r26_4 := rg Try.f26 459
def r26_7 := rg Try.f26 23
def lb26_3 : Code := (.seq (.seq r26_3 (.cond (.tmp 12) .skip (.exit 0))) (.seq (.block 1 (.seq r26_5 (.cond (.tmp 22) r26_6 .skip))) r26_4))
@[simp] theorem u26_3 (n : Nat) (st : XS) : execA Try.prog ann kn n 29 lb26_3 st = execA Try.prog ann kn n 29 (.seq (.seq r26_3 (.cond (.tmp 12) .skip (.exit 0))) (.seq (.block 1 (.seq r26_5 (.cond (.tmp 22) r26_6 .skip))) r26_4)) st := rfl
def c26 : Code := (.seq r26_0 (.seq r26_1 (.seq (.seq r26_2 (.block 0 (.loop lb26_3))) (.seq r26_7 .ret))))
@[simp] theorem x26_0 : RX 29 r26_0 (.str [⟨none, some 6, .mv (.const (.int .i64 0))⟩]) (some ([0, 1, 2], [])) := rx
@[simp] theorem x26_1 : RX 29 r26_1 (.str [⟨none, some 7, .mv (.const (.int .i64 0))⟩]) (some ([0, 1, 2], [])) := rx
@[simp] theorem x26_2 : RX 29 r26_2 (.str [⟨none, some 8, .mv (.const (.int .i64 0))⟩]) (some ([0, 1, 2, 7], [])) := rx
@[simp] theorem x26_3 : RX 29 r26_3 (.str [⟨none, some 9, .mv (.tmp 8)⟩, ⟨none, some 10, .mv (.tmp 0)⟩, ⟨none, some 11, .oth (.call ⟨.builtin .len, #[.tmp 10], #[37]⟩)⟩, ⟨none, some 12, .bin .lss 3 (.tmp 9) (.tmp 11)⟩]) (some ([0, 1, 2, 7, 8], [])) := rx
@[simp] theorem x26_5 : RX 29 r26_5 (.str [⟨none, some 15, .mv (.tmp 0)⟩, ⟨none, some 16, .mv (.tmp 8)⟩, ⟨none, some 17, .oth (.indexAddr 37 (.tmp 15) (.tmp 16))⟩, ⟨none, some 18, .ld 22 (.tmp 17)⟩, ⟨none, some 19, .mv (.tmp 1)⟩, ⟨none, some 20, .mv (.tmp 2)⟩, ⟨none, some 21, .call false none (.func 63) [.tmp 18, .tmp 19, .tmp 20]⟩, ⟨none, some 22, .bin .geq 3 (.tmp 21) (.const (.int .i64 0))⟩]) (some ([0, 1, 2, 7, 8], [])) := rx
@[simp] theorem x26_6 : RX 29 r26_6 (.str [⟨none, some 23, .mv (.tmp 7)⟩, ⟨none, some 24, .bin .add 3 (.tmp 23) (.const (.int .i64 1))⟩, ⟨none, some 7, .mv (.tmp 24)⟩]) (some ([0, 1, 2, 7, 8], [])) := rx
@[simp] theorem x26_4 : RX 29 r26_4 (.str [⟨none, some 13, .mv (.tmp 8)⟩, ⟨none, some 14, .bin .add 3 (.tmp 13) (.const (.int .i64 1))⟩, ⟨none, some 8, .mv (.tmp 14)⟩]) (some ([0, 1, 2, 7, 8], [])) := rx
@[simp] theorem x26_7 : RX 29 r26_7 (.str [⟨none, some 25, .mv (.tmp 7)⟩, ⟨none, some 26, .mv (.tmp 0)⟩, ⟨none, some 27, .oth (.call ⟨.builtin .len, #[.tmp 26], #[37]⟩)⟩, ⟨none, some 28, .call false none (.func 73) [.tmp 25, .tmp 27]⟩, ⟨none, some 6, .mv (.tmp 28)⟩]) (some ([0, 7], [])) := rx
@[simp] theorem l26_3 : ann 29 (fstR lb26_3) = some ([0, 1, 2, 7, 8], []) := by kernel_rfl
def r27_0 := rg Try.f27 2
def r27_1 := rg Try.f27 5
def r27_2 := rg Try.f27 19
def r27_3 := rg Try.f27 267
def r27_5 := rg Try.f27 1099
def r27_6 := rg Try.f27 2635
def r27_4 := rg Try.f27 459
def r27_7 := rg Try.f27 23
def lb27_3 : Code := (.seq (.seq r27_3 (.cond (.tmp 12) .skip (.exit 0))) (.seq (.block 1 (.seq r27_5 (.cond (.tmp 22) r27_6 .skip))) r27_4))
@[simp] theorem u27_3 (n : Nat) (st : XS) : execA Try.prog ann kn n 29 lb27_3 st = execA Try.prog ann kn n 29 (.seq (.seq r27_3 (.cond (.tmp 12) .skip (.exit 0))) (.seq (.block 1 (.seq r27_5 (.cond (.tmp 22) r27_6 .skip))) r27_4)) st := rfl
def c27 : Code := (.seq r27_0 (.seq r27_1 (.seq (.seq r27_2 (.block 0 (.loop lb27_3))) (.seq r27_7 .ret))))
@[simp] theorem x27_0 : RX 29 r27_0 (.str [⟨none, some 6, .mv (.const (.int .i64 0))⟩]) (some ([0, 1, 2], [])) := rx
@[simp] theorem x27_1 : RX 29 r27_1 (.str [⟨none, some 7, .mv (.const (.int .i64 0))⟩]) (some ([0, 1, 2], [])) := rx
@[simp] theorem x27_2 : RX 29 r27_2 (.str [⟨none, some 8, .mv (.const (.int .i64 0))⟩]) (some ([0, 1, 2, 7], [])) := rx
@[simp] theorem x27_3 : RX 29 r27_3 (.str [⟨none, some 9, .mv (.tmp 8)⟩, ⟨none, some 10, .mv (.tmp 0)⟩, ⟨none, some 11, .oth (.call ⟨.builtin .len, #[.tmp 10], #[37]⟩)⟩, ⟨none, some 12, .bin .lss 3 (.tmp 9) (.tmp 11)⟩]) (some ([0, 1, 2, 7, 8], [])) := rx
@[simp] theorem x27_5 : RX 29 r27_5 (.str [⟨none, some 15, .mv (.tmp 0)⟩, ⟨none, some 16, .mv (.tmp 8)⟩, ⟨none, some 17, .oth (.indexAddr 37 (.tmp 15) (.tmp 16))⟩, ⟨none, some 18, .ld 22 (.tmp 17)⟩, ⟨none, some 19, .mv (.tmp 1)⟩, ⟨none, some 20, .mv (.tmp 2)⟩, ⟨none, some 21, .call false none (.func 64) [.tmp 18, .tmp 19, .tmp 20]⟩, ⟨none, some 22, .bin .geq 3 (.tmp 21) (.const (.int .i64 0))⟩]) (some ([0, 1, 2, 7, 8], [])) := rx
@[simp] theorem x27_6 : RX 29 r27_6 (.str [⟨none, some 23, .mv (.tmp 7)⟩, ⟨none, some 24, .bin .add 3 (.tmp 23) (.const (.int .i64 1))⟩, ⟨none, some 7, .mv (.tmp 24)⟩]) (some ([0, 1, 2, 7, 8], [])) := rx
@[simp] theorem x27_4 : RX 29 r27_4 (.str [⟨none, some 13, .mv (.tmp 8)⟩, ⟨none, some 14, .bin .add 3 (.tmp 13) (.const (.int .i64 1))⟩, ⟨none, some 8, .mv (.tmp 14)⟩]) (some ([0, 1, 2, 7, 8], [])) := rx
@[simp] theorem x27_7 : RX 29 r27_7 (.str [⟨none, some 25, .mv (.tmp 7)⟩, ⟨none, some 26, .mv (.tmp 0)⟩, ⟨none, some 27, .oth (.call ⟨.builtin .len, #[.tmp 26], #[37]⟩)⟩, ⟨none, some 28, .call false none (.func 73) [.tmp 25, .tmp 27]⟩, ⟨none, some 6, .mv (.tmp 28)⟩]) (some ([0, 7], [])) := rx
@[simp] theorem l27_3 : ann 29 (fstR lb27_3) = some ([0, 1, 2, 7, 8], []) := by kernel_rfl
def r3_0 := rg Try.f3 2
def r3_1 := rg Try.f3 9
def r3_2 := rg Try.f3 37
def r3_3 := rg Try.f3 11
def r3_4 := rg Try.f3 23
def r3_5 := rg Try.f3 79
def r3_6 := rg Try.f3 175
def r3_7 := rg Try.f3 159
def r3_8 := rg Try.f3 607
def r3_9 := rg Try.f3 319
def r3_10 := rg Try.f3 1215
def r3_11 := rg Try.f3 639
def r3_12 := rg Try.f3 8575
def r3_14 := rg Try.f3 35199
def r3_15 := rg Try.f3 149887
def r3_13 := rg Try.f3 14719
def r3_16 := rg Try.f3 767
def lb3_12 : Code := (.seq (.seq r3_12 (.cond (.tmp 74) .skip (.exit 0))) (.seq (.block 1 (.seq r3_14 (.cond (.tmp 96) (.seq r3_15 .ret) .skip))) r3_13))
@[simp] theorem u3_12 (n : Nat) (st : XS) : execA Try.prog ann kn n 98 lb3_12 st = execA Try.prog ann kn n 98 (.seq (.seq r3_12 (.cond (.tmp 74) .skip (.exit 0))) (.seq (.block 1 (.seq r3_14 (.cond (.tmp 96) (.seq r3_15 .ret) .skip))) r3_13)) st := rfl
def c3 : Code := (.seq r3_0 (.seq (.seq r3_1 (.cond (.tmp 13) (.seq r3_2 .ret) .skip)) (.seq r3_3 (.seq r3_4 (.seq (.seq r3_5 (.cond (.tmp 38) r3_6 .skip)) (.seq (.seq r3_7 (.cond (.tmp 40) (.seq r3_8 .ret) .skip)) (.seq (.seq r3_9 (.cond (.tmp 70) (.seq r3_10 .ret) .skip)) (.seq (.seq r3_11 (.block 0 (.loop lb3_12))) (.seq r3_16 .ret)))))))))
theorem b3 : Try.f3.body = some c3 := by kernel_rfl
@[simp] theorem x3_0 : RX 98 r3_0 (.str [⟨none, some 2, .box (.tmp 0)⟩, ⟨none, some 4, .mv (.const (.bool false))⟩]) (some ([0, 1], [2, 17, 19, 25])) := rx
@[simp] theorem x3_1 : RX 98 r3_1 (.str [⟨none, some 11, .ld 25 (.tmp 2)⟩, ⟨none, some 12, .call false none (.func 19) [.tmp 11]⟩, ⟨none, some 13, .oth (.unOp .not 4 (.tmp 12))⟩]) (some ([1, 2], [2, 17, 19, 25])) := rx
@[simp] theorem x3_2 : RX 98 r3_2 (.str [⟨none, some 14, .call false none (.func 20) []⟩, ⟨none, some 4, .mv (.tmp 14)⟩]) (some ([], [])) := rx
@[simp] theorem x3_3 : RX 98 r3_3 (.str [⟨none, some 16, .ld 25 (.tmp 2)⟩, ⟨none, some 17, .call false none (.func 22) [.tmp 16]⟩, ⟨none, some 18, .mv (.tmp 1)⟩, ⟨none, some 19, .call false none (.func 21) [.tmp 17, .tmp 18]⟩, ⟨none, some 15, .mv (.tmp 19)⟩, ⟨none, some 20, .oth (.extract (.tmp 15) 0)⟩, ⟨none, some 21, .oth (.extract (.tmp 15) 1)⟩, ⟨none, some 22, .oth (.extract (.tmp 15) 2)⟩, ⟨none, some 5, .mv (.tmp 20)⟩, ⟨none, some 6, .mv (.tmp 21)⟩, ⟨none, some 7, .mv (.tmp 22)⟩]) (some ([1, 2], [2, 17, 19, 25])) := rx
@[simp] theorem x3_4 : RX 98 r3_4 (.str [⟨none, some 24, .ld 25 (.tmp 2)⟩, ⟨none, some 25, .call false none (.func 23) [.tmp 24]⟩, ⟨none, some 23, .mv (.tmp 25)⟩, ⟨none, some 26, .oth (.extract (.tmp 23) 0)⟩, ⟨none, some 27, .oth (.extract (.tmp 23) 1)⟩, ⟨none, some 8, .mv (.tmp 26)⟩, ⟨none, some 9, .mv (.tmp 27)⟩]) (some ([1, 2, 5, 6, 7], [2, 17, 19, 25])) := rx
@[simp] theorem x3_5 : RX 98 r3_5 (.str [⟨none, some 28, .ld 25 (.tmp 2)⟩, ⟨none, some 29, .call false none (.func 24) [.tmp 28]⟩, ⟨none, some 30, .bin .eql 29 (.tmp 29) (.const (.int .i64 0))⟩, ⟨none, some 31, .mv (.tmp 30)⟩, ⟨some (31, true), some 32, .mv (.tmp 1)⟩, ⟨some (31, true), some 33, .fa 25 (.tmp 2) 3⟩, ⟨some (31, true), some 34, .ld 22 (.tmp 33)⟩, ⟨some (31, true), some 35, .oth (.call ⟨.builtin .len, #[.tmp 34], #[22]⟩)⟩, ⟨some (31, true), some 36, .call false none (.func 25) [.tmp 32, .const (.int .i64 0), .tmp 35]⟩, ⟨some (31, true), some 37, .oth (.unOp .not 4 (.tmp 36))⟩, ⟨none, some 38, .pick (.tmp 31) (.tmp 37) (.const (.bool false))⟩]) (some ([1, 2, 5, 6, 7, 8, 9], [2, 17, 19, 25])) := rx
@[simp] theorem x3_6 : RX 98 r3_6 (.str [⟨none, some 9, .mv (.const (.int .i64 2))⟩]) (some ([1, 2, 5, 6, 7, 8], [2, 17, 19, 25])) := rx
@[simp] theorem x3_7 : RX 98 r3_7 (.str [⟨none, some 39, .mv (.tmp 9)⟩, ⟨none, some 40, .bin .neq 29 (.tmp 39) (.const (.int .i64 0))⟩]) (some ([1, 2, 5, 6, 7, 8, 9], [2, 17, 19, 25])) := rx
@[simp] theorem x3_8 : RX 98 r3_8 (.str [⟨none, some 41, .mv (.tmp 7)⟩, ⟨none, some 42, .mv (.tmp 9)⟩, ⟨none, some 43, .bin .eql 29 (.tmp 41) (.tmp 42)⟩, ⟨none, some 44, .mv (.tmp 43)⟩, ⟨some (44, true), some 45, .mv (.tmp 5)⟩, ⟨some (44, true), some 46, .oth (.call ⟨.builtin .len, #[.tmp 45], #[28]⟩)⟩, ⟨some (44, true), some 47, .mv (.tmp 6)⟩, ⟨some (44, true), some 48, .oth (.call ⟨.builtin .len, #[.tmp 47], #[28]⟩)⟩, ⟨some (44, true), some 49, .bin .add 3 (.tmp 46) (.tmp 48)⟩, ⟨some (44, true), some 50, .bin .eql 3 (.tmp 49) (.const (.int .i64 0))⟩, ⟨none, some 51, .pick (.tmp 44) (.tmp 50) (.const (.bool false))⟩, ⟨none, some 52, .mv (.tmp 51)⟩, ⟨some (52, true), some 53, .call false none (.func 20) []⟩, ⟨none, some 54, .pick (.tmp 52) (.tmp 53) (.const (.bool false))⟩, ⟨none, some 4, .mv (.tmp 54)⟩]) (some ([5, 6, 7, 9], [2, 17, 19, 25])) := rx
@[simp] theorem x3_9 : RX 98 r3_9 (.str [⟨none, some 55, .mv (.tmp 7)⟩, ⟨none, some 56, .bin .neq 29 (.tmp 55) (.const (.int .i64 0))⟩, ⟨none, some 57, .mv (.tmp 56)⟩, ⟨some (57, false), some 58, .mv (.tmp 5)⟩, ⟨some (57, false), some 59, .oth (.call ⟨.builtin .len, #[.tmp 58], #[28]⟩)⟩, ⟨some (57, false), some 60, .fa 25 (.tmp 2) 0⟩, ⟨some (57, false), some 61, .ld 3 (.tmp 60)⟩, ⟨some (57, false), some 62, .bin .neq 3 (.tmp 59) (.tmp 61)⟩, ⟨none, some 63, .pick (.tmp 57) (.const (.bool true)) (.tmp 62)⟩, ⟨none, some 64, .mv (.tmp 63)⟩, ⟨some (64, false), some 65, .mv (.tmp 6)⟩, ⟨some (64, false), some 66, .oth (.call ⟨.builtin .len, #[.tmp 65], #[28]⟩)⟩, ⟨some (64, false), some 67, .fa 25 (.tmp 2) 0⟩, ⟨some (64, false), some 68, .ld 3 (.tmp 67)⟩, ⟨some (64, false), some 69, .bin .neq 3 (.tmp 66) (.tmp 68)⟩, ⟨none, some 70, .pick (.tmp 64) (.const (.bool true)) (.tmp 69)⟩]) (some ([1, 2, 5, 6, 7, 8], [2, 17, 19, 25])) := rx
@[simp] theorem x3_10 : RX 98 r3_10 (.str [⟨none, some 4, .mv (.const (.bool false))⟩]) (some ([], [])) := rx
@[simp] theorem x3_11 : RX 98 r3_11 (.str [⟨none, some 10, .mv (.const (.int .i64 0))⟩]) (some ([1, 2, 5, 6, 8], [2, 17, 19, 25])) := rx
@[simp] theorem x3_12 : RX 98 r3_12 (.str [⟨none, some 71, .mv (.tmp 10)⟩, ⟨none, some 72, .fa 25 (.tmp 2) 0⟩, ⟨none, some 73, .ld 3 (.tmp 72)⟩, ⟨none, some 74, .bin .lss 3 (.tmp 71) (.tmp 73)⟩]) (some ([1, 2, 5, 6, 8, 10], [2, 17, 19, 25])) := rx
@[simp] theorem x3_14 : RX 98 r3_14 (.drw [⟨[], [⟨none, some 77, .mv (.tmp 5)⟩, ⟨none, some 78, .mv (.tmp 10)⟩, ⟨none, some 79, .oth (.indexAddr 28 (.tmp 77) (.tmp 78))⟩, ⟨none, some 80, .ld 3 (.tmp 79)⟩, ⟨none, some 81, .mv (.tmp 8)⟩, ⟨none, some 82, .mv (.tmp 1)⟩, ⟨none, some 83, .mv (.tmp 10)⟩, ⟨none, some 84, .call false none (.func 26) [.tmp 81, .tmp 82, .tmp 83]⟩, ⟨none, some 85, .bin .neq 3 (.tmp 80) (.tmp 84)⟩, ⟨none, some 86, .mv (.tmp 85)⟩, ⟨some (86, false), some 87, .mv (.tmp 6)⟩, ⟨some (86, false), some 88, .mv (.tmp 10)⟩, ⟨some (86, false), some 89, .oth (.indexAddr 28 (.tmp 87) (.tmp 88))⟩, ⟨some (86, false), some 90, .ld 3 (.tmp 89)⟩, ⟨some (86, false), some 91, .mv (.tmp 8)⟩, ⟨some (86, false), some 92, .mv (.tmp 1)⟩, ⟨some (86, false), some 93, .mv (.tmp 10)⟩, ⟨some (86, false), some 94, .call false none (.func 27) [.tmp 91, .tmp 92, .tmp 93]⟩, ⟨some (86, false), some 95, .bin .neq 3 (.tmp 90) (.tmp 94)⟩, ⟨none, some 96, .pick (.tmp 86) (.const (.bool true)) (.tmp 95)⟩], []⟩]) (some ([1, 2, 5, 6, 8, 10], [2, 17, 19, 25])) := rx
@[simp] theorem x3_15 : RX 98 r3_15 (.str [⟨none, some 4, .mv (.const (.bool false))⟩]) (some ([], [])) := rx
@[simp] theorem x3_13 : RX 98 r3_13 (.str [⟨none, some 75, .mv (.tmp 10)⟩, ⟨none, some 76, .bin .add 3 (.tmp 75) (.const (.int .i64 1))⟩, ⟨none, some 10, .mv (.tmp 76)⟩]) (some ([1, 2, 5, 6, 8, 10], [2, 17, 19, 25])) := rx
@[simp] theorem x3_16 : RX 98 r3_16 (.str [⟨none, some 97, .call false none (.func 20) []⟩, ⟨none, some 4, .mv (.tmp 97)⟩]) (some ([], [])) := rx
@[simp] theorem l3_12 : ann 98 (fstR lb3_12) = some ([1, 2, 5, 6, 8, 10], [2, 17, 19, 25]) := by kernel_rfl
def r31_0 := rg Try.f31 2
def r31_1 := rg Try.f31 5
def r31_2 := rg Try.f31 19
def r31_3 := rg Try.f31 267
def r31_5 := rg Try.f31 587
def r31_4 := rg Try.f31 459
def r31_6 := rg Try.f31 23
def lb31_3 : Code := (.seq (.seq r31_3 (.cond (.tmp 13) .skip (.exit 0))) (.seq (.block 1 r31_5) r31_4))
@[simp] theorem u31_3 (n : Nat) (st : XS) : execA Try.prog ann kn n 26 lb31_3 st = execA Try.prog ann kn n 26 (.seq (.seq r31_3 (.cond (.tmp 13) .skip (.exit 0))) (.seq (.block 1 r31_5) r31_4)) st := rfl
def c31 : Code := (.seq r31_0 (.seq r31_1 (.seq (.seq r31_2 (.block 0 (.loop lb31_3))) (.seq r31_6 .ret))))
@[simp] theorem x31_0 : RX 26 r31_0 (.str [⟨none, some 3, .box (.tmp 0)⟩, ⟨none, some 6, .alloc 50⟩]) (some ([0, 1, 2], [3])) := rx
@[simp] theorem x31_1 : RX 26 r31_1 (.str [⟨none, some 9, .call true none (.func 77) []⟩, ⟨none, some 7, .alloc 50⟩, ⟨none, none, .sto 50 (.tmp 7) (.tmp 9)⟩]) (some ([1, 2, 3, 6], [3, 6])) := rx
@[simp] theorem x31_2 : RX 26 r31_2 (.str [⟨none, some 8, .mv (.const (.int .i64 0))⟩]) (some ([1, 2, 3, 6, 7], [3, 6, 7])) := rx
@[simp] theorem x31_3 : RX 26 r31_3 (.str [⟨none, some 10, .mv (.tmp 8)⟩, ⟨none, some 11, .mv (.tmp 1)⟩, ⟨none, some 12, .oth (.call ⟨.builtin .len, #[.tmp 11], #[37]⟩)⟩, ⟨none, some 13, .bin .lss 3 (.tmp 10) (.tmp 12)⟩]) (some ([1, 2, 3, 6, 7, 8], [3, 6, 7])) := rx
@[simp] theorem x31_5 : RX 26 r31_5 (.drw [⟨[], [⟨none, some 16, .ld 50 (.tmp 7)⟩, ⟨none, some 17, .ld 25 (.tmp 3)⟩, ⟨none, some 18, .mv (.tmp 1)⟩, ⟨none, some 19, .mv (.tmp 8)⟩, ⟨none, some 20, .oth (.indexAddr 37 (.tmp 18) (.tmp 19))⟩, ⟨none, some 21, .ld 22 (.tmp 20)⟩, ⟨none, some 22, .mv (.tmp 2)⟩, ⟨none, some 23, .call false none (.func 44) [.tmp 17, .tmp 21, .tmp 22]⟩], [⟨none, some 24, .call true none (.func 78) [.tmp 16, .tmp 23]⟩]⟩, ⟨[], [], [⟨none, none, .sto 50 (.tmp 7) (.tmp 24)⟩]⟩]) (some ([1, 2, 3, 6, 7, 8], [3, 6, 7])) := rx
@[simp] theorem x31_4 : RX 26 r31_4 (.str [⟨none, some 14, .mv (.tmp 8)⟩, ⟨none, some 15, .bin .add 3 (.tmp 14) (.const (.int .i64 1))⟩, ⟨none, some 8, .mv (.tmp 15)⟩]) (some ([1, 2, 3, 6, 7, 8], [3, 6, 7])) := rx
@[simp] theorem x31_6 : RX 26 r31_6 (.str [⟨none, some 25, .ld 50 (.tmp 7)⟩, ⟨none, none, .sto 50 (.tmp 6) (.tmp 25)⟩]) (some ([6, 7], [6, 7])) := rx
@[simp] theorem l31_3 : ann 26 (fstR lb31_3) = some ([1, 2, 3, 6, 7, 8], [3, 6, 7]) := by kernel_rfl
def r32_0 := rg Try.f32 2
def r32_1 := rg Try.f32 5
def r32_2 := rg Try.f32 19
def r32_3 := rg Try.f32 267
def r32_5 := rg Try.f32 587
def r32_4 := rg Try.f32 459
def r32_6 := rg Try.f32 23
def lb32_3 : Code := (.seq (.seq r32_3 (.cond (.tmp 9) .skip (.exit 0))) (.seq (.block 1 r32_5) r32_4))
@[simp] theorem u32_3 (n : Nat) (st : XS) : execA Try.prog ann kn n 20 lb32_3 st = execA Try.prog ann kn n 20 (.seq (.seq r32_3 (.cond (.tmp 9) .skip (.exit 0))) (.seq (.block 1 r32_5) r32_4)) st := rfl
def c32 : Code := (.seq r32_0 (.seq r32_1 (.seq (.seq r32_2 (.block 0 (.loop lb32_3))) (.seq r32_6 .ret))))
@[simp] theorem x32_0 : RX 20 r32_0 (.str [⟨none, some 2, .alloc 50⟩]) (some ([0], [])) := rx
@[simp] theorem x32_1 : RX 20 r32_1 (.str [⟨none, some 5, .call true none (.func 77) []⟩, ⟨none, some 3, .alloc 50⟩, ⟨none, none, .sto 50 (.tmp 3) (.tmp 5)⟩]) (some ([0, 2], [2])) := rx
@[simp] theorem x32_2 : RX 20 r32_2 (.str [⟨none, some 4, .mv (.const (.int .i64 0))⟩]) (some ([0, 2, 3], [2, 3])) := rx
@[simp] theorem x32_3 : RX 20 r32_3 (.str [⟨none, some 6, .mv (.tmp 4)⟩, ⟨none, some 7, .mv (.tmp 0)⟩, ⟨none, some 8, .oth (.call ⟨.builtin .len, #[.tmp 7], #[37]⟩)⟩, ⟨none, some 9, .bin .lss 3 (.tmp 6) (.tmp 8)⟩]) (some ([0, 2, 3, 4], [2, 3])) := rx
@[simp] theorem x32_5 : RX 20 r32_5 (.drw [⟨[], [⟨none, some 12, .ld 50 (.tmp 3)⟩, ⟨none, some 13, .mv (.tmp 0)⟩, ⟨none, some 14, .mv (.tmp 4)⟩, ⟨none, some 15, .oth (.indexAddr 37 (.tmp 13) (.tmp 14))⟩, ⟨none, some 16, .ld 22 (.tmp 15)⟩, ⟨none, some 17, .call false none (.func 45) [.tmp 16]⟩], [⟨none, some 18, .call true none (.func 78) [.tmp 12, .tmp 17]⟩]⟩, ⟨[], [], [⟨none, none, .sto 50 (.tmp 3) (.tmp 18)⟩]⟩]) (some ([0, 2, 3, 4], [2, 3])) := rx
@[simp] theorem x32_4 : RX 20 r32_4 (.str [⟨none, some 10, .mv (.tmp 4)⟩, ⟨none, some 11, .bin .add 3 (.tmp 10) (.const (.int .i64 1))⟩, ⟨none, some 4, .mv (.tmp 11)⟩]) (some ([0, 2, 3, 4], [2, 3])) := rx
@[simp] theorem x32_6 : RX 20 r32_6 (.str [⟨none, some 19, .ld 50 (.tmp 3)⟩, ⟨none, none, .sto 50 (.tmp 2) (.tmp 19)⟩]) (some ([2, 3], [2, 3])) := rx
@[simp] theorem l32_3 : ann 20 (fstR lb32_3) = some ([0, 2, 3, 4], [2, 3]) := by kernel_rfl
def r77_0 := rg Try.f77 2
def r77_1 := rg Try.f77 5
def c77 : Code := (.seq r77_0 (.seq r77_1 .ret))
def r78_0 := rg Try.f78 2
def r78_1 := rg Try.f78 5
def c78 : Code := (.seq r78_0 (.seq r78_1 .ret))
def r4_0 := rg Try.f4 2
def r4_1 := rg Try.f4 9
def r4_2 := rg Try.f4 37
def r4_3 := rg Try.f4 11
def r4_4 := rg Try.f4 23
def r4_5 := rg Try.f4 47
def r4_6 := rg Try.f4 95
def r4_7 := rg Try.f4 319
def r4_8 := rg Try.f4 703
def r4_9 := rg Try.f4 639
def r4_10 := rg Try.f4 2431
def r4_11 := rg Try.f4 767
def c4 : Code := (.seq r4_0 (.seq (.seq r4_1 (.cond (.tmp 14) (.seq r4_2 .ret) .skip)) (.seq r4_3 (.seq r4_4 (.seq r4_5 (.seq r4_6 (.seq (.seq r4_7 (.cond (.tmp 45) r4_8 .skip)) (.seq (.seq r4_9 (.cond (.tmp 71) (.seq r4_10 .ret) .skip)) (.seq r4_11 .ret)))))))))
theorem b4 : Try.f4.body = some c4 := by kernel_rfl
def r7_0 := rg Try.f7 2
def r7_1 := rg Try.f7 9
def r7_2 := rg Try.f7 37
def r7_3 := rg Try.f7 11
def r7_4 := rg Try.f7 23
def r7_5 := rg Try.f7 47
def r7_6 := rg Try.f7 95
def r7_7 := rg Try.f7 319
def r7_8 := rg Try.f7 1215
def r7_9 := rg Try.f7 383
def r7_10 := rg Try.f7 1279
def r7_11 := rg Try.f7 17151
def r7_13 := rg Try.f7 70399
def r7_14 := rg Try.f7 168703
def r7_15 := rg Try.f7 365311
def r7_16 := rg Try.f7 4428543
def r7_18 := rg Try.f7 18060031
def r7_19 := rg Try.f7 43225855
def r7_17 := rg Try.f7 7574271
def r7_12 := rg Try.f7 29439
def r7_20 := rg Try.f7 1535
def lb7_16 : Code := (.seq (.seq r7_16 (.cond (.tmp 96) .skip (.exit 2))) (.seq (.block 3 (.seq r7_18 (.cond (.tmp 101) r7_19 .skip))) r7_17))
@[simp] theorem u7_16 (n : Nat) (st : XS) : execA Try.prog ann kn n 116 lb7_16 st = execA Try.prog ann kn n 116 (.seq (.seq r7_16 (.cond (.tmp 96) .skip (.exit 2))) (.seq (.block 3 (.seq r7_18 (.cond (.tmp 101) r7_19 .skip))) r7_17)) st := rfl
def lb7_11 : Code := (.seq (.seq r7_11 (.cond (.tmp 63) .skip (.exit 0))) (.seq (.block 1 (.seq r7_13 (.seq r7_14 (.seq r7_15 (.block 2 (.loop lb7_16)))))) r7_12))
@[simp] theorem u7_11 (n : Nat) (st : XS) : execA Try.prog ann kn n 116 lb7_11 st = execA Try.prog ann kn n 116 (.seq (.seq r7_11 (.cond (.tmp 63) .skip (.exit 0))) (.seq (.block 1 (.seq r7_13 (.seq r7_14 (.seq r7_15 (.block 2 (.loop lb7_16)))))) r7_12)) st := rfl
def c7 : Code := (.seq r7_0 (.seq (.seq r7_1 (.cond (.tmp 19) (.seq r7_2 .ret) .skip)) (.seq r7_3 (.seq r7_4 (.seq r7_5 (.seq r7_6 (.seq (.seq r7_7 (.cond (.tmp 44) (.seq r7_8 .ret) .skip)) (.seq r7_9 (.seq (.seq r7_10 (.block 0 (.loop lb7_11))) (.seq r7_20 .ret))))))))))
theorem b7 : Try.f7.body = some c7 := by kernel_rfl
@[simp] theorem x7_0 : RX 116 r7_0 (.str [⟨none, some 2, .box (.tmp 0)⟩, ⟨none, some 4, .mv (.const (.bool false))⟩]) (some ([0, 1], [2, 30, 37, 42])) := rx
@[simp] theorem x7_1 : RX 116 r7_1 (.str [⟨none, some 17, .ld 25 (.tmp 2)⟩, ⟨none, some 18, .call false none (.func 42) [.tmp 17]⟩, ⟨none, some 19, .oth (.unOp .not 4 (.tmp 18))⟩]) (some ([1, 2], [2, 30, 37, 42])) := rx
@[simp] theorem x7_2 : RX 116 r7_2 (.str [⟨none, some 20, .call false none (.func 20) []⟩, ⟨none, some 4, .mv (.tmp 20)⟩]) (some ([], [])) := rx
@[simp] theorem x7_3 : RX 116 r7_3 (.str [⟨none, some 21, .mv (.tmp 1)⟩, ⟨none, some 22, .oth (.convert 5 3 (.tmp 21))⟩, ⟨none, some 23, .fa 25 (.tmp 2) 3⟩, ⟨none, some 24, .ld 22 (.tmp 23)⟩, ⟨none, some 25, .oth (.call ⟨.builtin .len, #[.tmp 24], #[22]⟩)⟩, ⟨none, some 26, .bin .add 3 (.tmp 25) (.const (.int .i64 1))⟩, ⟨none, some 27, .bin .rem 3 (.tmp 22) (.tmp 26)⟩, ⟨none, some 5, .mv (.tmp 27)⟩]) (some ([1, 2], [2, 30, 37, 42])) := rx
@[simp] theorem x7_4 : RX 116 r7_4 (.str [⟨none, some 29, .ld 25 (.tmp 2)⟩, ⟨none, some 30, .call false none (.func 22) [.tmp 29]⟩, ⟨none, some 31, .mv (.tmp 5)⟩, ⟨none, some 32, .call false none (.func 28) [.tmp 30, .tmp 31]⟩, ⟨none, some 28, .mv (.tmp 32)⟩, ⟨none, some 33, .oth (.extract (.tmp 28) 0)⟩, ⟨none, some 34, .oth (.extract (.tmp 28) 1)⟩, ⟨none, some 6, .alloc 45⟩, ⟨none, none, .sto 45 (.tmp 6) (.tmp 33)⟩, ⟨none, some 7, .mv (.tmp 34)⟩]) (some ([2, 5], [2, 30, 37, 42])) := rx
@[simp] theorem x7_5 : RX 116 r7_5 (.str [⟨none, some 36, .ld 25 (.tmp 2)⟩, ⟨none, some 37, .call false none (.func 22) [.tmp 36]⟩, ⟨none, some 38, .call false none (.func 29) [.tmp 37]⟩, ⟨none, some 35, .mv (.tmp 38)⟩, ⟨none, some 39, .oth (.extract (.tmp 35) 0)⟩, ⟨none, some 40, .oth (.extract (.tmp 35) 1)⟩, ⟨none, some 8, .alloc 45⟩, ⟨none, none, .sto 45 (.tmp 8) (.tmp 39)⟩, ⟨none, some 9, .mv (.tmp 40)⟩]) (some ([2, 5, 6, 7], [2, 6, 30, 37, 42])) := rx
@[simp] theorem x7_6 : RX 116 r7_6 (.str [⟨none, some 41, .ld 25 (.tmp 2)⟩, ⟨none, some 42, .call false none (.func 43) [.tmp 41]⟩, ⟨none, some 10, .mv (.tmp 42)⟩]) (some ([2, 5, 6, 7, 8, 9], [2, 6, 8, 30, 37, 42])) := rx
@[simp] theorem x7_7 : RX 116 r7_7 (.str [⟨none, some 43, .mv (.tmp 7)⟩, ⟨none, some 44, .bin .neq 29 (.tmp 43) (.const (.int .i64 0))⟩]) (some ([2, 5, 6, 7, 8, 9, 10], [2, 6, 8, 30, 37, 42])) := rx
@[simp] theorem x7_8 : RX 116 r7_8 (.str [⟨none, some 45, .mv (.tmp 7)⟩, ⟨none, some 46, .bin .eql 29 (.tmp 45) (.const (.int .i64 11))⟩, ⟨none, some 47, .mv (.tmp 46)⟩, ⟨some (47, true), some 48, .mv (.tmp 9)⟩, ⟨some (47, true), some 49, .mv (.tmp 7)⟩, ⟨some (47, true), some 50, .bin .eql 29 (.tmp 48) (.tmp 49)⟩, ⟨none, some 51, .pick (.tmp 47) (.tmp 50) (.const (.bool false))⟩, ⟨none, some 52, .mv (.tmp 51)⟩, ⟨some (52, true), some 53, .mv (.tmp 10)⟩, ⟨some (52, true), some 54, .oth (.call ⟨.builtin .len, #[.tmp 53], #[37]⟩)⟩, ⟨some (52, true), some 55, .bin .eql 3 (.tmp 54) (.const (.int .i64 0))⟩, ⟨none, some 56, .pick (.tmp 52) (.tmp 55) (.const (.bool false))⟩, ⟨none, some 57, .mv (.tmp 56)⟩, ⟨some (57, true), some 58, .call false none (.func 20) []⟩, ⟨none, some 59, .pick (.tmp 57) (.tmp 58) (.const (.bool false))⟩, ⟨none, some 4, .mv (.tmp 59)⟩]) (some ([7, 9, 10], [2, 30, 37, 42])) := rx
@[simp] theorem x7_9 : RX 116 r7_9 (.str [⟨none, some 11, .mv (.const (.int .i64 0))⟩]) (some ([2, 5, 6, 8, 9, 10], [2, 6, 8, 30, 37, 42])) := rx
@[simp] theorem x7_10 : RX 116 r7_10 (.str [⟨none, some 12, .mv (.const (.int .i64 0))⟩]) (some ([2, 5, 6, 8, 9, 10, 11], [2, 6, 8, 30, 37, 42])) := rx
@[simp] theorem x7_11 : RX 116 r7_11 (.str [⟨none, some 60, .mv (.tmp 12)⟩, ⟨none, some 61, .mv (.tmp 10)⟩, ⟨none, some 62, .oth (.call ⟨.builtin .len, #[.tmp 61], #[37]⟩)⟩, ⟨none, some 63, .bin .lss 3 (.tmp 60) (.tmp 62)⟩]) (some ([2, 5, 6, 8, 9, 10, 11, 12], [2, 6, 8, 30, 37, 42])) := rx
@[simp] theorem x7_13 : RX 116 r7_13 (.drw [⟨[], [⟨none, some 66, .ld 25 (.tmp 2)⟩, ⟨none, some 67, .mv (.tmp 10)⟩, ⟨none, some 68, .mv (.tmp 12)⟩, ⟨none, some 69, .oth (.indexAddr 37 (.tmp 67) (.tmp 68))⟩, ⟨none, some 70, .ld 22 (.tmp 69)⟩, ⟨none, some 71, .mv (.tmp 5)⟩, ⟨none, some 72, .call false none (.func 44) [.tmp 66, .tmp 70, .tmp 71]⟩, ⟨none, some 73, .mv (.tmp 10)⟩, ⟨none, some 74, .mv (.tmp 12)⟩, ⟨none, some 75, .oth (.indexAddr 37 (.tmp 73) (.tmp 74))⟩, ⟨none, some 76, .ld 22 (.tmp 75)⟩], [⟨none, some 77, .call false none (.func 45) [.tmp 76]⟩]⟩, ⟨[], [⟨none, some 13, .mv (.tmp 72)⟩, ⟨none, some 14, .mv (.tmp 77)⟩], []⟩]) (some ([2, 5, 6, 8, 9, 10, 11, 12], [2, 6, 8, 30, 37, 42])) := rx
@[simp] theorem x7_14 : RX 116 r7_14 (.str [⟨none, some 78, .mv (.tmp 13)⟩, ⟨none, some 79, .fa 45 (.tmp 6) 0⟩, ⟨none, some 80, .ld 3 (.tmp 79)⟩, ⟨none, some 81, .bin .eql 3 (.tmp 78) (.tmp 80)⟩, ⟨none, some 82, .mv (.tmp 13)⟩, ⟨none, some 83, .fa 45 (.tmp 6) 1⟩, ⟨none, some 84, .ld 3 (.tmp 83)⟩, ⟨none, some 85, .bin .eql 3 (.tmp 82) (.tmp 84)⟩, ⟨none, some 86, .mv (.tmp 14)⟩, ⟨none, some 87, .fa 45 (.tmp 8) 0⟩, ⟨none, some 88, .ld 3 (.tmp 87)⟩, ⟨none, some 89, .bin .eql 3 (.tmp 86) (.tmp 88)⟩, ⟨none, some 90, .mv (.tmp 14)⟩, ⟨none, some 91, .fa 45 (.tmp 8) 1⟩, ⟨none, some 92, .ld 3 (.tmp 91)⟩, ⟨none, some 93, .bin .eql 3 (.tmp 90) (.tmp 92)⟩, ⟨none, some 94, .build 69 [(0, .tmp 81), (1, .tmp 85), (2, .tmp 89), (3, .tmp 93)]⟩, ⟨none, some 15, .alloc 69⟩, ⟨none, none, .sto 69 (.tmp 15) (.tmp 94)⟩]) (some ([2, 5, 6, 8, 9, 10, 11, 12, 13, 14], [2, 6, 8, 30, 37, 42])) := rx
@[simp] theorem x7_15 : RX 116 r7_15 (.str [⟨none, some 16, .mv (.const (.int .i64 0))⟩]) (some ([2, 5, 6, 8, 9, 10, 11, 12, 15], [2, 6, 8, 15, 30, 37, 42])) := rx
@[simp] theorem x7_16 : RX 116 r7_16 (.str [⟨none, some 95, .mv (.tmp 16)⟩, ⟨none, some 96, .bin .lss 3 (.tmp 95) (.const (.int .i64 4))⟩]) (some ([2, 5, 6, 8, 9, 10, 11, 12, 15, 16], [2, 6, 8, 15, 30, 37, 42])) := rx
@[simp] theorem x7_18 : RX 116 r7_18 (.str [⟨none, some 99, .mv (.tmp 16)⟩, ⟨none, some 100, .oth (.indexAddr 69 (.tmp 15) (.tmp 99))⟩, ⟨none, some 101, .ld 4 (.tmp 100)⟩]) (some ([2, 5, 6, 8, 9, 10, 11, 12, 15, 16], [2, 6, 8, 15, 30, 37, 42])) := rx
@[simp] theorem x7_19 : RX 116 r7_19 (.str [⟨none, some 102, .mv (.tmp 11)⟩, ⟨none, some 103, .mv (.tmp 16)⟩, ⟨none, some 104, .oth (.convert 3 70 (.tmp 103))⟩, ⟨none, some 105, .bin .shl 3 (.const (.int .i64 1)) (.tmp 104)⟩, ⟨none, some 106, .bin .or 3 (.tmp 102) (.tmp 105)⟩, ⟨none, some 11, .mv (.tmp 106)⟩]) (some ([2, 5, 6, 8, 9, 10, 11, 12, 15, 16], [2, 6, 8, 15, 30, 37, 42])) := rx
@[simp] theorem x7_17 : RX 116 r7_17 (.str [⟨none, some 97, .mv (.tmp 16)⟩, ⟨none, some 98, .bin .add 3 (.tmp 97) (.const (.int .i64 1))⟩, ⟨none, some 16, .mv (.tmp 98)⟩]) (some ([2, 5, 6, 8, 9, 10, 11, 12, 15, 16], [2, 6, 8, 15, 30, 37, 42])) := rx
@[simp] theorem x7_12 : RX 116 r7_12 (.str [⟨none, some 64, .mv (.tmp 12)⟩, ⟨none, some 65, .bin .add 3 (.tmp 64) (.const (.int .i64 1))⟩, ⟨none, some 12, .mv (.tmp 65)⟩]) (some ([2, 5, 6, 8, 9, 10, 11, 12], [2, 6, 8, 30, 37, 42])) := rx
@[simp] theorem x7_20 : RX 116 r7_20 (.str [⟨none, some 107, .mv (.tmp 9)⟩, ⟨none, some 108, .bin .eql 29 (.tmp 107) (.const (.int .i64 0))⟩, ⟨none, some 109, .mv (.tmp 108)⟩, ⟨some (109, true), some 110, .mv (.tmp 11)⟩, ⟨some (109, true), some 111, .bin .eql 3 (.tmp 110) (.const (.int .i64 15))⟩, ⟨none, some 112, .pick (.tmp 109) (.tmp 111) (.const (.bool false))⟩, ⟨none, some 113, .mv (.tmp 112)⟩, ⟨some (113, true), some 114, .call false none (.func 20) []⟩, ⟨none, some 115, .pick (.tmp 113) (.tmp 114) (.const (.bool false))⟩, ⟨none, some 4, .mv (.tmp 115)⟩]) (some ([9, 11], [])) := rx
@[simp] theorem l7_11 : ann 116 (fstR lb7_11) = some ([2, 5, 6, 8, 9, 10, 11, 12], [2, 6, 8, 30, 37, 42]) := by kernel_rfl
@[simp] theorem l7_16 : ann 116 (fstR lb7_16) = some ([2, 5, 6, 8, 9, 10, 11, 12, 15, 16], [2, 6, 8, 15, 30, 37, 42]) := by kernel_rfl
def r42_0 := rg Try.f42 2
def r42_1 := rg Try.f42 5
def c42 : Code := (.seq r42_0 (.seq r42_1 .ret))
theorem b42 : Try.f42.body = some c42 := by kernel_rfl
@[simp] theorem x42_0 : RX 10 r42_0 (.str [⟨none, some 1, .box (.tmp 0)⟩, ⟨none, some 2, .mv (.const (.bool false))⟩]) (some ([0], [1, 4, 6])) := rx
@[simp] theorem x42_1 : RX 10 r42_1 (.str [⟨none, some 3, .ld 25 (.tmp 1)⟩, ⟨none, some 4, .call false none (.func 19) [.tmp 3]⟩, ⟨none, some 5, .mv (.tmp 4)⟩, ⟨some (5, true), some 6, .ld 25 (.tmp 1)⟩, ⟨some (5, true), some 7, .call false none (.func 67) [.tmp 6]⟩, ⟨some (5, true), some 8, .bin .eql 3 (.tmp 7) (.const (.int .i64 0))⟩, ⟨none, some 9, .pick (.tmp 5) (.tmp 8) (.const (.bool false))⟩, ⟨none, some 2, .mv (.tmp 9)⟩]) (some ([1], [1])) := rx
def r50_0 := rg Try.f50 2
def r50_1 := rg Try.f50 5
def r50_2 := rg Try.f50 19
def r50_3 := rg Try.f50 267
def r50_5 := rg Try.f50 1099
def r50_6 := rg Try.f50 2635
def r50_4 := rg Try.f50 459
def r50_7 := rg Try.f50 23
def lb50_3 : Code := (.seq (.seq r50_3 (.cond (.tmp 9) .skip (.exit 0))) (.seq (.block 1 (.seq r50_5 (.cond (.tmp 17) r50_6 .skip))) r50_4))
@[simp] theorem u50_3 (n : Nat) (st : XS) : execA Try.prog ann kn n 23 lb50_3 st = execA Try.prog ann kn n 23 (.seq (.seq r50_3 (.cond (.tmp 9) .skip (.exit 0))) (.seq (.block 1 (.seq r50_5 (.cond (.tmp 17) r50_6 .skip))) r50_4)) st := rfl
def c50 : Code := (.seq r50_0 (.seq r50_1 (.seq (.seq r50_2 (.block 0 (.loop lb50_3))) (.seq r50_7 .ret))))
theorem b50 : Try.f50.body = some c50 := by kernel_rfl
@[simp] theorem x50_0 : RX 23 r50_0 (.str [⟨none, some 2, .mv (.const (.slice none 0 0))⟩]) (some ([0], [])) := rx
@[simp] theorem x50_1 : RX 23 r50_1 (.str [⟨none, some 3, .mv (.const (.slice none 0 0))⟩]) (some ([0], [])) := rx
@[simp] theorem x50_2 : RX 23 r50_2 (.str [⟨none, some 4, .mv (.const (.int .i64 0))⟩]) (some ([0, 3], [21])) := rx
@[simp] theorem x50_3 : RX 23 r50_3 (.str [⟨none, some 5, .mv (.tmp 0)⟩, ⟨none, some 6, .mv (.tmp 4)⟩, ⟨none, some 7, .oth (.convert 3 70 (.tmp 6))⟩, ⟨none, some 8, .bin .shr 3 (.tmp 5) (.tmp 7)⟩, ⟨none, some 9, .bin .gtr 3 (.tmp 8) (.const (.int .i64 0))⟩]) (some ([0, 3, 4], [21])) := rx
@[simp] theorem x50_5 : RX 23 r50_5 (.str [⟨none, some 12, .mv (.tmp 0)⟩, ⟨none, some 13, .mv (.tmp 4)⟩, ⟨none, some 14, .oth (.convert 3 70 (.tmp 13))⟩, ⟨none, some 15, .bin .shr 3 (.tmp 12) (.tmp 14)⟩, ⟨none, some 16, .bin .rem 3 (.tmp 15) (.const (.int .i64 2))⟩, ⟨none, some 17, .bin .eql 3 (.tmp 16) (.const (.int .i64 1))⟩]) (some ([0, 3, 4], [21])) := rx
@[simp] theorem x50_6 : RX 23 r50_6 (.str [⟨none, some 18, .mv (.tmp 3)⟩, ⟨none, some 19, .mv (.tmp 4)⟩, ⟨none, some 20, .buildS 28 1 [(0, .tmp 19)]⟩, ⟨none, some 21, .app [.tmp 18, .tmp 20] [28, 28]⟩, ⟨none, some 3, .mv (.tmp 21)⟩]) (some ([0, 3, 4], [21])) := rx
@[simp] theorem x50_4 : RX 23 r50_4 (.str [⟨none, some 10, .mv (.tmp 4)⟩, ⟨none, some 11, .bin .add 3 (.tmp 10) (.const (.int .i64 1))⟩, ⟨none, some 4, .mv (.tmp 11)⟩]) (some ([0, 3, 4], [21])) := rx
@[simp] theorem x50_7 : RX 23 r50_7 (.str [⟨none, some 22, .mv (.tmp 3)⟩, ⟨none, some 2, .mv (.tmp 22)⟩]) (some ([3, 4], [21])) := rx
@[simp] theorem l50_3 : ann 23 (fstR lb50_3) = some ([0, 3, 4], [21]) := by kernel_rfl
def r47_0 := rg Try.f47 2
def r47_1 := rg Try.f47 5
def r47_2 := rg Try.f47 11
def r47_3 := rg Try.f47 39
def r47_4 := rg Try.f47 535
def r47_6 := rg Try.f47 2199
def r47_7 := rg Try.f47 5271
def r47_5 := rg Try.f47 919
def r47_8 := rg Try.f47 79
def r47_9 := rg Try.f47 1071
def r47_11 := rg Try.f47 4399
def r47_12 := rg Try.f47 10543
def r47_13 := rg Try.f47 14639
def r47_10 := rg Try.f47 1839
def r47_14 := rg Try.f47 95
def lb47_4 : Code := (.seq (.seq r47_4 (.cond (.tmp 16) .skip (.exit 0))) (.seq (.block 1 (.seq r47_6 (.cond (.tmp 24) r47_7 .skip))) r47_5))
@[simp] theorem u47_4 (n : Nat) (st : XS) : execA Try.prog ann kn n 64 lb47_4 st = execA Try.prog ann kn n 64 (.seq (.seq r47_4 (.cond (.tmp 16) .skip (.exit 0))) (.seq (.block 1 (.seq r47_6 (.cond (.tmp 24) r47_7 .skip))) r47_5)) st := rfl
def lb47_9 : Code := (.seq (.seq r47_9 (.cond (.tmp 39) .skip (.exit 2))) (.seq (.block 3 (.seq r47_11 (.seq r47_12 r47_13))) r47_10))
@[simp] theorem u47_9 (n : Nat) (st : XS) : execA Try.prog ann kn n 64 lb47_9 st = execA Try.prog ann kn n 64 (.seq (.seq r47_9 (.cond (.tmp 39) .skip (.exit 2))) (.seq (.block 3 (.seq r47_11 (.seq r47_12 r47_13))) r47_10)) st := rfl
def c47 : Code := (.seq r47_0 (.seq r47_1 (.seq r47_2 (.seq (.seq r47_3 (.block 0 (.loop lb47_4))) (.seq (.seq r47_8 (.block 2 (.loop lb47_9))) (.seq r47_14 .ret))))))
theorem b47 : Try.f47.body = some c47 := by kernel_rfl
@[simp] theorem x47_0 : RX 64 r47_0 (.str [⟨none, some 2, .box (.tmp 0)⟩, ⟨none, some 4, .alloc 25⟩]) (some ([0, 1], [2, 4, 5, 15, 17, 22, 33, 57, 58, 61])) := rx
@[simp] theorem x47_1 : RX 64 r47_1 (.str [⟨none, some 9, .ld 25 (.tmp 2)⟩, ⟨none, some 5, .alloc 25⟩, ⟨none, none, .sto 25 (.tmp 5) (.tmp 9)⟩]) (some ([1, 2, 4], [2, 4, 5, 15, 17, 22, 33, 57, 58, 61])) := rx
@[simp] theorem x47_2 : RX 64 r47_2 (.str [⟨none, some 10, .fa 25 (.tmp 5) 3⟩, ⟨none, none, .sto 22 (.tmp 10) (.const (.slice none 0 0))⟩, ⟨none, some 11, .fa 25 (.tmp 5) 4⟩, ⟨none, none, .sto 23 (.tmp 11) (.const (.slice none 0 0))⟩]) (some ([1, 2, 4, 5], [2, 4, 5, 33, 61])) := rx
@[simp] theorem x47_3 : RX 64 r47_3 (.str [⟨none, some 6, .mv (.const (.int .i64 0))⟩]) (some ([1, 2, 4, 5], [2, 4, 5, 33, 61])) := rx
@[simp] theorem x47_4 : RX 64 r47_4 (.str [⟨none, some 12, .mv (.tmp 6)⟩, ⟨none, some 13, .fa 25 (.tmp 2) 3⟩, ⟨none, some 14, .ld 22 (.tmp 13)⟩, ⟨none, some 15, .oth (.call ⟨.builtin .len, #[.tmp 14], #[22]⟩)⟩, ⟨none, some 16, .bin .lss 3 (.tmp 12) (.tmp 15)⟩]) (some ([1, 2, 4, 5, 6], [2, 4, 5, 33, 61])) := rx
@[simp] theorem x47_6 : RX 64 r47_6 (.str [⟨none, some 19, .mv (.tmp 1)⟩, ⟨none, some 20, .mv (.tmp 6)⟩, ⟨none, some 21, .oth (.convert 3 70 (.tmp 20))⟩, ⟨none, some 22, .bin .shr 3 (.tmp 19) (.tmp 21)⟩, ⟨none, some 23, .bin .rem 3 (.tmp 22) (.const (.int .i64 2))⟩, ⟨none, some 24, .bin .eql 3 (.tmp 23) (.const (.int .i64 1))⟩]) (some ([1, 2, 4, 5, 6], [2, 4, 5, 33, 61])) := rx
@[simp] theorem x47_7 : RX 64 r47_7 (.drw [⟨[], [⟨none, some 25, .fa 25 (.tmp 5) 3⟩, ⟨none, some 26, .ld 22 (.tmp 25)⟩, ⟨none, some 27, .fa 25 (.tmp 2) 3⟩, ⟨none, some 28, .ld 22 (.tmp 27)⟩, ⟨none, some 29, .mv (.tmp 6)⟩, ⟨none, some 30, .oth (.indexAddr 22 (.tmp 28) (.tmp 29))⟩, ⟨none, some 31, .ld 75 (.tmp 30)⟩, ⟨none, some 32, .buildS 22 1 [(0, .tmp 31)]⟩, ⟨none, some 33, .app [.tmp 26, .tmp 32] [22, 22]⟩, ⟨none, some 34, .fa 25 (.tmp 5) 3⟩], [⟨none, none, .sto 22 (.tmp 34) (.tmp 33)⟩]⟩]) (some ([1, 2, 4, 5, 6], [2, 4, 5, 33, 61])) := rx
@[simp] theorem x47_5 : RX 64 r47_5 (.str [⟨none, some 17, .mv (.tmp 6)⟩, ⟨none, some 18, .bin .add 3 (.tmp 17) (.const (.int .i64 1))⟩, ⟨none, some 6, .mv (.tmp 18)⟩]) (some ([1, 2, 4, 5, 6], [2, 4, 5, 33, 61])) := rx
@[simp] theorem x47_8 : RX 64 r47_8 (.str [⟨none, some 7, .mv (.const (.int .i64 0))⟩]) (some ([1, 2, 4, 5], [2, 4, 5, 33, 61])) := rx
@[simp] theorem x47_9 : RX 64 r47_9 (.str [⟨none, some 35, .mv (.tmp 7)⟩, ⟨none, some 36, .fa 25 (.tmp 2) 4⟩, ⟨none, some 37, .ld 23 (.tmp 36)⟩, ⟨none, some 38, .oth (.call ⟨.builtin .len, #[.tmp 37], #[23]⟩)⟩, ⟨none, some 39, .bin .lss 3 (.tmp 35) (.tmp 38)⟩]) (some ([1, 2, 4, 5, 7], [2, 4, 5, 33, 61])) := rx
@[simp] theorem x47_11 : RX 64 r47_11 (.str [⟨none, some 42, .fa 25 (.tmp 2) 4⟩, ⟨none, some 43, .ld 23 (.tmp 42)⟩, ⟨none, some 44, .mv (.tmp 7)⟩, ⟨none, some 45, .oth (.indexAddr 23 (.tmp 43) (.tmp 44))⟩, ⟨none, some 46, .ld 78 (.tmp 45)⟩, ⟨none, some 8, .alloc 78⟩, ⟨none, none, .sto 78 (.tmp 8) (.tmp 46)⟩]) (some ([1, 2, 4, 5, 7], [2, 4, 5, 33, 61])) := rx
@[simp] theorem x47_12 : RX 64 r47_12 (.str [⟨none, some 47, .mv (.tmp 1)⟩, ⟨none, some 48, .fa 78 (.tmp 8) 0⟩, ⟨none, some 49, .ld 3 (.tmp 48)⟩, ⟨none, some 50, .oth (.convert 3 70 (.tmp 49))⟩, ⟨none, some 51, .bin .shl 3 (.const (.int .i64 1)) (.tmp 50)⟩, ⟨none, some 52, .bin .sub 3 (.tmp 51) (.const (.int .i64 1))⟩, ⟨none, some 53, .bin .and 3 (.tmp 47) (.tmp 52)⟩, ⟨none, some 54, .call false none (.func 50) [.tmp 53]⟩, ⟨none, some 55, .oth (.call ⟨.builtin .len, #[.tmp 54], #[28]⟩)⟩, ⟨none, some 56, .fa 78 (.tmp 8) 0⟩, ⟨none, none, .sto 3 (.tmp 56) (.tmp 55)⟩]) (some ([1, 2, 4, 5, 7, 8], [2, 4, 5, 8, 33, 61])) := rx
@[simp] theorem x47_13 : RX 64 r47_13 (.str [⟨none, some 57, .fa 25 (.tmp 5) 4⟩, ⟨none, some 58, .ld 23 (.tmp 57)⟩, ⟨none, some 59, .ld 78 (.tmp 8)⟩, ⟨none, some 60, .buildS 23 1 [(0, .tmp 59)]⟩, ⟨none, some 61, .app [.tmp 58, .tmp 60] [23, 23]⟩, ⟨none, some 62, .fa 25 (.tmp 5) 4⟩, ⟨none, none, .sto 23 (.tmp 62) (.tmp 61)⟩]) (some ([1, 2, 4, 5, 7, 8], [2, 4, 5, 8, 33, 61])) := rx
@[simp] theorem x47_10 : RX 64 r47_10 (.str [⟨none, some 40, .mv (.tmp 7)⟩, ⟨none, some 41, .bin .add 3 (.tmp 40) (.const (.int .i64 1))⟩, ⟨none, some 7, .mv (.tmp 41)⟩]) (some ([1, 2, 4, 5, 7], [2, 4, 5, 33, 61])) := rx
@[simp] theorem x47_14 : RX 64 r47_14 (.str [⟨none, some 63, .ld 25 (.tmp 5)⟩, ⟨none, none, .sto 25 (.tmp 4) (.tmp 63)⟩]) (some ([4, 5], [2, 4, 5, 33, 61])) := rx
@[simp] theorem l47_4 : ann 64 (fstR lb47_4) = some ([1, 2, 4, 5, 6], [2, 4, 5, 33, 61]) := by kernel_rfl
@[simp] theorem l47_9 : ann 64 (fstR lb47_9) = some ([1, 2, 4, 5, 7], [2, 4, 5, 33, 61]) := by kernel_rfl
def r48_0 := rg Try.f48 2
def r48_1 := rg Try.f48 5
def c48 : Code := (.seq r48_0 (.seq r48_1 .ret))
theorem b48 : Try.f48.body = some c48 := by kernel_rfl
@[simp] theorem x48_0 : RX 9 r48_0 (.str [⟨none, some 1, .box (.tmp 0)⟩, ⟨none, some 2, .mv (.const (.int .i64 0))⟩]) (some ([0], [1])) := rx
@[simp] theorem x48_1 : RX 9 r48_1 (.str [⟨none, some 3, .fa 25 (.tmp 1) 3⟩, ⟨none, some 4, .ld 22 (.tmp 3)⟩, ⟨none, some 5, .oth (.call ⟨.builtin .len, #[.tmp 4], #[22]⟩)⟩, ⟨none, some 6, .oth (.convert 3 70 (.tmp 5))⟩, ⟨none, some 7, .bin .shl 3 (.const (.int .i64 1)) (.tmp 6)⟩, ⟨none, some 8, .bin .sub 3 (.tmp 7) (.const (.int .i64 1))⟩, ⟨none, some 2, .mv (.tmp 8)⟩]) (some ([1], [1])) := rx
def r88_0 := rg Try.f88 2
def r88_1 := rg Try.f88 9
def r88_2 := rg Try.f88 133
def r88_4 := rg Try.f88 549
def r88_5 := rg Try.f88 1317
def r88_6 := rg Try.f88 4901
def r88_3 := rg Try.f88 229
def r88_7 := rg Try.f88 11
def lb88_2 : Code := (.seq (.seq r88_2 (.cond (.tmp 8) .skip (.exit 0))) (.seq (.block 1 (.seq r88_4 (.seq r88_5 (.cond (.tmp 20) (.seq r88_6 .ret) .skip)))) r88_3))
@[simp] theorem u88_2 (n : Nat) (st : XS) : execA Try.prog ann kn n 21 lb88_2 st = execA Try.prog ann kn n 21 (.seq (.seq r88_2 (.cond (.tmp 8) .skip (.exit 0))) (.seq (.block 1 (.seq r88_4 (.seq r88_5 (.cond (.tmp 20) (.seq r88_6 .ret) .skip)))) r88_3)) st := rfl
def c88 : Code := (.seq r88_0 (.seq (.seq r88_1 (.block 0 (.loop lb88_2))) (.seq r88_7 .ret)))
theorem b88 : Try.f88.body = some c88 := by kernel_rfl
@[simp] theorem x88_0 : RX 21 r88_0 (.str [⟨none, some 1, .box (.tmp 0)⟩, ⟨none, some 2, .mv (.const (.bool false))⟩]) (some ([0], [1, 13])) := rx
@[simp] theorem x88_1 : RX 21 r88_1 (.str [⟨none, some 3, .mv (.const (.int .i64 0))⟩]) (some ([1], [1, 13])) := rx
@[simp] theorem x88_2 : RX 21 r88_2 (.str [⟨none, some 5, .mv (.tmp 3)⟩, ⟨none, some 6, .ld 25 (.tmp 1)⟩, ⟨none, some 7, .call false none (.func 52) [.tmp 6]⟩, ⟨none, some 8, .bin .lss 3 (.tmp 5) (.tmp 7)⟩]) (some ([1, 3], [1, 13])) := rx
@[simp] theorem x88_4 : RX 21 r88_4 (.str [⟨none, some 11, .ld 25 (.tmp 1)⟩, ⟨none, some 12, .mv (.tmp 3)⟩, ⟨none, some 13, .call false none (.func 51) [.tmp 11, .tmp 12]⟩, ⟨none, some 4, .mv (.tmp 13)⟩]) (some ([1, 3], [1, 13])) := rx
@[simp] theorem x88_5 : RX 21 r88_5 (.str [⟨none, some 14, .mv (.tmp 4)⟩, ⟨none, some 15, .call false none (.func 58) [.tmp 14]⟩, ⟨none, some 16, .mv (.tmp 15)⟩, ⟨some (16, true), some 17, .ld 25 (.tmp 1)⟩, ⟨some (16, true), some 18, .mv (.tmp 4)⟩, ⟨some (16, true), some 19, .call false none (.func 89) [.tmp 17, .tmp 18]⟩, ⟨none, some 20, .pick (.tmp 16) (.tmp 19) (.const (.bool false))⟩]) (some ([1, 3, 4], [1, 13])) := rx
@[simp] theorem x88_6 : RX 21 r88_6 (.str [⟨none, some 2, .mv (.const (.bool true))⟩]) (some ([], [])) := rx
@[simp] theorem x88_3 : RX 21 r88_3 (.str [⟨none, some 9, .mv (.tmp 3)⟩, ⟨none, some 10, .bin .add 3 (.tmp 9) (.const (.int .i64 1))⟩, ⟨none, some 3, .mv (.tmp 10)⟩]) (some ([1, 3], [1, 13])) := rx
@[simp] theorem x88_7 : RX 21 r88_7 (.str [⟨none, some 2, .mv (.const (.bool false))⟩]) (some ([], [])) := rx
@[simp] theorem l88_2 : ann 21 (fstR lb88_2) = some ([1, 3], [1, 13]) := by kernel_rfl
def r41_0 := rg Try.f41 2
def r41_1 := rg Try.f41 5
def r41_2 := rg Try.f41 11
def r41_3 := rg Try.f41 39
def r41_4 := rg Try.f41 535
def r41_6 := rg Try.f41 2199
def r41_7 := rg Try.f41 9367
def r41_5 := rg Try.f41 919
def r41_8 := rg Try.f41 47
def lb41_4 : Code := (.seq (.seq r41_4 (.cond (.tmp 11) .skip (.exit 0))) (.seq (.block 1 (.seq r41_6 (.cond (.tmp 21) (.seq r41_7 .ret) .skip))) r41_5))
@[simp] theorem u41_4 (n : Nat) (st : XS) : execA Try.prog ann kn n 23 lb41_4 st = execA Try.prog ann kn n 23 (.seq (.seq r41_4 (.cond (.tmp 11) .skip (.exit 0))) (.seq (.block 1 (.seq r41_6 (.cond (.tmp 21) (.seq r41_7 .ret) .skip))) r41_5)) st := rfl
def c41 : Code := (.seq r41_0 (.seq r41_1 (.seq r41_2 (.seq (.seq r41_3 (.block 0 (.loop lb41_4))) (.seq r41_8 .ret)))))
theorem b41 : Try.f41.body = some c41 := by kernel_rfl
@[simp] theorem x41_0 : RX 23 r41_0 (.str [⟨none, some 1, .box (.tmp 0)⟩, ⟨none, some 2, .mv (.const (.int .i64 0))⟩]) (some ([0], [1, 3, 19])) := rx
@[simp] theorem x41_1 : RX 23 r41_1 (.str [⟨none, some 5, .ld 25 (.tmp 1)⟩, ⟨none, some 3, .alloc 25⟩, ⟨none, none, .sto 25 (.tmp 3) (.tmp 5)⟩]) (some ([1], [1, 3, 19])) := rx
@[simp] theorem x41_2 : RX 23 r41_2 (.str [⟨none, some 6, .fa 25 (.tmp 3) 4⟩, ⟨none, none, .sto 23 (.tmp 6) (.const (.slice none 0 0))⟩]) (some ([1, 3], [1, 3, 19])) := rx
@[simp] theorem x41_3 : RX 23 r41_3 (.str [⟨none, some 4, .mv (.const (.int .i64 0))⟩]) (some ([1, 3], [1, 3, 19])) := rx
@[simp] theorem x41_4 : RX 23 r41_4 (.str [⟨none, some 7, .mv (.tmp 4)⟩, ⟨none, some 8, .fa 25 (.tmp 1) 3⟩, ⟨none, some 9, .ld 22 (.tmp 8)⟩, ⟨none, some 10, .oth (.call ⟨.builtin .len, #[.tmp 9], #[22]⟩)⟩, ⟨none, some 11, .bin .lss 3 (.tmp 7) (.tmp 10)⟩]) (some ([1, 3, 4], [1, 3, 19])) := rx
@[simp] theorem x41_6 : RX 23 r41_6 (.str [⟨none, some 14, .ld 25 (.tmp 3)⟩, ⟨none, some 15, .mv (.tmp 4)⟩, ⟨none, some 16, .oth (.convert 3 70 (.tmp 15))⟩, ⟨none, some 17, .bin .shl 3 (.const (.int .i64 2)) (.tmp 16)⟩, ⟨none, some 18, .bin .sub 3 (.tmp 17) (.const (.int .i64 1))⟩, ⟨none, some 19, .call false none (.func 47) [.tmp 14, .tmp 18]⟩, ⟨none, some 20, .call false none (.func 88) [.tmp 19]⟩, ⟨none, some 21, .oth (.unOp .not 4 (.tmp 20))⟩]) (some ([1, 3, 4], [1, 3, 19])) := rx
@[simp] theorem x41_7 : RX 23 r41_7 (.str [⟨none, some 22, .mv (.tmp 4)⟩, ⟨none, some 2, .mv (.tmp 22)⟩]) (some ([3, 4], [21])) := rx
@[simp] theorem x41_5 : RX 23 r41_5 (.str [⟨none, some 12, .mv (.tmp 4)⟩, ⟨none, some 13, .bin .add 3 (.tmp 12) (.const (.int .i64 1))⟩, ⟨none, some 4, .mv (.tmp 13)⟩]) (some ([1, 3, 4], [1, 3, 19])) := rx
@[simp] theorem x41_8 : RX 23 r41_8 (.str [⟨none, some 2, .mv (.const (.int .i64 (Int.negSucc 0)))⟩]) (some ([], [])) := rx
@[simp] theorem l41_4 : ann 23 (fstR lb41_4) = some ([1, 3, 4], [1, 3, 19]) := by kernel_rfl
def r91_0 := rg Try.f91 2
def r91_1 := rg Try.f91 9
def r91_2 := rg Try.f91 133
def r91_4 := rg Try.f91 549
def r91_5 := rg Try.f91 2341
def r91_3 := rg Try.f91 229
def r91_6 := rg Try.f91 11
def lb91_2 : Code := (.seq (.seq r91_2 (.cond (.tmp 15) .skip (.exit 0))) (.seq (.block 1 (.seq r91_4 (.cond (.tmp 26) (.seq r91_5 .ret) .skip))) r91_3))
@[simp] theorem u91_2 (n : Nat) (st : XS) : execA Try.prog ann kn n 41 lb91_2 st = execA Try.prog ann kn n 41 (.seq (.seq r91_2 (.cond (.tmp 15) .skip (.exit 0))) (.seq (.block 1 (.seq r91_4 (.cond (.tmp 26) (.seq r91_5 .ret) .skip))) r91_3)) st := rfl
def c91 : Code := (.seq r91_0 (.seq (.seq r91_1 (.block 0 (.loop lb91_2))) (.seq r91_6 .ret)))
theorem b91 : Try.f91.body = some c91 := by kernel_rfl
@[simp] theorem x91_0 : RX 41 r91_0 (.str [⟨none, some 4, .mv (.const (.bool false))⟩]) (some ([0, 1], [])) := rx
@[simp] theorem x91_1 : RX 41 r91_1 (.str [⟨none, some 5, .mv (.const (.int .i64 0))⟩]) (some ([0, 1], [])) := rx
@[simp] theorem x91_2 : RX 41 r91_2 (.str [⟨none, some 6, .mv (.tmp 5)⟩, ⟨none, some 7, .mv (.tmp 0)⟩, ⟨none, some 8, .oth (.call ⟨.builtin .len, #[.tmp 7], #[28]⟩)⟩, ⟨none, some 9, .bin .lss 3 (.tmp 6) (.tmp 8)⟩, ⟨none, some 10, .mv (.tmp 9)⟩, ⟨some (10, true), some 11, .mv (.tmp 5)⟩, ⟨some (10, true), some 12, .mv (.tmp 1)⟩, ⟨some (10, true), some 13, .oth (.call ⟨.builtin .len, #[.tmp 12], #[28]⟩)⟩, ⟨some (10, true), some 14, .bin .lss 3 (.tmp 11) (.tmp 13)⟩, ⟨none, some 15, .pick (.tmp 10) (.tmp 14) (.const (.bool false))⟩]) (some ([0, 1, 5], [])) := rx
@[simp] theorem x91_4 : RX 41 r91_4 (.drw [⟨[], [⟨none, some 18, .mv (.tmp 0)⟩, ⟨none, some 19, .mv (.tmp 5)⟩, ⟨none, some 20, .oth (.indexAddr 28 (.tmp 18) (.tmp 19))⟩, ⟨none, some 21, .ld 3 (.tmp 20)⟩, ⟨none, some 22, .mv (.tmp 1)⟩, ⟨none, some 23, .mv (.tmp 5)⟩, ⟨none, some 24, .oth (.indexAddr 28 (.tmp 22) (.tmp 23))⟩, ⟨none, some 25, .ld 3 (.tmp 24)⟩, ⟨none, some 26, .bin .neq 3 (.tmp 21) (.tmp 25)⟩], []⟩]) (some ([0, 1, 5], [])) := rx
@[simp] theorem x91_5 : RX 41 r91_5 (.drw [⟨[], [⟨none, some 27, .mv (.tmp 0)⟩, ⟨none, some 28, .mv (.tmp 5)⟩, ⟨none, some 29, .oth (.indexAddr 28 (.tmp 27) (.tmp 28))⟩, ⟨none, some 30, .ld 3 (.tmp 29)⟩, ⟨none, some 31, .mv (.tmp 1)⟩, ⟨none, some 32, .mv (.tmp 5)⟩, ⟨none, some 33, .oth (.indexAddr 28 (.tmp 31) (.tmp 32))⟩, ⟨none, some 34, .ld 3 (.tmp 33)⟩, ⟨none, some 35, .bin .lss 3 (.tmp 30) (.tmp 34)⟩, ⟨none, some 4, .mv (.tmp 35)⟩], []⟩]) (some ([0, 1, 5], [])) := rx
@[simp] theorem x91_3 : RX 41 r91_3 (.str [⟨none, some 16, .mv (.tmp 5)⟩, ⟨none, some 17, .bin .add 3 (.tmp 16) (.const (.int .i64 1))⟩, ⟨none, some 5, .mv (.tmp 17)⟩]) (some ([0, 1, 5], [])) := rx
@[simp] theorem x91_6 : RX 41 r91_6 (.str [⟨none, some 36, .mv (.tmp 0)⟩, ⟨none, some 37, .oth (.call ⟨.builtin .len, #[.tmp 36], #[28]⟩)⟩, ⟨none, some 38, .mv (.tmp 1)⟩, ⟨none, some 39, .oth (.call ⟨.builtin .len, #[.tmp 38], #[28]⟩)⟩, ⟨none, some 40, .bin .lss 3 (.tmp 37) (.tmp 39)⟩, ⟨none, some 4, .mv (.tmp 40)⟩]) (some ([0, 1], [])) := rx
@[simp] theorem l91_2 : ann 41 (fstR lb91_2) = some ([0, 1, 5], []) := by kernel_rfl
def r49_0 := rg Try.f49 2
def r49_1 := rg Try.f49 5
def c49 : Code := (.seq r49_0 (.seq r49_1 .ret))
theorem b49 : Try.f49.body = some c49 := by kernel_rfl
@[simp] theorem x49_0 : RX 22 r49_0 (.str [⟨none, some 4, .mv (.const (.bool false))⟩]) (some ([0, 1], [])) := rx
@[simp] theorem x49_1 : RX 22 r49_1 (.str [⟨none, some 5, .mv (.tmp 0)⟩, ⟨none, some 6, .oth (.call ⟨.builtin .len, #[.tmp 5], #[28]⟩)⟩, ⟨none, some 7, .mv (.tmp 1)⟩, ⟨none, some 8, .oth (.call ⟨.builtin .len, #[.tmp 7], #[28]⟩)⟩, ⟨none, some 9, .bin .lss 3 (.tmp 6) (.tmp 8)⟩, ⟨none, some 10, .mv (.tmp 9)⟩, ⟨some (10, false), some 11, .mv (.tmp 0)⟩, ⟨some (10, false), some 12, .oth (.call ⟨.builtin .len, #[.tmp 11], #[28]⟩)⟩, ⟨some (10, false), some 13, .mv (.tmp 1)⟩, ⟨some (10, false), some 14, .oth (.call ⟨.builtin .len, #[.tmp 13], #[28]⟩)⟩, ⟨some (10, false), some 15, .bin .eql 3 (.tmp 12) (.tmp 14)⟩, ⟨some (10, false), some 16, .mv (.tmp 15)⟩, ⟨some (16, true), some 17, .mv (.tmp 0)⟩, ⟨some (16, true), some 18, .mv (.tmp 1)⟩, ⟨some (16, true), some 19, .call false none (.func 91) [.tmp 17, .tmp 18]⟩, ⟨some (10, false), some 20, .pick (.tmp 16) (.tmp 19) (.const (.bool false))⟩, ⟨none, some 21, .pick (.tmp 10) (.const (.bool true)) (.tmp 20)⟩, ⟨none, some 4, .mv (.tmp 21)⟩]) (some ([0, 1], [])) := rx
def r39_0 := rg Try.f39 2
def r39_1 := rg Try.f39 5
def r39_2 := rg Try.f39 11
def r39_3 := rg Try.f39 39
def r39_4 := rg Try.f39 535
def r39_6 := rg Try.f39 2199
def r39_7 := rg Try.f39 5271
def r39_8 := rg Try.f39 11415
def r39_5 := rg Try.f39 919
def r39_9 := rg Try.f39 47
def lb39_4 : Code := (.seq (.seq r39_4 (.cond (.tmp 11) .skip (.exit 0))) (.seq (.block 1 (.seq r39_6 (.seq r39_7 (.cond (.tmp 31) r39_8 .skip)))) r39_5))
@[simp] theorem u39_4 (n : Nat) (st : XS) : execA Try.prog ann kn n 35 lb39_4 st = execA Try.prog ann kn n 35 (.seq (.seq r39_4 (.cond (.tmp 11) .skip (.exit 0))) (.seq (.block 1 (.seq r39_6 (.seq r39_7 (.cond (.tmp 31) r39_8 .skip)))) r39_5)) st := rfl
def c39 : Code := (.seq r39_0 (.seq r39_1 (.seq r39_2 (.seq (.seq r39_3 (.block 0 (.loop lb39_4))) (.seq r39_9 .ret)))))
theorem b39 : Try.f39.body = some c39 := by kernel_rfl
@[simp] theorem x39_0 : RX 35 r39_0 (.str [⟨none, some 1, .box (.tmp 0)⟩, ⟨none, some 2, .mv (.const (.slice none 0 0))⟩, ⟨none, some 3, .mv (.const (.bool false))⟩]) (some ([0], [1, 29])) := rx
@[simp] theorem x39_1 : RX 35 r39_1 (.str [⟨none, some 4, .mv (.const (.slice none 0 0))⟩]) (some ([1], [1, 29])) := rx
@[simp] theorem x39_2 : RX 35 r39_2 (.str [⟨none, some 5, .mv (.const (.bool false))⟩]) (some ([1, 4], [1, 15, 29])) := rx
@[simp] theorem x39_3 : RX 35 r39_3 (.str [⟨none, some 6, .mv (.const (.int .i64 0))⟩]) (some ([1, 4, 5], [1, 15, 29])) := rx
@[simp] theorem x39_4 : RX 35 r39_4 (.str [⟨none, some 8, .mv (.tmp 6)⟩, ⟨none, some 9, .ld 25 (.tmp 1)⟩, ⟨none, some 10, .call false none (.func 48) [.tmp 9]⟩, ⟨none, some 11, .bin .leq 3 (.tmp 8) (.tmp 10)⟩]) (some ([1, 4, 5, 6], [1, 15, 29])) := rx
@[simp] theorem x39_6 : RX 35 r39_6 (.str [⟨none, some 14, .mv (.tmp 6)⟩, ⟨none, some 15, .call false none (.func 50) [.tmp 14]⟩, ⟨none, some 7, .mv (.tmp 15)⟩]) (some ([1, 4, 5, 6], [1, 15, 29])) := rx
@[simp] theorem x39_7 : RX 35 r39_7 (.drw [⟨[], [⟨none, some 16, .mv (.tmp 5)⟩, ⟨none, some 17, .oth (.unOp .not 4 (.tmp 16))⟩, ⟨none, some 18, .mv (.tmp 17)⟩, ⟨some (18, false), some 19, .mv (.tmp 7)⟩, ⟨some (18, false), some 20, .mv (.tmp 4)⟩], [⟨some (18, false), some 21, .call false none (.func 49) [.tmp 19, .tmp 20]⟩]⟩, ⟨[], [⟨none, some 22, .pick (.tmp 18) (.const (.bool true)) (.tmp 21)⟩, ⟨none, some 23, .mv (.tmp 22)⟩, ⟨some (23, true), some 24, .ld 25 (.tmp 1)⟩, ⟨some (23, true), some 25, .ld 25 (.tmp 1)⟩, ⟨some (23, true), some 26, .call false none (.func 48) [.tmp 25]⟩, ⟨some (23, true), some 27, .mv (.tmp 6)⟩, ⟨some (23, true), some 28, .bin .andNot 3 (.tmp 26) (.tmp 27)⟩], [⟨some (23, true), some 29, .call false none (.func 47) [.tmp 24, .tmp 28]⟩]⟩, ⟨[], [], [⟨some (23, true), some 30, .call false none (.func 88) [.tmp 29]⟩]⟩, ⟨[], [⟨none, some 31, .pick (.tmp 23) (.tmp 30) (.const (.bool false))⟩], []⟩]) (some ([1, 4, 5, 6, 7], [1, 15])) := rx
@[simp] theorem x39_8 : RX 35 r39_8 (.str [⟨none, some 32, .mv (.tmp 7)⟩, ⟨none, some 4, .mv (.tmp 32)⟩, ⟨none, some 5, .mv (.const (.bool true))⟩]) (some ([1, 6, 7], [1, 15, 29])) := rx
@[simp] theorem x39_5 : RX 35 r39_5 (.str [⟨none, some 12, .mv (.tmp 6)⟩, ⟨none, some 13, .bin .add 3 (.tmp 12) (.const (.int .i64 1))⟩, ⟨none, some 6, .mv (.tmp 13)⟩]) (some ([1, 4, 5, 6], [1, 15, 29])) := rx
@[simp] theorem x39_9 : RX 35 r39_9 (.str [⟨none, some 33, .mv (.tmp 4)⟩, ⟨none, some 34, .mv (.tmp 5)⟩, ⟨none, some 2, .mv (.tmp 33)⟩, ⟨none, some 3, .mv (.tmp 34)⟩]) (some ([4, 5], [15])) := rx
@[simp] theorem l39_4 : ann 35 (fstR lb39_4) = some ([1, 4, 5, 6], [1, 15, 29]) := by kernel_rfl
def r12_0 := rg Try.f12 2
def r12_1 := rg Try.f12 5
def r12_2 := rg Try.f12 11
def r12_3 := rg Try.f12 39
def r12_4 := rg Try.f12 151
def r12_5 := rg Try.f12 47
def r12_6 := rg Try.f12 159
def r12_7 := rg Try.f12 607
def r12_8 := rg Try.f12 1375
def r12_9 := rg Try.f12 319
def r12_10 := rg Try.f12 1215
def r12_11 := rg Try.f12 383
def r12_12 := rg Try.f12 767
def r12_13 := rg Try.f12 1535
def c12 : Code := (.seq r12_0 (.seq r12_1 (.seq r12_2 (.seq (.seq r12_3 (.cond (.tmp 21) (.seq r12_4 .ret) .skip)) (.seq r12_5 (.seq (.seq r12_6 (.cond (.tmp 30) (.seq r12_7 (.seq r12_8 .ret)) .skip)) (.seq (.seq r12_9 (.cond (.tmp 52) (.seq r12_10 .ret) .skip)) (.seq r12_11 (.seq r12_12 (.seq r12_13 .ret))))))))))
def r13_0 := rg Try.f13 2
def r13_1 := rg Try.f13 9
def r13_2 := rg Try.f13 37
def r13_3 := rg Try.f13 11
def r13_4 := rg Try.f13 23
def r13_5 := rg Try.f13 47
def r13_6 := rg Try.f13 159
def r13_7 := rg Try.f13 607
def r13_8 := rg Try.f13 191
def r13_9 := rg Try.f13 639
def r13_10 := rg Try.f13 8575
def r13_12 := rg Try.f13 67967
def r13_13 := rg Try.f13 297343
def r13_14 := rg Try.f13 51583
def r13_11 := rg Try.f13 14719
def r13_15 := rg Try.f13 767
def r13_16 := rg Try.f13 1535
def lb13_10 : Code := (.seq (.seq r13_10 (.cond (.tmp 60) .skip (.exit 0))) (.seq (.block 1 (.seq (.seq r13_12 (.cond (.tmp 93) (.seq r13_13 .ret) .skip)) r13_14)) r13_11))
@[simp] theorem u13_10 (n : Nat) (st : XS) : execA Try.prog ann kn n 133 lb13_10 st = execA Try.prog ann kn n 133 (.seq (.seq r13_10 (.cond (.tmp 60) .skip (.exit 0))) (.seq (.block 1 (.seq (.seq r13_12 (.cond (.tmp 93) (.seq r13_13 .ret) .skip)) r13_14)) r13_11)) st := rfl
def c13 : Code := (.seq r13_0 (.seq (.seq r13_1 (.cond (.tmp 16) (.seq r13_2 .ret) .skip)) (.seq r13_3 (.seq r13_4 (.seq r13_5 (.seq (.seq r13_6 (.cond (.tmp 41) (.seq r13_7 .ret) .skip)) (.seq r13_8 (.seq (.seq r13_9 (.block 0 (.loop lb13_10))) (.seq r13_15 (.seq r13_16 .ret))))))))))
theorem b13 : Try.f13.body = some c13 := by kernel_rfl
@[simp] theorem x13_0 : RX 133 r13_0 (.str [⟨none, some 2, .box (.tmp 0)⟩, ⟨none, some 4, .mv (.const (.bool false))⟩]) (some ([0, 1], [2, 20, 21, 35, 36, 108, 109])) := rx
@[simp] theorem x13_1 : RX 133 r13_1 (.str [⟨none, some 14, .ld 25 (.tmp 2)⟩, ⟨none, some 15, .call false none (.func 42) [.tmp 14]⟩, ⟨none, some 16, .oth (.unOp .not 4 (.tmp 15))⟩]) (some ([1, 2], [2, 20, 21, 35, 36, 108, 109])) := rx
@[simp] theorem x13_2 : RX 133 r13_2 (.str [⟨none, some 17, .call false none (.func 20) []⟩, ⟨none, some 4, .mv (.tmp 17)⟩]) (some ([], [])) := rx
@[simp] theorem x13_3 : RX 133 r13_3 (.str [⟨none, some 19, .ld 25 (.tmp 2)⟩, ⟨none, some 20, .call false none (.func 22) [.tmp 19]⟩, ⟨none, some 21, .call false none (.func 38) [.tmp 20]⟩, ⟨none, some 18, .mv (.tmp 21)⟩, ⟨none, some 22, .oth (.extract (.tmp 18) 0)⟩, ⟨none, some 23, .oth (.extract (.tmp 18) 1)⟩, ⟨none, some 5, .mv (.tmp 22)⟩, ⟨none, some 6, .mv (.tmp 23)⟩]) (some ([1, 2], [2, 20, 21, 35, 36, 108, 109])) := rx
@[simp] theorem x13_4 : RX 133 r13_4 (.str [⟨none, some 24, .mv (.tmp 1)⟩, ⟨none, some 25, .oth (.convert 5 3 (.tmp 24))⟩, ⟨none, some 26, .ld 25 (.tmp 2)⟩, ⟨none, some 27, .call false none (.func 48) [.tmp 26]⟩, ⟨none, some 28, .bin .and 3 (.tmp 25) (.tmp 27)⟩, ⟨none, some 7, .mv (.tmp 28)⟩]) (some ([1, 2, 5, 6], [2, 20, 21, 35, 36, 108, 109])) := rx
@[simp] theorem x13_5 : RX 133 r13_5 (.drw [⟨[8], [⟨none, some 30, .ld 25 (.tmp 2)⟩, ⟨none, some 31, .ld 25 (.tmp 2)⟩, ⟨none, some 32, .call false none (.func 48) [.tmp 31]⟩, ⟨none, some 33, .mv (.tmp 7)⟩, ⟨none, some 34, .bin .andNot 3 (.tmp 32) (.tmp 33)⟩, ⟨none, some 35, .call false none (.func 47) [.tmp 30, .tmp 34]⟩, ⟨none, some 36, .call false none (.func 22) [.tmp 35]⟩, ⟨none, some 37, .call false none (.func 29) [.tmp 36]⟩, ⟨none, some 29, .mv (.tmp 37)⟩, ⟨none, some 38, .oth (.extract (.tmp 29) 0)⟩, ⟨none, some 39, .oth (.extract (.tmp 29) 1)⟩, ⟨none, some 8, .alloc 45⟩, ⟨none, none, .sto 45 (.tmp 8) (.tmp 38)⟩, ⟨none, some 9, .mv (.tmp 39)⟩], []⟩]) (some ([2, 5, 6, 7], [2, 20, 21, 108, 109])) := rx
@[simp] theorem x13_6 : RX 133 r13_6 (.str [⟨none, some 40, .mv (.tmp 6)⟩, ⟨none, some 41, .bin .neq 29 (.tmp 40) (.const (.int .i64 0))⟩]) (some ([2, 5, 6, 7, 9], [2, 20, 21, 35, 36, 108, 109])) := rx
@[simp] theorem x13_7 : RX 133 r13_7 (.str [⟨none, some 42, .mv (.tmp 6)⟩, ⟨none, some 43, .bin .eql 29 (.tmp 42) (.const (.int .i64 10))⟩, ⟨none, some 44, .mv (.tmp 43)⟩, ⟨some (44, true), some 45, .fa 25 (.tmp 2) 4⟩, ⟨some (44, true), some 46, .ld 23 (.tmp 45)⟩, ⟨some (44, true), some 47, .oth (.call ⟨.builtin .len, #[.tmp 46], #[23]⟩)⟩, ⟨some (44, true), some 48, .bin .gtr 3 (.tmp 47) (.const (.int .i64 0))⟩, ⟨none, some 49, .pick (.tmp 44) (.tmp 48) (.const (.bool false))⟩, ⟨none, some 50, .mv (.tmp 49)⟩, ⟨some (50, true), some 51, .mv (.tmp 9)⟩, ⟨some (50, true), some 52, .bin .eql 29 (.tmp 51) (.const (.int .i64 11))⟩, ⟨none, some 53, .pick (.tmp 50) (.tmp 52) (.const (.bool false))⟩, ⟨none, some 54, .mv (.tmp 53)⟩, ⟨some (54, true), some 55, .call false none (.func 20) []⟩, ⟨none, some 56, .pick (.tmp 54) (.tmp 55) (.const (.bool false))⟩, ⟨none, some 4, .mv (.tmp 56)⟩]) (some ([2, 6, 9], [2, 20, 21, 35, 36, 108, 109])) := rx
@[simp] theorem x13_8 : RX 133 r13_8 (.str [⟨none, some 10, .mv (.const (.int .i64 0))⟩]) (some ([2, 5, 7, 9], [2, 20, 21, 35, 36, 108, 109])) := rx
@[simp] theorem x13_9 : RX 133 r13_9 (.str [⟨none, some 11, .mv (.const (.int .i64 0))⟩]) (some ([2, 5, 7, 9, 10], [2, 20, 21, 35, 36, 108, 109])) := rx
@[simp] theorem x13_10 : RX 133 r13_10 (.str [⟨none, some 57, .mv (.tmp 11)⟩, ⟨none, some 58, .mv (.tmp 5)⟩, ⟨none, some 59, .oth (.call ⟨.builtin .len, #[.tmp 58], #[28]⟩)⟩, ⟨none, some 60, .bin .lss 3 (.tmp 57) (.tmp 59)⟩]) (some ([2, 5, 7, 9, 10, 11], [2, 20, 21, 35, 36, 108, 109])) := rx
@[simp] theorem x13_12 : RX 133 r13_12 (.drw [⟨[], [⟨none, some 63, .mv (.tmp 5)⟩, ⟨none, some 64, .mv (.tmp 11)⟩, ⟨none, some 65, .oth (.indexAddr 28 (.tmp 63) (.tmp 64))⟩, ⟨none, some 66, .ld 3 (.tmp 65)⟩, ⟨none, some 67, .bin .lss 3 (.tmp 66) (.const (.int .i64 0))⟩, ⟨none, some 68, .mv (.tmp 67)⟩, ⟨some (68, false), some 69, .mv (.tmp 5)⟩, ⟨some (68, false), some 70, .mv (.tmp 11)⟩, ⟨some (68, false), some 71, .oth (.indexAddr 28 (.tmp 69) (.tmp 70))⟩, ⟨some (68, false), some 72, .ld 3 (.tmp 71)⟩, ⟨some (68, false), some 73, .fa 25 (.tmp 2) 3⟩, ⟨some (68, false), some 74, .ld 22 (.tmp 73)⟩, ⟨some (68, false), some 75, .oth (.call ⟨.builtin .len, #[.tmp 74], #[22]⟩)⟩, ⟨some (68, false), some 76, .bin .geq 3 (.tmp 72) (.tmp 75)⟩, ⟨none, some 77, .pick (.tmp 68) (.const (.bool true)) (.tmp 76)⟩, ⟨none, some 78, .mv (.tmp 77)⟩, ⟨some (78, false), some 79, .mv (.tmp 11)⟩, ⟨some (78, false), some 80, .bin .gtr 3 (.tmp 79) (.const (.int .i64 0))⟩, ⟨some (78, false), some 81, .mv (.tmp 80)⟩, ⟨some (81, true), some 82, .mv (.tmp 5)⟩, ⟨some (81, true), some 83, .mv (.tmp 11)⟩, ⟨some (81, true), some 84, .oth (.indexAddr 28 (.tmp 82) (.tmp 83))⟩, ⟨some (81, true), some 85, .ld 3 (.tmp 84)⟩, ⟨some (81, true), some 86, .mv (.tmp 5)⟩, ⟨some (81, true), some 87, .mv (.tmp 11)⟩, ⟨some (81, true), some 88, .bin .sub 3 (.tmp 87) (.const (.int .i64 1))⟩, ⟨some (81, true), some 89, .oth (.indexAddr 28 (.tmp 86) (.tmp 88))⟩, ⟨some (81, true), some 90, .ld 3 (.tmp 89)⟩, ⟨some (81, true), some 91, .bin .leq 3 (.tmp 85) (.tmp 90)⟩, ⟨some (78, false), some 92, .pick (.tmp 81) (.tmp 91) (.const (.bool false))⟩, ⟨none, some 93, .pick (.tmp 78) (.const (.bool true)) (.tmp 92)⟩], []⟩]) (some ([2, 5, 7, 9, 10, 11], [2, 20, 21, 35, 36, 108, 109])) := rx
@[simp] theorem x13_14 : RX 133 r13_14 (.str [⟨none, some 94, .mv (.tmp 10)⟩, ⟨none, some 95, .mv (.tmp 5)⟩, ⟨none, some 96, .mv (.tmp 11)⟩, ⟨none, some 97, .oth (.indexAddr 28 (.tmp 95) (.tmp 96))⟩, ⟨none, some 98, .ld 3 (.tmp 97)⟩, ⟨none, some 99, .oth (.convert 3 70 (.tmp 98))⟩, ⟨none, some 100, .bin .shl 3 (.const (.int .i64 1)) (.tmp 99)⟩, ⟨none, some 101, .bin .or 3 (.tmp 94) (.tmp 100)⟩, ⟨none, some 10, .mv (.tmp 101)⟩]) (some ([2, 5, 7, 9, 10, 11], [2, 20, 21, 35, 36, 108, 109])) := rx
@[simp] theorem x13_11 : RX 133 r13_11 (.str [⟨none, some 61, .mv (.tmp 11)⟩, ⟨none, some 62, .bin .add 3 (.tmp 61) (.const (.int .i64 1))⟩, ⟨none, some 11, .mv (.tmp 62)⟩]) (some ([2, 5, 7, 9, 10, 11], [2, 20, 21, 35, 36, 108, 109])) := rx
@[simp] theorem x13_15 : RX 133 r13_15 (.drw [⟨[12], [⟨none, some 103, .ld 25 (.tmp 2)⟩, ⟨none, some 104, .ld 25 (.tmp 2)⟩, ⟨none, some 105, .call false none (.func 48) [.tmp 104]⟩, ⟨none, some 106, .mv (.tmp 10)⟩, ⟨none, some 107, .bin .andNot 3 (.tmp 105) (.tmp 106)⟩, ⟨none, some 108, .call false none (.func 47) [.tmp 103, .tmp 107]⟩, ⟨none, some 109, .call false none (.func 22) [.tmp 108]⟩, ⟨none, some 110, .call false none (.func 29) [.tmp 109]⟩, ⟨none, some 102, .mv (.tmp 110)⟩, ⟨none, some 111, .oth (.extract (.tmp 102) 0)⟩, ⟨none, some 112, .oth (.extract (.tmp 102) 1)⟩, ⟨none, some 12, .alloc 45⟩, ⟨none, none, .sto 45 (.tmp 12) (.tmp 111)⟩, ⟨none, some 13, .mv (.tmp 112)⟩], []⟩]) (some ([2, 5, 7, 9, 10], [2, 20, 21, 35, 36])) := rx
@[simp] theorem x13_16 : RX 133 r13_16 (.str [⟨none, some 113, .mv (.tmp 13)⟩, ⟨none, some 114, .bin .eql 29 (.tmp 113) (.const (.int .i64 0))⟩, ⟨none, some 115, .mv (.tmp 114)⟩, ⟨some (115, true), some 116, .mv (.tmp 9)⟩, ⟨some (115, true), some 117, .bin .eql 29 (.tmp 116) (.const (.int .i64 11))⟩, ⟨some (115, true), some 118, .mv (.tmp 117)⟩, ⟨some (118, false), some 119, .mv (.tmp 9)⟩, ⟨some (118, false), some 120, .bin .eql 29 (.tmp 119) (.const (.int .i64 0))⟩, ⟨some (118, false), some 121, .mv (.tmp 120)⟩, ⟨some (121, true), some 122, .mv (.tmp 7)⟩, ⟨some (121, true), some 123, .call false none (.func 50) [.tmp 122]⟩, ⟨some (121, true), some 124, .mv (.tmp 5)⟩, ⟨some (121, true), some 125, .call false none (.func 49) [.tmp 123, .tmp 124]⟩, ⟨some (121, true), some 126, .oth (.unOp .not 4 (.tmp 125))⟩, ⟨some (118, false), some 127, .pick (.tmp 121) (.tmp 126) (.const (.bool false))⟩, ⟨some (115, true), some 128, .pick (.tmp 118) (.const (.bool true)) (.tmp 127)⟩, ⟨none, some 129, .pick (.tmp 115) (.tmp 128) (.const (.bool false))⟩, ⟨none, some 130, .mv (.tmp 129)⟩, ⟨some (130, true), some 131, .call false none (.func 20) []⟩, ⟨none, some 132, .pick (.tmp 130) (.tmp 131) (.const (.bool false))⟩, ⟨none, some 4, .mv (.tmp 132)⟩]) (some ([5, 7, 9, 13], [2, 20, 21, 35, 36, 108, 109])) := rx
@[simp] theorem l13_10 : ann 133 (fstR lb13_10) = some ([2, 5, 7, 9, 10, 11], [2, 20, 21, 35, 36, 108, 109]) := by kernel_rfl
def r40_0 := rg Try.f40 2
def r40_1 := rg Try.f40 9
def r40_2 := rg Try.f40 37
def r40_3 := rg Try.f40 19
def r40_4 := rg Try.f40 267
def r40_6 := rg Try.f40 1099
def r40_7 := rg Try.f40 4683
def r40_5 := rg Try.f40 459
def r40_8 := rg Try.f40 23
def lb40_4 : Code := (.seq (.seq r40_4 (.cond (.tmp 14) .skip (.exit 0))) (.seq (.block 1 (.seq r40_6 (.cond (.tmp 25) (.seq r40_7 .ret) .skip))) r40_5))
@[simp] theorem u40_4 (n : Nat) (st : XS) : execA Try.prog ann kn n 26 lb40_4 st = execA Try.prog ann kn n 26 (.seq (.seq r40_4 (.cond (.tmp 14) .skip (.exit 0))) (.seq (.block 1 (.seq r40_6 (.cond (.tmp 25) (.seq r40_7 .ret) .skip))) r40_5)) st := rfl
def c40 : Code := (.seq r40_0 (.seq (.seq r40_1 (.cond (.tmp 10) (.seq r40_2 .ret) .skip)) (.seq (.seq r40_3 (.block 0 (.loop lb40_4))) (.seq r40_8 .ret))))
theorem b40 : Try.f40.body = some c40 := by kernel_rfl
@[simp] theorem x40_0 : RX 26 r40_0 (.str [⟨none, some 4, .mv (.const (.bool false))⟩]) (some ([0, 1], [])) := rx
@[simp] theorem x40_1 : RX 26 r40_1 (.str [⟨none, some 6, .mv (.tmp 0)⟩, ⟨none, some 7, .oth (.call ⟨.builtin .len, #[.tmp 6], #[28]⟩)⟩, ⟨none, some 8, .mv (.tmp 1)⟩, ⟨none, some 9, .oth (.call ⟨.builtin .len, #[.tmp 8], #[28]⟩)⟩, ⟨none, some 10, .bin .neq 3 (.tmp 7) (.tmp 9)⟩]) (some ([0, 1], [])) := rx
@[simp] theorem x40_2 : RX 26 r40_2 (.str [⟨none, some 4, .mv (.const (.bool false))⟩]) (some ([], [])) := rx
@[simp] theorem x40_3 : RX 26 r40_3 (.str [⟨none, some 5, .mv (.const (.int .i64 0))⟩]) (some ([0, 1], [])) := rx
@[simp] theorem x40_4 : RX 26 r40_4 (.str [⟨none, some 11, .mv (.tmp 5)⟩, ⟨none, some 12, .mv (.tmp 0)⟩, ⟨none, some 13, .oth (.call ⟨.builtin .len, #[.tmp 12], #[28]⟩)⟩, ⟨none, some 14, .bin .lss 3 (.tmp 11) (.tmp 13)⟩]) (some ([0, 1, 5], [])) := rx
@[simp] theorem x40_6 : RX 26 r40_6 (.drw [⟨[], [⟨none, some 17, .mv (.tmp 0)⟩, ⟨none, some 18, .mv (.tmp 5)⟩, ⟨none, some 19, .oth (.indexAddr 28 (.tmp 17) (.tmp 18))⟩, ⟨none, some 20, .ld 3 (.tmp 19)⟩, ⟨none, some 21, .mv (.tmp 1)⟩, ⟨none, some 22, .mv (.tmp 5)⟩, ⟨none, some 23, .oth (.indexAddr 28 (.tmp 21) (.tmp 22))⟩, ⟨none, some 24, .ld 3 (.tmp 23)⟩, ⟨none, some 25, .bin .neq 3 (.tmp 20) (.tmp 24)⟩], []⟩]) (some ([0, 1, 5], [])) := rx
@[simp] theorem x40_7 : RX 26 r40_7 (.str [⟨none, some 4, .mv (.const (.bool false))⟩]) (some ([], [])) := rx
@[simp] theorem x40_5 : RX 26 r40_5 (.str [⟨none, some 15, .mv (.tmp 5)⟩, ⟨none, some 16, .bin .add 3 (.tmp 15) (.const (.int .i64 1))⟩, ⟨none, some 5, .mv (.tmp 16)⟩]) (some ([0, 1, 5], [])) := rx
@[simp] theorem x40_8 : RX 26 r40_8 (.str [⟨none, some 4, .mv (.const (.bool true))⟩]) (some ([], [])) := rx
@[simp] theorem l40_4 : ann 26 (fstR lb40_4) = some ([0, 1, 5], []) := by kernel_rfl
def r6_0 := rg Try.f6 2
def r6_1 := rg Try.f6 9
def r6_2 := rg Try.f6 37
def r6_3 := rg Try.f6 11
def r6_4 := rg Try.f6 23
def r6_5 := rg Try.f6 79
def r6_6 := rg Try.f6 175
def r6_7 := rg Try.f6 623
def r6_8 := rg Try.f6 159
def r6_9 := rg Try.f6 351
def r6_10 := rg Try.f6 1247
def r6_11 := rg Try.f6 319
def r6_12 := rg Try.f6 703
def r6_13 := rg Try.f6 2495
def r6_14 := rg Try.f6 383
def c6 : Code := (.seq r6_0 (.seq (.seq r6_1 (.cond (.tmp 13) (.seq r6_2 .ret) .skip)) (.seq r6_3 (.seq r6_4 (.seq (.seq r6_5 (.seq r6_6 (.cond (.tmp 30) (.seq r6_7 .ret) .skip))) (.seq (.seq r6_8 (.seq r6_9 (.cond (.tmp 79) (.seq r6_10 .ret) .skip))) (.seq (.seq r6_11 (.seq r6_12 (.cond (.tmp 83) (.seq r6_13 .ret) .skip))) (.seq r6_14 .ret))))))))
theorem b6 : Try.f6.body = some c6 := by kernel_rfl
@[simp] theorem x6_0 : RX 103 r6_0 (.str [⟨none, some 1, .box (.tmp 0)⟩, ⟨none, some 2, .mv (.const (.bool false))⟩]) (some ([0], [1, 17, 23, 24, 53])) := rx
@[simp] theorem x6_1 : RX 103 r6_1 (.str [⟨none, some 11, .ld 25 (.tmp 1)⟩, ⟨none, some 12, .call false none (.func 19) [.tmp 11]⟩, ⟨none, some 13, .oth (.unOp .not 4 (.tmp 12))⟩]) (some ([1], [1, 17, 23, 24, 53])) := rx
@[simp] theorem x6_2 : RX 103 r6_2 (.str [⟨none, some 14, .call false none (.func 20) []⟩, ⟨none, some 2, .mv (.tmp 14)⟩]) (some ([], [])) := rx
@[simp] theorem x6_3 : RX 103 r6_3 (.str [⟨none, some 16, .ld 25 (.tmp 1)⟩, ⟨none, some 17, .call false none (.func 22) [.tmp 16]⟩, ⟨none, some 18, .call false none (.func 37) [.tmp 17]⟩, ⟨none, some 15, .mv (.tmp 18)⟩, ⟨none, some 19, .oth (.extract (.tmp 15) 0)⟩, ⟨none, some 20, .oth (.extract (.tmp 15) 1)⟩, ⟨none, some 3, .mv (.tmp 19)⟩, ⟨none, some 4, .mv (.tmp 20)⟩]) (some ([1], [1, 17, 23, 24, 53])) := rx
@[simp] theorem x6_4 : RX 103 r6_4 (.str [⟨none, some 22, .ld 25 (.tmp 1)⟩, ⟨none, some 23, .call false none (.func 22) [.tmp 22]⟩, ⟨none, some 24, .call false none (.func 38) [.tmp 23]⟩, ⟨none, some 21, .mv (.tmp 24)⟩, ⟨none, some 25, .oth (.extract (.tmp 21) 0)⟩, ⟨none, some 26, .oth (.extract (.tmp 21) 1)⟩, ⟨none, some 5, .mv (.tmp 25)⟩, ⟨none, some 6, .mv (.tmp 26)⟩]) (some ([1, 3, 4], [1, 17, 23, 24, 53])) := rx
@[simp] theorem x6_5 : RX 103 r6_5 (.str [⟨none, some 27, .ld 25 (.tmp 1)⟩, ⟨none, some 28, .call false none (.func 24) [.tmp 27]⟩, ⟨none, some 7, .mv (.tmp 28)⟩]) (some ([1, 3, 4, 5, 6], [1, 17, 23, 24, 53])) := rx
@[simp] theorem x6_6 : RX 103 r6_6 (.str [⟨none, some 29, .mv (.tmp 7)⟩, ⟨none, some 30, .bin .neq 29 (.tmp 29) (.const (.int .i64 0))⟩]) (some ([1, 3, 4, 5, 6, 7], [1, 17, 23, 24, 53])) := rx
@[simp] theorem x6_7 : RX 103 r6_7 (.str [⟨none, some 31, .mv (.tmp 4)⟩, ⟨none, some 32, .mv (.tmp 7)⟩, ⟨none, some 33, .bin .eql 29 (.tmp 31) (.tmp 32)⟩, ⟨none, some 34, .mv (.tmp 33)⟩, ⟨some (34, true), some 35, .mv (.tmp 6)⟩, ⟨some (34, true), some 36, .mv (.tmp 7)⟩, ⟨some (34, true), some 37, .bin .eql 29 (.tmp 35) (.tmp 36)⟩, ⟨none, some 38, .pick (.tmp 34) (.tmp 37) (.const (.bool false))⟩, ⟨none, some 39, .mv (.tmp 38)⟩, ⟨some (39, true), some 40, .mv (.tmp 3)⟩, ⟨some (39, true), some 41, .bin .eql 3 (.tmp 40) (.const (.int .i64 0))⟩, ⟨none, some 42, .pick (.tmp 39) (.tmp 41) (.const (.bool false))⟩, ⟨none, some 43, .mv (.tmp 42)⟩, ⟨some (43, true), some 44, .mv (.tmp 5)⟩, ⟨some (43, true), some 45, .oth (.call ⟨.builtin .len, #[.tmp 44], #[28]⟩)⟩, ⟨some (43, true), some 46, .bin .eql 3 (.tmp 45) (.const (.int .i64 0))⟩, ⟨none, some 47, .pick (.tmp 43) (.tmp 46) (.const (.bool false))⟩, ⟨none, some 48, .mv (.tmp 47)⟩, ⟨some (48, true), some 49, .call false none (.func 20) []⟩, ⟨none, some 50, .pick (.tmp 48) (.tmp 49) (.const (.bool false))⟩, ⟨none, some 2, .mv (.tmp 50)⟩]) (some ([3, 4, 5, 6, 7], [1, 17, 23, 24, 53])) := rx
@[simp] theorem x6_8 : RX 103 r6_8 (.str [⟨none, some 52, .ld 25 (.tmp 1)⟩, ⟨none, some 53, .call false none (.func 39) [.tmp 52]⟩, ⟨none, some 51, .mv (.tmp 53)⟩, ⟨none, some 54, .oth (.extract (.tmp 51) 0)⟩, ⟨none, some 55, .oth (.extract (.tmp 51) 1)⟩, ⟨none, some 8, .mv (.tmp 54)⟩, ⟨none, some 9, .mv (.tmp 55)⟩]) (some ([1, 3, 4, 5, 6], [1, 17, 23, 24, 53])) := rx
@[simp] theorem x6_9 : RX 103 r6_9 (.str [⟨none, some 56, .mv (.tmp 9)⟩, ⟨none, some 57, .mv (.tmp 56)⟩, ⟨some (57, true), some 58, .mv (.tmp 6)⟩, ⟨some (57, true), some 59, .bin .neq 29 (.tmp 58) (.const (.int .i64 0))⟩, ⟨some (57, true), some 60, .mv (.tmp 59)⟩, ⟨some (60, false), some 61, .mv (.tmp 5)⟩, ⟨some (60, false), some 62, .mv (.tmp 8)⟩, ⟨some (60, false), some 63, .call false none (.func 40) [.tmp 61, .tmp 62]⟩, ⟨some (60, false), some 64, .oth (.unOp .not 4 (.tmp 63))⟩, ⟨some (57, true), some 65, .pick (.tmp 60) (.const (.bool true)) (.tmp 64)⟩, ⟨none, some 66, .pick (.tmp 57) (.tmp 65) (.const (.bool false))⟩, ⟨none, some 67, .mv (.tmp 66)⟩, ⟨some (67, false), some 68, .mv (.tmp 9)⟩, ⟨some (67, false), some 69, .oth (.unOp .not 4 (.tmp 68))⟩, ⟨some (67, false), some 70, .mv (.tmp 69)⟩, ⟨some (70, true), some 71, .mv (.tmp 6)⟩, ⟨some (70, true), some 72, .bin .neq 29 (.tmp 71) (.const (.int .i64 10))⟩, ⟨some (70, true), some 73, .mv (.tmp 72)⟩, ⟨some (73, false), some 74, .mv (.tmp 5)⟩, ⟨some (73, false), some 75, .oth (.call ⟨.builtin .len, #[.tmp 74], #[28]⟩)⟩, ⟨some (73, false), some 76, .bin .neq 3 (.tmp 75) (.const (.int .i64 0))⟩, ⟨some (70, true), some 77, .pick (.tmp 73) (.const (.bool true)) (.tmp 76)⟩, ⟨some (67, false), some 78, .pick (.tmp 70) (.tmp 77) (.const (.bool false))⟩, ⟨none, some 79, .pick (.tmp 67) (.const (.bool true)) (.tmp 78)⟩]) (some ([1, 3, 4, 5, 6, 8, 9], [1, 17, 23, 24, 53])) := rx
@[simp] theorem x6_11 : RX 103 r6_11 (.str [⟨none, some 80, .ld 25 (.tmp 1)⟩, ⟨none, some 81, .call false none (.func 41) [.tmp 80]⟩, ⟨none, some 10, .mv (.tmp 81)⟩]) (some ([1, 3, 4], [1, 17, 23, 24, 53])) := rx
@[simp] theorem x6_12 : RX 103 r6_12 (.str [⟨none, some 82, .mv (.tmp 10)⟩, ⟨none, some 83, .bin .geq 3 (.tmp 82) (.const (.int .i64 0))⟩]) (some ([3, 4, 10], [])) := rx
@[simp] theorem x6_13 : RX 103 r6_13 (.str [⟨none, some 84, .mv (.tmp 4)⟩, ⟨none, some 85, .bin .eql 29 (.tmp 84) (.const (.int .i64 0))⟩, ⟨none, some 86, .mv (.tmp 85)⟩, ⟨some (86, true), some 87, .mv (.tmp 3)⟩, ⟨some (86, true), some 88, .mv (.tmp 10)⟩, ⟨some (86, true), some 89, .bin .eql 3 (.tmp 87) (.tmp 88)⟩, ⟨none, some 90, .pick (.tmp 86) (.tmp 89) (.const (.bool false))⟩, ⟨none, some 91, .mv (.tmp 90)⟩, ⟨some (91, true), some 92, .call false none (.func 20) []⟩, ⟨none, some 93, .pick (.tmp 91) (.tmp 92) (.const (.bool false))⟩, ⟨none, some 2, .mv (.tmp 93)⟩]) (some ([3, 4, 10], [])) := rx
@[simp] theorem x6_14 : RX 103 r6_14 (.str [⟨none, some 94, .mv (.tmp 4)⟩, ⟨none, some 95, .bin .eql 29 (.tmp 94) (.const (.int .i64 7))⟩, ⟨none, some 96, .mv (.tmp 95)⟩, ⟨some (96, true), some 97, .mv (.tmp 3)⟩, ⟨some (96, true), some 98, .bin .eql 3 (.tmp 97) (.const (.int .i64 0))⟩, ⟨none, some 99, .pick (.tmp 96) (.tmp 98) (.const (.bool false))⟩, ⟨none, some 100, .mv (.tmp 99)⟩, ⟨some (100, true), some 101, .call false none (.func 20) []⟩, ⟨none, some 102, .pick (.tmp 100) (.tmp 101) (.const (.bool false))⟩, ⟨none, some 2, .mv (.tmp 102)⟩]) (some ([3, 4], [])) := rx
end
end Go.Proofs.Try.Op
