/- The walk's ground of functions: their regions worked out. No condition. -/
import Derived.Test.YtfbbnkaahnpicaaGa
set_option maxRecDepth 100000
namespace Go.Proofs.Try.Op
open Go Go.Pg
noncomputable section
def r106_0 := rg Try.f106 2
def r106_1 := rg Try.f106 9
def r106_2 := rg Try.f106 69
def r106_3 := rg Try.f106 1125
def r106_4 := rg Try.f106 2661
def r106_5 := rg Try.f106 9829
def r106_6 := rg Try.f106 485
def r106_7 := rg Try.f106 11
def lb106_2 : Code := (.seq r106_2 (.seq (.cond (.tmp 9) .skip (.exit 0)) (.seq (.block 1 (.seq r106_3 (.seq r106_4 (.cond (.tmp 16) (.seq r106_5 .ret) .skip)))) r106_6)))
@[simp] theorem u106_2 (n : Nat) (st : XS) : execA Try.prog ann kn n 19 lb106_2 st = execA Try.prog ann kn n 19 (.seq r106_2 (.seq (.cond (.tmp 9) .skip (.exit 0)) (.seq (.block 1 (.seq r106_3 (.seq r106_4 (.cond (.tmp 16) (.seq r106_5 .ret) .skip)))) r106_6))) st := rfl
def c106 : Code := (.seq r106_0 (.seq (.seq r106_1 (.block 0 (.loop lb106_2))) (.seq r106_7 .ret)))
theorem b106 : Try.f106.body = some c106 := by kernel_rfl
@[simp] theorem x106_0 : RX 19 r106_0 (.str [⟨none, some 4, .mv (.const (.int .i64 0))⟩]) (some ([0, 1], [])) := rx
@[simp] theorem x106_1 : RX 19 r106_1 (.str [⟨none, some 6, .mv (.tmp 0)⟩, ⟨none, some 7, .oth (.call ⟨.builtin .len, #[.tmp 6], #[32]⟩)⟩, ⟨none, some 8, .mv (.const (.int .i64 0))⟩]) (some ([0, 1, 2, 3], [2, 3])) := rx
@[simp] theorem x106_2 : RX 19 r106_2 (.str [⟨none, some 9, .bin .lss 3 (.tmp 8) (.tmp 7)⟩]) (some ([0, 1, 3, 7, 8], [3])) := rx
@[simp] theorem x106_3 : RX 19 r106_3 (.str [⟨none, some 10, .mv (.tmp 8)⟩, ⟨none, some 5, .mv (.tmp 10)⟩]) (some ([0, 1, 3, 7, 8], [3])) := rx
@[simp] theorem x106_4 : RX 19 r106_4 (.str [⟨none, some 11, .mv (.tmp 1)⟩, ⟨none, some 12, .mv (.tmp 0)⟩, ⟨none, some 13, .mv (.tmp 5)⟩, ⟨none, some 14, .oth (.indexAddr 32 (.tmp 12) (.tmp 13))⟩, ⟨none, some 15, .ld 96 (.tmp 14)⟩, ⟨none, some 16, .call false none (.tmp 11) [.tmp 15]⟩]) (some ([0, 1, 3, 5, 7, 8], [3])) := rx
@[simp] theorem x106_5 : RX 19 r106_5 (.str [⟨none, some 17, .mv (.tmp 5)⟩, ⟨none, some 4, .mv (.tmp 17)⟩]) (some ([5], [])) := rx
@[simp] theorem x106_6 : RX 19 r106_6 (.str [⟨none, some 18, .bin .add 3 (.tmp 8) (.const (.int .i64 1))⟩, ⟨none, some 8, .mv (.tmp 18)⟩]) (some ([0, 1, 3, 7, 8], [3])) := rx
@[simp] theorem x106_7 : RX 19 r106_7 (.str [⟨none, some 4, .mv (.const (.int .i64 (Int.negSucc 0)))⟩]) (some ([], [])) := rx
@[simp] theorem l106_2 : ann 19 (fstR lb106_2) = some ([0, 1, 3, 7, 8], [3]) := by kernel_rfl
def r113_0 := rg Try.f113 2
def r113_1 := rg Try.f113 5
def c113 : Code := (.seq r113_0 (.seq r113_1 .ret))
theorem b113 : Try.f113.body = some c113 := by kernel_rfl
@[simp] theorem x113_0 : RX 9 r113_0 (.str [⟨none, some 4, .mv (.const (.bool false))⟩]) (some ([0, 1], [])) := rx
@[simp] theorem x113_1 : RX 9 r113_1 (.str [⟨none, some 5, .mv (.tmp 0)⟩, ⟨none, some 6, .mv (.tmp 1)⟩, ⟨none, some 7, .call false none (.func 106) [.tmp 5, .tmp 6]⟩, ⟨none, some 8, .bin .geq 3 (.tmp 7) (.const (.int .i64 0))⟩, ⟨none, some 4, .mv (.tmp 8)⟩]) (some ([0, 1, 3], [3])) := rx
def r114_0 := rg Try.f114 2
def r114_1 := rg Try.f114 5
def c114 : Code := (.seq r114_0 (.seq r114_1 .ret))
theorem b114 : Try.f114.body = some c114 := by kernel_rfl
@[simp] theorem x114_0 : RX 8 r114_0 (.str [⟨none, some 2, .box (.tmp 0)⟩, ⟨none, some 3, .mv (.const (.bool false))⟩]) (some ([0, 1], [])) := rx
@[simp] theorem x114_1 : RX 8 r114_1 (.str [⟨none, some 4, .ld 128 (.tmp 1)⟩, ⟨none, some 5, .ld 96 (.tmp 2)⟩, ⟨none, some 6, .call false none (.tmp 4) [.tmp 5]⟩, ⟨none, some 7, .oth (.unOp .not 4 (.tmp 6))⟩, ⟨none, some 3, .mv (.tmp 7)⟩]) (some ([1, 2], [2])) := rx
def r96_0 := rg Try.f96 2
def r96_1 := rg Try.f96 5
def c96 : Code := (.seq r96_0 (.seq r96_1 .ret))
theorem b96 : Try.f96.body = some c96 := by kernel_rfl
@[simp] theorem x96_0 : RX 9 r96_0 (.str [⟨none, some 3, .box (.tmp 1)⟩, ⟨none, some 4, .mv (.const (.bool false))⟩]) (some ([0, 1], [3])) := rx
@[simp] theorem x96_1 : RX 9 r96_1 (.str [⟨none, some 5, .mv (.tmp 0)⟩, ⟨none, some 6, .oth (.makeFunc (.func 114) #[] #[.tmp 3])⟩, ⟨none, some 7, .call false none (.func 113) [.tmp 5, .tmp 6]⟩, ⟨none, some 8, .oth (.unOp .not 4 (.tmp 7))⟩, ⟨none, some 4, .mv (.tmp 8)⟩]) (some ([0, 1, 3], [3])) := rx
def r121_0 := rg Try.f121 2
def r121_1 := rg Try.f121 9
def r121_2 := rg Try.f121 69
def r121_3 := rg Try.f121 1125
def r121_4 := rg Try.f121 2661
def r121_5 := rg Try.f121 9829
def r121_6 := rg Try.f121 485
def r121_7 := rg Try.f121 11
def lb121_2 : Code := (.seq r121_2 (.seq (.cond (.tmp 9) .skip (.exit 0)) (.seq (.block 1 (.seq r121_3 (.seq r121_4 (.cond (.tmp 16) (.seq r121_5 .ret) .skip)))) r121_6)))
@[simp] theorem u121_2 (n : Nat) (st : XS) : execA Try.prog ann kn n 19 lb121_2 st = execA Try.prog ann kn n 19 (.seq r121_2 (.seq (.cond (.tmp 9) .skip (.exit 0)) (.seq (.block 1 (.seq r121_3 (.seq r121_4 (.cond (.tmp 16) (.seq r121_5 .ret) .skip)))) r121_6))) st := rfl
def c121 : Code := (.seq r121_0 (.seq (.seq r121_1 (.block 0 (.loop lb121_2))) (.seq r121_7 .ret)))
theorem b121 : Try.f121.body = some c121 := by kernel_rfl
@[simp] theorem x121_0 : RX 19 r121_0 (.str [⟨none, some 4, .mv (.const (.int .i64 0))⟩]) (some ([0, 1], [])) := rx
@[simp] theorem x121_1 : RX 19 r121_1 (.str [⟨none, some 6, .mv (.tmp 0)⟩, ⟨none, some 7, .oth (.call ⟨.builtin .len, #[.tmp 6], #[33]⟩)⟩, ⟨none, some 8, .mv (.const (.int .i64 0))⟩]) (some ([0, 1, 2, 3], [2, 3])) := rx
@[simp] theorem x121_2 : RX 19 r121_2 (.str [⟨none, some 9, .bin .lss 3 (.tmp 8) (.tmp 7)⟩]) (some ([0, 1, 3, 7, 8], [3])) := rx
@[simp] theorem x121_3 : RX 19 r121_3 (.str [⟨none, some 10, .mv (.tmp 8)⟩, ⟨none, some 5, .mv (.tmp 10)⟩]) (some ([0, 1, 3, 7, 8], [3])) := rx
@[simp] theorem x121_4 : RX 19 r121_4 (.str [⟨none, some 11, .mv (.tmp 1)⟩, ⟨none, some 12, .mv (.tmp 0)⟩, ⟨none, some 13, .mv (.tmp 5)⟩, ⟨none, some 14, .oth (.indexAddr 33 (.tmp 12) (.tmp 13))⟩, ⟨none, some 15, .ld 99 (.tmp 14)⟩, ⟨none, some 16, .call false none (.tmp 11) [.tmp 15]⟩]) (some ([0, 1, 3, 5, 7, 8], [3])) := rx
@[simp] theorem x121_5 : RX 19 r121_5 (.str [⟨none, some 17, .mv (.tmp 5)⟩, ⟨none, some 4, .mv (.tmp 17)⟩]) (some ([5], [])) := rx
@[simp] theorem x121_6 : RX 19 r121_6 (.str [⟨none, some 18, .bin .add 3 (.tmp 8) (.const (.int .i64 1))⟩, ⟨none, some 8, .mv (.tmp 18)⟩]) (some ([0, 1, 3, 7, 8], [3])) := rx
@[simp] theorem x121_7 : RX 19 r121_7 (.str [⟨none, some 4, .mv (.const (.int .i64 (Int.negSucc 0)))⟩]) (some ([], [])) := rx
@[simp] theorem l121_2 : ann 19 (fstR lb121_2) = some ([0, 1, 3, 7, 8], [3]) := by kernel_rfl
def r115_0 := rg Try.f115 2
def r115_1 := rg Try.f115 5
def c115 : Code := (.seq r115_0 (.seq r115_1 .ret))
theorem b115 : Try.f115.body = some c115 := by kernel_rfl
@[simp] theorem x115_0 : RX 9 r115_0 (.str [⟨none, some 4, .mv (.const (.bool false))⟩]) (some ([0, 1], [])) := rx
@[simp] theorem x115_1 : RX 9 r115_1 (.str [⟨none, some 5, .mv (.tmp 0)⟩, ⟨none, some 6, .mv (.tmp 1)⟩, ⟨none, some 7, .call false none (.func 121) [.tmp 5, .tmp 6]⟩, ⟨none, some 8, .bin .geq 3 (.tmp 7) (.const (.int .i64 0))⟩, ⟨none, some 4, .mv (.tmp 8)⟩]) (some ([0, 1, 3], [3])) := rx
def r116_0 := rg Try.f116 2
def r116_1 := rg Try.f116 5
def c116 : Code := (.seq r116_0 (.seq r116_1 .ret))
theorem b116 : Try.f116.body = some c116 := by kernel_rfl
@[simp] theorem x116_0 : RX 8 r116_0 (.str [⟨none, some 2, .box (.tmp 0)⟩, ⟨none, some 3, .mv (.const (.bool false))⟩]) (some ([0, 1], [])) := rx
@[simp] theorem x116_1 : RX 8 r116_1 (.str [⟨none, some 4, .ld 137 (.tmp 1)⟩, ⟨none, some 5, .ld 99 (.tmp 2)⟩, ⟨none, some 6, .call false none (.tmp 4) [.tmp 5]⟩, ⟨none, some 7, .oth (.unOp .not 4 (.tmp 6))⟩, ⟨none, some 3, .mv (.tmp 7)⟩]) (some ([1, 2], [2])) := rx
def r97_0 := rg Try.f97 2
def r97_1 := rg Try.f97 5
def c97 : Code := (.seq r97_0 (.seq r97_1 .ret))
theorem b97 : Try.f97.body = some c97 := by kernel_rfl
@[simp] theorem x97_0 : RX 9 r97_0 (.str [⟨none, some 3, .box (.tmp 1)⟩, ⟨none, some 4, .mv (.const (.bool false))⟩]) (some ([0, 1], [3])) := rx
@[simp] theorem x97_1 : RX 9 r97_1 (.str [⟨none, some 5, .mv (.tmp 0)⟩, ⟨none, some 6, .oth (.makeFunc (.func 116) #[] #[.tmp 3])⟩, ⟨none, some 7, .call false none (.func 115) [.tmp 5, .tmp 6]⟩, ⟨none, some 8, .oth (.unOp .not 4 (.tmp 7))⟩, ⟨none, some 4, .mv (.tmp 8)⟩]) (some ([0, 1, 3], [3])) := rx
def r55_0 := rg Try.f55 2
def r55_1 := rg Try.f55 5
def r55_2 := rg Try.f55 35
def r55_3 := rg Try.f55 147
def r55_4 := rg Try.f55 179
def r55_5 := rg Try.f55 627
def r55_6 := rg Try.f55 23
def r55_7 := rg Try.f55 79
def r55_8 := rg Try.f55 559
def r55_9 := rg Try.f55 9007
def r55_10 := rg Try.f55 13103
def r55_11 := rg Try.f55 3887
def r55_12 := rg Try.f55 159
def r55_13 := rg Try.f55 607
def r55_14 := rg Try.f55 191
def lb55_8 : Code := (.seq r55_8 (.seq (.cond (.tmp 58) .skip (.exit 1)) (.seq (.block 2 (.seq r55_9 r55_10)) r55_11)))
@[simp] theorem u55_8 (n : Nat) (st : XS) : execA Try.prog ann kn n 72 lb55_8 st = execA Try.prog ann kn n 72 (.seq r55_8 (.seq (.cond (.tmp 58) .skip (.exit 1)) (.seq (.block 2 (.seq r55_9 r55_10)) r55_11))) st := rfl
def c55 : Code := (.seq r55_0 (.seq r55_1 (.seq (.block 0 (.seq r55_2 (.cond (.tmp 12) (.seq r55_3 .ret) (.seq r55_4 (.cond (.tmp 23) (.seq r55_5 .ret) .skip))))) (.seq r55_6 (.seq (.seq r55_7 (.block 1 (.loop lb55_8))) (.seq (.seq r55_12 (.cond (.tmp 71) (.seq r55_13 .ret) .skip)) (.seq r55_14 .ret)))))))
theorem b55 : Try.f55.body = some c55 := by kernel_rfl
@[simp] theorem x55_0 : RX 72 r55_0 (.str [⟨none, some 1, .box (.tmp 0)⟩, ⟨none, some 2, .mv (.const (.int .i64 0))⟩]) (some ([0], [1, 64])) := rx
@[simp] theorem x55_1 : RX 72 r55_1 (.drw [⟨[], [⟨none, some 8, .ld 35 (.tmp 1)⟩, ⟨none, some 9, .oth (.makeFunc (.func 94) #[.tmp 8] #[])⟩, ⟨none, some 10, .ld 35 (.tmp 1)⟩, ⟨none, some 11, .oth (.makeFunc (.func 95) #[.tmp 10] #[])⟩, ⟨none, some 3, .mv (.tmp 9)⟩, ⟨none, some 4, .mv (.tmp 11)⟩], []⟩]) (some ([1], [1, 64])) := rx
@[simp] theorem x55_2 : RX 72 r55_2 (.str [⟨none, some 13, .fa 35 (.tmp 1) 3⟩, ⟨none, some 14, .ld 32 (.tmp 13)⟩, ⟨none, some 15, .oth (.call ⟨.builtin .len, #[.tmp 14], #[32]⟩)⟩, ⟨none, some 16, .bin .gtr 3 (.tmp 15) (.const (.int .i64 8))⟩, ⟨none, some 17, .mv (.tmp 16)⟩, ⟨some (17, false), some 18, .fa 35 (.tmp 1) 4⟩, ⟨some (17, false), some 19, .ld 33 (.tmp 18)⟩, ⟨some (17, false), some 20, .oth (.call ⟨.builtin .len, #[.tmp 19], #[33]⟩)⟩, ⟨some (17, false), some 21, .bin .gtr 3 (.tmp 20) (.const (.int .i64 4))⟩, ⟨none, some 22, .pick (.tmp 17) (.const (.bool true)) (.tmp 21)⟩, ⟨none, some 12, .mv (.tmp 22)⟩]) (some ([1, 3, 4], [1, 64])) := rx
@[simp] theorem x55_3 : RX 72 r55_3 (.str [⟨none, some 2, .mv (.const (.int .i64 3))⟩]) (some ([], [])) := rx
@[simp] theorem x55_4 : RX 72 r55_4 (.str [⟨none, some 24, .fa 35 (.tmp 1) 0⟩, ⟨none, some 25, .ld 3 (.tmp 24)⟩, ⟨none, some 26, .call false none (.func 69) [.tmp 25, .const (.int .i64 1), .const (.int .i64 4)]⟩, ⟨none, some 27, .oth (.unOp .not 4 (.tmp 26))⟩, ⟨none, some 28, .mv (.tmp 27)⟩, ⟨some (28, false), some 29, .fa 35 (.tmp 1) 1⟩, ⟨some (28, false), some 30, .ld 3 (.tmp 29)⟩, ⟨some (28, false), some 31, .call false none (.func 69) [.tmp 30, .const (.int .i64 1), .const (.int .i64 99)]⟩, ⟨some (28, false), some 32, .oth (.unOp .not 4 (.tmp 31))⟩, ⟨none, some 33, .pick (.tmp 28) (.const (.bool true)) (.tmp 32)⟩, ⟨none, some 34, .mv (.tmp 33)⟩, ⟨some (34, false), some 35, .fa 35 (.tmp 1) 2⟩, ⟨some (34, false), some 36, .ld 3 (.tmp 35)⟩, ⟨some (34, false), some 37, .call false none (.func 69) [.tmp 36, .const (.int .i64 0), .const (.int .i64 999)]⟩, ⟨some (34, false), some 38, .oth (.unOp .not 4 (.tmp 37))⟩, ⟨none, some 39, .pick (.tmp 34) (.const (.bool true)) (.tmp 38)⟩, ⟨none, some 40, .mv (.tmp 39)⟩, ⟨some (40, false), some 41, .fa 35 (.tmp 1) 3⟩, ⟨some (40, false), some 42, .ld 32 (.tmp 41)⟩, ⟨some (40, false), some 43, .mv (.tmp 3)⟩, ⟨some (40, false), some 44, .call false none (.func 96) [.tmp 42, .tmp 43]⟩, ⟨some (40, false), some 45, .oth (.unOp .not 4 (.tmp 44))⟩, ⟨none, some 46, .pick (.tmp 40) (.const (.bool true)) (.tmp 45)⟩, ⟨none, some 47, .mv (.tmp 46)⟩, ⟨some (47, false), some 48, .fa 35 (.tmp 1) 4⟩, ⟨some (47, false), some 49, .ld 33 (.tmp 48)⟩, ⟨some (47, false), some 50, .mv (.tmp 4)⟩, ⟨some (47, false), some 51, .call false none (.func 97) [.tmp 49, .tmp 50]⟩, ⟨some (47, false), some 52, .oth (.unOp .not 4 (.tmp 51))⟩, ⟨none, some 53, .pick (.tmp 47) (.const (.bool true)) (.tmp 52)⟩, ⟨none, some 23, .mv (.tmp 53)⟩]) (some ([1, 3, 4], [1, 64])) := rx
@[simp] theorem x55_5 : RX 72 r55_5 (.str [⟨none, some 2, .mv (.const (.int .i64 1))⟩]) (some ([], [])) := rx
@[simp] theorem x55_6 : RX 72 r55_6 (.str [⟨none, some 5, .mv (.const (.int .i64 1))⟩]) (some ([1], [1, 64])) := rx
@[simp] theorem x55_7 : RX 72 r55_7 (.str [⟨none, some 54, .fa 35 (.tmp 1) 3⟩, ⟨none, some 55, .ld 32 (.tmp 54)⟩, ⟨none, some 56, .oth (.call ⟨.builtin .len, #[.tmp 55], #[32]⟩)⟩, ⟨none, some 57, .mv (.const (.int .i64 0))⟩]) (some ([1, 5], [1, 64])) := rx
@[simp] theorem x55_8 : RX 72 r55_8 (.str [⟨none, some 58, .bin .lss 3 (.tmp 57) (.tmp 56)⟩]) (some ([1, 5, 55, 56, 57], [1, 64])) := rx
@[simp] theorem x55_9 : RX 72 r55_9 (.str [⟨none, some 59, .oth (.indexAddr 32 (.tmp 55) (.tmp 57))⟩, ⟨none, some 60, .ld 96 (.tmp 59)⟩, ⟨none, some 7, .alloc 96⟩, ⟨none, none, .sto 96 (.tmp 7) (.tmp 60)⟩]) (some ([1, 5, 55, 56, 57], [1, 64])) := rx
@[simp] theorem x55_10 : RX 72 r55_10 (.str [⟨none, some 61, .mv (.tmp 5)⟩, ⟨none, some 62, .ld 35 (.tmp 1)⟩, ⟨none, some 63, .ld 96 (.tmp 7)⟩, ⟨none, some 64, .call false none (.func 81) [.tmp 62, .tmp 63]⟩, ⟨none, some 65, .oth (.call ⟨.builtin .len, #[.tmp 64], #[32]⟩)⟩, ⟨none, some 66, .bin .mul 3 (.tmp 61) (.tmp 65)⟩, ⟨none, some 67, .buildS 28 2 [(0, .tmp 66), (1, .const (.int .i64 4097))]⟩, ⟨none, some 68, .call false none (.func 98) [.tmp 67]⟩, ⟨none, some 5, .mv (.tmp 68)⟩]) (some ([1, 5, 7, 55, 56, 57], [1, 7, 64])) := rx
@[simp] theorem x55_11 : RX 72 r55_11 (.str [⟨none, some 69, .bin .add 3 (.tmp 57) (.const (.int .i64 1))⟩, ⟨none, some 57, .mv (.tmp 69)⟩]) (some ([1, 5, 55, 56, 57], [1, 64])) := rx
@[simp] theorem x55_12 : RX 72 r55_12 (.str [⟨none, some 70, .mv (.tmp 5)⟩, ⟨none, some 71, .bin .gtr 3 (.tmp 70) (.const (.int .i64 4096))⟩]) (some ([5], [])) := rx
@[simp] theorem x55_13 : RX 72 r55_13 (.str [⟨none, some 2, .mv (.const (.int .i64 3))⟩]) (some ([], [])) := rx
@[simp] theorem x55_14 : RX 72 r55_14 (.str [⟨none, some 2, .mv (.const (.int .i64 0))⟩]) (some ([], [])) := rx
@[simp] theorem l55_8 : ann 72 (fstR lb55_8) = some ([1, 5, 55, 56, 57], [1, 64]) := by kernel_rfl
def r105_0 := rg Try.f105 2
def r105_1 := rg Try.f105 5
def c105 : Code := (.seq r105_0 (.seq r105_1 .ret))
theorem b105 : Try.f105.body = some c105 := by kernel_rfl
@[simp] theorem x105_0 : RX 6 r105_0 (.str [⟨none, some 1, .box (.tmp 0)⟩, ⟨none, some 2, .alloc 113⟩]) (some ([0], [1])) := rx
@[simp] theorem x105_1 : RX 6 r105_1 (.str [⟨none, some 3, .fa 35 (.tmp 1) 2⟩, ⟨none, some 4, .ld 3 (.tmp 3)⟩, ⟨none, some 5, .build 113 [(2, .tmp 4)]⟩, ⟨none, none, .sto 113 (.tmp 2) (.tmp 5)⟩]) (some ([1, 2], [1, 2])) := rx
def r104_0 := rg Try.f104 2
def r104_1 := rg Try.f104 5
def r104_2 := rg Try.f104 19
def r104_3 := rg Try.f104 75
def r104_4 := rg Try.f104 39
def r104_5 := rg Try.f104 279
def r104_6 := rg Try.f104 663
def r104_7 := rg Try.f104 343
def r104_8 := rg Try.f104 727
def r104_9 := rg Try.f104 1495
def r104_10 := rg Try.f104 47
def r104_11 := rg Try.f104 95
def r104_12 := rg Try.f104 191
def c104 : Code := (.seq r104_0 (.seq r104_1 (.seq (.seq r104_2 (.cond (.tmp 31) (.seq r104_3 .ret) .skip)) (.seq (.seq r104_4 (.cond (.tmp 33) (.seq (.seq r104_5 (.cond (.tmp 44) r104_6 .skip)) (.seq r104_7 (.seq r104_8 (.seq r104_9 .ret)))) .skip)) (.seq r104_10 (.seq r104_11 (.seq r104_12 .ret)))))))
theorem b104 : Try.f104.body = some c104 := by kernel_rfl
@[simp] theorem x104_0 : RX 83 r104_0 (.str [⟨none, some 4, .box (.tmp 0)⟩, ⟨none, some 5, .box (.tmp 1)⟩, ⟨none, some 7, .box (.tmp 3)⟩, ⟨none, some 8, .alloc 113⟩, ⟨none, some 9, .mv (.const (.bool false))⟩]) (some ([0, 1, 2, 3], [4])) := rx
@[simp] theorem x104_1 : RX 83 r104_1 (.str [⟨none, some 11, .fa 96 (.tmp 7) 0⟩, ⟨none, some 12, .ld 3 (.tmp 11)⟩, ⟨none, some 13, .bin .eql 3 (.tmp 12) (.const (.int .i64 2))⟩, ⟨none, some 10, .mv (.tmp 13)⟩]) (some ([2, 4, 5, 7, 8], [4, 5, 7, 8])) := rx
@[simp] theorem x104_2 : RX 83 r104_2 (.str [⟨none, some 14, .fa 96 (.tmp 7) 1⟩, ⟨none, some 15, .ld 3 (.tmp 14)⟩, ⟨none, some 16, .fa 113 (.tmp 5) 0⟩, ⟨none, some 17, .oth (.indexAddr 111 (.tmp 16) (.tmp 15))⟩, ⟨none, some 18, .ld 3 (.tmp 17)⟩, ⟨none, some 19, .bin .neq 3 (.tmp 18) (.const (.int .i64 0))⟩, ⟨none, some 20, .mv (.tmp 10)⟩, ⟨none, some 21, .bin .neq 4 (.tmp 19) (.tmp 20)⟩, ⟨none, some 22, .mv (.tmp 21)⟩, ⟨some (22, false), some 23, .fa 96 (.tmp 7) 2⟩, ⟨some (22, false), some 24, .ld 3 (.tmp 23)⟩, ⟨some (22, false), some 25, .fa 113 (.tmp 5) 1⟩, ⟨some (22, false), some 26, .oth (.indexAddr 111 (.tmp 25) (.tmp 24))⟩, ⟨some (22, false), some 27, .ld 3 (.tmp 26)⟩, ⟨some (22, false), some 28, .bin .neq 3 (.tmp 27) (.const (.int .i64 0))⟩, ⟨some (22, false), some 29, .mv (.tmp 10)⟩, ⟨some (22, false), some 30, .bin .neq 4 (.tmp 28) (.tmp 29)⟩, ⟨none, some 31, .pick (.tmp 22) (.const (.bool true)) (.tmp 30)⟩]) (some ([2, 4, 5, 7, 8, 10], [4, 5, 7, 8])) := rx
@[simp] theorem x104_3 : RX 83 r104_3 (.str [⟨none, some 32, .ld 113 (.tmp 5)⟩, ⟨none, none, .sto 113 (.tmp 8) (.tmp 32)⟩, ⟨none, some 9, .mv (.const (.bool false))⟩]) (some ([5, 8], [5, 8])) := rx
@[simp] theorem x104_4 : RX 83 r104_4 (.str [⟨none, some 33, .mv (.tmp 10)⟩]) (some ([2, 4, 5, 7, 8, 10], [4, 5, 7, 8])) := rx
@[simp] theorem x104_5 : RX 83 r104_5 (.drw [⟨[], [⟨none, some 34, .fa 96 (.tmp 7) 1⟩, ⟨none, some 35, .ld 3 (.tmp 34)⟩, ⟨none, some 36, .fa 113 (.tmp 5) 0⟩, ⟨none, some 37, .oth (.indexAddr 111 (.tmp 36) (.tmp 35))⟩, ⟨none, some 38, .ld 3 (.tmp 37)⟩, ⟨none, some 39, .fa 96 (.tmp 7) 2⟩, ⟨none, some 40, .ld 3 (.tmp 39)⟩, ⟨none, some 41, .fa 113 (.tmp 5) 1⟩, ⟨none, some 42, .oth (.indexAddr 111 (.tmp 41) (.tmp 40))⟩, ⟨none, some 43, .ld 3 (.tmp 42)⟩, ⟨none, some 44, .bin .neq 3 (.tmp 38) (.tmp 43)⟩], []⟩]) (some ([4, 5, 7, 8], [4, 5, 7, 8])) := rx
@[simp] theorem x104_6 : RX 83 r104_6 (.str [⟨none, some 45, .fa 113 (.tmp 5) 3⟩, ⟨none, some 46, .ld 3 (.tmp 45)⟩, ⟨none, some 47, .bin .add 3 (.tmp 46) (.const (.int .i64 1))⟩, ⟨none, some 48, .fa 113 (.tmp 5) 3⟩, ⟨none, none, .sto 3 (.tmp 48) (.tmp 47)⟩]) (some ([4, 5, 7, 8], [4, 5, 7, 8])) := rx
@[simp] theorem x104_7 : RX 83 r104_7 (.drw [⟨[], [⟨none, some 49, .fa 96 (.tmp 7) 1⟩, ⟨none, some 50, .ld 3 (.tmp 49)⟩, ⟨none, some 51, .fa 96 (.tmp 7) 2⟩, ⟨none, some 52, .ld 3 (.tmp 51)⟩, ⟨none, some 53, .fa 113 (.tmp 5) 0⟩, ⟨none, some 54, .oth (.indexAddr 111 (.tmp 53) (.tmp 50))⟩, ⟨none, some 55, .fa 113 (.tmp 5) 1⟩, ⟨none, none, .sto 3 (.tmp 54) (.const (.int .i64 0))⟩, ⟨none, some 56, .oth (.indexAddr 111 (.tmp 55) (.tmp 52))⟩, ⟨none, none, .sto 3 (.tmp 56) (.const (.int .i64 0))⟩], []⟩]) (some ([4, 5, 7, 8], [4, 5, 7, 8])) := rx
@[simp] theorem x104_8 : RX 83 r104_8 (.str [⟨none, some 57, .fa 113 (.tmp 5) 2⟩, ⟨none, some 58, .ld 3 (.tmp 57)⟩, ⟨none, some 59, .fa 35 (.tmp 4) 1⟩, ⟨none, some 60, .ld 3 (.tmp 59)⟩, ⟨none, some 61, .bin .sub 3 (.tmp 58) (.tmp 60)⟩, ⟨none, some 62, .fa 113 (.tmp 5) 2⟩, ⟨none, none, .sto 3 (.tmp 62) (.tmp 61)⟩]) (some ([4, 5, 8], [4, 5, 8])) := rx
@[simp] theorem x104_9 : RX 83 r104_9 (.str [⟨none, some 63, .ld 113 (.tmp 5)⟩, ⟨none, none, .sto 113 (.tmp 8) (.tmp 63)⟩, ⟨none, some 9, .mv (.const (.bool true))⟩]) (some ([5, 8], [5, 8])) := rx
@[simp] theorem x104_10 : RX 83 r104_10 (.drw [⟨[], [⟨none, some 64, .fa 96 (.tmp 7) 1⟩, ⟨none, some 65, .ld 3 (.tmp 64)⟩, ⟨none, some 66, .fa 96 (.tmp 7) 2⟩, ⟨none, some 67, .ld 3 (.tmp 66)⟩, ⟨none, some 68, .mv (.tmp 2)⟩, ⟨none, some 69, .bin .add 3 (.tmp 68) (.const (.int .i64 1))⟩, ⟨none, some 70, .mv (.tmp 2)⟩, ⟨none, some 71, .bin .add 3 (.tmp 70) (.const (.int .i64 1))⟩, ⟨none, some 72, .fa 113 (.tmp 5) 0⟩, ⟨none, some 73, .oth (.indexAddr 111 (.tmp 72) (.tmp 65))⟩, ⟨none, some 74, .fa 113 (.tmp 5) 1⟩, ⟨none, none, .sto 3 (.tmp 73) (.tmp 69)⟩, ⟨none, some 75, .oth (.indexAddr 111 (.tmp 74) (.tmp 67))⟩, ⟨none, none, .sto 3 (.tmp 75) (.tmp 71)⟩], []⟩]) (some ([2, 4, 5, 7, 8], [4, 5, 7, 8])) := rx
@[simp] theorem x104_11 : RX 83 r104_11 (.str [⟨none, some 76, .fa 113 (.tmp 5) 2⟩, ⟨none, some 77, .ld 3 (.tmp 76)⟩, ⟨none, some 78, .fa 35 (.tmp 4) 1⟩, ⟨none, some 79, .ld 3 (.tmp 78)⟩, ⟨none, some 80, .bin .add 3 (.tmp 77) (.tmp 79)⟩, ⟨none, some 81, .fa 113 (.tmp 5) 2⟩, ⟨none, none, .sto 3 (.tmp 81) (.tmp 80)⟩]) (some ([4, 5, 8], [4, 5, 8])) := rx
@[simp] theorem x104_12 : RX 83 r104_12 (.str [⟨none, some 82, .ld 113 (.tmp 5)⟩, ⟨none, none, .sto 113 (.tmp 8) (.tmp 82)⟩, ⟨none, some 9, .mv (.const (.bool true))⟩]) (some ([5, 8], [5, 8])) := rx
def r122_0 := rg Try.f122 2
def r122_1 := rg Try.f122 9
def r122_2 := rg Try.f122 69
def r122_3 := rg Try.f122 1125
def r122_4 := rg Try.f122 2661
def r122_5 := rg Try.f122 9829
def r122_6 := rg Try.f122 485
def r122_7 := rg Try.f122 11
def lb122_2 : Code := (.seq r122_2 (.seq (.cond (.tmp 9) .skip (.exit 0)) (.seq (.block 1 (.seq r122_3 (.seq r122_4 (.cond (.tmp 16) (.seq r122_5 .ret) .skip)))) r122_6)))
@[simp] theorem u122_2 (n : Nat) (st : XS) : execA Try.prog ann kn n 19 lb122_2 st = execA Try.prog ann kn n 19 (.seq r122_2 (.seq (.cond (.tmp 9) .skip (.exit 0)) (.seq (.block 1 (.seq r122_3 (.seq r122_4 (.cond (.tmp 16) (.seq r122_5 .ret) .skip)))) r122_6))) st := rfl
def c122 : Code := (.seq r122_0 (.seq (.seq r122_1 (.block 0 (.loop lb122_2))) (.seq r122_7 .ret)))
@[simp] theorem x122_0 : RX 19 r122_0 (.str [⟨none, some 3, .box (.tmp 1)⟩, ⟨none, some 4, .mv (.const (.int .i64 0))⟩]) (some ([0, 1], [])) := rx
@[simp] theorem x122_1 : RX 19 r122_1 (.str [⟨none, some 6, .mv (.tmp 0)⟩, ⟨none, some 7, .oth (.call ⟨.builtin .len, #[.tmp 6], #[32]⟩)⟩, ⟨none, some 8, .mv (.const (.int .i64 0))⟩]) (some ([0, 1, 2, 3], [2, 3])) := rx
@[simp] theorem x122_2 : RX 19 r122_2 (.str [⟨none, some 9, .bin .lss 3 (.tmp 8) (.tmp 7)⟩]) (some ([0, 1, 3, 7, 8], [3])) := rx
@[simp] theorem x122_3 : RX 19 r122_3 (.str [⟨none, some 10, .mv (.tmp 8)⟩, ⟨none, some 5, .mv (.tmp 10)⟩]) (some ([0, 1, 3, 7, 8], [3])) := rx
@[simp] theorem x122_4 : RX 19 r122_4 (.drw [⟨[], [⟨none, some 11, .ld 96 (.tmp 3)⟩, ⟨none, some 12, .mv (.tmp 0)⟩, ⟨none, some 13, .mv (.tmp 5)⟩, ⟨none, some 14, .oth (.indexAddr 32 (.tmp 12) (.tmp 13))⟩, ⟨none, some 15, .ld 96 (.tmp 14)⟩, ⟨none, some 16, .bin .eql 96 (.tmp 11) (.tmp 15)⟩], []⟩]) (some ([0, 1, 3, 5, 7, 8], [3])) := rx
@[simp] theorem x122_5 : RX 19 r122_5 (.str [⟨none, some 17, .mv (.tmp 5)⟩, ⟨none, some 4, .mv (.tmp 17)⟩]) (some ([5], [])) := rx
@[simp] theorem x122_6 : RX 19 r122_6 (.str [⟨none, some 18, .bin .add 3 (.tmp 8) (.const (.int .i64 1))⟩, ⟨none, some 8, .mv (.tmp 18)⟩]) (some ([0, 1, 3, 7, 8], [3])) := rx
@[simp] theorem x122_7 : RX 19 r122_7 (.str [⟨none, some 4, .mv (.const (.int .i64 (Int.negSucc 0)))⟩]) (some ([], [])) := rx
@[simp] theorem l122_2 : ann 19 (fstR lb122_2) = some ([0, 1, 3, 7, 8], [3]) := by kernel_rfl
def r120_0 := rg Try.f120 2
def r120_1 := rg Try.f120 5
def c120 : Code := (.seq r120_0 (.seq r120_1 .ret))
def r110_0 := rg Try.f110 2
def r110_1 := rg Try.f110 5
def c110 : Code := (.seq r110_0 (.seq r110_1 .ret))
def r93_0 := rg Try.f93 2
def r93_1 := rg Try.f93 5
def c93 : Code := (.seq r93_0 (.seq r93_1 .ret))
theorem b93 : Try.f93.body = some c93 := by kernel_rfl
@[simp] theorem x93_0 : RX 11 r93_0 (.str [⟨none, some 3, .box (.tmp 0)⟩, ⟨none, some 4, .box (.tmp 1)⟩, ⟨none, some 5, .box (.tmp 2)⟩, ⟨none, some 6, .mv (.const (.bool false))⟩]) (some ([0, 1, 2], [3])) := rx
@[simp] theorem x93_1 : RX 11 r93_1 (.str [⟨none, some 7, .fa 35 (.tmp 3) 4⟩, ⟨none, some 8, .ld 33 (.tmp 7)⟩, ⟨none, some 9, .oth (.makeFunc (.func 111) #[] #[.tmp 5, .tmp 4])⟩, ⟨none, some 10, .call false none (.func 97) [.tmp 8, .tmp 9]⟩, ⟨none, some 6, .mv (.tmp 10)⟩]) (some ([3, 4, 5], [3, 4, 5])) := rx
def r111_0 := rg Try.f111 2
def r111_1 := rg Try.f111 5
def c111 : Code := (.seq r111_0 (.seq r111_1 .ret))
theorem b111 : Try.f111.body = some c111 := by kernel_rfl
@[simp] theorem x111_0 : RX 16 r111_0 (.str [⟨none, some 3, .box (.tmp 0)⟩, ⟨none, some 4, .mv (.const (.bool false))⟩]) (some ([0, 1, 2], [])) := rx
@[simp] theorem x111_1 : RX 16 r111_1 (.str [⟨none, some 5, .fa 99 (.tmp 3) 0⟩, ⟨none, some 6, .ld 3 (.tmp 5)⟩, ⟨none, some 7, .ld 3 (.tmp 1)⟩, ⟨none, some 8, .bin .neq 3 (.tmp 6) (.tmp 7)⟩, ⟨none, some 9, .mv (.tmp 8)⟩, ⟨some (9, false), some 10, .fa 99 (.tmp 3) 1⟩, ⟨some (9, false), some 11, .ld 45 (.tmp 10)⟩, ⟨some (9, false), some 12, .fa 113 (.tmp 2) 2⟩, ⟨some (9, false), some 13, .ld 3 (.tmp 12)⟩, ⟨some (9, false), some 14, .call false none (.func 112) [.tmp 11, .tmp 13]⟩, ⟨none, some 15, .pick (.tmp 9) (.const (.bool true)) (.tmp 14)⟩, ⟨none, some 4, .mv (.tmp 15)⟩]) (some ([1, 2, 3], [3])) := rx
def r92_0 := rg Try.f92 2
def r92_1 := rg Try.f92 9
def r92_2 := rg Try.f92 37
def r92_3 := rg Try.f92 11
def r92_4 := rg Try.f92 23
def r92_5 := rg Try.f92 79
def r92_6 := rg Try.f92 559
def r92_7 := rg Try.f92 9007
def r92_8 := rg Try.f92 37679
def r92_9 := rg Try.f92 152367
def r92_10 := rg Try.f92 45871
def r92_11 := rg Try.f92 160559
def r92_12 := rg Try.f92 357167
def r92_13 := rg Try.f92 1274671
def r92_14 := rg Try.f92 127791
def r92_15 := rg Try.f92 3887
def r92_16 := rg Try.f92 95
def lb92_6 : Code := (.seq r92_6 (.seq (.cond (.tmp 24) .skip (.exit 0)) (.seq (.block 1 (.seq r92_7 (.seq (.seq r92_8 (.cond (.tmp 36) (.seq r92_9 .ret) .skip)) (.seq r92_10 (.seq (.seq r92_11 (.seq r92_12 (.cond (.tmp 46) (.seq r92_13 .ret) .skip))) r92_14))))) r92_15)))
@[simp] theorem u92_6 (n : Nat) (st : XS) : execA Try.prog ann kn n 53 lb92_6 st = execA Try.prog ann kn n 53 (.seq r92_6 (.seq (.cond (.tmp 24) .skip (.exit 0)) (.seq (.block 1 (.seq r92_7 (.seq (.seq r92_8 (.cond (.tmp 36) (.seq r92_9 .ret) .skip)) (.seq r92_10 (.seq (.seq r92_11 (.seq r92_12 (.cond (.tmp 46) (.seq r92_13 .ret) .skip))) r92_14))))) r92_15))) st := rfl
def c92 : Code := (.seq r92_0 (.seq (.seq r92_1 (.cond (.tmp 16) (.seq r92_2 .ret) .skip)) (.seq r92_3 (.seq r92_4 (.seq (.seq r92_5 (.block 0 (.loop lb92_6))) (.seq r92_16 .ret))))))
@[simp] theorem x92_0 : RX 53 r92_0 (.str [⟨none, some 2, .box (.tmp 0)⟩, ⟨none, some 4, .mv (.const (.slice none 0 0))⟩, ⟨none, some 5, .mv (.const (.bool false))⟩]) (some ([0, 1], [2])) := rx
@[simp] theorem x92_1 : RX 53 r92_1 (.str [⟨none, some 11, .mv (.tmp 1)⟩, ⟨none, some 12, .oth (.call ⟨.builtin .len, #[.tmp 11], #[32]⟩)⟩, ⟨none, some 13, .fa 35 (.tmp 2) 3⟩, ⟨none, some 14, .ld 32 (.tmp 13)⟩, ⟨none, some 15, .oth (.call ⟨.builtin .len, #[.tmp 14], #[32]⟩)⟩, ⟨none, some 16, .bin .neq 3 (.tmp 12) (.tmp 15)⟩]) (some ([1, 2], [2])) := rx
@[simp] theorem x92_2 : RX 53 r92_2 (.str [⟨none, some 4, .mv (.const (.slice none 0 0))⟩, ⟨none, some 5, .mv (.const (.bool false))⟩]) (some ([], [])) := rx
@[simp] theorem x92_3 : RX 53 r92_3 (.str [⟨none, some 17, .ld 35 (.tmp 2)⟩, ⟨none, some 18, .call true none (.func 105) [.tmp 17]⟩, ⟨none, some 6, .alloc 113⟩, ⟨none, none, .sto 113 (.tmp 6) (.tmp 18)⟩]) (some ([1, 2], [2])) := rx
@[simp] theorem x92_4 : RX 53 r92_4 (.str [⟨none, some 19, .ld 113 (.tmp 6)⟩, ⟨none, some 20, .buildS 134 1 [(0, .tmp 19)]⟩, ⟨none, some 7, .mv (.tmp 20)⟩]) (some ([1, 2, 6], [2, 6])) := rx
@[simp] theorem x92_5 : RX 53 r92_5 (.str [⟨none, some 21, .mv (.tmp 1)⟩, ⟨none, some 22, .oth (.call ⟨.builtin .len, #[.tmp 21], #[32]⟩)⟩, ⟨none, some 23, .mv (.const (.int .i64 0))⟩]) (some ([1, 2, 6, 7], [2, 6, 50])) := rx
@[simp] theorem x92_6 : RX 53 r92_6 (.str [⟨none, some 24, .bin .lss 3 (.tmp 23) (.tmp 22)⟩]) (some ([2, 6, 7, 21, 22, 23], [2, 6, 50])) := rx
@[simp] theorem x92_7 : RX 53 r92_7 (.str [⟨none, some 25, .mv (.tmp 23)⟩, ⟨none, some 26, .oth (.indexAddr 32 (.tmp 21) (.tmp 23))⟩, ⟨none, some 27, .ld 96 (.tmp 26)⟩, ⟨none, some 9, .alloc 96⟩, ⟨none, some 8, .mv (.tmp 25)⟩, ⟨none, none, .sto 96 (.tmp 9) (.tmp 27)⟩]) (some ([2, 6, 7, 21, 22, 23], [2, 6, 50])) := rx
@[simp] theorem x92_8 : RX 53 r92_8 (.drw [⟨[], [⟨none, some 28, .ld 35 (.tmp 2)⟩, ⟨none, some 29, .fa 35 (.tmp 2) 3⟩, ⟨none, some 30, .ld 32 (.tmp 29)⟩, ⟨none, some 31, .mv (.tmp 8)⟩, ⟨none, some 32, .oth (.indexAddr 32 (.tmp 30) (.tmp 31))⟩, ⟨none, some 33, .ld 96 (.tmp 32)⟩, ⟨none, some 34, .ld 96 (.tmp 9)⟩], [⟨none, some 35, .call false none (.func 110) [.tmp 28, .tmp 33, .tmp 34]⟩]⟩, ⟨[], [⟨none, some 36, .oth (.unOp .not 4 (.tmp 35))⟩], []⟩]) (some ([2, 6, 7, 8, 9, 21, 22, 23], [2, 6, 9, 50])) := rx
@[simp] theorem x92_9 : RX 53 r92_9 (.str [⟨none, some 4, .mv (.const (.slice none 0 0))⟩, ⟨none, some 5, .mv (.const (.bool false))⟩]) (some ([], [])) := rx
@[simp] theorem x92_10 : RX 53 r92_10 (.str [⟨none, some 10, .mv (.const (.bool false))⟩]) (some ([2, 6, 7, 8, 9, 21, 22, 23], [2, 6, 9, 50])) := rx
@[simp] theorem x92_11 : RX 53 r92_11 (.str [⟨none, some 38, .ld 35 (.tmp 2)⟩, ⟨none, some 39, .ld 113 (.tmp 6)⟩, ⟨none, some 40, .mv (.tmp 8)⟩, ⟨none, some 41, .ld 96 (.tmp 9)⟩, ⟨none, some 42, .call false none (.func 104) [.tmp 38, .tmp 39, .tmp 40, .tmp 41]⟩, ⟨none, some 37, .mv (.tmp 42)⟩, ⟨none, some 43, .oth (.extract (.tmp 37) 0)⟩, ⟨none, some 44, .oth (.extract (.tmp 37) 1)⟩, ⟨none, none, .sto 113 (.tmp 6) (.tmp 43)⟩, ⟨none, some 10, .mv (.tmp 44)⟩]) (some ([2, 6, 7, 8, 9, 21, 22, 23], [2, 6, 9, 50])) := rx
@[simp] theorem x92_12 : RX 53 r92_12 (.str [⟨none, some 45, .mv (.tmp 10)⟩, ⟨none, some 46, .oth (.unOp .not 4 (.tmp 45))⟩]) (some ([2, 6, 7, 10, 21, 22, 23], [2, 6, 50])) := rx
@[simp] theorem x92_13 : RX 53 r92_13 (.str [⟨none, some 4, .mv (.const (.slice none 0 0))⟩, ⟨none, some 5, .mv (.const (.bool false))⟩]) (some ([], [])) := rx
@[simp] theorem x92_14 : RX 53 r92_14 (.str [⟨none, some 47, .mv (.tmp 7)⟩, ⟨none, some 48, .ld 113 (.tmp 6)⟩, ⟨none, some 49, .buildS 134 1 [(0, .tmp 48)]⟩, ⟨none, some 50, .app [.tmp 47, .tmp 49] [134, 134]⟩, ⟨none, some 7, .mv (.tmp 50)⟩]) (some ([2, 6, 7, 21, 22, 23], [2, 6, 50])) := rx
@[simp] theorem x92_15 : RX 53 r92_15 (.str [⟨none, some 51, .bin .add 3 (.tmp 23) (.const (.int .i64 1))⟩, ⟨none, some 23, .mv (.tmp 51)⟩]) (some ([2, 6, 7, 21, 22, 23], [2, 6, 50])) := rx
@[simp] theorem x92_16 : RX 53 r92_16 (.str [⟨none, some 52, .mv (.tmp 7)⟩, ⟨none, some 4, .mv (.tmp 52)⟩, ⟨none, some 5, .mv (.const (.bool true))⟩]) (some ([7], [50])) := rx
@[simp] theorem l92_6 : ann 53 (fstR lb92_6) = some ([2, 6, 7, 21, 22, 23], [2, 6, 50]) := by kernel_rfl
def r53_0 := rg Try.f53 2
def r53_1 := rg Try.f53 9
def r53_2 := rg Try.f53 37
def r53_3 := rg Try.f53 11
def r53_4 := rg Try.f53 39
def r53_5 := rg Try.f53 279
def r53_6 := rg Try.f53 4503
def r53_7 := rg Try.f53 6551
def r53_8 := rg Try.f53 1943
def r53_9 := rg Try.f53 47
def lb53_5 : Code := (.seq r53_5 (.seq (.cond (.tmp 21) .skip (.exit 0)) (.seq (.block 1 (.seq r53_6 r53_7)) r53_8)))
@[simp] theorem u53_5 (n : Nat) (st : XS) : execA Try.prog ann kn n 34 lb53_5 st = execA Try.prog ann kn n 34 (.seq r53_5 (.seq (.cond (.tmp 21) .skip (.exit 0)) (.seq (.block 1 (.seq r53_6 r53_7)) r53_8))) st := rfl
def c53 : Code := (.seq r53_0 (.seq (.seq r53_1 (.cond (.tmp 11) (.seq r53_2 .ret) .skip)) (.seq r53_3 (.seq (.seq r53_4 (.block 0 (.loop lb53_5))) (.seq r53_9 .ret)))))
@[simp] theorem x53_0 : RX 34 r53_0 (.str [⟨none, some 2, .box (.tmp 0)⟩, ⟨none, some 4, .mv (.const (.bool false))⟩]) (some ([0, 1], [2, 15])) := rx
@[simp] theorem x53_1 : RX 34 r53_1 (.str [⟨none, some 9, .ld 35 (.tmp 2)⟩, ⟨none, some 10, .call false none (.func 55) [.tmp 9]⟩, ⟨none, some 11, .bin .neq 29 (.tmp 10) (.const (.int .i64 0))⟩]) (some ([1, 2], [2, 15])) := rx
@[simp] theorem x53_2 : RX 34 r53_2 (.str [⟨none, some 4, .mv (.const (.bool false))⟩]) (some ([], [])) := rx
@[simp] theorem x53_3 : RX 34 r53_3 (.str [⟨none, some 13, .ld 35 (.tmp 2)⟩, ⟨none, some 14, .mv (.tmp 1)⟩, ⟨none, some 15, .call false none (.func 92) [.tmp 13, .tmp 14]⟩, ⟨none, some 12, .mv (.tmp 15)⟩, ⟨none, some 16, .oth (.extract (.tmp 12) 0)⟩, ⟨none, some 17, .oth (.extract (.tmp 12) 1)⟩, ⟨none, some 5, .mv (.tmp 16)⟩, ⟨none, some 6, .mv (.tmp 17)⟩]) (some ([1, 2], [2, 15])) := rx
@[simp] theorem x53_4 : RX 34 r53_4 (.str [⟨none, some 18, .mv (.tmp 5)⟩, ⟨none, some 19, .oth (.call ⟨.builtin .len, #[.tmp 18], #[134]⟩)⟩, ⟨none, some 20, .mv (.const (.int .i64 0))⟩]) (some ([2, 5, 6], [2, 15])) := rx
@[simp] theorem x53_5 : RX 34 r53_5 (.str [⟨none, some 21, .bin .lss 3 (.tmp 20) (.tmp 19)⟩]) (some ([2, 6, 18, 19, 20], [2, 15])) := rx
@[simp] theorem x53_6 : RX 34 r53_6 (.str [⟨none, some 22, .mv (.tmp 20)⟩, ⟨none, some 23, .oth (.indexAddr 134 (.tmp 18) (.tmp 20))⟩, ⟨none, some 24, .ld 113 (.tmp 23)⟩, ⟨none, some 8, .alloc 113⟩, ⟨none, some 7, .mv (.tmp 22)⟩, ⟨none, none, .sto 113 (.tmp 8) (.tmp 24)⟩]) (some ([2, 6, 18, 19, 20], [2, 15])) := rx
@[simp] theorem x53_7 : RX 34 r53_7 (.str [⟨none, some 25, .mv (.tmp 6)⟩, ⟨none, some 26, .mv (.tmp 25)⟩, ⟨some (26, true), some 27, .ld 35 (.tmp 2)⟩, ⟨some (26, true), some 28, .ld 113 (.tmp 8)⟩, ⟨some (26, true), some 29, .mv (.tmp 7)⟩, ⟨some (26, true), some 30, .call false none (.func 93) [.tmp 27, .tmp 28, .tmp 29]⟩, ⟨none, some 31, .pick (.tmp 26) (.tmp 30) (.const (.bool false))⟩, ⟨none, some 6, .mv (.tmp 31)⟩]) (some ([2, 6, 7, 8, 18, 19, 20], [2, 8, 15])) := rx
@[simp] theorem x53_8 : RX 34 r53_8 (.str [⟨none, some 32, .bin .add 3 (.tmp 20) (.const (.int .i64 1))⟩, ⟨none, some 20, .mv (.tmp 32)⟩]) (some ([2, 6, 18, 19, 20], [2, 15])) := rx
@[simp] theorem x53_9 : RX 34 r53_9 (.str [⟨none, some 33, .mv (.tmp 6)⟩, ⟨none, some 4, .mv (.tmp 33)⟩]) (some ([6], [])) := rx
@[simp] theorem l53_5 : ann 34 (fstR lb53_5) = some ([2, 6, 18, 19, 20], [2, 15]) := by kernel_rfl
def r54_0 := rg Try.f54 2
def r54_1 := rg Try.f54 9
def r54_2 := rg Try.f54 21
def r54_3 := rg Try.f54 77
def r54_4 := rg Try.f54 11
def r54_5 := rg Try.f54 39
def r54_6 := rg Try.f54 151
def r54_7 := rg Try.f54 79
def r54_8 := rg Try.f54 559
def r54_9 := rg Try.f54 9007
def r54_10 := rg Try.f54 13103
def r54_11 := rg Try.f54 3887
def r54_12 := rg Try.f54 95
def lb54_8 : Code := (.seq r54_8 (.seq (.cond (.tmp 28) .skip (.exit 0)) (.seq (.block 1 (.seq r54_9 r54_10)) r54_11)))
@[simp] theorem u54_8 (n : Nat) (st : XS) : execA Try.prog ann kn n 41 lb54_8 st = execA Try.prog ann kn n 41 (.seq r54_8 (.seq (.cond (.tmp 28) .skip (.exit 0)) (.seq (.block 1 (.seq r54_9 r54_10)) r54_11))) st := rfl
def c54 : Code := (.seq r54_0 (.seq (.seq r54_1 (.seq r54_2 (.cond (.tmp 15) (.seq r54_3 .ret) .skip))) (.seq r54_4 (.seq (.seq r54_5 (.cond (.tmp 24) (.seq r54_6 .ret) .skip)) (.seq (.seq r54_7 (.block 0 (.loop lb54_8))) (.seq r54_12 .ret))))))
@[simp] theorem x54_0 : RX 41 r54_0 (.str [⟨none, some 2, .box (.tmp 0)⟩, ⟨none, some 4, .mv (.const (.slice none 0 0))⟩, ⟨none, some 5, .mv (.const (.int .i64 0))⟩, ⟨none, some 6, .mv (.const (.int .i64 0))⟩]) (some ([0, 1], [2, 20])) := rx
@[simp] theorem x54_1 : RX 41 r54_1 (.str [⟨none, some 12, .ld 35 (.tmp 2)⟩, ⟨none, some 13, .call false none (.func 55) [.tmp 12]⟩, ⟨none, some 7, .mv (.tmp 13)⟩]) (some ([1, 2, 4, 5], [2, 20, 35])) := rx
@[simp] theorem x54_2 : RX 41 r54_2 (.str [⟨none, some 14, .mv (.tmp 7)⟩, ⟨none, some 15, .bin .neq 29 (.tmp 14) (.const (.int .i64 0))⟩]) (some ([1, 2, 4, 5, 7], [2, 20, 35])) := rx
@[simp] theorem x54_3 : RX 41 r54_3 (.str [⟨none, some 16, .mv (.tmp 7)⟩, ⟨none, some 4, .mv (.const (.slice none 0 0))⟩, ⟨none, some 5, .mv (.const (.int .i64 0))⟩, ⟨none, some 6, .mv (.tmp 16)⟩]) (some ([7], [])) := rx
@[simp] theorem x54_4 : RX 41 r54_4 (.str [⟨none, some 18, .ld 35 (.tmp 2)⟩, ⟨none, some 19, .mv (.tmp 1)⟩, ⟨none, some 20, .call false none (.func 92) [.tmp 18, .tmp 19]⟩, ⟨none, some 17, .mv (.tmp 20)⟩, ⟨none, some 21, .oth (.extract (.tmp 17) 0)⟩, ⟨none, some 22, .oth (.extract (.tmp 17) 1)⟩, ⟨none, some 8, .mv (.tmp 21)⟩, ⟨none, some 9, .mv (.tmp 22)⟩]) (some ([1, 2, 4, 5], [2, 20, 35])) := rx
@[simp] theorem x54_5 : RX 41 r54_5 (.str [⟨none, some 23, .mv (.tmp 9)⟩, ⟨none, some 24, .oth (.unOp .not 4 (.tmp 23))⟩]) (some ([4, 5, 8, 9], [2, 20, 35])) := rx
@[simp] theorem x54_6 : RX 41 r54_6 (.str [⟨none, some 4, .mv (.const (.slice none 0 0))⟩, ⟨none, some 5, .mv (.const (.int .i64 0))⟩, ⟨none, some 6, .mv (.const (.int .i64 2))⟩]) (some ([], [])) := rx
@[simp] theorem x54_7 : RX 41 r54_7 (.str [⟨none, some 25, .mv (.tmp 8)⟩, ⟨none, some 26, .oth (.call ⟨.builtin .len, #[.tmp 25], #[134]⟩)⟩, ⟨none, some 27, .mv (.const (.int .i64 0))⟩]) (some ([4, 5, 8], [2, 20, 35])) := rx
@[simp] theorem x54_8 : RX 41 r54_8 (.str [⟨none, some 28, .bin .lss 3 (.tmp 27) (.tmp 26)⟩]) (some ([4, 5, 25, 26, 27], [2, 20, 35])) := rx
@[simp] theorem x54_9 : RX 41 r54_9 (.str [⟨none, some 29, .oth (.indexAddr 134 (.tmp 25) (.tmp 27))⟩, ⟨none, some 30, .ld 113 (.tmp 29)⟩, ⟨none, some 11, .alloc 113⟩, ⟨none, none, .sto 113 (.tmp 11) (.tmp 30)⟩]) (some ([4, 25, 26, 27], [2, 20, 35])) := rx
@[simp] theorem x54_10 : RX 41 r54_10 (.drw [⟨[], [⟨none, some 31, .mv (.tmp 4)⟩, ⟨none, some 32, .fa 113 (.tmp 11) 2⟩, ⟨none, some 33, .ld 3 (.tmp 32)⟩, ⟨none, some 34, .buildS 28 1 [(0, .tmp 33)]⟩, ⟨none, some 36, .fa 113 (.tmp 11) 3⟩, ⟨none, some 37, .ld 3 (.tmp 36)⟩, ⟨none, some 35, .app [.tmp 31, .tmp 34] [28, 28]⟩, ⟨none, some 4, .mv (.tmp 35)⟩, ⟨none, some 5, .mv (.tmp 37)⟩], []⟩]) (some ([4, 11, 25, 26, 27], [2, 11, 20, 35])) := rx
@[simp] theorem x54_11 : RX 41 r54_11 (.str [⟨none, some 38, .bin .add 3 (.tmp 27) (.const (.int .i64 1))⟩, ⟨none, some 27, .mv (.tmp 38)⟩]) (some ([4, 5, 25, 26, 27], [2, 20, 35])) := rx
@[simp] theorem x54_12 : RX 41 r54_12 (.str [⟨none, some 39, .mv (.tmp 4)⟩, ⟨none, some 40, .mv (.tmp 5)⟩, ⟨none, some 4, .mv (.tmp 39)⟩, ⟨none, some 5, .mv (.tmp 40)⟩, ⟨none, some 6, .mv (.const (.int .i64 0))⟩]) (some ([4, 5], [35])) := rx
@[simp] theorem l54_8 : ann 41 (fstR lb54_8) = some ([4, 5, 25, 26, 27], [2, 20, 35]) := by kernel_rfl
def r63_0 := rg Try.f63 2
def r63_1 := rg Try.f63 5
def r63_2 := rg Try.f63 19
def r63_3 := rg Try.f63 267
def r63_5 := rg Try.f63 1099
def r63_6 := rg Try.f63 4683
def r63_7 := rg Try.f63 10827
def r63_8 := rg Try.f63 23115
def r63_4 := rg Try.f63 459
def r63_9 := rg Try.f63 23
def lb63_3 : Code := (.seq (.seq r63_3 (.cond (.tmp 11) .skip (.exit 0))) (.seq (.block 1 (.seq r63_5 (.cond (.tmp 20) (.seq r63_6 (.seq r63_7 (.cond (.tmp 26) r63_8 .skip))) .skip))) r63_4))
@[simp] theorem u63_3 (n : Nat) (st : XS) : execA Try.prog ann kn n 29 lb63_3 st = execA Try.prog ann kn n 29 (.seq (.seq r63_3 (.cond (.tmp 11) .skip (.exit 0))) (.seq (.block 1 (.seq r63_5 (.cond (.tmp 20) (.seq r63_6 (.seq r63_7 (.cond (.tmp 26) r63_8 .skip))) .skip))) r63_4)) st := rfl
def c63 : Code := (.seq r63_0 (.seq r63_1 (.seq (.seq r63_2 (.block 0 (.loop lb63_3))) (.seq r63_9 .ret))))
theorem b63 : Try.f63.body = some c63 := by kernel_rfl
@[simp] theorem x63_0 : RX 29 r63_0 (.str [⟨none, some 6, .mv (.const (.int .i64 0))⟩]) (some ([0, 1, 2], [])) := rx
@[simp] theorem x63_1 : RX 29 r63_1 (.str [⟨none, some 7, .mv (.const (.int .i64 (Int.negSucc 0)))⟩]) (some ([0, 1, 2], [])) := rx
@[simp] theorem x63_2 : RX 29 r63_2 (.str [⟨none, some 8, .mv (.const (.int .i64 0))⟩]) (some ([0, 1, 2, 7], [])) := rx
@[simp] theorem x63_3 : RX 29 r63_3 (.str [⟨none, some 9, .mv (.tmp 8)⟩, ⟨none, some 10, .mv (.tmp 1)⟩, ⟨none, some 11, .bin .lss 3 (.tmp 9) (.tmp 10)⟩]) (some ([0, 1, 2, 7, 8], [])) := rx
@[simp] theorem x63_5 : RX 29 r63_5 (.str [⟨none, some 14, .mv (.tmp 0)⟩, ⟨none, some 15, .mv (.tmp 8)⟩, ⟨none, some 16, .oth (.indexAddr 22 (.tmp 14) (.tmp 15))⟩, ⟨none, some 17, .fa 75 (.tmp 16) 1⟩, ⟨none, some 18, .ld 3 (.tmp 17)⟩, ⟨none, some 19, .mv (.tmp 2)⟩, ⟨none, some 20, .bin .eql 3 (.tmp 18) (.tmp 19)⟩]) (some ([0, 1, 2, 7, 8], [])) := rx
@[simp] theorem x63_6 : RX 29 r63_6 (.str [⟨none, some 7, .mv (.const (.int .i64 (Int.negSucc 0)))⟩]) (some ([0, 1, 2, 8], [])) := rx
@[simp] theorem x63_7 : RX 29 r63_7 (.str [⟨none, some 21, .mv (.tmp 0)⟩, ⟨none, some 22, .mv (.tmp 8)⟩, ⟨none, some 23, .oth (.indexAddr 22 (.tmp 21) (.tmp 22))⟩, ⟨none, some 24, .fa 75 (.tmp 23) 0⟩, ⟨none, some 25, .ld 3 (.tmp 24)⟩, ⟨none, some 26, .bin .eql 3 (.tmp 25) (.const (.int .i64 1))⟩]) (some ([0, 1, 2, 7, 8], [])) := rx
@[simp] theorem x63_8 : RX 29 r63_8 (.str [⟨none, some 27, .mv (.tmp 8)⟩, ⟨none, some 7, .mv (.tmp 27)⟩]) (some ([0, 1, 2, 8], [])) := rx
@[simp] theorem x63_4 : RX 29 r63_4 (.str [⟨none, some 12, .mv (.tmp 8)⟩, ⟨none, some 13, .bin .add 3 (.tmp 12) (.const (.int .i64 1))⟩, ⟨none, some 8, .mv (.tmp 13)⟩]) (some ([0, 1, 2, 7, 8], [])) := rx
@[simp] theorem x63_9 : RX 29 r63_9 (.str [⟨none, some 28, .mv (.tmp 7)⟩, ⟨none, some 6, .mv (.tmp 28)⟩]) (some ([7], [])) := rx
@[simp] theorem l63_3 : ann 29 (fstR lb63_3) = some ([0, 1, 2, 7, 8], []) := by kernel_rfl
def r64_0 := rg Try.f64 2
def r64_1 := rg Try.f64 5
def r64_2 := rg Try.f64 19
def r64_3 := rg Try.f64 267
def r64_5 := rg Try.f64 1099
def r64_6 := rg Try.f64 4683
def r64_7 := rg Try.f64 10827
def r64_8 := rg Try.f64 23115
def r64_4 := rg Try.f64 459
def r64_9 := rg Try.f64 23
def lb64_3 : Code := (.seq (.seq r64_3 (.cond (.tmp 11) .skip (.exit 0))) (.seq (.block 1 (.seq r64_5 (.cond (.tmp 20) (.seq r64_6 (.seq r64_7 (.cond (.tmp 26) r64_8 .skip))) .skip))) r64_4))
@[simp] theorem u64_3 (n : Nat) (st : XS) : execA Try.prog ann kn n 29 lb64_3 st = execA Try.prog ann kn n 29 (.seq (.seq r64_3 (.cond (.tmp 11) .skip (.exit 0))) (.seq (.block 1 (.seq r64_5 (.cond (.tmp 20) (.seq r64_6 (.seq r64_7 (.cond (.tmp 26) r64_8 .skip))) .skip))) r64_4)) st := rfl
def c64 : Code := (.seq r64_0 (.seq r64_1 (.seq (.seq r64_2 (.block 0 (.loop lb64_3))) (.seq r64_9 .ret))))
theorem b64 : Try.f64.body = some c64 := by kernel_rfl
@[simp] theorem x64_0 : RX 29 r64_0 (.str [⟨none, some 6, .mv (.const (.int .i64 0))⟩]) (some ([0, 1, 2], [])) := rx
@[simp] theorem x64_1 : RX 29 r64_1 (.str [⟨none, some 7, .mv (.const (.int .i64 (Int.negSucc 0)))⟩]) (some ([0, 1, 2], [])) := rx
@[simp] theorem x64_2 : RX 29 r64_2 (.str [⟨none, some 8, .mv (.const (.int .i64 0))⟩]) (some ([0, 1, 2, 7], [])) := rx
@[simp] theorem x64_3 : RX 29 r64_3 (.str [⟨none, some 9, .mv (.tmp 8)⟩, ⟨none, some 10, .mv (.tmp 1)⟩, ⟨none, some 11, .bin .lss 3 (.tmp 9) (.tmp 10)⟩]) (some ([0, 1, 2, 7, 8], [])) := rx
@[simp] theorem x64_5 : RX 29 r64_5 (.str [⟨none, some 14, .mv (.tmp 0)⟩, ⟨none, some 15, .mv (.tmp 8)⟩, ⟨none, some 16, .oth (.indexAddr 22 (.tmp 14) (.tmp 15))⟩, ⟨none, some 17, .fa 75 (.tmp 16) 2⟩, ⟨none, some 18, .ld 3 (.tmp 17)⟩, ⟨none, some 19, .mv (.tmp 2)⟩, ⟨none, some 20, .bin .eql 3 (.tmp 18) (.tmp 19)⟩]) (some ([0, 1, 2, 7, 8], [])) := rx
@[simp] theorem x64_6 : RX 29 r64_6 (.str [⟨none, some 7, .mv (.const (.int .i64 (Int.negSucc 0)))⟩]) (some ([0, 1, 2, 8], [])) := rx
@[simp] theorem x64_7 : RX 29 r64_7 (.str [⟨none, some 21, .mv (.tmp 0)⟩, ⟨none, some 22, .mv (.tmp 8)⟩, ⟨none, some 23, .oth (.indexAddr 22 (.tmp 21) (.tmp 22))⟩, ⟨none, some 24, .fa 75 (.tmp 23) 0⟩, ⟨none, some 25, .ld 3 (.tmp 24)⟩, ⟨none, some 26, .bin .eql 3 (.tmp 25) (.const (.int .i64 1))⟩]) (some ([0, 1, 2, 7, 8], [])) := rx
@[simp] theorem x64_8 : RX 29 r64_8 (.str [⟨none, some 27, .mv (.tmp 8)⟩, ⟨none, some 7, .mv (.tmp 27)⟩]) (some ([0, 1, 2, 8], [])) := rx
@[simp] theorem x64_4 : RX 29 r64_4 (.str [⟨none, some 12, .mv (.tmp 8)⟩, ⟨none, some 13, .bin .add 3 (.tmp 12) (.const (.int .i64 1))⟩, ⟨none, some 8, .mv (.tmp 13)⟩]) (some ([0, 1, 2, 7, 8], [])) := rx
@[simp] theorem x64_9 : RX 29 r64_9 (.str [⟨none, some 28, .mv (.tmp 7)⟩, ⟨none, some 6, .mv (.tmp 28)⟩]) (some ([7], [])) := rx
@[simp] theorem l64_3 : ann 29 (fstR lb64_3) = some ([0, 1, 2, 7, 8], []) := by kernel_rfl
def r44_0 := rg Try.f44 2
def r44_1 := rg Try.f44 5
def r44_2 := rg Try.f44 19
def r44_3 := rg Try.f44 267
def r44_5 := rg Try.f44 1099
def r44_6 := rg Try.f44 2635
def r44_7 := rg Try.f44 3659
def r44_4 := rg Try.f44 459
def r44_8 := rg Try.f44 23
def lb44_3 : Code := (.seq (.seq r44_3 (.cond (.tmp 13) .skip (.exit 0))) (.seq (.block 1 (.seq r44_5 (.cond (.tmp 21) r44_6 r44_7))) r44_4))
@[simp] theorem u44_3 (n : Nat) (st : XS) : execA Try.prog ann kn n 31 lb44_3 st = execA Try.prog ann kn n 31 (.seq (.seq r44_3 (.cond (.tmp 13) .skip (.exit 0))) (.seq (.block 1 (.seq r44_5 (.cond (.tmp 21) r44_6 r44_7))) r44_4)) st := rfl
def c44 : Code := (.seq r44_0 (.seq r44_1 (.seq (.seq r44_2 (.block 0 (.loop lb44_3))) (.seq r44_8 .ret))))
theorem b44 : Try.f44.body = some c44 := by kernel_rfl
@[simp] theorem x44_0 : RX 31 r44_0 (.str [⟨none, some 3, .box (.tmp 0)⟩, ⟨none, some 6, .mv (.const (.int .i64 0))⟩]) (some ([0, 1, 2], [3])) := rx
@[simp] theorem x44_1 : RX 31 r44_1 (.str [⟨none, some 9, .fa 25 (.tmp 3) 2⟩, ⟨none, some 10, .ld 3 (.tmp 9)⟩, ⟨none, some 7, .mv (.tmp 10)⟩]) (some ([1, 2, 3], [3])) := rx
@[simp] theorem x44_2 : RX 31 r44_2 (.str [⟨none, some 8, .mv (.const (.int .i64 0))⟩]) (some ([1, 2, 3, 7], [3])) := rx
@[simp] theorem x44_3 : RX 31 r44_3 (.str [⟨none, some 11, .mv (.tmp 8)⟩, ⟨none, some 12, .mv (.tmp 2)⟩, ⟨none, some 13, .bin .lss 3 (.tmp 11) (.tmp 12)⟩]) (some ([1, 2, 3, 4, 7, 8], [3])) := rx
@[simp] theorem x44_5 : RX 31 r44_5 (.str [⟨none, some 16, .mv (.tmp 1)⟩, ⟨none, some 17, .mv (.tmp 8)⟩, ⟨none, some 18, .oth (.indexAddr 22 (.tmp 16) (.tmp 17))⟩, ⟨none, some 19, .fa 75 (.tmp 18) 0⟩, ⟨none, some 20, .ld 3 (.tmp 19)⟩, ⟨none, some 21, .bin .eql 3 (.tmp 20) (.const (.int .i64 1))⟩]) (some ([1, 2, 3, 7, 8], [3])) := rx
@[simp] theorem x44_6 : RX 31 r44_6 (.str [⟨none, some 22, .mv (.tmp 7)⟩, ⟨none, some 23, .fa 25 (.tmp 3) 1⟩, ⟨none, some 24, .ld 3 (.tmp 23)⟩, ⟨none, some 25, .bin .add 3 (.tmp 22) (.tmp 24)⟩, ⟨none, some 7, .mv (.tmp 25)⟩]) (some ([1, 2, 3, 7, 8], [3])) := rx
@[simp] theorem x44_7 : RX 31 r44_7 (.str [⟨none, some 26, .mv (.tmp 7)⟩, ⟨none, some 27, .fa 25 (.tmp 3) 1⟩, ⟨none, some 28, .ld 3 (.tmp 27)⟩, ⟨none, some 29, .bin .sub 3 (.tmp 26) (.tmp 28)⟩, ⟨none, some 7, .mv (.tmp 29)⟩]) (some ([1, 2, 3, 7, 8], [3])) := rx
@[simp] theorem x44_4 : RX 31 r44_4 (.str [⟨none, some 14, .mv (.tmp 8)⟩, ⟨none, some 15, .bin .add 3 (.tmp 14) (.const (.int .i64 1))⟩, ⟨none, some 8, .mv (.tmp 15)⟩]) (some ([1, 2, 3, 7, 8], [3])) := rx
@[simp] theorem x44_8 : RX 31 r44_8 (.str [⟨none, some 30, .mv (.tmp 7)⟩, ⟨none, some 6, .mv (.tmp 30)⟩]) (some ([7], [])) := rx
@[simp] theorem l44_3 : ann 31 (fstR lb44_3) = some ([1, 2, 3, 4, 7, 8], [3]) := by kernel_rfl
def r45_0 := rg Try.f45 2
def r45_1 := rg Try.f45 5
def r45_2 := rg Try.f45 19
def r45_3 := rg Try.f45 267
def r45_5 := rg Try.f45 1099
def r45_6 := rg Try.f45 2635
def r45_7 := rg Try.f45 5707
def r45_4 := rg Try.f45 459
def r45_8 := rg Try.f45 23
def lb45_3 : Code := (.seq (.seq r45_3 (.cond (.tmp 9) .skip (.exit 0))) (.seq (.block 1 (.seq r45_5 (.seq r45_6 (.cond (.tmp 31) r45_7 .skip)))) r45_4))
@[simp] theorem u45_3 (n : Nat) (st : XS) : execA Try.prog ann kn n 35 lb45_3 st = execA Try.prog ann kn n 35 (.seq (.seq r45_3 (.cond (.tmp 9) .skip (.exit 0))) (.seq (.block 1 (.seq r45_5 (.seq r45_6 (.cond (.tmp 31) r45_7 .skip)))) r45_4)) st := rfl
def c45 : Code := (.seq r45_0 (.seq r45_1 (.seq (.seq r45_2 (.block 0 (.loop lb45_3))) (.seq r45_8 .ret))))
@[simp] theorem x45_0 : RX 35 r45_0 (.str [⟨none, some 2, .mv (.const (.int .i64 0))⟩]) (some ([0], [])) := rx
@[simp] theorem x45_1 : RX 35 r45_1 (.str [⟨none, some 3, .mv (.const (.int .i64 0))⟩]) (some ([0], [])) := rx
@[simp] theorem x45_2 : RX 35 r45_2 (.str [⟨none, some 4, .mv (.const (.int .i64 0))⟩]) (some ([0, 3], [])) := rx
@[simp] theorem x45_3 : RX 35 r45_3 (.str [⟨none, some 6, .mv (.tmp 4)⟩, ⟨none, some 7, .mv (.tmp 0)⟩, ⟨none, some 8, .oth (.call ⟨.builtin .len, #[.tmp 7], #[22]⟩)⟩, ⟨none, some 9, .bin .lss 3 (.tmp 6) (.tmp 8)⟩]) (some ([0, 3, 4], [])) := rx
@[simp] theorem x45_5 : RX 35 r45_5 (.str [⟨none, some 12, .mv (.tmp 0)⟩, ⟨none, some 13, .mv (.tmp 4)⟩, ⟨none, some 14, .oth (.indexAddr 22 (.tmp 12) (.tmp 13))⟩, ⟨none, some 15, .ld 75 (.tmp 14)⟩, ⟨none, some 5, .alloc 75⟩, ⟨none, none, .sto 75 (.tmp 5) (.tmp 15)⟩]) (some ([0, 3, 4], [])) := rx
@[simp] theorem x45_6 : RX 35 r45_6 (.drw [⟨[], [⟨none, some 16, .fa 75 (.tmp 5) 0⟩, ⟨none, some 17, .ld 3 (.tmp 16)⟩, ⟨none, some 18, .bin .eql 3 (.tmp 17) (.const (.int .i64 2))⟩, ⟨none, some 19, .mv (.tmp 18)⟩, ⟨some (19, true), some 20, .mv (.tmp 0)⟩, ⟨some (19, true), some 21, .mv (.tmp 4)⟩, ⟨some (19, true), some 22, .fa 75 (.tmp 5) 1⟩, ⟨some (19, true), some 23, .ld 3 (.tmp 22)⟩, ⟨some (19, true), some 24, .call false none (.func 63) [.tmp 20, .tmp 21, .tmp 23]⟩, ⟨some (19, true), some 25, .mv (.tmp 0)⟩, ⟨some (19, true), some 26, .mv (.tmp 4)⟩, ⟨some (19, true), some 27, .fa 75 (.tmp 5) 2⟩, ⟨some (19, true), some 28, .ld 3 (.tmp 27)⟩], [⟨some (19, true), some 29, .call false none (.func 64) [.tmp 25, .tmp 26, .tmp 28]⟩]⟩, ⟨[], [⟨some (19, true), some 30, .bin .neq 3 (.tmp 24) (.tmp 29)⟩, ⟨none, some 31, .pick (.tmp 19) (.tmp 30) (.const (.bool false))⟩], []⟩]) (some ([0, 3, 4, 5], [5])) := rx
@[simp] theorem x45_7 : RX 35 r45_7 (.str [⟨none, some 32, .mv (.tmp 3)⟩, ⟨none, some 33, .bin .add 3 (.tmp 32) (.const (.int .i64 1))⟩, ⟨none, some 3, .mv (.tmp 33)⟩]) (some ([0, 3, 4], [])) := rx
@[simp] theorem x45_4 : RX 35 r45_4 (.str [⟨none, some 10, .mv (.tmp 4)⟩, ⟨none, some 11, .bin .add 3 (.tmp 10) (.const (.int .i64 1))⟩, ⟨none, some 4, .mv (.tmp 11)⟩]) (some ([0, 3, 4], [])) := rx
@[simp] theorem x45_8 : RX 35 r45_8 (.str [⟨none, some 34, .mv (.tmp 3)⟩, ⟨none, some 2, .mv (.tmp 34)⟩]) (some ([3], [])) := rx
@[simp] theorem l45_3 : ann 35 (fstR lb45_3) = some ([0, 3, 4], []) := by kernel_rfl
def r57_0 := rg Try.f57 2
def r57_1 := rg Try.f57 9
def r57_2 := rg Try.f57 37
def r57_3 := rg Try.f57 19
def r57_4 := rg Try.f57 267
def r57_6 := rg Try.f57 1099
def r57_7 := rg Try.f57 2635
def r57_8 := rg Try.f57 9803
def r57_5 := rg Try.f57 459
def r57_9 := rg Try.f57 23
def lb57_4 : Code := (.seq (.seq r57_4 (.cond (.tmp 16) .skip (.exit 0))) (.seq (.block 1 (.seq r57_6 (.seq r57_7 (.cond (.tmp 54) (.seq r57_8 .ret) .skip)))) r57_5))
@[simp] theorem u57_4 (n : Nat) (st : XS) : execA Try.prog ann kn n 55 lb57_4 st = execA Try.prog ann kn n 55 (.seq (.seq r57_4 (.cond (.tmp 16) .skip (.exit 0))) (.seq (.block 1 (.seq r57_6 (.seq r57_7 (.cond (.tmp 54) (.seq r57_8 .ret) .skip)))) r57_5)) st := rfl
def c57 : Code := (.seq r57_0 (.seq (.seq r57_1 (.cond (.tmp 12) (.seq r57_2 .ret) .skip)) (.seq (.seq r57_3 (.block 0 (.loop lb57_4))) (.seq r57_9 .ret))))
@[simp] theorem x57_0 : RX 55 r57_0 (.str [⟨none, some 2, .box (.tmp 0)⟩, ⟨none, some 4, .mv (.const (.bool false))⟩]) (some ([0, 1], [2])) := rx
@[simp] theorem x57_1 : RX 55 r57_1 (.str [⟨none, some 7, .mv (.tmp 1)⟩, ⟨none, some 8, .oth (.call ⟨.builtin .len, #[.tmp 7], #[22]⟩)⟩, ⟨none, some 9, .fa 25 (.tmp 2) 3⟩, ⟨none, some 10, .ld 22 (.tmp 9)⟩, ⟨none, some 11, .oth (.call ⟨.builtin .len, #[.tmp 10], #[22]⟩)⟩, ⟨none, some 12, .bin .neq 3 (.tmp 8) (.tmp 11)⟩]) (some ([1, 2], [2])) := rx
@[simp] theorem x57_2 : RX 55 r57_2 (.str [⟨none, some 4, .mv (.const (.bool false))⟩]) (some ([], [])) := rx
@[simp] theorem x57_3 : RX 55 r57_3 (.str [⟨none, some 5, .mv (.const (.int .i64 0))⟩]) (some ([1, 2], [2])) := rx
@[simp] theorem x57_4 : RX 55 r57_4 (.str [⟨none, some 13, .mv (.tmp 5)⟩, ⟨none, some 14, .mv (.tmp 1)⟩, ⟨none, some 15, .oth (.call ⟨.builtin .len, #[.tmp 14], #[22]⟩)⟩, ⟨none, some 16, .bin .lss 3 (.tmp 13) (.tmp 15)⟩]) (some ([1, 2, 5], [2])) := rx
@[simp] theorem x57_6 : RX 55 r57_6 (.str [⟨none, some 19, .mv (.tmp 1)⟩, ⟨none, some 20, .mv (.tmp 5)⟩, ⟨none, some 21, .oth (.indexAddr 22 (.tmp 19) (.tmp 20))⟩, ⟨none, some 22, .ld 75 (.tmp 21)⟩, ⟨none, some 6, .alloc 75⟩, ⟨none, none, .sto 75 (.tmp 6) (.tmp 22)⟩]) (some ([1, 2, 5], [2])) := rx
@[simp] theorem x57_7 : RX 55 r57_7 (.drw [⟨[], [⟨none, some 23, .fa 75 (.tmp 6) 0⟩, ⟨none, some 24, .ld 3 (.tmp 23)⟩], [⟨none, some 25, .call false none (.func 25) [.tmp 24, .const (.int .i64 1), .const (.int .i64 2)]⟩]⟩, ⟨[], [⟨none, some 26, .oth (.unOp .not 4 (.tmp 25))⟩, ⟨none, some 27, .mv (.tmp 26)⟩, ⟨some (27, false), some 28, .fa 75 (.tmp 6) 1⟩, ⟨some (27, false), some 29, .ld 3 (.tmp 28)⟩, ⟨some (27, false), some 30, .fa 25 (.tmp 2) 0⟩, ⟨some (27, false), some 31, .ld 3 (.tmp 30)⟩, ⟨some (27, false), some 32, .bin .sub 3 (.tmp 31) (.const (.int .i64 1))⟩], [⟨some (27, false), some 33, .call false none (.func 25) [.tmp 29, .const (.int .i64 0), .tmp 32]⟩]⟩, ⟨[], [⟨some (27, false), some 34, .oth (.unOp .not 4 (.tmp 33))⟩, ⟨none, some 35, .pick (.tmp 27) (.const (.bool true)) (.tmp 34)⟩, ⟨none, some 36, .mv (.tmp 35)⟩, ⟨some (36, false), some 37, .fa 75 (.tmp 6) 2⟩, ⟨some (36, false), some 38, .ld 3 (.tmp 37)⟩, ⟨some (36, false), some 39, .fa 25 (.tmp 2) 0⟩, ⟨some (36, false), some 40, .ld 3 (.tmp 39)⟩, ⟨some (36, false), some 41, .bin .sub 3 (.tmp 40) (.const (.int .i64 1))⟩], [⟨some (36, false), some 42, .call false none (.func 25) [.tmp 38, .const (.int .i64 0), .tmp 41]⟩]⟩, ⟨[], [⟨some (36, false), some 43, .oth (.unOp .not 4 (.tmp 42))⟩, ⟨none, some 44, .pick (.tmp 36) (.const (.bool true)) (.tmp 43)⟩, ⟨none, some 45, .mv (.tmp 44)⟩, ⟨some (45, false), some 46, .fa 25 (.tmp 2) 3⟩, ⟨some (45, false), some 47, .ld 22 (.tmp 46)⟩, ⟨some (45, false), some 48, .mv (.tmp 5)⟩, ⟨some (45, false), some 49, .oth (.indexAddr 22 (.tmp 47) (.tmp 48))⟩, ⟨some (45, false), some 50, .ld 75 (.tmp 49)⟩, ⟨some (45, false), some 51, .ld 75 (.tmp 6)⟩], [⟨some (45, false), some 52, .call false none (.func 99) [.tmp 50, .tmp 51]⟩]⟩, ⟨[], [⟨some (45, false), some 53, .oth (.unOp .not 4 (.tmp 52))⟩, ⟨none, some 54, .pick (.tmp 45) (.const (.bool true)) (.tmp 53)⟩], []⟩]) (some ([1, 2, 5, 6], [2, 6])) := rx
@[simp] theorem x57_8 : RX 55 r57_8 (.str [⟨none, some 4, .mv (.const (.bool false))⟩]) (some ([], [])) := rx
@[simp] theorem x57_5 : RX 55 r57_5 (.str [⟨none, some 17, .mv (.tmp 5)⟩, ⟨none, some 18, .bin .add 3 (.tmp 17) (.const (.int .i64 1))⟩, ⟨none, some 5, .mv (.tmp 18)⟩]) (some ([1, 2, 5], [2])) := rx
@[simp] theorem x57_9 : RX 55 r57_9 (.str [⟨none, some 4, .mv (.const (.bool true))⟩]) (some ([], [])) := rx
@[simp] theorem l57_4 : ann 55 (fstR lb57_4) = some ([1, 2, 5], [2]) := by kernel_rfl
def r58_0 := rg Try.f58 2
def r58_1 := rg Try.f58 9
def r58_2 := rg Try.f58 133
def r58_4 := rg Try.f58 549
def r58_5 := rg Try.f58 1317
def r58_6 := rg Try.f58 2853
def r58_7 := rg Try.f58 10021
def r58_3 := rg Try.f58 229
def r58_8 := rg Try.f58 11
def lb58_2 : Code := (.seq (.seq r58_2 (.cond (.tmp 10) .skip (.exit 0))) (.seq (.block 1 (.seq r58_4 (.seq r58_5 (.seq r58_6 (.cond (.tmp 44) (.seq r58_7 .ret) .skip))))) r58_3))
@[simp] theorem u58_2 (n : Nat) (st : XS) : execA Try.prog ann kn n 45 lb58_2 st = execA Try.prog ann kn n 45 (.seq (.seq r58_2 (.cond (.tmp 10) .skip (.exit 0))) (.seq (.block 1 (.seq r58_4 (.seq r58_5 (.seq r58_6 (.cond (.tmp 44) (.seq r58_7 .ret) .skip))))) r58_3)) st := rfl
def c58 : Code := (.seq r58_0 (.seq (.seq r58_1 (.block 0 (.loop lb58_2))) (.seq r58_8 .ret)))
theorem b58 : Try.f58.body = some c58 := by kernel_rfl
@[simp] theorem x58_0 : RX 45 r58_0 (.str [⟨none, some 2, .mv (.const (.bool false))⟩]) (some ([0], [])) := rx
@[simp] theorem x58_1 : RX 45 r58_1 (.str [⟨none, some 3, .mv (.const (.int .i64 0))⟩]) (some ([0], [])) := rx
@[simp] theorem x58_2 : RX 45 r58_2 (.str [⟨none, some 7, .mv (.tmp 3)⟩, ⟨none, some 8, .mv (.tmp 0)⟩, ⟨none, some 9, .oth (.call ⟨.builtin .len, #[.tmp 8], #[22]⟩)⟩, ⟨none, some 10, .bin .lss 3 (.tmp 7) (.tmp 9)⟩]) (some ([0, 3], [])) := rx
@[simp] theorem x58_4 : RX 45 r58_4 (.drw [⟨[], [⟨none, some 13, .mv (.tmp 0)⟩, ⟨none, some 14, .mv (.tmp 3)⟩, ⟨none, some 15, .mv (.tmp 0)⟩, ⟨none, some 16, .mv (.tmp 3)⟩, ⟨none, some 17, .oth (.indexAddr 22 (.tmp 15) (.tmp 16))⟩, ⟨none, some 18, .fa 75 (.tmp 17) 1⟩, ⟨none, some 19, .ld 3 (.tmp 18)⟩, ⟨none, some 20, .call false none (.func 63) [.tmp 13, .tmp 14, .tmp 19]⟩, ⟨none, some 21, .bin .geq 3 (.tmp 20) (.const (.int .i64 0))⟩, ⟨none, some 22, .mv (.tmp 0)⟩, ⟨none, some 23, .mv (.tmp 3)⟩, ⟨none, some 24, .mv (.tmp 0)⟩, ⟨none, some 25, .mv (.tmp 3)⟩, ⟨none, some 26, .oth (.indexAddr 22 (.tmp 24) (.tmp 25))⟩, ⟨none, some 27, .fa 75 (.tmp 26) 2⟩, ⟨none, some 28, .ld 3 (.tmp 27)⟩, ⟨none, some 29, .call false none (.func 64) [.tmp 22, .tmp 23, .tmp 28]⟩, ⟨none, some 30, .bin .geq 3 (.tmp 29) (.const (.int .i64 0))⟩, ⟨none, some 4, .mv (.tmp 21)⟩, ⟨none, some 5, .mv (.tmp 30)⟩], []⟩]) (some ([0, 3], [])) := rx
@[simp] theorem x58_5 : RX 45 r58_5 (.str [⟨none, some 31, .mv (.tmp 0)⟩, ⟨none, some 32, .mv (.tmp 3)⟩, ⟨none, some 33, .oth (.indexAddr 22 (.tmp 31) (.tmp 32))⟩, ⟨none, some 34, .fa 75 (.tmp 33) 0⟩, ⟨none, some 35, .ld 3 (.tmp 34)⟩, ⟨none, some 36, .bin .eql 3 (.tmp 35) (.const (.int .i64 2))⟩, ⟨none, some 6, .mv (.tmp 36)⟩]) (some ([0, 3, 4, 5], [])) := rx
@[simp] theorem x58_6 : RX 45 r58_6 (.str [⟨none, some 37, .mv (.tmp 4)⟩, ⟨none, some 38, .mv (.tmp 6)⟩, ⟨none, some 39, .bin .neq 4 (.tmp 37) (.tmp 38)⟩, ⟨none, some 40, .mv (.tmp 39)⟩, ⟨some (40, false), some 41, .mv (.tmp 5)⟩, ⟨some (40, false), some 42, .mv (.tmp 6)⟩, ⟨some (40, false), some 43, .bin .neq 4 (.tmp 41) (.tmp 42)⟩, ⟨none, some 44, .pick (.tmp 40) (.const (.bool true)) (.tmp 43)⟩]) (some ([0, 3, 4, 5, 6], [])) := rx
@[simp] theorem x58_7 : RX 45 r58_7 (.str [⟨none, some 2, .mv (.const (.bool false))⟩]) (some ([], [])) := rx
@[simp] theorem x58_3 : RX 45 r58_3 (.str [⟨none, some 11, .mv (.tmp 3)⟩, ⟨none, some 12, .bin .add 3 (.tmp 11) (.const (.int .i64 1))⟩, ⟨none, some 3, .mv (.tmp 12)⟩]) (some ([0, 3], [])) := rx
@[simp] theorem x58_8 : RX 45 r58_8 (.str [⟨none, some 2, .mv (.const (.bool true))⟩]) (some ([], [])) := rx
@[simp] theorem l58_2 : ann 45 (fstR lb58_2) = some ([0, 3], []) := by kernel_rfl
def r89_0 := rg Try.f89 2
def r89_1 := rg Try.f89 9
def r89_2 := rg Try.f89 133
def r89_4 := rg Try.f89 549
def r89_5 := rg Try.f89 1317
def r89_6 := rg Try.f89 4901
def r89_3 := rg Try.f89 229
def r89_7 := rg Try.f89 11
def lb89_2 : Code := (.seq (.seq r89_2 (.cond (.tmp 11) .skip (.exit 0))) (.seq (.block 1 (.seq r89_4 (.seq r89_5 (.cond (.tmp 31) (.seq r89_6 .ret) .skip)))) r89_3))
@[simp] theorem u89_2 (n : Nat) (st : XS) : execA Try.prog ann kn n 32 lb89_2 st = execA Try.prog ann kn n 32 (.seq (.seq r89_2 (.cond (.tmp 11) .skip (.exit 0))) (.seq (.block 1 (.seq r89_4 (.seq r89_5 (.cond (.tmp 31) (.seq r89_6 .ret) .skip)))) r89_3)) st := rfl
def c89 : Code := (.seq r89_0 (.seq (.seq r89_1 (.block 0 (.loop lb89_2))) (.seq r89_7 .ret)))
theorem b89 : Try.f89.body = some c89 := by kernel_rfl
@[simp] theorem x89_0 : RX 32 r89_0 (.str [⟨none, some 2, .box (.tmp 0)⟩, ⟨none, some 4, .mv (.const (.bool false))⟩]) (some ([0, 1], [2])) := rx
@[simp] theorem x89_1 : RX 32 r89_1 (.str [⟨none, some 5, .mv (.const (.int .i64 0))⟩]) (some ([1, 2], [2])) := rx
@[simp] theorem x89_2 : RX 32 r89_2 (.str [⟨none, some 7, .mv (.tmp 5)⟩, ⟨none, some 8, .fa 25 (.tmp 2) 4⟩, ⟨none, some 9, .ld 23 (.tmp 8)⟩, ⟨none, some 10, .oth (.call ⟨.builtin .len, #[.tmp 9], #[23]⟩)⟩, ⟨none, some 11, .bin .lss 3 (.tmp 7) (.tmp 10)⟩]) (some ([1, 2, 5], [2])) := rx
@[simp] theorem x89_4 : RX 32 r89_4 (.str [⟨none, some 14, .fa 25 (.tmp 2) 4⟩, ⟨none, some 15, .ld 23 (.tmp 14)⟩, ⟨none, some 16, .mv (.tmp 5)⟩, ⟨none, some 17, .oth (.indexAddr 23 (.tmp 15) (.tmp 16))⟩, ⟨none, some 18, .ld 78 (.tmp 17)⟩, ⟨none, some 6, .alloc 78⟩, ⟨none, none, .sto 78 (.tmp 6) (.tmp 18)⟩]) (some ([1, 2, 5], [2])) := rx
@[simp] theorem x89_5 : RX 32 r89_5 (.drw [⟨[], [⟨none, some 19, .ld 25 (.tmp 2)⟩, ⟨none, some 20, .mv (.tmp 1)⟩, ⟨none, some 21, .fa 78 (.tmp 6) 0⟩, ⟨none, some 22, .ld 3 (.tmp 21)⟩, ⟨none, some 23, .call false none (.func 44) [.tmp 19, .tmp 20, .tmp 22]⟩, ⟨none, some 24, .fa 78 (.tmp 6) 1⟩, ⟨none, some 25, .fa 50 (.tmp 24) 0⟩, ⟨none, some 26, .ld 3 (.tmp 25)⟩, ⟨none, some 27, .fa 78 (.tmp 6) 1⟩, ⟨none, some 28, .fa 50 (.tmp 27) 1⟩, ⟨none, some 29, .ld 3 (.tmp 28)⟩], [⟨none, some 30, .call false none (.func 25) [.tmp 23, .tmp 26, .tmp 29]⟩]⟩, ⟨[], [⟨none, some 31, .oth (.unOp .not 4 (.tmp 30))⟩], []⟩]) (some ([1, 2, 5, 6], [2, 6])) := rx
@[simp] theorem x89_6 : RX 32 r89_6 (.str [⟨none, some 4, .mv (.const (.bool false))⟩]) (some ([], [])) := rx
@[simp] theorem x89_3 : RX 32 r89_3 (.str [⟨none, some 12, .mv (.tmp 5)⟩, ⟨none, some 13, .bin .add 3 (.tmp 12) (.const (.int .i64 1))⟩, ⟨none, some 5, .mv (.tmp 13)⟩]) (some ([1, 2, 5], [2])) := rx
@[simp] theorem x89_7 : RX 32 r89_7 (.str [⟨none, some 4, .mv (.const (.bool true))⟩]) (some ([], [])) := rx
@[simp] theorem l89_2 : ann 32 (fstR lb89_2) = some ([1, 2, 5], [2]) := by kernel_rfl
def r56_0 := rg Try.f56 2
def r56_1 := rg Try.f56 5
def c56 : Code := (.seq r56_0 (.seq r56_1 .ret))
def r16_0 := rg Try.f16 2
def r16_1 := rg Try.f16 9
def r16_2 := rg Try.f16 37
def r16_3 := rg Try.f16 11
def r16_4 := rg Try.f16 23
def r16_5 := rg Try.f16 47
def r16_6 := rg Try.f16 159
def r16_7 := rg Try.f16 607
def r16_8 := rg Try.f16 319
def r16_9 := rg Try.f16 703
def r16_10 := rg Try.f16 639
def r16_11 := rg Try.f16 2431
def r16_12 := rg Try.f16 1279
def r16_13 := rg Try.f16 4863
def r16_14 := rg Try.f16 2559
def r16_15 := rg Try.f16 34303
def r16_17 := rg Try.f16 140799
def r16_18 := rg Try.f16 599551
def r16_16 := rg Try.f16 58879
def r16_19 := rg Try.f16 3071
def lb16_15 : Code := (.seq (.seq r16_15 (.cond (.tmp 100) .skip (.exit 0))) (.seq (.block 1 (.seq r16_17 (.cond (.tmp 111) (.seq r16_18 .ret) .skip))) r16_16))
@[simp] theorem u16_15 (n : Nat) (st : XS) : execA Try.prog ann kn n 113 lb16_15 st = execA Try.prog ann kn n 113 (.seq (.seq r16_15 (.cond (.tmp 100) .skip (.exit 0))) (.seq (.block 1 (.seq r16_17 (.cond (.tmp 111) (.seq r16_18 .ret) .skip))) r16_16)) st := rfl
def c16 : Code := (.seq r16_0 (.seq (.seq r16_1 (.cond (.tmp 18) (.seq r16_2 .ret) .skip)) (.seq r16_3 (.seq r16_4 (.seq r16_5 (.seq (.seq r16_6 (.cond (.tmp 51) (.seq r16_7 .ret) .skip)) (.seq (.seq r16_8 (.cond (.tmp 63) r16_9 .skip)) (.seq (.seq r16_10 (.cond (.tmp 65) (.seq r16_11 .ret) .skip)) (.seq (.seq r16_12 (.cond (.tmp 96) (.seq r16_13 .ret) .skip)) (.seq (.seq r16_14 (.block 0 (.loop lb16_15))) (.seq r16_19 .ret)))))))))))
@[simp] theorem x16_0 : RX 113 r16_0 (.str [⟨none, some 2, .box (.tmp 0)⟩, ⟨none, some 4, .mv (.const (.bool false))⟩]) (some ([0, 1], [2, 22, 24, 25, 30, 32, 37])) := rx
@[simp] theorem x16_1 : RX 113 r16_1 (.str [⟨none, some 11, .ld 25 (.tmp 2)⟩, ⟨none, some 12, .call false none (.func 19) [.tmp 11]⟩, ⟨none, some 13, .oth (.unOp .not 4 (.tmp 12))⟩, ⟨none, some 14, .mv (.tmp 13)⟩, ⟨some (14, false), some 15, .mv (.tmp 1)⟩, ⟨some (14, false), some 16, .oth (.call ⟨.builtin .len, #[.tmp 15], #[22]⟩)⟩, ⟨some (14, false), some 17, .bin .gtr 3 (.tmp 16) (.const (.int .i64 11))⟩, ⟨none, some 18, .pick (.tmp 14) (.const (.bool true)) (.tmp 17)⟩]) (some ([1, 2], [2, 22, 24, 25, 30, 32, 37])) := rx
@[simp] theorem x16_2 : RX 113 r16_2 (.str [⟨none, some 19, .call false none (.func 20) []⟩, ⟨none, some 4, .mv (.tmp 19)⟩]) (some ([], [])) := rx
@[simp] theorem x16_3 : RX 113 r16_3 (.str [⟨none, some 21, .ld 25 (.tmp 2)⟩, ⟨none, some 22, .call false none (.func 22) [.tmp 21]⟩, ⟨none, some 23, .mv (.tmp 1)⟩, ⟨none, some 24, .call false none (.func 35) [.tmp 23]⟩, ⟨none, some 25, .call false none (.func 54) [.tmp 22, .tmp 24]⟩, ⟨none, some 20, .mv (.tmp 25)⟩, ⟨none, some 26, .oth (.extract (.tmp 20) 0)⟩, ⟨none, some 27, .oth (.extract (.tmp 20) 1)⟩, ⟨none, some 28, .oth (.extract (.tmp 20) 2)⟩, ⟨none, some 5, .mv (.tmp 26)⟩, ⟨none, some 6, .mv (.tmp 27)⟩, ⟨none, some 7, .mv (.tmp 28)⟩]) (some ([1, 2], [2, 22, 24, 25, 30, 32, 37])) := rx
@[simp] theorem x16_4 : RX 113 r16_4 (.str [⟨none, some 29, .ld 25 (.tmp 2)⟩, ⟨none, some 30, .call false none (.func 22) [.tmp 29]⟩, ⟨none, some 31, .mv (.tmp 1)⟩, ⟨none, some 32, .call false none (.func 35) [.tmp 31]⟩, ⟨none, some 33, .call false none (.func 53) [.tmp 30, .tmp 32]⟩, ⟨none, some 8, .mv (.tmp 33)⟩]) (some ([1, 2, 5, 6, 7], [2, 22, 24, 25, 30, 32, 37])) := rx
@[simp] theorem x16_5 : RX 113 r16_5 (.str [⟨none, some 34, .ld 25 (.tmp 2)⟩, ⟨none, some 35, .call false none (.func 24) [.tmp 34]⟩, ⟨none, some 9, .mv (.tmp 35)⟩]) (some ([1, 2, 5, 6, 7, 8], [2, 22, 24, 25, 30, 32, 37])) := rx
@[simp] theorem x16_6 : RX 113 r16_6 (.str [⟨none, some 36, .ld 25 (.tmp 2)⟩, ⟨none, some 37, .call false none (.func 22) [.tmp 36]⟩, ⟨none, some 38, .call false none (.func 55) [.tmp 37]⟩, ⟨none, some 39, .mv (.tmp 9)⟩, ⟨none, some 40, .bin .neq 29 (.tmp 38) (.tmp 39)⟩, ⟨none, some 41, .mv (.tmp 40)⟩, ⟨some (41, false), some 42, .mv (.tmp 8)⟩, ⟨some (41, false), some 43, .mv (.tmp 9)⟩, ⟨some (41, false), some 44, .bin .eql 29 (.tmp 43) (.const (.int .i64 0))⟩, ⟨some (41, false), some 45, .mv (.tmp 44)⟩, ⟨some (45, true), some 46, .ld 25 (.tmp 2)⟩, ⟨some (45, true), some 47, .mv (.tmp 1)⟩, ⟨some (45, true), some 48, .call false none (.func 56) [.tmp 46, .tmp 47]⟩, ⟨some (41, false), some 49, .pick (.tmp 45) (.tmp 48) (.const (.bool false))⟩, ⟨some (41, false), some 50, .bin .neq 4 (.tmp 42) (.tmp 49)⟩, ⟨none, some 51, .pick (.tmp 41) (.const (.bool true)) (.tmp 50)⟩]) (some ([1, 2, 5, 6, 7, 8, 9], [2, 22, 24, 25, 30, 32, 37])) := rx
@[simp] theorem x16_7 : RX 113 r16_7 (.str [⟨none, some 4, .mv (.const (.bool false))⟩]) (some ([], [])) := rx
@[simp] theorem x16_8 : RX 113 r16_8 (.str [⟨none, some 52, .mv (.tmp 9)⟩, ⟨none, some 53, .bin .eql 29 (.tmp 52) (.const (.int .i64 0))⟩, ⟨none, some 54, .mv (.tmp 53)⟩, ⟨some (54, true), some 55, .ld 25 (.tmp 2)⟩, ⟨some (54, true), some 56, .mv (.tmp 1)⟩, ⟨some (54, true), some 57, .call false none (.func 57) [.tmp 55, .tmp 56]⟩, ⟨some (54, true), some 58, .mv (.tmp 57)⟩, ⟨some (58, true), some 59, .mv (.tmp 1)⟩, ⟨some (58, true), some 60, .call false none (.func 58) [.tmp 59]⟩, ⟨some (54, true), some 61, .pick (.tmp 58) (.tmp 60) (.const (.bool false))⟩, ⟨some (54, true), some 62, .oth (.unOp .not 4 (.tmp 61))⟩, ⟨none, some 63, .pick (.tmp 54) (.tmp 62) (.const (.bool false))⟩]) (some ([1, 2, 5, 6, 7, 9], [2, 22, 24, 25, 30, 32, 37])) := rx
@[simp] theorem x16_9 : RX 113 r16_9 (.str [⟨none, some 9, .mv (.const (.int .i64 2))⟩]) (some ([1, 2, 5, 6, 7], [2, 22, 24, 25, 30, 32, 37])) := rx
@[simp] theorem x16_10 : RX 113 r16_10 (.str [⟨none, some 64, .mv (.tmp 9)⟩, ⟨none, some 65, .bin .neq 29 (.tmp 64) (.const (.int .i64 0))⟩]) (some ([1, 2, 5, 6, 7, 9], [2, 22, 24, 25, 30, 32, 37])) := rx
@[simp] theorem x16_11 : RX 113 r16_11 (.str [⟨none, some 66, .mv (.tmp 7)⟩, ⟨none, some 67, .mv (.tmp 9)⟩, ⟨none, some 68, .bin .eql 29 (.tmp 66) (.tmp 67)⟩, ⟨none, some 69, .mv (.tmp 68)⟩, ⟨some (69, true), some 70, .mv (.tmp 5)⟩, ⟨some (69, true), some 71, .oth (.call ⟨.builtin .len, #[.tmp 70], #[28]⟩)⟩, ⟨some (69, true), some 72, .bin .eql 3 (.tmp 71) (.const (.int .i64 0))⟩, ⟨none, some 73, .pick (.tmp 69) (.tmp 72) (.const (.bool false))⟩, ⟨none, some 74, .mv (.tmp 73)⟩, ⟨some (74, true), some 75, .mv (.tmp 6)⟩, ⟨some (74, true), some 76, .bin .eql 3 (.tmp 75) (.const (.int .i64 0))⟩, ⟨none, some 77, .pick (.tmp 74) (.tmp 76) (.const (.bool false))⟩, ⟨none, some 78, .mv (.tmp 77)⟩, ⟨some (78, true), some 79, .call false none (.func 20) []⟩, ⟨none, some 80, .pick (.tmp 78) (.tmp 79) (.const (.bool false))⟩, ⟨none, some 4, .mv (.tmp 80)⟩]) (some ([5, 6, 7, 9], [2, 22, 24, 25, 30, 32, 37])) := rx
@[simp] theorem x16_12 : RX 113 r16_12 (.str [⟨none, some 81, .mv (.tmp 7)⟩, ⟨none, some 82, .bin .neq 29 (.tmp 81) (.const (.int .i64 0))⟩, ⟨none, some 83, .mv (.tmp 82)⟩, ⟨some (83, false), some 84, .mv (.tmp 6)⟩, ⟨some (83, false), some 85, .mv (.tmp 1)⟩, ⟨some (83, false), some 86, .call false none (.func 45) [.tmp 85]⟩, ⟨some (83, false), some 87, .bin .neq 3 (.tmp 84) (.tmp 86)⟩, ⟨none, some 88, .pick (.tmp 83) (.const (.bool true)) (.tmp 87)⟩, ⟨none, some 89, .mv (.tmp 88)⟩, ⟨some (89, false), some 90, .mv (.tmp 5)⟩, ⟨some (89, false), some 91, .oth (.call ⟨.builtin .len, #[.tmp 90], #[28]⟩)⟩, ⟨some (89, false), some 92, .mv (.tmp 1)⟩, ⟨some (89, false), some 93, .oth (.call ⟨.builtin .len, #[.tmp 92], #[22]⟩)⟩, ⟨some (89, false), some 94, .bin .add 3 (.tmp 93) (.const (.int .i64 1))⟩, ⟨some (89, false), some 95, .bin .neq 3 (.tmp 91) (.tmp 94)⟩, ⟨none, some 96, .pick (.tmp 89) (.const (.bool true)) (.tmp 95)⟩]) (some ([1, 2, 5, 6, 7], [2, 22, 24, 25, 30, 32, 37])) := rx
@[simp] theorem x16_13 : RX 113 r16_13 (.str [⟨none, some 4, .mv (.const (.bool false))⟩]) (some ([], [])) := rx
@[simp] theorem x16_14 : RX 113 r16_14 (.str [⟨none, some 10, .mv (.const (.int .i64 0))⟩]) (some ([1, 2, 5], [2, 22, 24, 25, 30, 32, 37])) := rx
@[simp] theorem x16_15 : RX 113 r16_15 (.str [⟨none, some 97, .mv (.tmp 10)⟩, ⟨none, some 98, .mv (.tmp 5)⟩, ⟨none, some 99, .oth (.call ⟨.builtin .len, #[.tmp 98], #[28]⟩)⟩, ⟨none, some 100, .bin .lss 3 (.tmp 97) (.tmp 99)⟩]) (some ([1, 2, 5, 10], [2, 22, 24, 25, 30, 32, 37])) := rx
@[simp] theorem x16_17 : RX 113 r16_17 (.drw [⟨[], [⟨none, some 103, .mv (.tmp 5)⟩, ⟨none, some 104, .mv (.tmp 10)⟩, ⟨none, some 105, .oth (.indexAddr 28 (.tmp 103) (.tmp 104))⟩, ⟨none, some 106, .ld 3 (.tmp 105)⟩, ⟨none, some 107, .ld 25 (.tmp 2)⟩, ⟨none, some 108, .mv (.tmp 1)⟩, ⟨none, some 109, .mv (.tmp 10)⟩, ⟨none, some 110, .call false none (.func 44) [.tmp 107, .tmp 108, .tmp 109]⟩, ⟨none, some 111, .bin .neq 3 (.tmp 106) (.tmp 110)⟩], []⟩]) (some ([1, 2, 5, 10], [2, 22, 24, 25, 30, 32, 37])) := rx
@[simp] theorem x16_18 : RX 113 r16_18 (.str [⟨none, some 4, .mv (.const (.bool false))⟩]) (some ([], [])) := rx
@[simp] theorem x16_16 : RX 113 r16_16 (.str [⟨none, some 101, .mv (.tmp 10)⟩, ⟨none, some 102, .bin .add 3 (.tmp 101) (.const (.int .i64 1))⟩, ⟨none, some 10, .mv (.tmp 102)⟩]) (some ([1, 2, 5, 10], [2, 22, 24, 25, 30, 32, 37])) := rx
@[simp] theorem x16_19 : RX 113 r16_19 (.str [⟨none, some 112, .call false none (.func 20) []⟩, ⟨none, some 4, .mv (.tmp 112)⟩]) (some ([], [])) := rx
@[simp] theorem l16_15 : ann 113 (fstR lb16_15) = some ([1, 2, 5, 10], [2, 22, 24, 25, 30, 32, 37]) := by kernel_rfl
end
end Go.Proofs.Try.Op
