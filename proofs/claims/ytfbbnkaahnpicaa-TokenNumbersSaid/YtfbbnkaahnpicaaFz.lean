/- The walk's ground of function 118: its regions worked out. No condition. -/
import Derived.Test.YtfbbnkaahnpicaaGa
set_option maxRecDepth 100000
namespace Go.Proofs.Try.Op
open Go Go.Pg
noncomputable section
def r118_0 := codeAt (bodyOf Try.f118) [0]
def r118_1 := codeAt (bodyOf Try.f118) [1, 0, 0]
def r118_2 := codeAt (bodyOf Try.f118) [1, 0, 1, 0, 0, 0]
def r118_3 := codeAt (bodyOf Try.f118) [1, 0, 1, 0, 0, 1, 1, 0, 0, 0]
def r118_4 := codeAt (bodyOf Try.f118) [1, 0, 1, 0, 0, 1, 1, 0, 0, 1]
def r118_5 := codeAt (bodyOf Try.f118) [1, 0, 1, 0, 0, 1, 1, 1]
def r118_6 := codeAt (bodyOf Try.f118) [1, 1, 0]
def lb118_2 : Code := (.seq r118_2 (.seq (.cond (.tmp 7) .skip (.exit 0)) (.seq (.block 1 (.seq r118_3 r118_4)) r118_5)))
@[simp] theorem u118_2 (n : Nat) (st : XS) : execA Try.prog ann kn n 17 lb118_2 st = execA Try.prog ann kn n 17 (.seq r118_2 (.seq (.cond (.tmp 7) .skip (.exit 0)) (.seq (.block 1 (.seq r118_3 r118_4)) r118_5))) st := rfl
def c118 : Code := (.seq r118_0 (.seq (.seq r118_1 (.block 0 (.loop lb118_2))) (.seq r118_6 .ret)))
theorem b118 : Try.f118.body = some c118 := by kernel_rfl
@[simp] theorem x118_0 : RX 17 r118_0 (.str [⟨none, some 1, .box (.tmp 0)⟩, ⟨none, some 2, .alloc 111⟩]) (some ([0], [])) := rx
@[simp] theorem x118_1 : RX 17 r118_1 (.str [⟨none, some 5, .ld 111 (.tmp 1)⟩, ⟨none, some 6, .mv (.const (.int .i64 0))⟩]) (some ([1, 2], [1, 2])) := rx
@[simp] theorem x118_2 : RX 17 r118_2 (.str [⟨none, some 7, .bin .lss 3 (.tmp 6) (.const (.int .i64 4))⟩]) (some ([2, 5, 6], [2])) := rx
@[simp] theorem x118_3 : RX 17 r118_3 (.str [⟨none, some 8, .mv (.tmp 6)⟩, ⟨none, some 9, .oth (.index 111 (.tmp 5) (.tmp 6))⟩, ⟨none, some 3, .mv (.tmp 8)⟩, ⟨none, some 4, .mv (.tmp 9)⟩]) (some ([2, 5, 6], [2])) := rx
@[simp] theorem x118_4 : RX 17 r118_4 (.str [⟨none, some 10, .mv (.tmp 3)⟩, ⟨none, some 11, .mv (.tmp 4)⟩, ⟨none, some 12, .buildS 28 2 [(0, .tmp 11), (1, .const (.int .i64 1))]⟩, ⟨none, some 13, .call true none (.func 98) [.tmp 12]⟩, ⟨none, some 14, .oth (.indexAddr 111 (.tmp 2) (.tmp 10))⟩, ⟨none, none, .sto 3 (.tmp 14) (.tmp 13)⟩]) (some ([2, 3, 4, 5, 6], [2])) := rx
@[simp] theorem x118_5 : RX 17 r118_5 (.str [⟨none, some 15, .bin .add 3 (.tmp 6) (.const (.int .i64 1))⟩, ⟨none, some 6, .mv (.tmp 15)⟩]) (some ([2, 5, 6], [2])) := rx
@[simp] theorem x118_6 : RX 17 r118_6 (.str [⟨none, some 16, .ld 111 (.tmp 2)⟩, ⟨none, none, .sto 111 (.tmp 2) (.tmp 16)⟩]) (some ([2], [2])) := rx
@[simp] theorem l118_2 : ann 17 (fstR lb118_2) = some ([2, 5, 6], [2]) := by kernel_rfl
end
end Go.Proofs.Try.Op
/- The walk's ground of function 108: its regions worked out. No condition. -/
set_option maxRecDepth 100000
namespace Go.Proofs.Try.Op
open Go Go.Pg
noncomputable section
def r108_0 := codeAt (bodyOf Try.f108) [0]
def r108_1 := codeAt (bodyOf Try.f108) [1, 0, 0]
def r108_2 := codeAt (bodyOf Try.f108) [1, 0, 1, 0, 0]
def r108_3 := codeAt (bodyOf Try.f108) [1, 1, 0, 0]
def r108_4 := codeAt (bodyOf Try.f108) [1, 1, 0, 1, 0, 0]
def r108_5 := codeAt (bodyOf Try.f108) [1, 1, 1, 0]
def r108_6 := codeAt (bodyOf Try.f108) [1, 1, 1, 1, 0]
def r108_7 := codeAt (bodyOf Try.f108) [1, 1, 1, 1, 1, 0, 0]
def r108_8 := codeAt (bodyOf Try.f108) [1, 1, 1, 1, 1, 0, 1, 0, 0]
def r108_9 := codeAt (bodyOf Try.f108) [1, 1, 1, 1, 1, 1, 0, 0]
def r108_10 := codeAt (bodyOf Try.f108) [1, 1, 1, 1, 1, 1, 0, 1, 0, 0, 0]
def r108_11 := codeAt (bodyOf Try.f108) [1, 1, 1, 1, 1, 1, 0, 1, 0, 0, 1, 1, 0, 0, 0]
def r108_12 := codeAt (bodyOf Try.f108) [1, 1, 1, 1, 1, 1, 0, 1, 0, 0, 1, 1, 0, 0, 1, 0]
def r108_13 := codeAt (bodyOf Try.f108) [1, 1, 1, 1, 1, 1, 0, 1, 0, 0, 1, 1, 0, 0, 1, 1, 0]
def r108_14 := codeAt (bodyOf Try.f108) [1, 1, 1, 1, 1, 1, 0, 1, 0, 0, 1, 1, 0, 0, 1, 1, 1, 0, 0]
def r108_15 := codeAt (bodyOf Try.f108) [1, 1, 1, 1, 1, 1, 0, 1, 0, 0, 1, 1, 1]
def r108_16 := codeAt (bodyOf Try.f108) [1, 1, 1, 1, 1, 1, 1, 0]
def r108_17 := codeAt (bodyOf Try.f108) [1, 1, 1, 1, 1, 1, 1, 1, 0]
def lb108_10 : Code := (.seq r108_10 (.seq (.cond (.tmp 64) .skip (.exit 0)) (.seq (.block 1 (.seq r108_11 (.seq r108_12 (.seq r108_13 (.cond (.tmp 85) (.seq r108_14 (.exit 0)) .skip))))) r108_15)))
@[simp] theorem u108_10 (n : Nat) (st : XS) : execA Try.prog ann kn n 94 lb108_10 st = execA Try.prog ann kn n 94 (.seq r108_10 (.seq (.cond (.tmp 64) .skip (.exit 0)) (.seq (.block 1 (.seq r108_11 (.seq r108_12 (.seq r108_13 (.cond (.tmp 85) (.seq r108_14 (.exit 0)) .skip))))) r108_15))) st := rfl
def c108 : Code := (.seq r108_0 (.seq (.seq r108_1 (.cond (.tmp 21) (.seq r108_2 .ret) .skip)) (.seq (.seq r108_3 (.cond (.tmp 29) (.seq r108_4 .ret) .skip)) (.seq r108_5 (.seq r108_6 (.seq (.seq r108_7 (.cond (.tmp 47) (.seq r108_8 .ret) .skip)) (.seq (.seq r108_9 (.block 0 (.loop lb108_10))) (.seq r108_16 (.seq r108_17 .ret)))))))))
theorem b108 : Try.f108.body = some c108 := by kernel_rfl
@[simp] theorem x108_0 : RX 94 r108_0 (.str [⟨none, some 4, .box (.tmp 1)⟩, ⟨none, some 6, .mv (.const (.bool false))⟩]) (some ([0, 1, 2], [61])) := rx
@[simp] theorem x108_1 : RX 94 r108_1 (.drw [⟨[], [⟨none, some 14, .mv (.tmp 0)⟩, ⟨none, some 15, .oth (.nilCheck (.tmp 14))⟩, ⟨none, some 16, .fa 153 (.tmp 15) 0⟩, ⟨none, some 17, .ld 35 (.tmp 16)⟩, ⟨none, some 18, .ld 113 (.tmp 4)⟩, ⟨none, some 19, .mv (.tmp 2)⟩], [⟨none, some 20, .call false none (.func 93) [.tmp 17, .tmp 18, .tmp 19]⟩]⟩, ⟨[], [⟨none, some 21, .oth (.unOp .not 4 (.tmp 20))⟩], []⟩]) (some ([0, 2, 4], [4, 61])) := rx
@[simp] theorem x108_2 : RX 94 r108_2 (.str [⟨none, some 6, .mv (.const (.bool false))⟩]) (some ([], [])) := rx
@[simp] theorem x108_3 : RX 94 r108_3 (.str [⟨none, some 22, .mv (.tmp 2)⟩, ⟨none, some 23, .mv (.tmp 0)⟩, ⟨none, some 24, .oth (.nilCheck (.tmp 23))⟩, ⟨none, some 25, .fa 153 (.tmp 24) 0⟩, ⟨none, some 26, .fa 35 (.tmp 25) 3⟩, ⟨none, some 27, .ld 32 (.tmp 26)⟩, ⟨none, some 28, .oth (.call ⟨.builtin .len, #[.tmp 27], #[32]⟩)⟩, ⟨none, some 29, .bin .eql 3 (.tmp 22) (.tmp 28)⟩]) (some ([0, 2, 4], [4, 61])) := rx
@[simp] theorem x108_4 : RX 94 r108_4 (.str [⟨none, some 6, .mv (.const (.bool true))⟩]) (some ([], [])) := rx
@[simp] theorem x108_5 : RX 94 r108_5 (.drw [⟨[7], [⟨none, some 30, .mv (.tmp 2)⟩, ⟨none, some 31, .fa 113 (.tmp 4) 0⟩, ⟨none, some 32, .ld 111 (.tmp 31)⟩, ⟨none, some 33, .call false none (.func 118) [.tmp 32]⟩, ⟨none, some 34, .fa 113 (.tmp 4) 1⟩, ⟨none, some 35, .ld 111 (.tmp 34)⟩, ⟨none, some 36, .call false none (.func 118) [.tmp 35]⟩, ⟨none, some 37, .build 159 [(0, .tmp 30), (1, .tmp 33), (2, .tmp 36)]⟩, ⟨none, some 7, .alloc 159⟩], [⟨none, none, .sto 159 (.tmp 7) (.tmp 37)⟩]⟩]) (some ([0, 2, 4], [4, 61])) := rx
@[simp] theorem x108_6 : RX 94 r108_6 (.drw [⟨[], [⟨none, some 39, .mv (.tmp 0)⟩, ⟨none, some 40, .oth (.nilCheck (.tmp 39))⟩, ⟨none, some 41, .fa 153 (.tmp 40) 1⟩, ⟨none, some 42, .ld 151 (.tmp 41)⟩, ⟨none, some 43, .ld 159 (.tmp 7)⟩, ⟨none, some 44, .oth (.lookup 151 (.tmp 42) (.tmp 43) true)⟩, ⟨none, some 38, .mv (.tmp 44)⟩, ⟨none, some 45, .oth (.extract (.tmp 38) 0)⟩, ⟨none, some 46, .oth (.extract (.tmp 38) 1)⟩, ⟨none, some 8, .mv (.tmp 45)⟩, ⟨none, some 9, .mv (.tmp 46)⟩], []⟩]) (some ([0, 2, 4, 7], [4, 7, 61])) := rx
@[simp] theorem x108_7 : RX 94 r108_7 (.str [⟨none, some 47, .mv (.tmp 9)⟩]) (some ([0, 2, 4, 7, 8, 9], [4, 7, 61])) := rx
@[simp] theorem x108_8 : RX 94 r108_8 (.str [⟨none, some 48, .mv (.tmp 8)⟩, ⟨none, some 6, .mv (.tmp 48)⟩]) (some ([8], [])) := rx
@[simp] theorem x108_9 : RX 94 r108_9 (.drw [⟨[], [⟨none, some 49, .mv (.tmp 0)⟩, ⟨none, some 50, .oth (.nilCheck (.tmp 49))⟩, ⟨none, some 51, .fa 153 (.tmp 50) 0⟩, ⟨none, some 52, .ld 35 (.tmp 51)⟩, ⟨none, some 53, .mv (.tmp 0)⟩, ⟨none, some 54, .oth (.nilCheck (.tmp 53))⟩, ⟨none, some 55, .fa 153 (.tmp 54) 0⟩, ⟨none, some 56, .fa 35 (.tmp 55) 3⟩, ⟨none, some 57, .ld 32 (.tmp 56)⟩, ⟨none, some 58, .mv (.tmp 2)⟩, ⟨none, some 59, .oth (.indexAddr 32 (.tmp 57) (.tmp 58))⟩, ⟨none, some 60, .ld 96 (.tmp 59)⟩, ⟨none, some 61, .call false none (.func 81) [.tmp 52, .tmp 60]⟩, ⟨none, some 62, .oth (.call ⟨.builtin .len, #[.tmp 61], #[32]⟩)⟩, ⟨none, some 63, .mv (.const (.int .i64 0))⟩], []⟩]) (some ([0, 2, 4, 7, 8], [4, 7])) := rx
@[simp] theorem x108_10 : RX 94 r108_10 (.str [⟨none, some 64, .bin .lss 3 (.tmp 63) (.tmp 62)⟩]) (some ([0, 2, 4, 7, 8, 61, 62, 63], [4, 7, 61])) := rx
@[simp] theorem x108_11 : RX 94 r108_11 (.str [⟨none, some 65, .oth (.indexAddr 32 (.tmp 61) (.tmp 63))⟩, ⟨none, some 66, .ld 96 (.tmp 65)⟩, ⟨none, some 11, .alloc 96⟩, ⟨none, none, .sto 96 (.tmp 11) (.tmp 66)⟩]) (some ([0, 2, 4, 7, 8, 61, 62, 63], [4, 7, 61])) := rx
@[simp] theorem x108_12 : RX 94 r108_12 (.drw [⟨[12], [⟨none, some 68, .mv (.tmp 0)⟩, ⟨none, some 69, .oth (.nilCheck (.tmp 68))⟩, ⟨none, some 70, .fa 153 (.tmp 69) 0⟩, ⟨none, some 71, .ld 35 (.tmp 70)⟩, ⟨none, some 72, .ld 113 (.tmp 4)⟩, ⟨none, some 73, .mv (.tmp 2)⟩, ⟨none, some 74, .ld 96 (.tmp 11)⟩, ⟨none, some 75, .call false none (.func 104) [.tmp 71, .tmp 72, .tmp 73, .tmp 74]⟩, ⟨none, some 67, .mv (.tmp 75)⟩, ⟨none, some 76, .oth (.extract (.tmp 67) 0)⟩, ⟨none, some 77, .oth (.extract (.tmp 67) 1)⟩, ⟨none, some 12, .alloc 113⟩, ⟨none, none, .sto 113 (.tmp 12) (.tmp 76)⟩, ⟨none, some 13, .mv (.tmp 77)⟩], []⟩]) (some ([0, 2, 4, 7, 8, 11, 61, 62, 63], [4, 7, 11, 61])) := rx
@[simp] theorem x108_13 : RX 94 r108_13 (.str [⟨none, some 78, .mv (.tmp 13)⟩, ⟨none, some 79, .mv (.tmp 78)⟩, ⟨some (79, true), some 80, .mv (.tmp 0)⟩, ⟨some (79, true), some 81, .ld 113 (.tmp 12)⟩, ⟨some (79, true), some 82, .mv (.tmp 2)⟩, ⟨some (79, true), some 83, .bin .add 3 (.tmp 82) (.const (.int .i64 1))⟩, ⟨some (79, true), some 84, .call false none (.func 108) [.tmp 80, .tmp 81, .tmp 83]⟩, ⟨none, some 85, .pick (.tmp 79) (.tmp 84) (.const (.bool false))⟩]) (some ([0, 2, 4, 7, 8, 12, 13, 61, 62, 63], [4, 7, 12, 61])) := rx
@[simp] theorem x108_14 : RX 94 r108_14 (.str [⟨none, some 8, .mv (.const (.bool true))⟩]) (some ([0, 7], [7, 61])) := rx
@[simp] theorem x108_15 : RX 94 r108_15 (.str [⟨none, some 86, .bin .add 3 (.tmp 63) (.const (.int .i64 1))⟩, ⟨none, some 63, .mv (.tmp 86)⟩]) (some ([0, 2, 4, 7, 8, 61, 62, 63], [4, 7, 61])) := rx
@[simp] theorem x108_16 : RX 94 r108_16 (.drw [⟨[], [⟨none, some 87, .mv (.tmp 0)⟩, ⟨none, some 88, .oth (.nilCheck (.tmp 87))⟩, ⟨none, some 89, .fa 153 (.tmp 88) 1⟩, ⟨none, some 90, .ld 151 (.tmp 89)⟩, ⟨none, some 91, .ld 159 (.tmp 7)⟩, ⟨none, some 92, .mv (.tmp 8)⟩], [⟨none, none, .upd 151 (.tmp 90) (.tmp 91) (.tmp 92)⟩]⟩]) (some ([0, 7, 8], [7, 61])) := rx
@[simp] theorem x108_17 : RX 94 r108_17 (.str [⟨none, some 93, .mv (.tmp 8)⟩, ⟨none, some 6, .mv (.tmp 93)⟩]) (some ([8], [])) := rx
@[simp] theorem l108_10 : ann 94 (fstR lb108_10) = some ([0, 2, 4, 7, 8, 61, 62, 63], [4, 7, 61]) := by kernel_rfl
end
end Go.Proofs.Try.Op
/- The walk's ground of function 84: its regions worked out. No condition. -/
set_option maxRecDepth 100000
namespace Go.Proofs.Try.Op
open Go Go.Pg
noncomputable section
def r84_0 := codeAt (bodyOf Try.f84) [0]
def r84_1 := codeAt (bodyOf Try.f84) [1, 0]
def c84 : Code := (.seq r84_0 (.seq r84_1 .ret))
theorem b84 : Try.f84.body = some c84 := by kernel_rfl
@[simp] theorem x84_0 : RX 10 r84_0 (.str [⟨none, some 1, .box (.tmp 0)⟩, ⟨none, some 2, .mv (.const (.bool false))⟩]) (some ([0], [1, 4, 6])) := rx
@[simp] theorem x84_1 : RX 10 r84_1 (.drw [⟨[4, 6], [⟨none, some 3, .ld 35 (.tmp 1)⟩, ⟨none, some 7, .ld 35 (.tmp 1)⟩, ⟨none, some 8, .call false none (.func 105) [.tmp 7]⟩, ⟨none, some 4, .mkM none⟩, ⟨none, some 5, .build 153 [(0, .tmp 3), (1, .tmp 4)]⟩, ⟨none, some 6, .box (.tmp 5)⟩], [⟨none, some 9, .call false none (.func 108) [.tmp 6, .tmp 8, .const (.int .i64 0)]⟩]⟩, ⟨[], [⟨none, some 2, .mv (.tmp 9)⟩], []⟩]) (some ([1], [1])) := rx
end
end Go.Proofs.Try.Op
/- The walk's ground of function 37: its regions worked out. No condition. -/
set_option maxRecDepth 100000
namespace Go.Proofs.Try.Op
open Go Go.Pg
noncomputable section
def r37_0 := codeAt (bodyOf Try.f37) [0]
def r37_1 := codeAt (bodyOf Try.f37) [1, 0, 0]
def r37_2 := codeAt (bodyOf Try.f37) [1, 0, 1, 0]
def r37_3 := codeAt (bodyOf Try.f37) [1, 0, 1, 1, 0, 0]
def r37_4 := codeAt (bodyOf Try.f37) [1, 1, 0]
def r37_5 := codeAt (bodyOf Try.f37) [1, 1, 1, 0]
def r37_6 := codeAt (bodyOf Try.f37) [1, 1, 1, 1, 0, 0]
def r37_7 := codeAt (bodyOf Try.f37) [1, 1, 1, 1, 0, 1, 0, 0, 0]
def r37_8 := codeAt (bodyOf Try.f37) [1, 1, 1, 1, 0, 1, 0, 0, 1, 1, 0, 0, 0]
def r37_9 := codeAt (bodyOf Try.f37) [1, 1, 1, 1, 0, 1, 0, 0, 1, 1, 0, 0, 1, 0]
def r37_10 := codeAt (bodyOf Try.f37) [1, 1, 1, 1, 0, 1, 0, 0, 1, 1, 0, 0, 1, 1, 0]
def r37_11 := codeAt (bodyOf Try.f37) [1, 1, 1, 1, 0, 1, 0, 0, 1, 1, 0, 0, 1, 1, 1, 0, 0]
def r37_12 := codeAt (bodyOf Try.f37) [1, 1, 1, 1, 0, 1, 0, 0, 1, 1, 1]
def r37_13 := codeAt (bodyOf Try.f37) [1, 1, 1, 1, 1, 0]
def lb37_7 : Code := (.seq r37_7 (.seq (.cond (.tmp 18) .skip (.exit 0)) (.seq (.block 1 (.seq r37_8 (.seq r37_9 (.seq r37_10 (.cond (.tmp 28) (.seq r37_11 .ret) .skip))))) r37_12)))
@[simp] theorem u37_7 (n : Nat) (st : XS) : execA Try.prog ann kn n 31 lb37_7 st = execA Try.prog ann kn n 31 (.seq r37_7 (.seq (.cond (.tmp 18) .skip (.exit 0)) (.seq (.block 1 (.seq r37_8 (.seq r37_9 (.seq r37_10 (.cond (.tmp 28) (.seq r37_11 .ret) .skip))))) r37_12))) st := rfl
def c37 : Code := (.seq r37_0 (.seq (.seq r37_1 (.seq r37_2 (.cond (.tmp 10) (.seq r37_3 .ret) .skip))) (.seq r37_4 (.seq r37_5 (.seq (.seq r37_6 (.block 0 (.loop lb37_7))) (.seq r37_13 .ret))))))
@[simp] theorem x37_0 : RX 31 r37_0 (.str [⟨none, some 1, .box (.tmp 0)⟩, ⟨none, some 2, .mv (.const (.int .i64 0))⟩, ⟨none, some 3, .mv (.const (.int .i64 0))⟩]) (some ([0], [1, 5])) := rx
@[simp] theorem x37_1 : RX 31 r37_1 (.str [⟨none, some 7, .ld 35 (.tmp 1)⟩, ⟨none, some 8, .call false none (.func 55) [.tmp 7]⟩, ⟨none, some 4, .mv (.tmp 8)⟩]) (some ([1], [1, 5])) := rx
@[simp] theorem x37_2 : RX 31 r37_2 (.str [⟨none, some 9, .mv (.tmp 4)⟩, ⟨none, some 10, .bin .neq 29 (.tmp 9) (.const (.int .i64 0))⟩]) (some ([1, 4], [1, 5])) := rx
@[simp] theorem x37_3 : RX 31 r37_3 (.str [⟨none, some 11, .mv (.tmp 4)⟩, ⟨none, some 2, .mv (.const (.int .i64 0))⟩, ⟨none, some 3, .mv (.tmp 11)⟩]) (some ([1, 2, 3, 4, 7, 8], [3])) := rx
@[simp] theorem x37_4 : RX 31 r37_4 (.str [⟨none, some 12, .ld 35 (.tmp 1)⟩, ⟨none, some 5, .alloc 35⟩, ⟨none, none, .sto 35 (.tmp 5) (.tmp 12)⟩]) (some ([1], [1, 5])) := rx
@[simp] theorem x37_5 : RX 31 r37_5 (.str [⟨none, some 13, .fa 35 (.tmp 5) 4⟩, ⟨none, none, .sto 33 (.tmp 13) (.const (.slice none 0 0))⟩]) (some ([1, 5], [1, 5])) := rx
@[simp] theorem x37_6 : RX 31 r37_6 (.str [⟨none, some 14, .fa 35 (.tmp 1) 3⟩, ⟨none, some 15, .ld 32 (.tmp 14)⟩, ⟨none, some 16, .oth (.call ⟨.builtin .len, #[.tmp 15], #[32]⟩)⟩, ⟨none, some 17, .mv (.const (.int .i64 0))⟩]) (some ([1, 5], [1, 5])) := rx
@[simp] theorem x37_7 : RX 31 r37_7 (.str [⟨none, some 18, .bin .lss 3 (.tmp 17) (.tmp 16)⟩]) (some ([1, 5, 16, 17], [1, 5])) := rx
@[simp] theorem x37_8 : RX 31 r37_8 (.str [⟨none, some 19, .mv (.tmp 17)⟩, ⟨none, some 6, .mv (.tmp 19)⟩]) (some ([1, 5, 16, 17], [1, 5])) := rx
@[simp] theorem x37_9 : RX 31 r37_9 (.str [⟨none, some 20, .fa 35 (.tmp 1) 3⟩, ⟨none, some 21, .ld 32 (.tmp 20)⟩, ⟨none, some 22, .mv (.tmp 6)⟩, ⟨none, some 23, .bin .add 3 (.tmp 22) (.const (.int .i64 1))⟩, ⟨none, some 24, .oth (.slice 32 (.tmp 21) none (some (.tmp 23)) none)⟩, ⟨none, some 25, .fa 35 (.tmp 5) 3⟩, ⟨none, none, .sto 32 (.tmp 25) (.tmp 24)⟩]) (some ([1, 5, 6, 16, 17], [1, 5])) := rx
@[simp] theorem x37_10 : RX 31 r37_10 (.str [⟨none, some 26, .ld 35 (.tmp 5)⟩, ⟨none, some 27, .call false none (.func 84) [.tmp 26]⟩, ⟨none, some 28, .oth (.unOp .not 4 (.tmp 27))⟩]) (some ([1, 5, 6, 16, 17], [1, 5])) := rx
@[simp] theorem x37_11 : RX 31 r37_11 (.str [⟨none, some 29, .mv (.tmp 6)⟩, ⟨none, some 2, .mv (.tmp 29)⟩, ⟨none, some 3, .mv (.const (.int .i64 0))⟩]) (some ([6], [])) := rx
@[simp] theorem x37_12 : RX 31 r37_12 (.str [⟨none, some 30, .bin .add 3 (.tmp 17) (.const (.int .i64 1))⟩, ⟨none, some 17, .mv (.tmp 30)⟩]) (some ([1, 5, 16, 17], [1, 5])) := rx
@[simp] theorem x37_13 : RX 31 r37_13 (.str [⟨none, some 2, .mv (.const (.int .i64 0))⟩, ⟨none, some 3, .mv (.const (.int .i64 7))⟩]) (some ([], [])) := rx
@[simp] theorem l37_7 : ann 31 (fstR lb37_7) = some ([1, 5, 16, 17], [1, 5]) := by kernel_rfl
end
end Go.Proofs.Try.Op
/- The walk's ground of function 68: its regions worked out. No condition. -/
set_option maxRecDepth 100000
namespace Go.Proofs.Try.Op
open Go Go.Pg
noncomputable section
def r68_0 := codeAt (bodyOf Try.f68) [0]
def r68_1 := codeAt (bodyOf Try.f68) [1, 0, 0]
def r68_2 := codeAt (bodyOf Try.f68) [1, 0, 1, 0, 0]
def r68_3 := codeAt (bodyOf Try.f68) [1, 0, 1, 0, 1, 0, 0]
def r68_4 := codeAt (bodyOf Try.f68) [1, 0, 1, 0, 1, 1, 0]
def r68_5 := codeAt (bodyOf Try.f68) [1, 0, 1, 0, 1, 1, 1, 0, 0]
def r68_6 := codeAt (bodyOf Try.f68) [1, 0, 1, 0, 1, 1, 1, 1, 0]
def r68_7 := codeAt (bodyOf Try.f68) [1, 0, 1, 0, 1, 1, 1, 1, 1, 0, 0]
def r68_8 := codeAt (bodyOf Try.f68) [1, 1, 0]
def c68 : Code := (.seq r68_0 (.seq (.seq r68_1 (.block 0 (.seq r68_2 (.cond (.tmp 8) (.seq r68_3 .ret) (.seq r68_4 (.cond (.tmp 12) (.seq r68_5 .ret) (.seq r68_6 (.cond (.tmp 15) (.seq r68_7 .ret) .skip)))))))) (.seq r68_8 .ret)))
theorem b68 : Try.f68.body = some c68 := by kernel_rfl
@[simp] theorem x68_0 : RX 19 r68_0 (.str [⟨none, some 2, .box (.tmp 0)⟩, ⟨none, some 4, .mv (.const (.int .i64 0))⟩]) (some ([0, 1], [2])) := rx
@[simp] theorem x68_1 : RX 19 r68_1 (.str [⟨none, some 6, .ld 35 (.tmp 2)⟩, ⟨none, some 7, .call false none (.func 55) [.tmp 6]⟩, ⟨none, some 5, .mv (.tmp 7)⟩]) (some ([0, 1, 2, 3], [2, 3])) := rx
@[simp] theorem x68_2 : RX 19 r68_2 (.str [⟨none, some 9, .mv (.tmp 5)⟩, ⟨none, some 10, .bin .neq 29 (.tmp 9) (.const (.int .i64 0))⟩, ⟨none, some 8, .mv (.tmp 10)⟩]) (some ([1, 2, 5], [2])) := rx
@[simp] theorem x68_3 : RX 19 r68_3 (.str [⟨none, some 11, .mv (.tmp 5)⟩, ⟨none, some 4, .mv (.tmp 11)⟩]) (some ([5], [])) := rx
@[simp] theorem x68_4 : RX 19 r68_4 (.str [⟨none, some 13, .mv (.tmp 1)⟩, ⟨none, some 14, .oth (.unOp .not 4 (.tmp 13))⟩, ⟨none, some 12, .mv (.tmp 14)⟩]) (some ([1, 2], [2])) := rx
@[simp] theorem x68_5 : RX 19 r68_5 (.str [⟨none, some 4, .mv (.const (.int .i64 2))⟩]) (some ([], [])) := rx
@[simp] theorem x68_6 : RX 19 r68_6 (.str [⟨none, some 16, .ld 35 (.tmp 2)⟩, ⟨none, some 17, .call false none (.func 84) [.tmp 16]⟩, ⟨none, some 18, .oth (.unOp .not 4 (.tmp 17))⟩, ⟨none, some 15, .mv (.tmp 18)⟩]) (some ([2], [2])) := rx
@[simp] theorem x68_7 : RX 19 r68_7 (.str [⟨none, some 4, .mv (.const (.int .i64 11))⟩]) (some ([], [])) := rx
@[simp] theorem x68_8 : RX 19 r68_8 (.str [⟨none, some 4, .mv (.const (.int .i64 0))⟩]) (some ([], [])) := rx
end
end Go.Proofs.Try.Op
/- The walk's ground of function 79: its regions worked out. No condition. -/
set_option maxRecDepth 100000
namespace Go.Proofs.Try.Op
open Go Go.Pg
noncomputable section
def r79_0 := codeAt (bodyOf Try.f79) [0]
def r79_1 := codeAt (bodyOf Try.f79) [1, 0]
def c79 : Code := (.seq r79_0 (.seq r79_1 .ret))
theorem b79 : Try.f79.body = some c79 := by kernel_rfl
@[simp] theorem x79_0 : RX 4 r79_0 (.str [⟨none, some 1, .box (.tmp 0)⟩, ⟨none, some 2, .mv (.const .nilFunc)⟩]) (some ([0], [1])) := rx
@[simp] theorem x79_1 : RX 4 r79_1 (.str [⟨none, some 3, .oth (.makeFunc (.func 102) #[] #[.tmp 1])⟩, ⟨none, some 2, .mv (.tmp 3)⟩]) (some ([1], [1])) := rx
end
end Go.Proofs.Try.Op
/- The walk's ground of function 102: its regions worked out. No condition. -/
set_option maxRecDepth 100000
namespace Go.Proofs.Try.Op
open Go Go.Pg
noncomputable section
def r102_0 := codeAt (bodyOf Try.f102) [0]
def r102_1 := codeAt (bodyOf Try.f102) [1, 0]
def r102_2 := codeAt (bodyOf Try.f102) [1, 1, 0]
def r102_3 := codeAt (bodyOf Try.f102) [1, 1, 1, 0]
def r102_4 := codeAt (bodyOf Try.f102) [1, 1, 1, 1, 0]
def r102_5 := codeAt (bodyOf Try.f102) [1, 1, 1, 1, 1]
def c102 : Code := (.seq r102_0 (.seq r102_1 (.seq r102_2 (.seq r102_3 (.seq r102_4 r102_5)))))
theorem b102 : Try.f102.body = some c102 := by kernel_rfl
@[simp] theorem x102_0 : RX 22 r102_0 (.str [⟨none, some 2, .box (.tmp 0)⟩]) (some ([0, 1], [2, 3, 4, 5, 9, 14])) := rx
@[simp] theorem x102_1 : RX 22 r102_1 (.drw [⟨[9, 14, 3, 4], [⟨none, some 6, .fa 35 (.tmp 1) 3⟩, ⟨none, some 7, .ld 32 (.tmp 6)⟩, ⟨none, some 8, .oth (.call ⟨.builtin .len, #[.tmp 7], #[32]⟩)⟩, ⟨none, some 10, .fa 35 (.tmp 1) 3⟩, ⟨none, some 11, .ld 32 (.tmp 10)⟩, ⟨none, some 12, .oth (.call ⟨.builtin .len, #[.tmp 11], #[32]⟩)⟩, ⟨none, some 13, .bin .add 3 (.tmp 12) (.const (.int .i64 1))⟩, ⟨none, some 9, .mkS 32 (.tmp 8) (.tmp 8)⟩, ⟨none, some 14, .mkS 134 (.tmp 13) (.tmp 13)⟩, ⟨none, some 3, .alloc 32⟩, ⟨none, some 4, .alloc 134⟩, ⟨none, none, .sto 32 (.tmp 3) (.tmp 9)⟩], [⟨none, none, .sto 134 (.tmp 4) (.tmp 14)⟩]⟩]) (some ([1, 2], [2, 5])) := rx
@[simp] theorem x102_2 : RX 22 r102_2 (.str [⟨none, some 5, .alloc 109⟩]) (some ([1, 2, 3, 4], [2, 3, 4, 5, 9, 14])) := rx
@[simp] theorem x102_3 : RX 22 r102_3 (.str [⟨none, some 15, .oth (.makeFunc (.func 103) #[] #[.tmp 1, .tmp 4, .tmp 3, .tmp 2, .tmp 5])⟩, ⟨none, none, .sto 109 (.tmp 5) (.tmp 15)⟩]) (some ([1, 2, 3, 4, 5], [2, 3, 4, 5, 9, 14])) := rx
@[simp] theorem x102_4 : RX 22 r102_4 (.drw [⟨[18], [⟨none, some 16, .ld 134 (.tmp 4)⟩, ⟨none, some 17, .ld 35 (.tmp 1)⟩, ⟨none, some 18, .call true none (.func 105) [.tmp 17]⟩, ⟨none, some 19, .oth (.indexAddr 134 (.tmp 16) (.const (.int .i64 0)))⟩], [⟨none, none, .sto 113 (.tmp 19) (.tmp 18)⟩]⟩]) (some ([1, 4, 5], [2, 3, 4, 5, 9, 14])) := rx
@[simp] theorem x102_5 : RX 22 r102_5 (.str [⟨none, some 20, .ld 109 (.tmp 5)⟩, ⟨none, some 21, .call false none (.tmp 20) [.const (.int .i64 0)]⟩]) (some ([5], [2, 3, 4, 5, 9, 14])) := rx
end
end Go.Proofs.Try.Op
/- The walk's ground of function 103: its regions worked out. No condition. -/
set_option maxRecDepth 100000
namespace Go.Proofs.Try.Op
open Go Go.Pg
noncomputable section
def r103_0 := codeAt (bodyOf Try.f103) [0]
def r103_1 := codeAt (bodyOf Try.f103) [1, 0, 0]
def r103_2 := codeAt (bodyOf Try.f103) [1, 0, 1, 0, 0]
def r103_3 := codeAt (bodyOf Try.f103) [1, 1, 0, 0]
def r103_4 := codeAt (bodyOf Try.f103) [1, 1, 0, 1, 0, 0]
def r103_5 := codeAt (bodyOf Try.f103) [1, 1, 1, 0, 0]
def r103_6 := codeAt (bodyOf Try.f103) [1, 1, 1, 0, 1, 0, 0, 0]
def r103_7 := codeAt (bodyOf Try.f103) [1, 1, 1, 0, 1, 0, 0, 1, 1, 0, 0, 0]
def r103_8 := codeAt (bodyOf Try.f103) [1, 1, 1, 0, 1, 0, 0, 1, 1, 0, 0, 1, 0]
def r103_9 := codeAt (bodyOf Try.f103) [1, 1, 1, 0, 1, 0, 0, 1, 1, 0, 0, 1, 1, 0, 0]
def r103_10 := codeAt (bodyOf Try.f103) [1, 1, 1, 0, 1, 0, 0, 1, 1, 0, 0, 1, 1, 1, 0]
def r103_11 := codeAt (bodyOf Try.f103) [1, 1, 1, 0, 1, 0, 0, 1, 1, 0, 0, 1, 1, 1, 1, 0]
def r103_12 := codeAt (bodyOf Try.f103) [1, 1, 1, 0, 1, 0, 0, 1, 1, 0, 0, 1, 1, 1, 1, 1, 0, 0]
def r103_13 := codeAt (bodyOf Try.f103) [1, 1, 1, 0, 1, 0, 0, 1, 1, 1]
def r103_14 := codeAt (bodyOf Try.f103) [1, 1, 1, 1, 0]
def lb103_6 : Code := (.seq r103_6 (.seq (.cond (.tmp 37) .skip (.exit 0)) (.seq (.block 1 (.seq r103_7 (.seq r103_8 (.seq (.seq r103_9 (.cond (.tmp 52) (.exit 1) .skip)) (.seq r103_10 (.seq r103_11 (.cond (.tmp 66) (.seq r103_12 .ret) .skip))))))) r103_13)))
@[simp] theorem u103_6 (n : Nat) (st : XS) : execA Try.prog ann kn n 68 lb103_6 st = execA Try.prog ann kn n 68 (.seq r103_6 (.seq (.cond (.tmp 37) .skip (.exit 0)) (.seq (.block 1 (.seq r103_7 (.seq r103_8 (.seq (.seq r103_9 (.cond (.tmp 52) (.exit 1) .skip)) (.seq r103_10 (.seq r103_11 (.cond (.tmp 66) (.seq r103_12 .ret) .skip))))))) r103_13))) st := rfl
def c103 : Code := (.seq r103_0 (.seq (.seq r103_1 (.cond (.tmp 19) (.seq r103_2 .ret) .skip)) (.seq (.seq r103_3 (.cond (.tmp 23) (.seq r103_4 .ret) .skip)) (.seq (.seq r103_5 (.block 0 (.loop lb103_6))) (.seq r103_14 .ret)))))
theorem b103 : Try.f103.body = some c103 := by kernel_rfl
@[simp] theorem x103_0 : RX 68 r103_0 (.str [⟨none, some 7, .mv (.const (.bool false))⟩]) (some ([0, 1, 2, 3, 4, 5], [34])) := rx
@[simp] theorem x103_1 : RX 68 r103_1 (.drw [⟨[], [⟨none, some 12, .ld 35 (.tmp 1)⟩, ⟨none, some 13, .ld 134 (.tmp 2)⟩, ⟨none, some 14, .mv (.tmp 0)⟩, ⟨none, some 15, .oth (.indexAddr 134 (.tmp 13) (.tmp 14))⟩, ⟨none, some 16, .ld 113 (.tmp 15)⟩, ⟨none, some 17, .mv (.tmp 0)⟩], [⟨none, some 18, .call false none (.func 93) [.tmp 12, .tmp 16, .tmp 17]⟩]⟩, ⟨[], [⟨none, some 19, .oth (.unOp .not 4 (.tmp 18))⟩], []⟩]) (some ([0, 1, 2, 3, 4, 5], [34])) := rx
@[simp] theorem x103_2 : RX 68 r103_2 (.str [⟨none, some 7, .mv (.const (.bool true))⟩]) (some ([], [])) := rx
@[simp] theorem x103_3 : RX 68 r103_3 (.str [⟨none, some 20, .mv (.tmp 0)⟩, ⟨none, some 21, .ld 32 (.tmp 3)⟩, ⟨none, some 22, .oth (.call ⟨.builtin .len, #[.tmp 21], #[32]⟩)⟩, ⟨none, some 23, .bin .eql 3 (.tmp 20) (.tmp 22)⟩]) (some ([0, 1, 2, 3, 4, 5], [34])) := rx
@[simp] theorem x103_4 : RX 68 r103_4 (.str [⟨none, some 24, .ld 144 (.tmp 4)⟩, ⟨none, some 25, .ld 32 (.tmp 3)⟩, ⟨none, some 26, .ld 134 (.tmp 2)⟩, ⟨none, some 27, .call false none (.tmp 24) [.tmp 25, .tmp 26]⟩, ⟨none, some 7, .mv (.tmp 27)⟩]) (some ([2, 3, 4], [])) := rx
@[simp] theorem x103_5 : RX 68 r103_5 (.drw [⟨[], [⟨none, some 28, .ld 35 (.tmp 1)⟩, ⟨none, some 29, .fa 35 (.tmp 1) 3⟩, ⟨none, some 30, .ld 32 (.tmp 29)⟩, ⟨none, some 31, .mv (.tmp 0)⟩, ⟨none, some 32, .oth (.indexAddr 32 (.tmp 30) (.tmp 31))⟩, ⟨none, some 33, .ld 96 (.tmp 32)⟩, ⟨none, some 34, .call false none (.func 81) [.tmp 28, .tmp 33]⟩, ⟨none, some 35, .oth (.call ⟨.builtin .len, #[.tmp 34], #[32]⟩)⟩, ⟨none, some 36, .mv (.const (.int .i64 0))⟩], []⟩]) (some ([0, 1, 2, 3, 5], [])) := rx
@[simp] theorem x103_6 : RX 68 r103_6 (.str [⟨none, some 37, .bin .lss 3 (.tmp 36) (.tmp 35)⟩]) (some ([0, 1, 2, 3, 5, 34, 35, 36], [34])) := rx
@[simp] theorem x103_7 : RX 68 r103_7 (.str [⟨none, some 38, .oth (.indexAddr 32 (.tmp 34) (.tmp 36))⟩, ⟨none, some 39, .ld 96 (.tmp 38)⟩, ⟨none, some 9, .alloc 96⟩, ⟨none, none, .sto 96 (.tmp 9) (.tmp 39)⟩]) (some ([0, 1, 2, 3, 5, 34, 35, 36], [34])) := rx
@[simp] theorem x103_8 : RX 68 r103_8 (.drw [⟨[10], [⟨none, some 41, .ld 35 (.tmp 1)⟩, ⟨none, some 42, .ld 134 (.tmp 2)⟩, ⟨none, some 43, .mv (.tmp 0)⟩, ⟨none, some 44, .oth (.indexAddr 134 (.tmp 42) (.tmp 43))⟩, ⟨none, some 45, .ld 113 (.tmp 44)⟩, ⟨none, some 46, .mv (.tmp 0)⟩, ⟨none, some 47, .ld 96 (.tmp 9)⟩, ⟨none, some 48, .call false none (.func 104) [.tmp 41, .tmp 45, .tmp 46, .tmp 47]⟩, ⟨none, some 40, .mv (.tmp 48)⟩, ⟨none, some 49, .oth (.extract (.tmp 40) 0)⟩, ⟨none, some 50, .oth (.extract (.tmp 40) 1)⟩, ⟨none, some 10, .alloc 113⟩, ⟨none, none, .sto 113 (.tmp 10) (.tmp 49)⟩, ⟨none, some 11, .mv (.tmp 50)⟩], []⟩]) (some ([0, 1, 2, 3, 5, 9, 34, 35, 36], [9, 34])) := rx
@[simp] theorem x103_9 : RX 68 r103_9 (.str [⟨none, some 51, .mv (.tmp 11)⟩, ⟨none, some 52, .oth (.unOp .not 4 (.tmp 51))⟩]) (some ([0, 1, 2, 3, 5, 9, 10, 11, 34, 35, 36], [9, 10, 34])) := rx
@[simp] theorem x103_10 : RX 68 r103_10 (.drw [⟨[], [⟨none, some 53, .ld 32 (.tmp 3)⟩, ⟨none, some 54, .mv (.tmp 0)⟩, ⟨none, some 55, .ld 134 (.tmp 2)⟩, ⟨none, some 56, .mv (.tmp 0)⟩, ⟨none, some 57, .bin .add 3 (.tmp 56) (.const (.int .i64 1))⟩, ⟨none, some 58, .ld 96 (.tmp 9)⟩, ⟨none, some 59, .ld 113 (.tmp 10)⟩, ⟨none, some 60, .oth (.indexAddr 32 (.tmp 53) (.tmp 54))⟩, ⟨none, none, .sto 96 (.tmp 60) (.tmp 58)⟩, ⟨none, some 61, .oth (.indexAddr 134 (.tmp 55) (.tmp 57))⟩], [⟨none, none, .sto 113 (.tmp 61) (.tmp 59)⟩]⟩]) (some ([0, 1, 2, 3, 5, 9, 10, 34, 35, 36], [9, 10, 34])) := rx
@[simp] theorem x103_11 : RX 68 r103_11 (.str [⟨none, some 62, .ld 109 (.tmp 5)⟩, ⟨none, some 63, .mv (.tmp 0)⟩, ⟨none, some 64, .bin .add 3 (.tmp 63) (.const (.int .i64 1))⟩, ⟨none, some 65, .call false none (.tmp 62) [.tmp 64]⟩, ⟨none, some 66, .oth (.unOp .not 4 (.tmp 65))⟩]) (some ([0, 1, 2, 3, 5, 34, 35, 36], [34])) := rx
@[simp] theorem x103_13 : RX 68 r103_13 (.str [⟨none, some 67, .bin .add 3 (.tmp 36) (.const (.int .i64 1))⟩, ⟨none, some 36, .mv (.tmp 67)⟩]) (some ([0, 1, 2, 3, 5, 34, 35, 36], [34])) := rx
@[simp] theorem x103_14 : RX 68 r103_14 (.str [⟨none, some 7, .mv (.const (.bool true))⟩]) (some ([], [])) := rx
@[simp] theorem l103_6 : ann 68 (fstR lb103_6) = some ([0, 1, 2, 3, 5, 34, 35, 36], [34]) := by kernel_rfl
end
end Go.Proofs.Try.Op
/- The walk's ground of function 74: its regions worked out. No condition. -/
set_option maxRecDepth 100000
namespace Go.Proofs.Try.Op
open Go Go.Pg
noncomputable section
def r74_0 := codeAt (bodyOf Try.f74) [0]
def r74_1 := codeAt (bodyOf Try.f74) [1, 0]
def r74_2 := codeAt (bodyOf Try.f74) [1, 1, 0, 0]
def r74_3 := codeAt (bodyOf Try.f74) [1, 1, 0, 1, 0, 0]
def r74_4 := codeAt (bodyOf Try.f74) [1, 1, 0, 1, 0, 1, 0, 0]
def r74_5 := codeAt (bodyOf Try.f74) [1, 1, 0, 1, 0, 1, 0, 1, 0, 0]
def r74_6 := codeAt (bodyOf Try.f74) [1, 1, 0, 1, 0, 1, 0, 1, 0, 1, 0]
def r74_7 := codeAt (bodyOf Try.f74) [1, 1, 0, 1, 0, 1, 0, 1, 1]
def r74_8 := codeAt (bodyOf Try.f74) [1, 1, 1, 0]
def c74 : Code := (.seq r74_0 (.seq r74_1 (.seq (.seq r74_2 (.block 0 (.rangeFunc (.tmp 12) #[13, 14] r74_3 (.block 1 (.seq r74_4 (.seq (.seq r74_5 (.cond (.tmp 21) r74_6 .skip)) r74_7)))))) (.seq r74_8 .ret))))
theorem b74 : Try.f74.body = some c74 := by kernel_rfl
@[simp] theorem x74_0 : RX 29 r74_0 (.str [⟨none, some 3, .box (.tmp 0)⟩, ⟨none, some 4, .box (.tmp 1)⟩, ⟨none, some 5, .box (.tmp 2)⟩, ⟨none, some 6, .alloc 45⟩]) (some ([0, 1, 2], [3, 5, 12])) := rx
@[simp] theorem x74_1 : RX 29 r74_1 (.str [⟨none, some 7, .alloc 4⟩, ⟨none, none, .sto 4 (.tmp 7) (.const (.bool true))⟩]) (some ([3, 4, 5, 6], [3, 4, 5, 6, 12])) := rx
@[simp] theorem x74_2 : RX 29 r74_2 (.str [⟨none, some 11, .ld 35 (.tmp 3)⟩, ⟨none, some 12, .call false none (.func 79) [.tmp 11]⟩]) (some ([3, 4, 5, 6, 7], [3, 4, 5, 6, 7, 12])) := rx
@[simp] theorem x74_3 : RX 29 r74_3 (.str [⟨none, some 9, .mv (.tmp 14)⟩]) (some ([4, 5, 6, 7, 14], [4, 5, 6, 7])) := rx
@[simp] theorem x74_4 : RX 29 r74_4 (.drw [⟨[], [⟨none, some 15, .ld 119 (.tmp 5)⟩, ⟨none, some 16, .mv (.tmp 9)⟩, ⟨none, some 17, .ld 3 (.tmp 4)⟩, ⟨none, some 18, .oth (.indexAddr 134 (.tmp 16) (.tmp 17))⟩, ⟨none, some 19, .ld 113 (.tmp 18)⟩], [⟨none, some 20, .call false none (.tmp 15) [.tmp 19]⟩]⟩, ⟨[], [⟨none, some 10, .mv (.tmp 20)⟩], []⟩]) (some ([4, 5, 6, 7, 9], [4, 5, 6, 7])) := rx
@[simp] theorem x74_5 : RX 29 r74_5 (.str [⟨none, some 21, .ld 4 (.tmp 7)⟩]) (some ([6, 7, 10], [6, 7])) := rx
@[simp] theorem x74_6 : RX 29 r74_6 (.str [⟨none, some 22, .mv (.tmp 10)⟩, ⟨none, some 23, .mv (.tmp 10)⟩, ⟨none, some 24, .build 45 [(0, .tmp 22), (1, .tmp 23)]⟩, ⟨none, none, .sto 45 (.tmp 6) (.tmp 24)⟩, ⟨none, none, .sto 4 (.tmp 7) (.const (.bool false))⟩]) (some ([6, 7, 10], [6, 7])) := rx
@[simp] theorem x74_7 : RX 29 r74_7 (.str [⟨none, some 25, .ld 45 (.tmp 6)⟩, ⟨none, some 26, .mv (.tmp 10)⟩, ⟨none, some 27, .call true none (.func 101) [.tmp 25, .tmp 26]⟩, ⟨none, none, .sto 45 (.tmp 6) (.tmp 27)⟩]) (some ([6, 10], [6])) := rx
@[simp] theorem x74_8 : RX 29 r74_8 (.str [⟨none, some 28, .ld 45 (.tmp 6)⟩, ⟨none, none, .sto 45 (.tmp 6) (.tmp 28)⟩]) (some ([6], [6])) := rx
end
end Go.Proofs.Try.Op
/- The walk's ground of function 75: its regions worked out. No condition. -/
set_option maxRecDepth 100000
namespace Go.Proofs.Try.Op
open Go Go.Pg
noncomputable section
def r75_0 := codeAt (bodyOf Try.f75) [0]
def r75_1 := codeAt (bodyOf Try.f75) [1, 0]
def c75 : Code := (.seq r75_0 (.seq r75_1 .ret))
theorem b75 : Try.f75.body = some c75 := by kernel_rfl
@[simp] theorem x75_0 : RX 5 r75_0 (.str [⟨none, some 1, .box (.tmp 0)⟩, ⟨none, some 2, .mv (.const (.int .i64 0))⟩]) (some ([0], [1])) := rx
@[simp] theorem x75_1 : RX 5 r75_1 (.str [⟨none, some 3, .fa 113 (.tmp 1) 2⟩, ⟨none, some 4, .ld 3 (.tmp 3)⟩, ⟨none, some 2, .mv (.tmp 4)⟩]) (some ([0, 1], [1])) := rx
end
end Go.Proofs.Try.Op
/- The walk's ground of function 76: its regions worked out. No condition. -/
set_option maxRecDepth 100000
namespace Go.Proofs.Try.Op
open Go Go.Pg
noncomputable section
def r76_0 := codeAt (bodyOf Try.f76) [0]
def r76_1 := codeAt (bodyOf Try.f76) [1, 0]
def c76 : Code := (.seq r76_0 (.seq r76_1 .ret))
theorem b76 : Try.f76.body = some c76 := by kernel_rfl
@[simp] theorem x76_0 : RX 5 r76_0 (.str [⟨none, some 1, .box (.tmp 0)⟩, ⟨none, some 2, .mv (.const (.int .i64 0))⟩]) (some ([0], [1])) := rx
@[simp] theorem x76_1 : RX 5 r76_1 (.str [⟨none, some 3, .fa 113 (.tmp 1) 3⟩, ⟨none, some 4, .ld 3 (.tmp 3)⟩, ⟨none, some 2, .mv (.tmp 4)⟩]) (some ([0, 1], [1])) := rx
end
end Go.Proofs.Try.Op
/- The walk's ground of function 101: its regions worked out. No condition. -/
set_option maxRecDepth 100000
namespace Go.Proofs.Try.Op
open Go Go.Pg
noncomputable section
def r101_0 := codeAt (bodyOf Try.f101) [0]
def r101_1 := codeAt (bodyOf Try.f101) [1, 0]
def c101 : Code := (.seq r101_0 (.seq r101_1 .ret))
theorem b101 : Try.f101.body = some c101 := by kernel_rfl
@[simp] theorem x101_0 : RX 15 r101_0 (.str [⟨none, some 2, .box (.tmp 0)⟩, ⟨none, some 4, .alloc 45⟩]) (some ([0, 1], [])) := rx
@[simp] theorem x101_1 : RX 15 r101_1 (.drw [⟨[], [⟨none, some 5, .fa 45 (.tmp 2) 0⟩, ⟨none, some 6, .ld 3 (.tmp 5)⟩, ⟨none, some 7, .mv (.tmp 1)⟩, ⟨none, some 8, .buildS 28 2 [(0, .tmp 6), (1, .tmp 7)]⟩, ⟨none, some 9, .call false none (.func 98) [.tmp 8]⟩, ⟨none, some 10, .fa 45 (.tmp 2) 1⟩, ⟨none, some 11, .ld 3 (.tmp 10)⟩, ⟨none, some 12, .mv (.tmp 1)⟩, ⟨none, some 13, .oth (.call ⟨.builtin .max, #[.tmp 11, .tmp 12], #[3, 3]⟩)⟩, ⟨none, some 14, .build 45 [(0, .tmp 9), (1, .tmp 13)]⟩], [⟨none, none, .sto 45 (.tmp 4) (.tmp 14)⟩]⟩]) (some ([0, 1, 2, 3, 4], [2, 3, 4])) := rx
end
end Go.Proofs.Try.Op
/- The walk's ground of function 70: its regions worked out. No condition. -/
set_option maxRecDepth 100000
namespace Go.Proofs.Try.Op
open Go Go.Pg
noncomputable section
def r70_0 := codeAt (bodyOf Try.f70) [0]
def r70_1 := codeAt (bodyOf Try.f70) [1, 0]
def c70 : Code := (.seq r70_0 (.seq r70_1 .ret))
theorem b70 : Try.f70.body = some c70 := by kernel_rfl
@[simp] theorem x70_0 : RX 10 r70_0 (.str [⟨none, some 2, .box (.tmp 0)⟩, ⟨none, some 4, .mv (.const (.bool false))⟩]) (some ([0, 1], [])) := rx
@[simp] theorem x70_1 : RX 10 r70_1 (.str [⟨none, some 5, .mv (.tmp 1)⟩, ⟨none, some 6, .fa 113 (.tmp 2) 0⟩, ⟨none, some 7, .oth (.indexAddr 111 (.tmp 6) (.tmp 5))⟩, ⟨none, some 8, .ld 3 (.tmp 7)⟩, ⟨none, some 9, .bin .neq 3 (.tmp 8) (.const (.int .i64 0))⟩, ⟨none, some 4, .mv (.tmp 9)⟩]) (some ([1, 2], [2])) := rx
end
end Go.Proofs.Try.Op
/- The walk's ground of function 71: its regions worked out. No condition. -/
set_option maxRecDepth 100000
namespace Go.Proofs.Try.Op
open Go Go.Pg
noncomputable section
def r71_0 := codeAt (bodyOf Try.f71) [0]
def r71_1 := codeAt (bodyOf Try.f71) [1, 0]
def r71_2 := codeAt (bodyOf Try.f71) [1, 1, 0]
def r71_3 := codeAt (bodyOf Try.f71) [1, 1, 1, 0, 0]
def r71_4 := codeAt (bodyOf Try.f71) [1, 1, 1, 0, 1, 0, 0]
def r71_5 := codeAt (bodyOf Try.f71) [1, 1, 1, 0, 1, 0, 1, 0, 0]
def r71_6 := codeAt (bodyOf Try.f71) [1, 1, 1, 0, 1, 0, 1, 0, 1, 0, 0]
def r71_7 := codeAt (bodyOf Try.f71) [1, 1, 1, 0, 1, 0, 1, 0, 1, 1, 0]
def r71_8 := codeAt (bodyOf Try.f71) [1, 1, 1, 0, 1, 0, 1, 0, 1, 1, 1, 0]
def r71_9 := codeAt (bodyOf Try.f71) [1, 1, 1, 0, 1, 0, 1, 0, 1, 1, 1, 1, 0]
def r71_10 := codeAt (bodyOf Try.f71) [1, 1, 1, 0, 1, 0, 1, 0, 1, 1, 1, 1, 1, 0, 0, 0]
def r71_11 := codeAt (bodyOf Try.f71) [1, 1, 1, 0, 1, 0, 1, 0, 1, 1, 1, 1, 1, 0, 0, 1, 1, 0, 0, 0]
def r71_12 := codeAt (bodyOf Try.f71) [1, 1, 1, 0, 1, 0, 1, 0, 1, 1, 1, 1, 1, 0, 0, 1, 1, 0, 0, 1, 0]
def r71_13 := codeAt (bodyOf Try.f71) [1, 1, 1, 0, 1, 0, 1, 0, 1, 1, 1, 1, 1, 0, 0, 1, 1, 0, 0, 1, 1, 0]
def r71_14 := codeAt (bodyOf Try.f71) [1, 1, 1, 0, 1, 0, 1, 0, 1, 1, 1, 1, 1, 0, 0, 1, 1, 1]
def r71_15 := codeAt (bodyOf Try.f71) [1, 1, 1, 1, 0, 0]
def r71_16 := codeAt (bodyOf Try.f71) [1, 1, 1, 1, 0, 1, 0, 0, 0]
def r71_17 := codeAt (bodyOf Try.f71) [1, 1, 1, 1, 0, 1, 0, 0, 1, 1, 0, 0, 0]
def r71_18 := codeAt (bodyOf Try.f71) [1, 1, 1, 1, 0, 1, 0, 0, 1, 1, 0, 0, 1, 0]
def r71_20 := codeAt (bodyOf Try.f71) [1, 1, 1, 1, 0, 1, 0, 0, 1, 1, 0, 0, 1, 1, 0, 0]
def r71_21 := codeAt (bodyOf Try.f71) [1, 1, 1, 1, 0, 1, 0, 0, 1, 1, 0, 0, 1, 1, 0, 1, 0]
def r71_22 := codeAt (bodyOf Try.f71) [1, 1, 1, 1, 0, 1, 0, 0, 1, 1, 0, 0, 1, 1, 0, 1, 1, 0]
def r71_23 := codeAt (bodyOf Try.f71) [1, 1, 1, 1, 0, 1, 0, 0, 1, 1, 0, 0, 1, 1, 0, 1, 1, 1, 0]
def r71_19 := codeAt (bodyOf Try.f71) [1, 1, 1, 1, 0, 1, 0, 0, 1, 1, 0, 0, 1, 1, 0, 1, 1, 1, 1]
def r71_24 := codeAt (bodyOf Try.f71) [1, 1, 1, 1, 0, 1, 0, 0, 1, 1, 1]
def r71_25 := codeAt (bodyOf Try.f71) [1, 1, 1, 1, 1, 0]
def lb71_10 : Code := (.seq r71_10 (.seq (.cond (.tmp 49) .skip (.exit 2)) (.seq (.block 3 (.seq r71_11 (.seq r71_12 (.cond (.tmp 55) r71_13 .skip)))) r71_14)))
@[simp] theorem u71_10 (n : Nat) (st : XS) : execA Try.prog ann kn n 87 lb71_10 st = execA Try.prog ann kn n 87 (.seq r71_10 (.seq (.cond (.tmp 49) .skip (.exit 2)) (.seq (.block 3 (.seq r71_11 (.seq r71_12 (.cond (.tmp 55) r71_13 .skip)))) r71_14))) st := rfl
def lb71_16 : Code := (.seq r71_16 (.seq (.cond (.tmp 66) .skip (.exit 4)) (.seq (.block 5 (.seq r71_17 (.seq r71_18 (.block 6 (.seq r71_20 (.cond (.tmp 74) r71_21 (.seq r71_22 (.cond (.tmp 80) r71_23 r71_19)))))))) r71_24)))
@[simp] theorem u71_16 (n : Nat) (st : XS) : execA Try.prog ann kn n 87 lb71_16 st = execA Try.prog ann kn n 87 (.seq r71_16 (.seq (.cond (.tmp 66) .skip (.exit 4)) (.seq (.block 5 (.seq r71_17 (.seq r71_18 (.block 6 (.seq r71_20 (.cond (.tmp 74) r71_21 (.seq r71_22 (.cond (.tmp 80) r71_23 r71_19)))))))) r71_24))) st := rfl
def c71 : Code := (.seq r71_0 (.seq r71_1 (.seq r71_2 (.seq (.seq r71_3 (.block 0 (.rangeFunc (.tmp 20) #[21, 22] r71_4 (.block 1 (.seq r71_5 (.seq (.seq r71_6 (.cond (.tmp 42) (.exit 1) .skip)) (.seq r71_7 (.seq r71_8 (.seq r71_9 (.block 2 (.loop lb71_10))))))))))) (.seq (.seq r71_15 (.block 4 (.loop lb71_16))) (.seq r71_25 .ret))))))
theorem b71 : Try.f71.body = some c71 := by kernel_rfl
@[simp] theorem x71_0 : RX 87 r71_0 (.str [⟨none, some 3, .box (.tmp 0)⟩, ⟨none, some 4, .box (.tmp 1)⟩, ⟨none, some 5, .box (.tmp 2)⟩, ⟨none, some 6, .mv (.const (.slice none 0 0))⟩]) (some ([0, 1, 2], [3, 4, 20])) := rx
@[simp] theorem x71_1 : RX 87 r71_1 (.str [⟨none, some 16, .fa 35 (.tmp 4) 0⟩, ⟨none, some 17, .ld 3 (.tmp 16)⟩, ⟨none, some 18, .mkS 28 (.tmp 17) (.tmp 17)⟩, ⟨none, some 7, .alloc 28⟩, ⟨none, some 8, .alloc 3⟩, ⟨none, none, .sto 28 (.tmp 7) (.tmp 18)⟩, ⟨none, none, .sto 3 (.tmp 8) (.const (.int .i64 0))⟩]) (some ([3, 4, 5], [3, 4, 5, 20])) := rx
@[simp] theorem x71_2 : RX 87 r71_2 (.str [⟨none, some 9, .alloc 113⟩]) (some ([3, 4, 5, 7, 8], [3, 4, 5, 7, 8, 18, 20])) := rx
@[simp] theorem x71_3 : RX 87 r71_3 (.str [⟨none, some 19, .ld 35 (.tmp 4)⟩, ⟨none, some 20, .call false none (.func 79) [.tmp 19]⟩]) (some ([3, 4, 5, 7, 8, 9], [3, 4, 5, 7, 8, 9, 18, 20])) := rx
@[simp] theorem x71_4 : RX 87 r71_4 (.str [⟨none, some 11, .mv (.tmp 22)⟩]) (some ([3, 5, 7, 8, 9, 22], [3, 5, 7, 8, 9, 18])) := rx
@[simp] theorem x71_5 : RX 87 r71_5 (.str [⟨none, some 23, .mv (.tmp 11)⟩, ⟨none, some 24, .ld 3 (.tmp 5)⟩, ⟨none, some 25, .oth (.indexAddr 134 (.tmp 23) (.tmp 24))⟩, ⟨none, some 26, .ld 113 (.tmp 25)⟩, ⟨none, some 12, .alloc 113⟩, ⟨none, none, .sto 113 (.tmp 12) (.tmp 26)⟩]) (some ([3, 5, 7, 8, 9, 11], [3, 5, 7, 8, 9, 18])) := rx
@[simp] theorem x71_6 : RX 87 r71_6 (.str [⟨none, some 27, .ld 3 (.tmp 8)⟩, ⟨none, some 28, .bin .gtr 3 (.tmp 27) (.const (.int .i64 0))⟩, ⟨none, some 29, .mv (.tmp 28)⟩, ⟨some (29, true), some 30, .fa 113 (.tmp 12) 0⟩, ⟨some (29, true), some 31, .ld 111 (.tmp 30)⟩, ⟨some (29, true), some 32, .fa 113 (.tmp 9) 0⟩, ⟨some (29, true), some 33, .ld 111 (.tmp 32)⟩, ⟨some (29, true), some 34, .bin .eql 111 (.tmp 31) (.tmp 33)⟩, ⟨none, some 35, .pick (.tmp 29) (.tmp 34) (.const (.bool false))⟩, ⟨none, some 36, .mv (.tmp 35)⟩, ⟨some (36, true), some 37, .fa 113 (.tmp 12) 1⟩, ⟨some (36, true), some 38, .ld 111 (.tmp 37)⟩, ⟨some (36, true), some 39, .fa 113 (.tmp 9) 1⟩, ⟨some (36, true), some 40, .ld 111 (.tmp 39)⟩, ⟨some (36, true), some 41, .bin .eql 111 (.tmp 38) (.tmp 40)⟩, ⟨none, some 42, .pick (.tmp 36) (.tmp 41) (.const (.bool false))⟩]) (some ([3, 7, 8, 9, 12], [3, 7, 8, 9, 12, 18])) := rx
@[simp] theorem x71_7 : RX 87 r71_7 (.str [⟨none, some 43, .ld 113 (.tmp 12)⟩, ⟨none, none, .sto 113 (.tmp 9) (.tmp 43)⟩]) (some ([3, 7, 8, 9, 12], [3, 7, 8, 9, 12, 18])) := rx
@[simp] theorem x71_8 : RX 87 r71_8 (.str [⟨none, some 44, .ld 3 (.tmp 8)⟩, ⟨none, some 45, .bin .add 3 (.tmp 44) (.const (.int .i64 1))⟩, ⟨none, none, .sto 3 (.tmp 8) (.tmp 45)⟩]) (some ([3, 7, 8, 12], [3, 7, 8, 12, 18])) := rx
@[simp] theorem x71_9 : RX 87 r71_9 (.str [⟨none, some 46, .ld 28 (.tmp 7)⟩, ⟨none, some 47, .oth (.call ⟨.builtin .len, #[.tmp 46], #[28]⟩)⟩, ⟨none, some 48, .mv (.const (.int .i64 0))⟩]) (some ([3, 7, 12], [3, 7, 12, 18])) := rx
@[simp] theorem x71_10 : RX 87 r71_10 (.str [⟨none, some 49, .bin .lss 3 (.tmp 48) (.tmp 47)⟩]) (some ([3, 7, 12, 47, 48], [3, 7, 12, 18])) := rx
@[simp] theorem x71_11 : RX 87 r71_11 (.str [⟨none, some 50, .mv (.tmp 48)⟩, ⟨none, some 13, .mv (.tmp 50)⟩]) (some ([3, 7, 12, 47, 48], [3, 7, 12, 18])) := rx
@[simp] theorem x71_12 : RX 87 r71_12 (.str [⟨none, some 51, .fa 115 (.tmp 3) 0⟩, ⟨none, some 52, .ld 108 (.tmp 51)⟩, ⟨none, some 53, .ld 113 (.tmp 12)⟩, ⟨none, some 54, .mv (.tmp 13)⟩, ⟨none, some 55, .call false none (.tmp 52) [.tmp 53, .tmp 54]⟩]) (some ([3, 7, 12, 13, 47, 48], [3, 7, 12, 18])) := rx
@[simp] theorem x71_13 : RX 87 r71_13 (.str [⟨none, some 56, .ld 28 (.tmp 7)⟩, ⟨none, some 57, .mv (.tmp 13)⟩, ⟨none, some 58, .oth (.indexAddr 28 (.tmp 56) (.tmp 57))⟩, ⟨none, some 59, .ld 3 (.tmp 58)⟩, ⟨none, some 60, .bin .add 3 (.tmp 59) (.const (.int .i64 1))⟩, ⟨none, some 61, .oth (.indexAddr 28 (.tmp 56) (.tmp 57))⟩, ⟨none, none, .sto 3 (.tmp 61) (.tmp 60)⟩]) (some ([3, 7, 12, 13, 47, 48], [3, 7, 12, 18])) := rx
@[simp] theorem x71_14 : RX 87 r71_14 (.str [⟨none, some 62, .bin .add 3 (.tmp 48) (.const (.int .i64 1))⟩, ⟨none, some 48, .mv (.tmp 62)⟩]) (some ([3, 7, 12, 47, 48], [3, 7, 12, 18])) := rx
@[simp] theorem x71_15 : RX 87 r71_15 (.str [⟨none, some 63, .ld 28 (.tmp 7)⟩, ⟨none, some 64, .oth (.call ⟨.builtin .len, #[.tmp 63], #[28]⟩)⟩, ⟨none, some 65, .mv (.const (.int .i64 0))⟩]) (some ([7, 8], [7, 8, 18])) := rx
@[simp] theorem x71_16 : RX 87 r71_16 (.str [⟨none, some 66, .bin .lss 3 (.tmp 65) (.tmp 64)⟩]) (some ([7, 8, 63, 64, 65], [7, 8, 18])) := rx
@[simp] theorem x71_17 : RX 87 r71_17 (.str [⟨none, some 67, .mv (.tmp 65)⟩, ⟨none, some 68, .oth (.indexAddr 28 (.tmp 63) (.tmp 65))⟩, ⟨none, some 69, .ld 3 (.tmp 68)⟩, ⟨none, some 14, .mv (.tmp 67)⟩, ⟨none, some 15, .mv (.tmp 69)⟩]) (some ([7, 8, 63, 64, 65], [7, 8, 18])) := rx
@[simp] theorem x71_18 : RX 87 r71_18 (.str [⟨none, some 70, .mv (.tmp 15)⟩]) (some ([7, 8, 14, 15, 63, 64, 65], [7, 8, 18])) := rx
@[simp] theorem x71_20 : RX 87 r71_20 (.str [⟨none, some 75, .ld 3 (.tmp 8)⟩, ⟨none, some 76, .bin .eql 3 (.tmp 70) (.tmp 75)⟩, ⟨none, some 74, .mv (.tmp 76)⟩]) (some ([7, 8, 14, 63, 64, 65, 70], [7, 8, 18])) := rx
@[simp] theorem x71_21 : RX 87 r71_21 (.str [⟨none, some 77, .ld 28 (.tmp 7)⟩, ⟨none, some 78, .mv (.tmp 14)⟩, ⟨none, some 79, .oth (.indexAddr 28 (.tmp 77) (.tmp 78))⟩, ⟨none, none, .sto 3 (.tmp 79) (.const (.int .i64 1))⟩]) (some ([7, 8, 14, 63, 64, 65], [7, 8, 18])) := rx
@[simp] theorem x71_22 : RX 87 r71_22 (.str [⟨none, some 81, .bin .eql 3 (.tmp 70) (.const (.int .i64 0))⟩, ⟨none, some 80, .mv (.tmp 81)⟩]) (some ([7, 8, 14, 63, 64, 65, 70], [7, 8, 18])) := rx
@[simp] theorem x71_23 : RX 87 r71_23 (.str [⟨none, some 82, .ld 28 (.tmp 7)⟩, ⟨none, some 83, .mv (.tmp 14)⟩, ⟨none, some 84, .oth (.indexAddr 28 (.tmp 82) (.tmp 83))⟩, ⟨none, none, .sto 3 (.tmp 84) (.const (.int .i64 2))⟩]) (some ([7, 8, 14, 63, 64, 65], [7, 8, 18])) := rx
@[simp] theorem x71_19 : RX 87 r71_19 (.str [⟨none, some 71, .ld 28 (.tmp 7)⟩, ⟨none, some 72, .mv (.tmp 14)⟩, ⟨none, some 73, .oth (.indexAddr 28 (.tmp 71) (.tmp 72))⟩, ⟨none, none, .sto 3 (.tmp 73) (.const (.int .i64 3))⟩]) (some ([7, 8, 14, 63, 64, 65], [7, 8, 18])) := rx
@[simp] theorem x71_24 : RX 87 r71_24 (.str [⟨none, some 85, .bin .add 3 (.tmp 65) (.const (.int .i64 1))⟩, ⟨none, some 65, .mv (.tmp 85)⟩]) (some ([7, 8, 63, 64, 65], [7, 8, 18])) := rx
@[simp] theorem x71_25 : RX 87 r71_25 (.str [⟨none, some 86, .ld 28 (.tmp 7)⟩, ⟨none, some 6, .mv (.tmp 86)⟩]) (some ([7], [7, 18])) := rx
@[simp] theorem l71_10 : ann 87 (fstR lb71_10) = some ([3, 7, 12, 47, 48], [3, 7, 12, 18]) := by kernel_rfl
@[simp] theorem l71_16 : ann 87 (fstR lb71_16) = some ([7, 8, 63, 64, 65], [7, 8, 18]) := by kernel_rfl
end
end Go.Proofs.Try.Op
/- The walk's ground of function 72: its regions worked out. No condition. -/
set_option maxRecDepth 100000
namespace Go.Proofs.Try.Op
open Go Go.Pg
noncomputable section
def r72_0 := codeAt (bodyOf Try.f72) [0]
def r72_1 := codeAt (bodyOf Try.f72) [1, 0]
def c72 : Code := (.seq r72_0 (.seq r72_1 .ret))
theorem b72 : Try.f72.body = some c72 := by kernel_rfl
@[simp] theorem x72_0 : RX 10 r72_0 (.str [⟨none, some 2, .box (.tmp 0)⟩, ⟨none, some 4, .mv (.const (.bool false))⟩]) (some ([0, 1], [])) := rx
@[simp] theorem x72_1 : RX 10 r72_1 (.str [⟨none, some 5, .mv (.tmp 1)⟩, ⟨none, some 6, .fa 113 (.tmp 2) 1⟩, ⟨none, some 7, .oth (.indexAddr 111 (.tmp 6) (.tmp 5))⟩, ⟨none, some 8, .ld 3 (.tmp 7)⟩, ⟨none, some 9, .bin .neq 3 (.tmp 8) (.const (.int .i64 0))⟩, ⟨none, some 4, .mv (.tmp 9)⟩]) (some ([1, 2], [2])) := rx
end
end Go.Proofs.Try.Op
/- The walk's ground of function 21: its regions worked out. No condition. -/
set_option maxRecDepth 100000
namespace Go.Proofs.Try.Op
open Go Go.Pg
noncomputable section
def r21_0 := codeAt (bodyOf Try.f21) [0]
def r21_1 := codeAt (bodyOf Try.f21) [1, 0, 0]
def r21_2 := codeAt (bodyOf Try.f21) [1, 0, 1, 0]
def r21_3 := codeAt (bodyOf Try.f21) [1, 0, 1, 1, 0, 0]
def r21_4 := codeAt (bodyOf Try.f21) [1, 1, 0]
def c21 : Code := (.seq r21_0 (.seq (.seq r21_1 (.seq r21_2 (.cond (.tmp 16) (.seq r21_3 .ret) .skip))) (.seq r21_4 .ret)))
theorem b21 : Try.f21.body = some c21 := by kernel_rfl
@[simp] theorem x21_0 : RX 26 r21_0 (.str [⟨none, some 2, .box (.tmp 0)⟩, ⟨none, some 4, .mv (.const (.slice none 0 0))⟩, ⟨none, some 5, .mv (.const (.slice none 0 0))⟩, ⟨none, some 6, .mv (.const (.int .i64 0))⟩]) (some ([0, 1], [2, 21, 25])) := rx
@[simp] theorem x21_1 : RX 26 r21_1 (.drw [⟨[], [⟨none, some 8, .ld 35 (.tmp 2)⟩, ⟨none, some 9, .mv (.tmp 1)⟩, ⟨none, some 10, .fa 35 (.tmp 2) 3⟩, ⟨none, some 11, .ld 32 (.tmp 10)⟩, ⟨none, some 12, .oth (.call ⟨.builtin .len, #[.tmp 11], #[32]⟩)⟩, ⟨none, some 13, .call false none (.func 69) [.tmp 9, .const (.int .i64 0), .tmp 12]⟩], [⟨none, some 14, .call false none (.func 68) [.tmp 8, .tmp 13]⟩]⟩, ⟨[], [⟨none, some 7, .mv (.tmp 14)⟩], []⟩]) (some ([1, 2], [2, 21, 25])) := rx
@[simp] theorem x21_2 : RX 26 r21_2 (.str [⟨none, some 15, .mv (.tmp 7)⟩, ⟨none, some 16, .bin .neq 29 (.tmp 15) (.const (.int .i64 0))⟩]) (some ([1, 2, 7], [2, 21, 25])) := rx
@[simp] theorem x21_3 : RX 26 r21_3 (.str [⟨none, some 17, .mv (.tmp 7)⟩, ⟨none, some 4, .mv (.const (.slice none 0 0))⟩, ⟨none, some 5, .mv (.const (.slice none 0 0))⟩, ⟨none, some 6, .mv (.tmp 17)⟩]) (some ([7], [])) := rx
@[simp] theorem x21_4 : RX 26 r21_4 (.drw [⟨[], [⟨none, some 18, .build 115 [(0, .func 70)]⟩, ⟨none, some 19, .ld 35 (.tmp 2)⟩, ⟨none, some 20, .mv (.tmp 1)⟩, ⟨none, some 21, .call false none (.func 71) [.tmp 18, .tmp 19, .tmp 20]⟩, ⟨none, some 22, .build 115 [(0, .func 72)]⟩, ⟨none, some 23, .ld 35 (.tmp 2)⟩, ⟨none, some 24, .mv (.tmp 1)⟩], [⟨none, some 25, .call false none (.func 71) [.tmp 22, .tmp 23, .tmp 24]⟩]⟩, ⟨[], [⟨none, some 4, .mv (.tmp 21)⟩, ⟨none, some 5, .mv (.tmp 25)⟩, ⟨none, some 6, .mv (.const (.int .i64 0))⟩], []⟩]) (some ([1, 2], [2])) := rx
end
end Go.Proofs.Try.Op
/- The walk's ground of function 28: its regions worked out. No condition. -/
set_option maxRecDepth 100000
namespace Go.Proofs.Try.Op
open Go Go.Pg
noncomputable section
def r28_0 := codeAt (bodyOf Try.f28) [0]
def r28_1 := codeAt (bodyOf Try.f28) [1, 0, 0]
def r28_2 := codeAt (bodyOf Try.f28) [1, 0, 1, 0]
def r28_3 := codeAt (bodyOf Try.f28) [1, 0, 1, 1, 0, 0]
def r28_4 := codeAt (bodyOf Try.f28) [1, 1, 0]
def c28 : Code := (.seq r28_0 (.seq (.seq r28_1 (.seq r28_2 (.cond (.tmp 15) (.seq r28_3 .ret) .skip))) (.seq r28_4 .ret)))
theorem b28 : Try.f28.body = some c28 := by kernel_rfl
@[simp] theorem x28_0 : RX 21 r28_0 (.str [⟨none, some 2, .box (.tmp 0)⟩, ⟨none, some 4, .alloc 45⟩, ⟨none, some 5, .mv (.const (.int .i64 0))⟩]) (some ([0, 1], [2])) := rx
@[simp] theorem x28_1 : RX 21 r28_1 (.drw [⟨[], [⟨none, some 7, .ld 35 (.tmp 2)⟩, ⟨none, some 8, .mv (.tmp 1)⟩, ⟨none, some 9, .fa 35 (.tmp 2) 3⟩, ⟨none, some 10, .ld 32 (.tmp 9)⟩, ⟨none, some 11, .oth (.call ⟨.builtin .len, #[.tmp 10], #[32]⟩)⟩, ⟨none, some 12, .call false none (.func 69) [.tmp 8, .const (.int .i64 0), .tmp 11]⟩], [⟨none, some 13, .call false none (.func 68) [.tmp 7, .tmp 12]⟩]⟩, ⟨[], [⟨none, some 6, .mv (.tmp 13)⟩], []⟩]) (some ([1, 2, 4], [2, 4])) := rx
@[simp] theorem x28_2 : RX 21 r28_2 (.str [⟨none, some 14, .mv (.tmp 6)⟩, ⟨none, some 15, .bin .neq 29 (.tmp 14) (.const (.int .i64 0))⟩]) (some ([1, 2, 4, 6], [2, 4])) := rx
@[simp] theorem x28_3 : RX 21 r28_3 (.str [⟨none, some 16, .build 45 []⟩, ⟨none, some 17, .mv (.tmp 6)⟩, ⟨none, none, .sto 45 (.tmp 4) (.tmp 16)⟩, ⟨none, some 5, .mv (.tmp 17)⟩]) (some ([4, 6], [4])) := rx
@[simp] theorem x28_4 : RX 21 r28_4 (.str [⟨none, some 18, .ld 35 (.tmp 2)⟩, ⟨none, some 19, .mv (.tmp 1)⟩, ⟨none, some 20, .call true none (.func 74) [.tmp 18, .tmp 19, .func 75]⟩, ⟨none, none, .sto 45 (.tmp 4) (.tmp 20)⟩, ⟨none, some 5, .mv (.const (.int .i64 0))⟩]) (some ([1, 2, 4], [2, 4])) := rx
end
end Go.Proofs.Try.Op
/- The walk's ground of function 29: its regions worked out. No condition. -/
set_option maxRecDepth 100000
namespace Go.Proofs.Try.Op
open Go Go.Pg
noncomputable section
def r29_0 := codeAt (bodyOf Try.f29) [0]
def r29_1 := codeAt (bodyOf Try.f29) [1, 0, 0]
def r29_2 := codeAt (bodyOf Try.f29) [1, 0, 1, 0]
def r29_3 := codeAt (bodyOf Try.f29) [1, 0, 1, 1, 0, 0]
def r29_4 := codeAt (bodyOf Try.f29) [1, 1, 0]
def c29 : Code := (.seq r29_0 (.seq (.seq r29_1 (.seq r29_2 (.cond (.tmp 8) (.seq r29_3 .ret) .skip))) (.seq r29_4 .ret)))
theorem b29 : Try.f29.body = some c29 := by kernel_rfl
@[simp] theorem x29_0 : RX 16 r29_0 (.str [⟨none, some 1, .box (.tmp 0)⟩, ⟨none, some 2, .alloc 45⟩, ⟨none, some 3, .mv (.const (.int .i64 0))⟩]) (some ([0], [1])) := rx
@[simp] theorem x29_1 : RX 16 r29_1 (.str [⟨none, some 5, .ld 35 (.tmp 1)⟩, ⟨none, some 6, .call false none (.func 68) [.tmp 5, .const (.bool true)]⟩, ⟨none, some 4, .mv (.tmp 6)⟩]) (some ([0, 1, 2], [1, 2])) := rx
@[simp] theorem x29_2 : RX 16 r29_2 (.str [⟨none, some 7, .mv (.tmp 4)⟩, ⟨none, some 8, .bin .neq 29 (.tmp 7) (.const (.int .i64 0))⟩]) (some ([1, 2, 4], [1, 2])) := rx
@[simp] theorem x29_3 : RX 16 r29_3 (.str [⟨none, some 9, .build 45 []⟩, ⟨none, some 10, .mv (.tmp 4)⟩, ⟨none, none, .sto 45 (.tmp 2) (.tmp 9)⟩, ⟨none, some 3, .mv (.tmp 10)⟩]) (some ([2, 4], [2])) := rx
@[simp] theorem x29_4 : RX 16 r29_4 (.str [⟨none, some 11, .ld 35 (.tmp 1)⟩, ⟨none, some 12, .fa 35 (.tmp 1) 3⟩, ⟨none, some 13, .ld 32 (.tmp 12)⟩, ⟨none, some 14, .oth (.call ⟨.builtin .len, #[.tmp 13], #[32]⟩)⟩, ⟨none, some 15, .call true none (.func 74) [.tmp 11, .tmp 14, .func 76]⟩, ⟨none, none, .sto 45 (.tmp 2) (.tmp 15)⟩, ⟨none, some 3, .mv (.const (.int .i64 0))⟩]) (some ([1, 2], [1, 2])) := rx
end
end Go.Proofs.Try.Op
/- The walk's ground of function 51: its regions worked out. No condition. -/
set_option maxRecDepth 100000
namespace Go.Proofs.Try.Op
open Go Go.Pg
noncomputable section
def r51_0 := codeAt (bodyOf Try.f51) [0]
def r51_1 := codeAt (bodyOf Try.f51) [1, 0]
def r51_2 := codeAt (bodyOf Try.f51) [1, 1, 0, 0]
def r51_3 := codeAt (bodyOf Try.f51) [1, 1, 0, 1, 0, 0, 0, 0]
def r51_5 := codeAt (bodyOf Try.f51) [1, 1, 0, 1, 0, 0, 1, 0, 0, 0]
def r51_6 := codeAt (bodyOf Try.f51) [1, 1, 0, 1, 0, 0, 1, 0, 0, 1]
def r51_4 := codeAt (bodyOf Try.f51) [1, 1, 0, 1, 0, 0, 1, 1]
def r51_7 := codeAt (bodyOf Try.f51) [1, 1, 1, 0]
def lb51_3 : Code := (.seq (.seq r51_3 (.cond (.tmp 12) .skip (.exit 0))) (.seq (.block 1 (.seq r51_5 r51_6)) r51_4))
@[simp] theorem u51_3 (n : Nat) (st : XS) : execA Try.prog ann kn n 37 lb51_3 st = execA Try.prog ann kn n 37 (.seq (.seq r51_3 (.cond (.tmp 12) .skip (.exit 0))) (.seq (.block 1 (.seq r51_5 r51_6)) r51_4)) st := rfl
def c51 : Code := (.seq r51_0 (.seq r51_1 (.seq (.seq r51_2 (.block 0 (.loop lb51_3))) (.seq r51_7 .ret))))
@[simp] theorem x51_0 : RX 37 r51_0 (.str [⟨none, some 2, .box (.tmp 0)⟩, ⟨none, some 4, .mv (.const (.slice none 0 0))⟩]) (some ([0, 1], [2, 21])) := rx
@[simp] theorem x51_1 : RX 37 r51_1 (.str [⟨none, some 5, .mv (.const (.slice none 0 0))⟩]) (some ([1, 2], [2, 21])) := rx
@[simp] theorem x51_2 : RX 37 r51_2 (.str [⟨none, some 6, .mv (.const (.int .i64 0))⟩]) (some ([1, 2, 5], [2, 21, 31])) := rx
@[simp] theorem x51_3 : RX 37 r51_3 (.str [⟨none, some 8, .mv (.tmp 6)⟩, ⟨none, some 9, .fa 25 (.tmp 2) 3⟩, ⟨none, some 10, .ld 22 (.tmp 9)⟩, ⟨none, some 11, .oth (.call ⟨.builtin .len, #[.tmp 10], #[22]⟩)⟩, ⟨none, some 12, .bin .lss 3 (.tmp 8) (.tmp 11)⟩]) (some ([1, 2, 5, 6], [2, 21, 31])) := rx
@[simp] theorem x51_5 : RX 37 r51_5 (.drw [⟨[], [⟨none, some 15, .ld 25 (.tmp 2)⟩, ⟨none, some 16, .fa 25 (.tmp 2) 3⟩, ⟨none, some 17, .ld 22 (.tmp 16)⟩, ⟨none, some 18, .mv (.tmp 6)⟩, ⟨none, some 19, .oth (.indexAddr 22 (.tmp 17) (.tmp 18))⟩, ⟨none, some 20, .ld 75 (.tmp 19)⟩], [⟨none, some 21, .call false none (.func 83) [.tmp 15, .tmp 20]⟩]⟩, ⟨[], [⟨none, some 7, .mv (.tmp 21)⟩], []⟩]) (some ([1, 2, 5, 6], [2, 31])) := rx
@[simp] theorem x51_6 : RX 37 r51_6 (.drw [⟨[], [⟨none, some 22, .mv (.tmp 5)⟩, ⟨none, some 23, .mv (.tmp 7)⟩, ⟨none, some 24, .mv (.tmp 1)⟩, ⟨none, some 25, .mv (.tmp 7)⟩, ⟨none, some 26, .oth (.call ⟨.builtin .len, #[.tmp 25], #[22]⟩)⟩, ⟨none, some 27, .bin .rem 3 (.tmp 24) (.tmp 26)⟩, ⟨none, some 28, .oth (.indexAddr 22 (.tmp 23) (.tmp 27))⟩, ⟨none, some 29, .ld 75 (.tmp 28)⟩, ⟨none, some 30, .buildS 22 1 [(0, .tmp 29)]⟩, ⟨none, some 32, .mv (.tmp 1)⟩, ⟨none, some 33, .mv (.tmp 7)⟩, ⟨none, some 34, .oth (.call ⟨.builtin .len, #[.tmp 33], #[22]⟩)⟩, ⟨none, some 35, .bin .quo 3 (.tmp 32) (.tmp 34)⟩, ⟨none, some 31, .app [.tmp 22, .tmp 30] [22, 22]⟩, ⟨none, some 5, .mv (.tmp 31)⟩, ⟨none, some 1, .mv (.tmp 35)⟩], []⟩]) (some ([1, 2, 5, 6, 7], [2, 21, 31])) := rx
@[simp] theorem x51_4 : RX 37 r51_4 (.str [⟨none, some 13, .mv (.tmp 6)⟩, ⟨none, some 14, .bin .add 3 (.tmp 13) (.const (.int .i64 1))⟩, ⟨none, some 6, .mv (.tmp 14)⟩]) (some ([1, 2, 5, 6], [2, 21, 31])) := rx
@[simp] theorem x51_7 : RX 37 r51_7 (.str [⟨none, some 36, .mv (.tmp 5)⟩, ⟨none, some 4, .mv (.tmp 36)⟩]) (some ([5], [31])) := rx
@[simp] theorem l51_3 : ann 37 (fstR lb51_3) = some ([1, 2, 5, 6], [2, 21, 31]) := by kernel_rfl
end
end Go.Proofs.Try.Op
/- The walk's ground of function 43: its regions worked out. No condition. -/
set_option maxRecDepth 100000
namespace Go.Proofs.Try.Op
open Go Go.Pg
noncomputable section
def r43_0 := codeAt (bodyOf Try.f43) [0]
def r43_1 := codeAt (bodyOf Try.f43) [1, 0]
def r43_2 := codeAt (bodyOf Try.f43) [1, 1, 0, 0]
def r43_3 := codeAt (bodyOf Try.f43) [1, 1, 0, 1, 0, 0, 0, 0]
def r43_5 := codeAt (bodyOf Try.f43) [1, 1, 0, 1, 0, 0, 1, 0, 0, 0]
def r43_6 := codeAt (bodyOf Try.f43) [1, 1, 0, 1, 0, 0, 1, 0, 0, 1, 0]
def r43_7 := codeAt (bodyOf Try.f43) [1, 1, 0, 1, 0, 0, 1, 0, 0, 1, 1, 0]
def r43_4 := codeAt (bodyOf Try.f43) [1, 1, 0, 1, 0, 0, 1, 1]
def r43_8 := codeAt (bodyOf Try.f43) [1, 1, 1, 0]
def lb43_3 : Code := (.seq (.seq r43_3 (.cond (.tmp 9) .skip (.exit 0))) (.seq (.block 1 (.seq r43_5 (.seq r43_6 (.cond (.tmp 21) r43_7 .skip)))) r43_4))
@[simp] theorem u43_3 (n : Nat) (st : XS) : execA Try.prog ann kn n 27 lb43_3 st = execA Try.prog ann kn n 27 (.seq (.seq r43_3 (.cond (.tmp 9) .skip (.exit 0))) (.seq (.block 1 (.seq r43_5 (.seq r43_6 (.cond (.tmp 21) r43_7 .skip)))) r43_4)) st := rfl
def c43 : Code := (.seq r43_0 (.seq r43_1 (.seq (.seq r43_2 (.block 0 (.loop lb43_3))) (.seq r43_8 .ret))))
@[simp] theorem x43_0 : RX 27 r43_0 (.str [⟨none, some 1, .box (.tmp 0)⟩, ⟨none, some 2, .mv (.const (.slice none 0 0))⟩]) (some ([0], [1, 14])) := rx
@[simp] theorem x43_1 : RX 27 r43_1 (.str [⟨none, some 3, .mv (.const (.slice none 0 0))⟩]) (some ([1], [1, 14])) := rx
@[simp] theorem x43_2 : RX 27 r43_2 (.str [⟨none, some 4, .mv (.const (.int .i64 0))⟩]) (some ([1, 3], [1, 14, 25])) := rx
@[simp] theorem x43_3 : RX 27 r43_3 (.str [⟨none, some 6, .mv (.tmp 4)⟩, ⟨none, some 7, .ld 25 (.tmp 1)⟩, ⟨none, some 8, .call false none (.func 52) [.tmp 7]⟩, ⟨none, some 9, .bin .lss 3 (.tmp 6) (.tmp 8)⟩]) (some ([1, 3, 4], [1, 14, 25])) := rx
@[simp] theorem x43_5 : RX 27 r43_5 (.str [⟨none, some 12, .ld 25 (.tmp 1)⟩, ⟨none, some 13, .mv (.tmp 4)⟩, ⟨none, some 14, .call false none (.func 51) [.tmp 12, .tmp 13]⟩, ⟨none, some 5, .mv (.tmp 14)⟩]) (some ([1, 3, 4], [1, 14, 25])) := rx
@[simp] theorem x43_6 : RX 27 r43_6 (.str [⟨none, some 15, .mv (.tmp 5)⟩, ⟨none, some 16, .call false none (.func 58) [.tmp 15]⟩, ⟨none, some 17, .mv (.tmp 16)⟩, ⟨some (17, true), some 18, .ld 25 (.tmp 1)⟩, ⟨some (17, true), some 19, .mv (.tmp 5)⟩, ⟨some (17, true), some 20, .call false none (.func 89) [.tmp 18, .tmp 19]⟩, ⟨none, some 21, .pick (.tmp 17) (.tmp 20) (.const (.bool false))⟩]) (some ([1, 3, 4, 5], [1, 14, 25])) := rx
@[simp] theorem x43_7 : RX 27 r43_7 (.str [⟨none, some 22, .mv (.tmp 3)⟩, ⟨none, some 23, .mv (.tmp 5)⟩, ⟨none, some 24, .buildS 37 1 [(0, .tmp 23)]⟩, ⟨none, some 25, .app [.tmp 22, .tmp 24] [37, 37]⟩, ⟨none, some 3, .mv (.tmp 25)⟩]) (some ([1, 3, 4, 5], [1, 14, 25])) := rx
@[simp] theorem x43_4 : RX 27 r43_4 (.str [⟨none, some 10, .mv (.tmp 4)⟩, ⟨none, some 11, .bin .add 3 (.tmp 10) (.const (.int .i64 1))⟩, ⟨none, some 4, .mv (.tmp 11)⟩]) (some ([1, 3, 4], [1, 14, 25])) := rx
@[simp] theorem x43_8 : RX 27 r43_8 (.str [⟨none, some 26, .mv (.tmp 3)⟩, ⟨none, some 2, .mv (.tmp 26)⟩]) (some ([3], [25])) := rx
@[simp] theorem l43_3 : ann 27 (fstR lb43_3) = some ([1, 3, 4], [1, 14, 25]) := by kernel_rfl
end
end Go.Proofs.Try.Op
/- The walk's ground of function 23: its regions worked out. No condition. -/
set_option maxRecDepth 100000
namespace Go.Proofs.Try.Op
open Go Go.Pg
noncomputable section
def r23_0 := codeAt (bodyOf Try.f23) [0]
def r23_1 := codeAt (bodyOf Try.f23) [1, 0, 0]
def r23_2 := codeAt (bodyOf Try.f23) [1, 0, 1, 0]
def r23_3 := codeAt (bodyOf Try.f23) [1, 0, 1, 1, 0, 0]
def r23_4 := codeAt (bodyOf Try.f23) [1, 1, 0]
def r23_5 := codeAt (bodyOf Try.f23) [1, 1, 1, 0, 0]
def r23_6 := codeAt (bodyOf Try.f23) [1, 1, 1, 0, 1, 0, 0]
def r23_7 := codeAt (bodyOf Try.f23) [1, 1, 1, 1, 0]
def c23 : Code := (.seq r23_0 (.seq (.seq r23_1 (.seq r23_2 (.cond (.tmp 9) (.seq r23_3 .ret) .skip))) (.seq r23_4 (.seq (.seq r23_5 (.cond (.tmp 15) (.seq r23_6 .ret) .skip)) (.seq r23_7 .ret)))))
end
end Go.Proofs.Try.Op
/- The walk's ground of function 73: its regions worked out. No condition. -/
set_option maxRecDepth 100000
namespace Go.Proofs.Try.Op
open Go Go.Pg
noncomputable section
def r73_0 := codeAt (bodyOf Try.f73) [0]
def r73_1 := codeAt (bodyOf Try.f73) [1, 0, 0]
def r73_2 := codeAt (bodyOf Try.f73) [1, 0, 1, 0, 0]
def r73_3 := codeAt (bodyOf Try.f73) [1, 1, 0, 0]
def r73_4 := codeAt (bodyOf Try.f73) [1, 1, 0, 1, 0, 0]
def r73_5 := codeAt (bodyOf Try.f73) [1, 1, 1, 0]
def c73 : Code := (.seq r73_0 (.seq (.seq r73_1 (.cond (.tmp 7) (.seq r73_2 .ret) .skip)) (.seq (.seq r73_3 (.cond (.tmp 9) (.seq r73_4 .ret) .skip)) (.seq r73_5 .ret))))
end
end Go.Proofs.Try.Op
/- The walk's ground of function 26: its regions worked out. No condition. -/
set_option maxRecDepth 100000
namespace Go.Proofs.Try.Op
open Go Go.Pg
noncomputable section
def r26_0 := codeAt (bodyOf Try.f26) [0]
def r26_1 := codeAt (bodyOf Try.f26) [1, 0]
def r26_2 := codeAt (bodyOf Try.f26) [1, 1, 0, 0]
def r26_3 := codeAt (bodyOf Try.f26) [1, 1, 0, 1, 0, 0, 0, 0]
def r26_5 := codeAt (bodyOf Try.f26) [1, 1, 0, 1, 0, 0, 1, 0, 0, 0]
def r26_6 := codeAt (bodyOf Try.f26) [1, 1, 0, 1, 0, 0, 1, 0, 0, 1, 0]
def r26_4 := codeAt (bodyOf Try.f26) [1, 1, 0, 1, 0, 0, 1, 1]
def r26_7 := codeAt (bodyOf Try.f26) [1, 1, 1, 0]
def lb26_3 : Code := (.seq (.seq r26_3 (.cond (.tmp 12) .skip (.exit 0))) (.seq (.block 1 (.seq r26_5 (.cond (.tmp 22) r26_6 .skip))) r26_4))
@[simp] theorem u26_3 (n : Nat) (st : XS) : execA Try.prog ann kn n 29 lb26_3 st = execA Try.prog ann kn n 29 (.seq (.seq r26_3 (.cond (.tmp 12) .skip (.exit 0))) (.seq (.block 1 (.seq r26_5 (.cond (.tmp 22) r26_6 .skip))) r26_4)) st := rfl
def c26 : Code := (.seq r26_0 (.seq r26_1 (.seq (.seq r26_2 (.block 0 (.loop lb26_3))) (.seq r26_7 .ret))))
@[simp] theorem x26_0 : RX 29 r26_0 (.str [⟨none, some 6, .mv (.const (.int .i64 0))⟩]) (some ([0, 1, 2], [])) := rx
@[simp] theorem x26_1 : RX 29 r26_1 (.str [⟨none, some 7, .mv (.const (.int .i64 0))⟩]) (some ([0, 1, 2], [])) := rx
@[simp] theorem x26_2 : RX 29 r26_2 (.str [⟨none, some 8, .mv (.const (.int .i64 0))⟩]) (some ([0, 1, 2, 7], [])) := rx
@[simp] theorem x26_3 : RX 29 r26_3 (.str [⟨none, some 9, .mv (.tmp 8)⟩, ⟨none, some 10, .mv (.tmp 0)⟩, ⟨none, some 11, .oth (.call ⟨.builtin .len, #[.tmp 10], #[37]⟩)⟩, ⟨none, some 12, .bin .lss 3 (.tmp 9) (.tmp 11)⟩]) (some ([0, 1, 2, 7, 8], [])) := rx
@[simp] theorem x26_5 : RX 29 r26_5 (.str [⟨none, some 15, .mv (.tmp 0)⟩, ⟨none, some 16, .mv (.tmp 8)⟩, ⟨none, some 17, .oth (.indexAddr 37 (.tmp 15) (.tmp 16))⟩, ⟨none, some 18, .ld 22 (.tmp 17)⟩, ⟨none, some 19, .mv (.tmp 1)⟩, ⟨none, some 20, .mv (.tmp 2)⟩, ⟨none, some 21, .call false none (.func 63) [.tmp 18, .tmp 19, .tmp 20]⟩, ⟨none, some 22, .bin .geq 3 (.tmp 21) (.const (.int .i64 0))⟩]) (some ([0, 1, 2, 7, 8], [])) := rx
@[simp] theorem x26_6 : RX 29 r26_6 (.str [⟨none, some 23, .mv (.tmp 7)⟩, ⟨none, some 24, .bin .add 3 (.tmp 23) (.const (.int .i64 1))⟩, ⟨none, some 7, .mv (.tmp 24)⟩]) (some ([0, 1, 2, 7, 8], [])) := rx
@[simp] theorem x26_4 : RX 29 r26_4 (.str [⟨none, some 13, .mv (.tmp 8)⟩, ⟨none, some 14, .bin .add 3 (.tmp 13) (.const (.int .i64 1))⟩, ⟨none, some 8, .mv (.tmp 14)⟩]) (some ([0, 1, 2, 7, 8], [])) := rx
@[simp] theorem x26_7 : RX 29 r26_7 (.str [⟨none, some 25, .mv (.tmp 7)⟩, ⟨none, some 26, .mv (.tmp 0)⟩, ⟨none, some 27, .oth (.call ⟨.builtin .len, #[.tmp 26], #[37]⟩)⟩, ⟨none, some 28, .call false none (.func 73) [.tmp 25, .tmp 27]⟩, ⟨none, some 6, .mv (.tmp 28)⟩]) (some ([0, 7], [])) := rx
@[simp] theorem l26_3 : ann 29 (fstR lb26_3) = some ([0, 1, 2, 7, 8], []) := by kernel_rfl
end
end Go.Proofs.Try.Op
/- The walk's ground of function 27: its regions worked out. No condition. -/
set_option maxRecDepth 100000
namespace Go.Proofs.Try.Op
open Go Go.Pg
noncomputable section
def r27_0 := codeAt (bodyOf Try.f27) [0]
def r27_1 := codeAt (bodyOf Try.f27) [1, 0]
def r27_2 := codeAt (bodyOf Try.f27) [1, 1, 0, 0]
def r27_3 := codeAt (bodyOf Try.f27) [1, 1, 0, 1, 0, 0, 0, 0]
def r27_5 := codeAt (bodyOf Try.f27) [1, 1, 0, 1, 0, 0, 1, 0, 0, 0]
def r27_6 := codeAt (bodyOf Try.f27) [1, 1, 0, 1, 0, 0, 1, 0, 0, 1, 0]
def r27_4 := codeAt (bodyOf Try.f27) [1, 1, 0, 1, 0, 0, 1, 1]
def r27_7 := codeAt (bodyOf Try.f27) [1, 1, 1, 0]
def lb27_3 : Code := (.seq (.seq r27_3 (.cond (.tmp 12) .skip (.exit 0))) (.seq (.block 1 (.seq r27_5 (.cond (.tmp 22) r27_6 .skip))) r27_4))
@[simp] theorem u27_3 (n : Nat) (st : XS) : execA Try.prog ann kn n 29 lb27_3 st = execA Try.prog ann kn n 29 (.seq (.seq r27_3 (.cond (.tmp 12) .skip (.exit 0))) (.seq (.block 1 (.seq r27_5 (.cond (.tmp 22) r27_6 .skip))) r27_4)) st := rfl
def c27 : Code := (.seq r27_0 (.seq r27_1 (.seq (.seq r27_2 (.block 0 (.loop lb27_3))) (.seq r27_7 .ret))))
@[simp] theorem x27_0 : RX 29 r27_0 (.str [⟨none, some 6, .mv (.const (.int .i64 0))⟩]) (some ([0, 1, 2], [])) := rx
@[simp] theorem x27_1 : RX 29 r27_1 (.str [⟨none, some 7, .mv (.const (.int .i64 0))⟩]) (some ([0, 1, 2], [])) := rx
@[simp] theorem x27_2 : RX 29 r27_2 (.str [⟨none, some 8, .mv (.const (.int .i64 0))⟩]) (some ([0, 1, 2, 7], [])) := rx
@[simp] theorem x27_3 : RX 29 r27_3 (.str [⟨none, some 9, .mv (.tmp 8)⟩, ⟨none, some 10, .mv (.tmp 0)⟩, ⟨none, some 11, .oth (.call ⟨.builtin .len, #[.tmp 10], #[37]⟩)⟩, ⟨none, some 12, .bin .lss 3 (.tmp 9) (.tmp 11)⟩]) (some ([0, 1, 2, 7, 8], [])) := rx
@[simp] theorem x27_5 : RX 29 r27_5 (.str [⟨none, some 15, .mv (.tmp 0)⟩, ⟨none, some 16, .mv (.tmp 8)⟩, ⟨none, some 17, .oth (.indexAddr 37 (.tmp 15) (.tmp 16))⟩, ⟨none, some 18, .ld 22 (.tmp 17)⟩, ⟨none, some 19, .mv (.tmp 1)⟩, ⟨none, some 20, .mv (.tmp 2)⟩, ⟨none, some 21, .call false none (.func 64) [.tmp 18, .tmp 19, .tmp 20]⟩, ⟨none, some 22, .bin .geq 3 (.tmp 21) (.const (.int .i64 0))⟩]) (some ([0, 1, 2, 7, 8], [])) := rx
@[simp] theorem x27_6 : RX 29 r27_6 (.str [⟨none, some 23, .mv (.tmp 7)⟩, ⟨none, some 24, .bin .add 3 (.tmp 23) (.const (.int .i64 1))⟩, ⟨none, some 7, .mv (.tmp 24)⟩]) (some ([0, 1, 2, 7, 8], [])) := rx
@[simp] theorem x27_4 : RX 29 r27_4 (.str [⟨none, some 13, .mv (.tmp 8)⟩, ⟨none, some 14, .bin .add 3 (.tmp 13) (.const (.int .i64 1))⟩, ⟨none, some 8, .mv (.tmp 14)⟩]) (some ([0, 1, 2, 7, 8], [])) := rx
@[simp] theorem x27_7 : RX 29 r27_7 (.str [⟨none, some 25, .mv (.tmp 7)⟩, ⟨none, some 26, .mv (.tmp 0)⟩, ⟨none, some 27, .oth (.call ⟨.builtin .len, #[.tmp 26], #[37]⟩)⟩, ⟨none, some 28, .call false none (.func 73) [.tmp 25, .tmp 27]⟩, ⟨none, some 6, .mv (.tmp 28)⟩]) (some ([0, 7], [])) := rx
@[simp] theorem l27_3 : ann 29 (fstR lb27_3) = some ([0, 1, 2, 7, 8], []) := by kernel_rfl
end
end Go.Proofs.Try.Op
/- The walk's ground of function 3: its regions worked out. No condition. -/
set_option maxRecDepth 100000
namespace Go.Proofs.Try.Op
open Go Go.Pg
noncomputable section
def r3_0 := codeAt (bodyOf Try.f3) [0]
def r3_1 := codeAt (bodyOf Try.f3) [1, 0, 0]
def r3_2 := codeAt (bodyOf Try.f3) [1, 0, 1, 0, 0]
def r3_3 := codeAt (bodyOf Try.f3) [1, 1, 0]
def r3_4 := codeAt (bodyOf Try.f3) [1, 1, 1, 0]
def r3_5 := codeAt (bodyOf Try.f3) [1, 1, 1, 1, 0, 0]
def r3_6 := codeAt (bodyOf Try.f3) [1, 1, 1, 1, 0, 1, 0]
def r3_7 := codeAt (bodyOf Try.f3) [1, 1, 1, 1, 1, 0, 0]
def r3_8 := codeAt (bodyOf Try.f3) [1, 1, 1, 1, 1, 0, 1, 0, 0]
def r3_9 := codeAt (bodyOf Try.f3) [1, 1, 1, 1, 1, 1, 0, 0]
def r3_10 := codeAt (bodyOf Try.f3) [1, 1, 1, 1, 1, 1, 0, 1, 0, 0]
def r3_11 := codeAt (bodyOf Try.f3) [1, 1, 1, 1, 1, 1, 1, 0, 0]
def r3_12 := codeAt (bodyOf Try.f3) [1, 1, 1, 1, 1, 1, 1, 0, 1, 0, 0, 0, 0]
def r3_14 := codeAt (bodyOf Try.f3) [1, 1, 1, 1, 1, 1, 1, 0, 1, 0, 0, 1, 0, 0, 0]
def r3_15 := codeAt (bodyOf Try.f3) [1, 1, 1, 1, 1, 1, 1, 0, 1, 0, 0, 1, 0, 0, 1, 0, 0]
def r3_13 := codeAt (bodyOf Try.f3) [1, 1, 1, 1, 1, 1, 1, 0, 1, 0, 0, 1, 1]
def r3_16 := codeAt (bodyOf Try.f3) [1, 1, 1, 1, 1, 1, 1, 1, 0]
def lb3_12 : Code := (.seq (.seq r3_12 (.cond (.tmp 74) .skip (.exit 0))) (.seq (.block 1 (.seq r3_14 (.cond (.tmp 96) (.seq r3_15 .ret) .skip))) r3_13))
@[simp] theorem u3_12 (n : Nat) (st : XS) : execA Try.prog ann kn n 98 lb3_12 st = execA Try.prog ann kn n 98 (.seq (.seq r3_12 (.cond (.tmp 74) .skip (.exit 0))) (.seq (.block 1 (.seq r3_14 (.cond (.tmp 96) (.seq r3_15 .ret) .skip))) r3_13)) st := rfl
def c3 : Code := (.seq r3_0 (.seq (.seq r3_1 (.cond (.tmp 13) (.seq r3_2 .ret) .skip)) (.seq r3_3 (.seq r3_4 (.seq (.seq r3_5 (.cond (.tmp 38) r3_6 .skip)) (.seq (.seq r3_7 (.cond (.tmp 40) (.seq r3_8 .ret) .skip)) (.seq (.seq r3_9 (.cond (.tmp 70) (.seq r3_10 .ret) .skip)) (.seq (.seq r3_11 (.block 0 (.loop lb3_12))) (.seq r3_16 .ret)))))))))
theorem b3 : Try.f3.body = some c3 := by kernel_rfl
@[simp] theorem x3_0 : RX 98 r3_0 (.str [⟨none, some 2, .box (.tmp 0)⟩, ⟨none, some 4, .mv (.const (.bool false))⟩]) (some ([0, 1], [2, 17, 19, 25])) := rx
@[simp] theorem x3_1 : RX 98 r3_1 (.str [⟨none, some 11, .ld 25 (.tmp 2)⟩, ⟨none, some 12, .call false none (.func 19) [.tmp 11]⟩, ⟨none, some 13, .oth (.unOp .not 4 (.tmp 12))⟩]) (some ([1, 2], [2, 17, 19, 25])) := rx
@[simp] theorem x3_2 : RX 98 r3_2 (.str [⟨none, some 14, .call false none (.func 20) []⟩, ⟨none, some 4, .mv (.tmp 14)⟩]) (some ([], [])) := rx
@[simp] theorem x3_3 : RX 98 r3_3 (.str [⟨none, some 16, .ld 25 (.tmp 2)⟩, ⟨none, some 17, .call false none (.func 22) [.tmp 16]⟩, ⟨none, some 18, .mv (.tmp 1)⟩, ⟨none, some 19, .call false none (.func 21) [.tmp 17, .tmp 18]⟩, ⟨none, some 15, .mv (.tmp 19)⟩, ⟨none, some 20, .oth (.extract (.tmp 15) 0)⟩, ⟨none, some 21, .oth (.extract (.tmp 15) 1)⟩, ⟨none, some 22, .oth (.extract (.tmp 15) 2)⟩, ⟨none, some 5, .mv (.tmp 20)⟩, ⟨none, some 6, .mv (.tmp 21)⟩, ⟨none, some 7, .mv (.tmp 22)⟩]) (some ([1, 2], [2, 17, 19, 25])) := rx
@[simp] theorem x3_4 : RX 98 r3_4 (.str [⟨none, some 24, .ld 25 (.tmp 2)⟩, ⟨none, some 25, .call false none (.func 23) [.tmp 24]⟩, ⟨none, some 23, .mv (.tmp 25)⟩, ⟨none, some 26, .oth (.extract (.tmp 23) 0)⟩, ⟨none, some 27, .oth (.extract (.tmp 23) 1)⟩, ⟨none, some 8, .mv (.tmp 26)⟩, ⟨none, some 9, .mv (.tmp 27)⟩]) (some ([1, 2, 5, 6, 7], [2, 17, 19, 25])) := rx
@[simp] theorem x3_5 : RX 98 r3_5 (.str [⟨none, some 28, .ld 25 (.tmp 2)⟩, ⟨none, some 29, .call false none (.func 24) [.tmp 28]⟩, ⟨none, some 30, .bin .eql 29 (.tmp 29) (.const (.int .i64 0))⟩, ⟨none, some 31, .mv (.tmp 30)⟩, ⟨some (31, true), some 32, .mv (.tmp 1)⟩, ⟨some (31, true), some 33, .fa 25 (.tmp 2) 3⟩, ⟨some (31, true), some 34, .ld 22 (.tmp 33)⟩, ⟨some (31, true), some 35, .oth (.call ⟨.builtin .len, #[.tmp 34], #[22]⟩)⟩, ⟨some (31, true), some 36, .call false none (.func 25) [.tmp 32, .const (.int .i64 0), .tmp 35]⟩, ⟨some (31, true), some 37, .oth (.unOp .not 4 (.tmp 36))⟩, ⟨none, some 38, .pick (.tmp 31) (.tmp 37) (.const (.bool false))⟩]) (some ([1, 2, 5, 6, 7, 8, 9], [2, 17, 19, 25])) := rx
@[simp] theorem x3_6 : RX 98 r3_6 (.str [⟨none, some 9, .mv (.const (.int .i64 2))⟩]) (some ([1, 2, 5, 6, 7, 8], [2, 17, 19, 25])) := rx
@[simp] theorem x3_7 : RX 98 r3_7 (.str [⟨none, some 39, .mv (.tmp 9)⟩, ⟨none, some 40, .bin .neq 29 (.tmp 39) (.const (.int .i64 0))⟩]) (some ([1, 2, 5, 6, 7, 8, 9], [2, 17, 19, 25])) := rx
@[simp] theorem x3_8 : RX 98 r3_8 (.str [⟨none, some 41, .mv (.tmp 7)⟩, ⟨none, some 42, .mv (.tmp 9)⟩, ⟨none, some 43, .bin .eql 29 (.tmp 41) (.tmp 42)⟩, ⟨none, some 44, .mv (.tmp 43)⟩, ⟨some (44, true), some 45, .mv (.tmp 5)⟩, ⟨some (44, true), some 46, .oth (.call ⟨.builtin .len, #[.tmp 45], #[28]⟩)⟩, ⟨some (44, true), some 47, .mv (.tmp 6)⟩, ⟨some (44, true), some 48, .oth (.call ⟨.builtin .len, #[.tmp 47], #[28]⟩)⟩, ⟨some (44, true), some 49, .bin .add 3 (.tmp 46) (.tmp 48)⟩, ⟨some (44, true), some 50, .bin .eql 3 (.tmp 49) (.const (.int .i64 0))⟩, ⟨none, some 51, .pick (.tmp 44) (.tmp 50) (.const (.bool false))⟩, ⟨none, some 52, .mv (.tmp 51)⟩, ⟨some (52, true), some 53, .call false none (.func 20) []⟩, ⟨none, some 54, .pick (.tmp 52) (.tmp 53) (.const (.bool false))⟩, ⟨none, some 4, .mv (.tmp 54)⟩]) (some ([5, 6, 7, 9], [2, 17, 19, 25])) := rx
@[simp] theorem x3_9 : RX 98 r3_9 (.str [⟨none, some 55, .mv (.tmp 7)⟩, ⟨none, some 56, .bin .neq 29 (.tmp 55) (.const (.int .i64 0))⟩, ⟨none, some 57, .mv (.tmp 56)⟩, ⟨some (57, false), some 58, .mv (.tmp 5)⟩, ⟨some (57, false), some 59, .oth (.call ⟨.builtin .len, #[.tmp 58], #[28]⟩)⟩, ⟨some (57, false), some 60, .fa 25 (.tmp 2) 0⟩, ⟨some (57, false), some 61, .ld 3 (.tmp 60)⟩, ⟨some (57, false), some 62, .bin .neq 3 (.tmp 59) (.tmp 61)⟩, ⟨none, some 63, .pick (.tmp 57) (.const (.bool true)) (.tmp 62)⟩, ⟨none, some 64, .mv (.tmp 63)⟩, ⟨some (64, false), some 65, .mv (.tmp 6)⟩, ⟨some (64, false), some 66, .oth (.call ⟨.builtin .len, #[.tmp 65], #[28]⟩)⟩, ⟨some (64, false), some 67, .fa 25 (.tmp 2) 0⟩, ⟨some (64, false), some 68, .ld 3 (.tmp 67)⟩, ⟨some (64, false), some 69, .bin .neq 3 (.tmp 66) (.tmp 68)⟩, ⟨none, some 70, .pick (.tmp 64) (.const (.bool true)) (.tmp 69)⟩]) (some ([1, 2, 5, 6, 7, 8], [2, 17, 19, 25])) := rx
@[simp] theorem x3_10 : RX 98 r3_10 (.str [⟨none, some 4, .mv (.const (.bool false))⟩]) (some ([], [])) := rx
@[simp] theorem x3_11 : RX 98 r3_11 (.str [⟨none, some 10, .mv (.const (.int .i64 0))⟩]) (some ([1, 2, 5, 6, 8], [2, 17, 19, 25])) := rx
@[simp] theorem x3_12 : RX 98 r3_12 (.str [⟨none, some 71, .mv (.tmp 10)⟩, ⟨none, some 72, .fa 25 (.tmp 2) 0⟩, ⟨none, some 73, .ld 3 (.tmp 72)⟩, ⟨none, some 74, .bin .lss 3 (.tmp 71) (.tmp 73)⟩]) (some ([1, 2, 5, 6, 8, 10], [2, 17, 19, 25])) := rx
@[simp] theorem x3_14 : RX 98 r3_14 (.drw [⟨[], [⟨none, some 77, .mv (.tmp 5)⟩, ⟨none, some 78, .mv (.tmp 10)⟩, ⟨none, some 79, .oth (.indexAddr 28 (.tmp 77) (.tmp 78))⟩, ⟨none, some 80, .ld 3 (.tmp 79)⟩, ⟨none, some 81, .mv (.tmp 8)⟩, ⟨none, some 82, .mv (.tmp 1)⟩, ⟨none, some 83, .mv (.tmp 10)⟩, ⟨none, some 84, .call false none (.func 26) [.tmp 81, .tmp 82, .tmp 83]⟩, ⟨none, some 85, .bin .neq 3 (.tmp 80) (.tmp 84)⟩, ⟨none, some 86, .mv (.tmp 85)⟩, ⟨some (86, false), some 87, .mv (.tmp 6)⟩, ⟨some (86, false), some 88, .mv (.tmp 10)⟩, ⟨some (86, false), some 89, .oth (.indexAddr 28 (.tmp 87) (.tmp 88))⟩, ⟨some (86, false), some 90, .ld 3 (.tmp 89)⟩, ⟨some (86, false), some 91, .mv (.tmp 8)⟩, ⟨some (86, false), some 92, .mv (.tmp 1)⟩, ⟨some (86, false), some 93, .mv (.tmp 10)⟩, ⟨some (86, false), some 94, .call false none (.func 27) [.tmp 91, .tmp 92, .tmp 93]⟩, ⟨some (86, false), some 95, .bin .neq 3 (.tmp 90) (.tmp 94)⟩, ⟨none, some 96, .pick (.tmp 86) (.const (.bool true)) (.tmp 95)⟩], []⟩]) (some ([1, 2, 5, 6, 8, 10], [2, 17, 19, 25])) := rx
@[simp] theorem x3_15 : RX 98 r3_15 (.str [⟨none, some 4, .mv (.const (.bool false))⟩]) (some ([], [])) := rx
@[simp] theorem x3_13 : RX 98 r3_13 (.str [⟨none, some 75, .mv (.tmp 10)⟩, ⟨none, some 76, .bin .add 3 (.tmp 75) (.const (.int .i64 1))⟩, ⟨none, some 10, .mv (.tmp 76)⟩]) (some ([1, 2, 5, 6, 8, 10], [2, 17, 19, 25])) := rx
@[simp] theorem x3_16 : RX 98 r3_16 (.str [⟨none, some 97, .call false none (.func 20) []⟩, ⟨none, some 4, .mv (.tmp 97)⟩]) (some ([], [])) := rx
@[simp] theorem l3_12 : ann 98 (fstR lb3_12) = some ([1, 2, 5, 6, 8, 10], [2, 17, 19, 25]) := by kernel_rfl
end
end Go.Proofs.Try.Op
/- The walk's ground of function 31: its regions worked out. No condition. -/
set_option maxRecDepth 100000
namespace Go.Proofs.Try.Op
open Go Go.Pg
noncomputable section
def r31_0 := codeAt (bodyOf Try.f31) [0]
def r31_1 := codeAt (bodyOf Try.f31) [1, 0]
def r31_2 := codeAt (bodyOf Try.f31) [1, 1, 0, 0]
def r31_3 := codeAt (bodyOf Try.f31) [1, 1, 0, 1, 0, 0, 0, 0]
def r31_5 := codeAt (bodyOf Try.f31) [1, 1, 0, 1, 0, 0, 1, 0, 0]
def r31_4 := codeAt (bodyOf Try.f31) [1, 1, 0, 1, 0, 0, 1, 1]
def r31_6 := codeAt (bodyOf Try.f31) [1, 1, 1, 0]
def lb31_3 : Code := (.seq (.seq r31_3 (.cond (.tmp 13) .skip (.exit 0))) (.seq (.block 1 r31_5) r31_4))
@[simp] theorem u31_3 (n : Nat) (st : XS) : execA Try.prog ann kn n 26 lb31_3 st = execA Try.prog ann kn n 26 (.seq (.seq r31_3 (.cond (.tmp 13) .skip (.exit 0))) (.seq (.block 1 r31_5) r31_4)) st := rfl
def c31 : Code := (.seq r31_0 (.seq r31_1 (.seq (.seq r31_2 (.block 0 (.loop lb31_3))) (.seq r31_6 .ret))))
@[simp] theorem x31_0 : RX 26 r31_0 (.str [⟨none, some 3, .box (.tmp 0)⟩, ⟨none, some 6, .alloc 50⟩]) (some ([0, 1, 2], [3])) := rx
@[simp] theorem x31_1 : RX 26 r31_1 (.str [⟨none, some 9, .call true none (.func 77) []⟩, ⟨none, some 7, .alloc 50⟩, ⟨none, none, .sto 50 (.tmp 7) (.tmp 9)⟩]) (some ([1, 2, 3, 6], [3, 6])) := rx
@[simp] theorem x31_2 : RX 26 r31_2 (.str [⟨none, some 8, .mv (.const (.int .i64 0))⟩]) (some ([1, 2, 3, 6, 7], [3, 6, 7])) := rx
@[simp] theorem x31_3 : RX 26 r31_3 (.str [⟨none, some 10, .mv (.tmp 8)⟩, ⟨none, some 11, .mv (.tmp 1)⟩, ⟨none, some 12, .oth (.call ⟨.builtin .len, #[.tmp 11], #[37]⟩)⟩, ⟨none, some 13, .bin .lss 3 (.tmp 10) (.tmp 12)⟩]) (some ([1, 2, 3, 6, 7, 8], [3, 6, 7])) := rx
@[simp] theorem x31_5 : RX 26 r31_5 (.drw [⟨[], [⟨none, some 16, .ld 50 (.tmp 7)⟩, ⟨none, some 17, .ld 25 (.tmp 3)⟩, ⟨none, some 18, .mv (.tmp 1)⟩, ⟨none, some 19, .mv (.tmp 8)⟩, ⟨none, some 20, .oth (.indexAddr 37 (.tmp 18) (.tmp 19))⟩, ⟨none, some 21, .ld 22 (.tmp 20)⟩, ⟨none, some 22, .mv (.tmp 2)⟩, ⟨none, some 23, .call false none (.func 44) [.tmp 17, .tmp 21, .tmp 22]⟩], [⟨none, some 24, .call true none (.func 78) [.tmp 16, .tmp 23]⟩]⟩, ⟨[], [], [⟨none, none, .sto 50 (.tmp 7) (.tmp 24)⟩]⟩]) (some ([1, 2, 3, 6, 7, 8], [3, 6, 7])) := rx
@[simp] theorem x31_4 : RX 26 r31_4 (.str [⟨none, some 14, .mv (.tmp 8)⟩, ⟨none, some 15, .bin .add 3 (.tmp 14) (.const (.int .i64 1))⟩, ⟨none, some 8, .mv (.tmp 15)⟩]) (some ([1, 2, 3, 6, 7, 8], [3, 6, 7])) := rx
@[simp] theorem x31_6 : RX 26 r31_6 (.str [⟨none, some 25, .ld 50 (.tmp 7)⟩, ⟨none, none, .sto 50 (.tmp 6) (.tmp 25)⟩]) (some ([6, 7], [6, 7])) := rx
@[simp] theorem l31_3 : ann 26 (fstR lb31_3) = some ([1, 2, 3, 6, 7, 8], [3, 6, 7]) := by kernel_rfl
end
end Go.Proofs.Try.Op
/- The walk's ground of function 32: its regions worked out. No condition. -/
set_option maxRecDepth 100000
namespace Go.Proofs.Try.Op
open Go Go.Pg
noncomputable section
def r32_0 := codeAt (bodyOf Try.f32) [0]
def r32_1 := codeAt (bodyOf Try.f32) [1, 0]
def r32_2 := codeAt (bodyOf Try.f32) [1, 1, 0, 0]
def r32_3 := codeAt (bodyOf Try.f32) [1, 1, 0, 1, 0, 0, 0, 0]
def r32_5 := codeAt (bodyOf Try.f32) [1, 1, 0, 1, 0, 0, 1, 0, 0]
def r32_4 := codeAt (bodyOf Try.f32) [1, 1, 0, 1, 0, 0, 1, 1]
def r32_6 := codeAt (bodyOf Try.f32) [1, 1, 1, 0]
def lb32_3 : Code := (.seq (.seq r32_3 (.cond (.tmp 9) .skip (.exit 0))) (.seq (.block 1 r32_5) r32_4))
@[simp] theorem u32_3 (n : Nat) (st : XS) : execA Try.prog ann kn n 20 lb32_3 st = execA Try.prog ann kn n 20 (.seq (.seq r32_3 (.cond (.tmp 9) .skip (.exit 0))) (.seq (.block 1 r32_5) r32_4)) st := rfl
def c32 : Code := (.seq r32_0 (.seq r32_1 (.seq (.seq r32_2 (.block 0 (.loop lb32_3))) (.seq r32_6 .ret))))
@[simp] theorem x32_0 : RX 20 r32_0 (.str [⟨none, some 2, .alloc 50⟩]) (some ([0], [])) := rx
@[simp] theorem x32_1 : RX 20 r32_1 (.str [⟨none, some 5, .call true none (.func 77) []⟩, ⟨none, some 3, .alloc 50⟩, ⟨none, none, .sto 50 (.tmp 3) (.tmp 5)⟩]) (some ([0, 2], [2])) := rx
@[simp] theorem x32_2 : RX 20 r32_2 (.str [⟨none, some 4, .mv (.const (.int .i64 0))⟩]) (some ([0, 2, 3], [2, 3])) := rx
@[simp] theorem x32_3 : RX 20 r32_3 (.str [⟨none, some 6, .mv (.tmp 4)⟩, ⟨none, some 7, .mv (.tmp 0)⟩, ⟨none, some 8, .oth (.call ⟨.builtin .len, #[.tmp 7], #[37]⟩)⟩, ⟨none, some 9, .bin .lss 3 (.tmp 6) (.tmp 8)⟩]) (some ([0, 2, 3, 4], [2, 3])) := rx
@[simp] theorem x32_5 : RX 20 r32_5 (.drw [⟨[], [⟨none, some 12, .ld 50 (.tmp 3)⟩, ⟨none, some 13, .mv (.tmp 0)⟩, ⟨none, some 14, .mv (.tmp 4)⟩, ⟨none, some 15, .oth (.indexAddr 37 (.tmp 13) (.tmp 14))⟩, ⟨none, some 16, .ld 22 (.tmp 15)⟩, ⟨none, some 17, .call false none (.func 45) [.tmp 16]⟩], [⟨none, some 18, .call true none (.func 78) [.tmp 12, .tmp 17]⟩]⟩, ⟨[], [], [⟨none, none, .sto 50 (.tmp 3) (.tmp 18)⟩]⟩]) (some ([0, 2, 3, 4], [2, 3])) := rx
@[simp] theorem x32_4 : RX 20 r32_4 (.str [⟨none, some 10, .mv (.tmp 4)⟩, ⟨none, some 11, .bin .add 3 (.tmp 10) (.const (.int .i64 1))⟩, ⟨none, some 4, .mv (.tmp 11)⟩]) (some ([0, 2, 3, 4], [2, 3])) := rx
@[simp] theorem x32_6 : RX 20 r32_6 (.str [⟨none, some 19, .ld 50 (.tmp 3)⟩, ⟨none, none, .sto 50 (.tmp 2) (.tmp 19)⟩]) (some ([2, 3], [2, 3])) := rx
@[simp] theorem l32_3 : ann 20 (fstR lb32_3) = some ([0, 2, 3, 4], [2, 3]) := by kernel_rfl
end
end Go.Proofs.Try.Op
/- The walk's ground of function 77: its regions worked out. No condition. -/
set_option maxRecDepth 100000
namespace Go.Proofs.Try.Op
open Go Go.Pg
noncomputable section
def r77_0 := codeAt (bodyOf Try.f77) [0]
def r77_1 := codeAt (bodyOf Try.f77) [1, 0]
def c77 : Code := (.seq r77_0 (.seq r77_1 .ret))
end
end Go.Proofs.Try.Op
/- The walk's ground of function 78: its regions worked out. No condition. -/
set_option maxRecDepth 100000
namespace Go.Proofs.Try.Op
open Go Go.Pg
noncomputable section
def r78_0 := codeAt (bodyOf Try.f78) [0]
def r78_1 := codeAt (bodyOf Try.f78) [1, 0]
def c78 : Code := (.seq r78_0 (.seq r78_1 .ret))
end
end Go.Proofs.Try.Op
/- The walk's ground of function 4: its regions worked out. No condition. -/
set_option maxRecDepth 100000
namespace Go.Proofs.Try.Op
open Go Go.Pg
noncomputable section
def r4_0 := codeAt (bodyOf Try.f4) [0]
def r4_1 := codeAt (bodyOf Try.f4) [1, 0, 0]
def r4_2 := codeAt (bodyOf Try.f4) [1, 0, 1, 0, 0]
def r4_3 := codeAt (bodyOf Try.f4) [1, 1, 0]
def r4_4 := codeAt (bodyOf Try.f4) [1, 1, 1, 0]
def r4_5 := codeAt (bodyOf Try.f4) [1, 1, 1, 1, 0]
def r4_6 := codeAt (bodyOf Try.f4) [1, 1, 1, 1, 1, 0]
def r4_7 := codeAt (bodyOf Try.f4) [1, 1, 1, 1, 1, 1, 0, 0]
def r4_8 := codeAt (bodyOf Try.f4) [1, 1, 1, 1, 1, 1, 0, 1, 0]
def r4_9 := codeAt (bodyOf Try.f4) [1, 1, 1, 1, 1, 1, 1, 0, 0]
def r4_10 := codeAt (bodyOf Try.f4) [1, 1, 1, 1, 1, 1, 1, 0, 1, 0, 0]
def r4_11 := codeAt (bodyOf Try.f4) [1, 1, 1, 1, 1, 1, 1, 1, 0]
def c4 : Code := (.seq r4_0 (.seq (.seq r4_1 (.cond (.tmp 14) (.seq r4_2 .ret) .skip)) (.seq r4_3 (.seq r4_4 (.seq r4_5 (.seq r4_6 (.seq (.seq r4_7 (.cond (.tmp 45) r4_8 .skip)) (.seq (.seq r4_9 (.cond (.tmp 71) (.seq r4_10 .ret) .skip)) (.seq r4_11 .ret)))))))))
theorem b4 : Try.f4.body = some c4 := by kernel_rfl
end
end Go.Proofs.Try.Op
/- The walk's ground of function 7: its regions worked out. No condition. -/
set_option maxRecDepth 100000
namespace Go.Proofs.Try.Op
open Go Go.Pg
noncomputable section
def r7_0 := codeAt (bodyOf Try.f7) [0]
def r7_1 := codeAt (bodyOf Try.f7) [1, 0, 0]
def r7_2 := codeAt (bodyOf Try.f7) [1, 0, 1, 0, 0]
def r7_3 := codeAt (bodyOf Try.f7) [1, 1, 0]
def r7_4 := codeAt (bodyOf Try.f7) [1, 1, 1, 0]
def r7_5 := codeAt (bodyOf Try.f7) [1, 1, 1, 1, 0]
def r7_6 := codeAt (bodyOf Try.f7) [1, 1, 1, 1, 1, 0]
def r7_7 := codeAt (bodyOf Try.f7) [1, 1, 1, 1, 1, 1, 0, 0]
def r7_8 := codeAt (bodyOf Try.f7) [1, 1, 1, 1, 1, 1, 0, 1, 0, 0]
def r7_9 := codeAt (bodyOf Try.f7) [1, 1, 1, 1, 1, 1, 1, 0]
def r7_10 := codeAt (bodyOf Try.f7) [1, 1, 1, 1, 1, 1, 1, 1, 0, 0]
def r7_11 := codeAt (bodyOf Try.f7) [1, 1, 1, 1, 1, 1, 1, 1, 0, 1, 0, 0, 0, 0]
def r7_13 := codeAt (bodyOf Try.f7) [1, 1, 1, 1, 1, 1, 1, 1, 0, 1, 0, 0, 1, 0, 0, 0]
def r7_14 := codeAt (bodyOf Try.f7) [1, 1, 1, 1, 1, 1, 1, 1, 0, 1, 0, 0, 1, 0, 0, 1, 0]
def r7_15 := codeAt (bodyOf Try.f7) [1, 1, 1, 1, 1, 1, 1, 1, 0, 1, 0, 0, 1, 0, 0, 1, 1, 0]
def r7_16 := codeAt (bodyOf Try.f7) [1, 1, 1, 1, 1, 1, 1, 1, 0, 1, 0, 0, 1, 0, 0, 1, 1, 1, 0, 0, 0, 0]
def r7_18 := codeAt (bodyOf Try.f7) [1, 1, 1, 1, 1, 1, 1, 1, 0, 1, 0, 0, 1, 0, 0, 1, 1, 1, 0, 0, 1, 0, 0, 0]
def r7_19 := codeAt (bodyOf Try.f7) [1, 1, 1, 1, 1, 1, 1, 1, 0, 1, 0, 0, 1, 0, 0, 1, 1, 1, 0, 0, 1, 0, 0, 1, 0]
def r7_17 := codeAt (bodyOf Try.f7) [1, 1, 1, 1, 1, 1, 1, 1, 0, 1, 0, 0, 1, 0, 0, 1, 1, 1, 0, 0, 1, 1]
def r7_12 := codeAt (bodyOf Try.f7) [1, 1, 1, 1, 1, 1, 1, 1, 0, 1, 0, 0, 1, 1]
def r7_20 := codeAt (bodyOf Try.f7) [1, 1, 1, 1, 1, 1, 1, 1, 1, 0]
def lb7_16 : Code := (.seq (.seq r7_16 (.cond (.tmp 96) .skip (.exit 2))) (.seq (.block 3 (.seq r7_18 (.cond (.tmp 101) r7_19 .skip))) r7_17))
@[simp] theorem u7_16 (n : Nat) (st : XS) : execA Try.prog ann kn n 116 lb7_16 st = execA Try.prog ann kn n 116 (.seq (.seq r7_16 (.cond (.tmp 96) .skip (.exit 2))) (.seq (.block 3 (.seq r7_18 (.cond (.tmp 101) r7_19 .skip))) r7_17)) st := rfl
def lb7_11 : Code := (.seq (.seq r7_11 (.cond (.tmp 63) .skip (.exit 0))) (.seq (.block 1 (.seq r7_13 (.seq r7_14 (.seq r7_15 (.block 2 (.loop lb7_16)))))) r7_12))
@[simp] theorem u7_11 (n : Nat) (st : XS) : execA Try.prog ann kn n 116 lb7_11 st = execA Try.prog ann kn n 116 (.seq (.seq r7_11 (.cond (.tmp 63) .skip (.exit 0))) (.seq (.block 1 (.seq r7_13 (.seq r7_14 (.seq r7_15 (.block 2 (.loop lb7_16)))))) r7_12)) st := rfl
def c7 : Code := (.seq r7_0 (.seq (.seq r7_1 (.cond (.tmp 19) (.seq r7_2 .ret) .skip)) (.seq r7_3 (.seq r7_4 (.seq r7_5 (.seq r7_6 (.seq (.seq r7_7 (.cond (.tmp 44) (.seq r7_8 .ret) .skip)) (.seq r7_9 (.seq (.seq r7_10 (.block 0 (.loop lb7_11))) (.seq r7_20 .ret))))))))))
theorem b7 : Try.f7.body = some c7 := by kernel_rfl
@[simp] theorem x7_0 : RX 116 r7_0 (.str [⟨none, some 2, .box (.tmp 0)⟩, ⟨none, some 4, .mv (.const (.bool false))⟩]) (some ([0, 1], [2, 30, 37, 42])) := rx
@[simp] theorem x7_1 : RX 116 r7_1 (.str [⟨none, some 17, .ld 25 (.tmp 2)⟩, ⟨none, some 18, .call false none (.func 42) [.tmp 17]⟩, ⟨none, some 19, .oth (.unOp .not 4 (.tmp 18))⟩]) (some ([1, 2], [2, 30, 37, 42])) := rx
@[simp] theorem x7_2 : RX 116 r7_2 (.str [⟨none, some 20, .call false none (.func 20) []⟩, ⟨none, some 4, .mv (.tmp 20)⟩]) (some ([], [])) := rx
@[simp] theorem x7_3 : RX 116 r7_3 (.str [⟨none, some 21, .mv (.tmp 1)⟩, ⟨none, some 22, .oth (.convert 5 3 (.tmp 21))⟩, ⟨none, some 23, .fa 25 (.tmp 2) 3⟩, ⟨none, some 24, .ld 22 (.tmp 23)⟩, ⟨none, some 25, .oth (.call ⟨.builtin .len, #[.tmp 24], #[22]⟩)⟩, ⟨none, some 26, .bin .add 3 (.tmp 25) (.const (.int .i64 1))⟩, ⟨none, some 27, .bin .rem 3 (.tmp 22) (.tmp 26)⟩, ⟨none, some 5, .mv (.tmp 27)⟩]) (some ([1, 2], [2, 30, 37, 42])) := rx
@[simp] theorem x7_4 : RX 116 r7_4 (.str [⟨none, some 29, .ld 25 (.tmp 2)⟩, ⟨none, some 30, .call false none (.func 22) [.tmp 29]⟩, ⟨none, some 31, .mv (.tmp 5)⟩, ⟨none, some 32, .call false none (.func 28) [.tmp 30, .tmp 31]⟩, ⟨none, some 28, .mv (.tmp 32)⟩, ⟨none, some 33, .oth (.extract (.tmp 28) 0)⟩, ⟨none, some 34, .oth (.extract (.tmp 28) 1)⟩, ⟨none, some 6, .alloc 45⟩, ⟨none, none, .sto 45 (.tmp 6) (.tmp 33)⟩, ⟨none, some 7, .mv (.tmp 34)⟩]) (some ([2, 5], [2, 30, 37, 42])) := rx
@[simp] theorem x7_5 : RX 116 r7_5 (.str [⟨none, some 36, .ld 25 (.tmp 2)⟩, ⟨none, some 37, .call false none (.func 22) [.tmp 36]⟩, ⟨none, some 38, .call false none (.func 29) [.tmp 37]⟩, ⟨none, some 35, .mv (.tmp 38)⟩, ⟨none, some 39, .oth (.extract (.tmp 35) 0)⟩, ⟨none, some 40, .oth (.extract (.tmp 35) 1)⟩, ⟨none, some 8, .alloc 45⟩, ⟨none, none, .sto 45 (.tmp 8) (.tmp 39)⟩, ⟨none, some 9, .mv (.tmp 40)⟩]) (some ([2, 5, 6, 7], [2, 6, 30, 37, 42])) := rx
@[simp] theorem x7_6 : RX 116 r7_6 (.str [⟨none, some 41, .ld 25 (.tmp 2)⟩, ⟨none, some 42, .call false none (.func 43) [.tmp 41]⟩, ⟨none, some 10, .mv (.tmp 42)⟩]) (some ([2, 5, 6, 7, 8, 9], [2, 6, 8, 30, 37, 42])) := rx
@[simp] theorem x7_7 : RX 116 r7_7 (.str [⟨none, some 43, .mv (.tmp 7)⟩, ⟨none, some 44, .bin .neq 29 (.tmp 43) (.const (.int .i64 0))⟩]) (some ([2, 5, 6, 7, 8, 9, 10], [2, 6, 8, 30, 37, 42])) := rx
@[simp] theorem x7_8 : RX 116 r7_8 (.str [⟨none, some 45, .mv (.tmp 7)⟩, ⟨none, some 46, .bin .eql 29 (.tmp 45) (.const (.int .i64 11))⟩, ⟨none, some 47, .mv (.tmp 46)⟩, ⟨some (47, true), some 48, .mv (.tmp 9)⟩, ⟨some (47, true), some 49, .mv (.tmp 7)⟩, ⟨some (47, true), some 50, .bin .eql 29 (.tmp 48) (.tmp 49)⟩, ⟨none, some 51, .pick (.tmp 47) (.tmp 50) (.const (.bool false))⟩, ⟨none, some 52, .mv (.tmp 51)⟩, ⟨some (52, true), some 53, .mv (.tmp 10)⟩, ⟨some (52, true), some 54, .oth (.call ⟨.builtin .len, #[.tmp 53], #[37]⟩)⟩, ⟨some (52, true), some 55, .bin .eql 3 (.tmp 54) (.const (.int .i64 0))⟩, ⟨none, some 56, .pick (.tmp 52) (.tmp 55) (.const (.bool false))⟩, ⟨none, some 57, .mv (.tmp 56)⟩, ⟨some (57, true), some 58, .call false none (.func 20) []⟩, ⟨none, some 59, .pick (.tmp 57) (.tmp 58) (.const (.bool false))⟩, ⟨none, some 4, .mv (.tmp 59)⟩]) (some ([7, 9, 10], [2, 30, 37, 42])) := rx
@[simp] theorem x7_9 : RX 116 r7_9 (.str [⟨none, some 11, .mv (.const (.int .i64 0))⟩]) (some ([2, 5, 6, 8, 9, 10], [2, 6, 8, 30, 37, 42])) := rx
@[simp] theorem x7_10 : RX 116 r7_10 (.str [⟨none, some 12, .mv (.const (.int .i64 0))⟩]) (some ([2, 5, 6, 8, 9, 10, 11], [2, 6, 8, 30, 37, 42])) := rx
@[simp] theorem x7_11 : RX 116 r7_11 (.str [⟨none, some 60, .mv (.tmp 12)⟩, ⟨none, some 61, .mv (.tmp 10)⟩, ⟨none, some 62, .oth (.call ⟨.builtin .len, #[.tmp 61], #[37]⟩)⟩, ⟨none, some 63, .bin .lss 3 (.tmp 60) (.tmp 62)⟩]) (some ([2, 5, 6, 8, 9, 10, 11, 12], [2, 6, 8, 30, 37, 42])) := rx
@[simp] theorem x7_13 : RX 116 r7_13 (.drw [⟨[], [⟨none, some 66, .ld 25 (.tmp 2)⟩, ⟨none, some 67, .mv (.tmp 10)⟩, ⟨none, some 68, .mv (.tmp 12)⟩, ⟨none, some 69, .oth (.indexAddr 37 (.tmp 67) (.tmp 68))⟩, ⟨none, some 70, .ld 22 (.tmp 69)⟩, ⟨none, some 71, .mv (.tmp 5)⟩, ⟨none, some 72, .call false none (.func 44) [.tmp 66, .tmp 70, .tmp 71]⟩, ⟨none, some 73, .mv (.tmp 10)⟩, ⟨none, some 74, .mv (.tmp 12)⟩, ⟨none, some 75, .oth (.indexAddr 37 (.tmp 73) (.tmp 74))⟩, ⟨none, some 76, .ld 22 (.tmp 75)⟩], [⟨none, some 77, .call false none (.func 45) [.tmp 76]⟩]⟩, ⟨[], [⟨none, some 13, .mv (.tmp 72)⟩, ⟨none, some 14, .mv (.tmp 77)⟩], []⟩]) (some ([2, 5, 6, 8, 9, 10, 11, 12], [2, 6, 8, 30, 37, 42])) := rx
@[simp] theorem x7_14 : RX 116 r7_14 (.str [⟨none, some 78, .mv (.tmp 13)⟩, ⟨none, some 79, .fa 45 (.tmp 6) 0⟩, ⟨none, some 80, .ld 3 (.tmp 79)⟩, ⟨none, some 81, .bin .eql 3 (.tmp 78) (.tmp 80)⟩, ⟨none, some 82, .mv (.tmp 13)⟩, ⟨none, some 83, .fa 45 (.tmp 6) 1⟩, ⟨none, some 84, .ld 3 (.tmp 83)⟩, ⟨none, some 85, .bin .eql 3 (.tmp 82) (.tmp 84)⟩, ⟨none, some 86, .mv (.tmp 14)⟩, ⟨none, some 87, .fa 45 (.tmp 8) 0⟩, ⟨none, some 88, .ld 3 (.tmp 87)⟩, ⟨none, some 89, .bin .eql 3 (.tmp 86) (.tmp 88)⟩, ⟨none, some 90, .mv (.tmp 14)⟩, ⟨none, some 91, .fa 45 (.tmp 8) 1⟩, ⟨none, some 92, .ld 3 (.tmp 91)⟩, ⟨none, some 93, .bin .eql 3 (.tmp 90) (.tmp 92)⟩, ⟨none, some 94, .build 69 [(0, .tmp 81), (1, .tmp 85), (2, .tmp 89), (3, .tmp 93)]⟩, ⟨none, some 15, .alloc 69⟩, ⟨none, none, .sto 69 (.tmp 15) (.tmp 94)⟩]) (some ([2, 5, 6, 8, 9, 10, 11, 12, 13, 14], [2, 6, 8, 30, 37, 42])) := rx
@[simp] theorem x7_15 : RX 116 r7_15 (.str [⟨none, some 16, .mv (.const (.int .i64 0))⟩]) (some ([2, 5, 6, 8, 9, 10, 11, 12, 15], [2, 6, 8, 15, 30, 37, 42])) := rx
@[simp] theorem x7_16 : RX 116 r7_16 (.str [⟨none, some 95, .mv (.tmp 16)⟩, ⟨none, some 96, .bin .lss 3 (.tmp 95) (.const (.int .i64 4))⟩]) (some ([2, 5, 6, 8, 9, 10, 11, 12, 15, 16], [2, 6, 8, 15, 30, 37, 42])) := rx
@[simp] theorem x7_18 : RX 116 r7_18 (.str [⟨none, some 99, .mv (.tmp 16)⟩, ⟨none, some 100, .oth (.indexAddr 69 (.tmp 15) (.tmp 99))⟩, ⟨none, some 101, .ld 4 (.tmp 100)⟩]) (some ([2, 5, 6, 8, 9, 10, 11, 12, 15, 16], [2, 6, 8, 15, 30, 37, 42])) := rx
@[simp] theorem x7_19 : RX 116 r7_19 (.str [⟨none, some 102, .mv (.tmp 11)⟩, ⟨none, some 103, .mv (.tmp 16)⟩, ⟨none, some 104, .oth (.convert 3 70 (.tmp 103))⟩, ⟨none, some 105, .bin .shl 3 (.const (.int .i64 1)) (.tmp 104)⟩, ⟨none, some 106, .bin .or 3 (.tmp 102) (.tmp 105)⟩, ⟨none, some 11, .mv (.tmp 106)⟩]) (some ([2, 5, 6, 8, 9, 10, 11, 12, 15, 16], [2, 6, 8, 15, 30, 37, 42])) := rx
@[simp] theorem x7_17 : RX 116 r7_17 (.str [⟨none, some 97, .mv (.tmp 16)⟩, ⟨none, some 98, .bin .add 3 (.tmp 97) (.const (.int .i64 1))⟩, ⟨none, some 16, .mv (.tmp 98)⟩]) (some ([2, 5, 6, 8, 9, 10, 11, 12, 15, 16], [2, 6, 8, 15, 30, 37, 42])) := rx
@[simp] theorem x7_12 : RX 116 r7_12 (.str [⟨none, some 64, .mv (.tmp 12)⟩, ⟨none, some 65, .bin .add 3 (.tmp 64) (.const (.int .i64 1))⟩, ⟨none, some 12, .mv (.tmp 65)⟩]) (some ([2, 5, 6, 8, 9, 10, 11, 12], [2, 6, 8, 30, 37, 42])) := rx
@[simp] theorem x7_20 : RX 116 r7_20 (.str [⟨none, some 107, .mv (.tmp 9)⟩, ⟨none, some 108, .bin .eql 29 (.tmp 107) (.const (.int .i64 0))⟩, ⟨none, some 109, .mv (.tmp 108)⟩, ⟨some (109, true), some 110, .mv (.tmp 11)⟩, ⟨some (109, true), some 111, .bin .eql 3 (.tmp 110) (.const (.int .i64 15))⟩, ⟨none, some 112, .pick (.tmp 109) (.tmp 111) (.const (.bool false))⟩, ⟨none, some 113, .mv (.tmp 112)⟩, ⟨some (113, true), some 114, .call false none (.func 20) []⟩, ⟨none, some 115, .pick (.tmp 113) (.tmp 114) (.const (.bool false))⟩, ⟨none, some 4, .mv (.tmp 115)⟩]) (some ([9, 11], [])) := rx
@[simp] theorem l7_11 : ann 116 (fstR lb7_11) = some ([2, 5, 6, 8, 9, 10, 11, 12], [2, 6, 8, 30, 37, 42]) := by kernel_rfl
@[simp] theorem l7_16 : ann 116 (fstR lb7_16) = some ([2, 5, 6, 8, 9, 10, 11, 12, 15, 16], [2, 6, 8, 15, 30, 37, 42]) := by kernel_rfl
end
end Go.Proofs.Try.Op
/- The walk's ground of function 42: its regions worked out. No condition. -/
set_option maxRecDepth 100000
namespace Go.Proofs.Try.Op
open Go Go.Pg
noncomputable section
def r42_0 := codeAt (bodyOf Try.f42) [0]
def r42_1 := codeAt (bodyOf Try.f42) [1, 0]
def c42 : Code := (.seq r42_0 (.seq r42_1 .ret))
theorem b42 : Try.f42.body = some c42 := by kernel_rfl
@[simp] theorem x42_0 : RX 10 r42_0 (.str [⟨none, some 1, .box (.tmp 0)⟩, ⟨none, some 2, .mv (.const (.bool false))⟩]) (some ([0], [1, 4, 6])) := rx
@[simp] theorem x42_1 : RX 10 r42_1 (.str [⟨none, some 3, .ld 25 (.tmp 1)⟩, ⟨none, some 4, .call false none (.func 19) [.tmp 3]⟩, ⟨none, some 5, .mv (.tmp 4)⟩, ⟨some (5, true), some 6, .ld 25 (.tmp 1)⟩, ⟨some (5, true), some 7, .call false none (.func 67) [.tmp 6]⟩, ⟨some (5, true), some 8, .bin .eql 3 (.tmp 7) (.const (.int .i64 0))⟩, ⟨none, some 9, .pick (.tmp 5) (.tmp 8) (.const (.bool false))⟩, ⟨none, some 2, .mv (.tmp 9)⟩]) (some ([1], [1])) := rx
end
end Go.Proofs.Try.Op
/- The walk's ground of function 40: its regions worked out. No condition. -/
set_option maxRecDepth 100000
namespace Go.Proofs.Try.Op
open Go Go.Pg
noncomputable section
def r40_0 := codeAt (bodyOf Try.f40) [0]
def r40_1 := codeAt (bodyOf Try.f40) [1, 0, 0]
def r40_2 := codeAt (bodyOf Try.f40) [1, 0, 1, 0, 0]
def r40_3 := codeAt (bodyOf Try.f40) [1, 1, 0, 0]
def r40_4 := codeAt (bodyOf Try.f40) [1, 1, 0, 1, 0, 0, 0, 0]
def r40_6 := codeAt (bodyOf Try.f40) [1, 1, 0, 1, 0, 0, 1, 0, 0, 0]
def r40_7 := codeAt (bodyOf Try.f40) [1, 1, 0, 1, 0, 0, 1, 0, 0, 1, 0, 0]
def r40_5 := codeAt (bodyOf Try.f40) [1, 1, 0, 1, 0, 0, 1, 1]
def r40_8 := codeAt (bodyOf Try.f40) [1, 1, 1, 0]
def lb40_4 : Code := (.seq (.seq r40_4 (.cond (.tmp 14) .skip (.exit 0))) (.seq (.block 1 (.seq r40_6 (.cond (.tmp 25) (.seq r40_7 .ret) .skip))) r40_5))
@[simp] theorem u40_4 (n : Nat) (st : XS) : execA Try.prog ann kn n 26 lb40_4 st = execA Try.prog ann kn n 26 (.seq (.seq r40_4 (.cond (.tmp 14) .skip (.exit 0))) (.seq (.block 1 (.seq r40_6 (.cond (.tmp 25) (.seq r40_7 .ret) .skip))) r40_5)) st := rfl
def c40 : Code := (.seq r40_0 (.seq (.seq r40_1 (.cond (.tmp 10) (.seq r40_2 .ret) .skip)) (.seq (.seq r40_3 (.block 0 (.loop lb40_4))) (.seq r40_8 .ret))))
theorem b40 : Try.f40.body = some c40 := by kernel_rfl
@[simp] theorem x40_0 : RX 26 r40_0 (.str [⟨none, some 4, .mv (.const (.bool false))⟩]) (some ([0, 1], [])) := rx
@[simp] theorem x40_1 : RX 26 r40_1 (.str [⟨none, some 6, .mv (.tmp 0)⟩, ⟨none, some 7, .oth (.call ⟨.builtin .len, #[.tmp 6], #[28]⟩)⟩, ⟨none, some 8, .mv (.tmp 1)⟩, ⟨none, some 9, .oth (.call ⟨.builtin .len, #[.tmp 8], #[28]⟩)⟩, ⟨none, some 10, .bin .neq 3 (.tmp 7) (.tmp 9)⟩]) (some ([0, 1], [])) := rx
@[simp] theorem x40_2 : RX 26 r40_2 (.str [⟨none, some 4, .mv (.const (.bool false))⟩]) (some ([], [])) := rx
@[simp] theorem x40_3 : RX 26 r40_3 (.str [⟨none, some 5, .mv (.const (.int .i64 0))⟩]) (some ([0, 1], [])) := rx
@[simp] theorem x40_4 : RX 26 r40_4 (.str [⟨none, some 11, .mv (.tmp 5)⟩, ⟨none, some 12, .mv (.tmp 0)⟩, ⟨none, some 13, .oth (.call ⟨.builtin .len, #[.tmp 12], #[28]⟩)⟩, ⟨none, some 14, .bin .lss 3 (.tmp 11) (.tmp 13)⟩]) (some ([0, 1, 5], [])) := rx
@[simp] theorem x40_6 : RX 26 r40_6 (.drw [⟨[], [⟨none, some 17, .mv (.tmp 0)⟩, ⟨none, some 18, .mv (.tmp 5)⟩, ⟨none, some 19, .oth (.indexAddr 28 (.tmp 17) (.tmp 18))⟩, ⟨none, some 20, .ld 3 (.tmp 19)⟩, ⟨none, some 21, .mv (.tmp 1)⟩, ⟨none, some 22, .mv (.tmp 5)⟩, ⟨none, some 23, .oth (.indexAddr 28 (.tmp 21) (.tmp 22))⟩, ⟨none, some 24, .ld 3 (.tmp 23)⟩, ⟨none, some 25, .bin .neq 3 (.tmp 20) (.tmp 24)⟩], []⟩]) (some ([0, 1, 5], [])) := rx
@[simp] theorem x40_7 : RX 26 r40_7 (.str [⟨none, some 4, .mv (.const (.bool false))⟩]) (some ([], [])) := rx
@[simp] theorem x40_5 : RX 26 r40_5 (.str [⟨none, some 15, .mv (.tmp 5)⟩, ⟨none, some 16, .bin .add 3 (.tmp 15) (.const (.int .i64 1))⟩, ⟨none, some 5, .mv (.tmp 16)⟩]) (some ([0, 1, 5], [])) := rx
@[simp] theorem x40_8 : RX 26 r40_8 (.str [⟨none, some 4, .mv (.const (.bool true))⟩]) (some ([], [])) := rx
@[simp] theorem l40_4 : ann 26 (fstR lb40_4) = some ([0, 1, 5], []) := by kernel_rfl
end
end Go.Proofs.Try.Op
/- The walk's ground of function 11: its regions worked out. No condition. -/
set_option maxRecDepth 100000
namespace Go.Proofs.Try.Op
open Go Go.Pg
noncomputable section
def r11_0 := codeAt (bodyOf Try.f11) [0]
def r11_1 := codeAt (bodyOf Try.f11) [1, 0, 0]
def r11_2 := codeAt (bodyOf Try.f11) [1, 0, 1, 0, 0]
def r11_3 := codeAt (bodyOf Try.f11) [1, 1, 0]
def r11_4 := codeAt (bodyOf Try.f11) [1, 1, 1, 0]
def r11_5 := codeAt (bodyOf Try.f11) [1, 1, 1, 1, 0]
def r11_6 := codeAt (bodyOf Try.f11) [1, 1, 1, 1, 1, 0, 0]
def r11_7 := codeAt (bodyOf Try.f11) [1, 1, 1, 1, 1, 0, 1, 0, 0, 0, 0]
def r11_9 := codeAt (bodyOf Try.f11) [1, 1, 1, 1, 1, 0, 1, 0, 0, 1, 0, 0, 0]
def r11_10 := codeAt (bodyOf Try.f11) [1, 1, 1, 1, 1, 0, 1, 0, 0, 1, 0, 0, 1, 0]
def r11_11 := codeAt (bodyOf Try.f11) [1, 1, 1, 1, 1, 0, 1, 0, 0, 1, 0, 0, 1, 1, 0, 0]
def r11_12 := codeAt (bodyOf Try.f11) [1, 1, 1, 1, 1, 0, 1, 0, 0, 1, 0, 0, 1, 1, 0, 1, 0]
def r11_13 := codeAt (bodyOf Try.f11) [1, 1, 1, 1, 1, 0, 1, 0, 0, 1, 0, 0, 1, 1, 0, 1, 1, 0]
def r11_14 := codeAt (bodyOf Try.f11) [1, 1, 1, 1, 1, 0, 1, 0, 0, 1, 0, 0, 1, 1, 0, 1, 1, 1, 0]
def r11_15 := codeAt (bodyOf Try.f11) [1, 1, 1, 1, 1, 0, 1, 0, 0, 1, 0, 0, 1, 1, 1]
def r11_8 := codeAt (bodyOf Try.f11) [1, 1, 1, 1, 1, 0, 1, 0, 0, 1, 1]
def r11_16 := codeAt (bodyOf Try.f11) [1, 1, 1, 1, 1, 1, 0]
def r11_17 := codeAt (bodyOf Try.f11) [1, 1, 1, 1, 1, 1, 1, 0]
def r11_18 := codeAt (bodyOf Try.f11) [1, 1, 1, 1, 1, 1, 1, 1, 0]
def r11_19 := codeAt (bodyOf Try.f11) [1, 1, 1, 1, 1, 1, 1, 1, 1, 0]
def r11_20 := codeAt (bodyOf Try.f11) [1, 1, 1, 1, 1, 1, 1, 1, 1, 1, 0]
def r11_21 := codeAt (bodyOf Try.f11) [1, 1, 1, 1, 1, 1, 1, 1, 1, 1, 1, 0]
def r11_22 := codeAt (bodyOf Try.f11) [1, 1, 1, 1, 1, 1, 1, 1, 1, 1, 1, 1, 0]
def r11_23 := codeAt (bodyOf Try.f11) [1, 1, 1, 1, 1, 1, 1, 1, 1, 1, 1, 1, 1, 0]
def r11_24 := codeAt (bodyOf Try.f11) [1, 1, 1, 1, 1, 1, 1, 1, 1, 1, 1, 1, 1, 1, 0]
def r11_25 := codeAt (bodyOf Try.f11) [1, 1, 1, 1, 1, 1, 1, 1, 1, 1, 1, 1, 1, 1, 1, 0]
def r11_26 := codeAt (bodyOf Try.f11) [1, 1, 1, 1, 1, 1, 1, 1, 1, 1, 1, 1, 1, 1, 1, 1, 0, 0]
def r11_27 := codeAt (bodyOf Try.f11) [1, 1, 1, 1, 1, 1, 1, 1, 1, 1, 1, 1, 1, 1, 1, 1, 0, 1, 0, 0]
def r11_28 := codeAt (bodyOf Try.f11) [1, 1, 1, 1, 1, 1, 1, 1, 1, 1, 1, 1, 1, 1, 1, 1, 1, 0]
def lb11_7 : Code := (.seq (.seq r11_7 (.cond (.tmp 59) .skip (.exit 0))) (.seq (.block 1 (.seq r11_9 (.seq r11_10 (.seq (.seq r11_11 (.cond (.tmp 82) r11_12 (.seq r11_13 (.cond (.tmp 88) r11_14 .skip)))) r11_15)))) r11_8))
@[simp] theorem u11_7 (n : Nat) (st : XS) : execA Try.prog ann kn n 249 lb11_7 st = execA Try.prog ann kn n 249 (.seq (.seq r11_7 (.cond (.tmp 59) .skip (.exit 0))) (.seq (.block 1 (.seq r11_9 (.seq r11_10 (.seq (.seq r11_11 (.cond (.tmp 82) r11_12 (.seq r11_13 (.cond (.tmp 88) r11_14 .skip)))) r11_15)))) r11_8)) st := rfl
def c11 : Code := (.seq r11_0 (.seq (.seq r11_1 (.cond (.tmp 39) (.seq r11_2 .ret) .skip)) (.seq r11_3 (.seq r11_4 (.seq r11_5 (.seq (.seq r11_6 (.block 0 (.loop lb11_7))) (.seq r11_16 (.seq r11_17 (.seq r11_18 (.seq r11_19 (.seq r11_20 (.seq r11_21 (.seq r11_22 (.seq r11_23 (.seq r11_24 (.seq r11_25 (.seq (.seq r11_26 (.cond (.tmp 212) (.seq r11_27 .ret) .skip)) (.seq r11_28 .ret))))))))))))))))))
theorem b11 : Try.f11.body = some c11 := by kernel_rfl
@[simp] theorem x11_0 : RX 249 r11_0 (.str [⟨none, some 4, .box (.tmp 0)⟩, ⟨none, some 8, .mv (.const (.bool false))⟩]) (some ([0, 1, 2, 3], [4, 11, 12, 77, 95, 106, 108, 114, 116, 122, 124, 130, 137, 144, 151, 157, 163])) := rx
@[simp] theorem x11_1 : RX 249 r11_1 (.str [⟨none, some 37, .ld 25 (.tmp 4)⟩, ⟨none, some 38, .call false none (.func 42) [.tmp 37]⟩, ⟨none, some 39, .oth (.unOp .not 4 (.tmp 38))⟩]) (some ([1, 2, 3, 4], [4, 11, 12, 77, 95, 106, 108, 114, 116, 122, 124, 130, 137, 144, 151, 157, 163])) := rx
@[simp] theorem x11_2 : RX 249 r11_2 (.str [⟨none, some 40, .call false none (.func 20) []⟩, ⟨none, some 8, .mv (.tmp 40)⟩]) (some ([], [])) := rx
@[simp] theorem x11_3 : RX 249 r11_3 (.drw [⟨[], [⟨none, some 41, .mv (.tmp 1)⟩, ⟨none, some 42, .oth (.convert 5 3 (.tmp 41))⟩, ⟨none, some 43, .fa 25 (.tmp 4) 0⟩, ⟨none, some 44, .ld 3 (.tmp 43)⟩, ⟨none, some 45, .bin .rem 3 (.tmp 42) (.tmp 44)⟩, ⟨none, some 46, .mv (.tmp 2)⟩, ⟨none, some 47, .oth (.convert 5 3 (.tmp 46))⟩, ⟨none, some 48, .fa 25 (.tmp 4) 0⟩, ⟨none, some 49, .ld 3 (.tmp 48)⟩, ⟨none, some 50, .bin .rem 3 (.tmp 47) (.tmp 49)⟩, ⟨none, some 9, .mv (.tmp 45)⟩, ⟨none, some 10, .mv (.tmp 50)⟩], []⟩]) (some ([1, 2, 3, 4], [4, 11, 12, 77, 95, 106, 108, 114, 116, 122, 124, 130, 137, 144, 151, 157, 163])) := rx
@[simp] theorem x11_4 : RX 249 r11_4 (.drw [⟨[11, 12], [⟨none, some 51, .ld 25 (.tmp 4)⟩, ⟨none, some 52, .ld 25 (.tmp 4)⟩, ⟨none, some 11, .alloc 25⟩, ⟨none, some 12, .alloc 25⟩, ⟨none, none, .sto 25 (.tmp 11) (.tmp 51)⟩], [⟨none, none, .sto 25 (.tmp 12) (.tmp 52)⟩]⟩]) (some ([3, 4, 9, 10], [4, 77, 95, 106, 108, 114, 116, 122, 124, 130, 137, 144, 151, 157, 163])) := rx
@[simp] theorem x11_5 : RX 249 r11_5 (.str [⟨none, some 53, .fa 25 (.tmp 11) 3⟩, ⟨none, none, .sto 22 (.tmp 53) (.const (.slice none 0 0))⟩, ⟨none, some 54, .fa 25 (.tmp 12) 3⟩, ⟨none, none, .sto 22 (.tmp 54) (.const (.slice none 0 0))⟩]) (some ([3, 4, 9, 10, 11, 12], [4, 11, 12, 77, 95, 106, 108, 114, 116, 122, 124, 130, 137, 144, 151, 157, 163])) := rx
@[simp] theorem x11_6 : RX 249 r11_6 (.str [⟨none, some 13, .mv (.const (.int .i64 0))⟩]) (some ([3, 4, 9, 10, 11, 12], [4, 11, 12, 77, 95, 106, 108, 114, 116, 122, 124, 130, 137, 144, 151, 157, 163])) := rx
@[simp] theorem x11_7 : RX 249 r11_7 (.str [⟨none, some 55, .mv (.tmp 13)⟩, ⟨none, some 56, .fa 25 (.tmp 4) 3⟩, ⟨none, some 57, .ld 22 (.tmp 56)⟩, ⟨none, some 58, .oth (.call ⟨.builtin .len, #[.tmp 57], #[22]⟩)⟩, ⟨none, some 59, .bin .lss 3 (.tmp 55) (.tmp 58)⟩]) (some ([3, 4, 9, 10, 11, 12, 13], [4, 11, 12, 77, 95, 106, 108, 114, 116, 122, 124, 130, 137, 144, 151, 157, 163])) := rx
@[simp] theorem x11_9 : RX 249 r11_9 (.str [⟨none, some 62, .fa 25 (.tmp 4) 3⟩, ⟨none, some 63, .ld 22 (.tmp 62)⟩, ⟨none, some 64, .mv (.tmp 13)⟩, ⟨none, some 65, .oth (.indexAddr 22 (.tmp 63) (.tmp 64))⟩, ⟨none, some 66, .ld 75 (.tmp 65)⟩, ⟨none, some 14, .alloc 75⟩, ⟨none, none, .sto 75 (.tmp 14) (.tmp 66)⟩]) (some ([3, 4, 9, 10, 11, 12, 13], [4, 11, 12, 77, 95, 106, 108, 114, 116, 122, 124, 130, 137, 144, 151, 157, 163])) := rx
@[simp] theorem x11_10 : RX 249 r11_10 (.str [⟨none, some 67, .fa 25 (.tmp 12) 3⟩, ⟨none, some 68, .ld 22 (.tmp 67)⟩, ⟨none, some 69, .fa 75 (.tmp 14) 0⟩, ⟨none, some 70, .ld 3 (.tmp 69)⟩, ⟨none, some 71, .fa 75 (.tmp 14) 2⟩, ⟨none, some 72, .ld 3 (.tmp 71)⟩, ⟨none, some 73, .fa 75 (.tmp 14) 1⟩, ⟨none, some 74, .ld 3 (.tmp 73)⟩, ⟨none, some 75, .build 75 [(0, .tmp 70), (1, .tmp 72), (2, .tmp 74)]⟩, ⟨none, some 76, .buildS 22 1 [(0, .tmp 75)]⟩, ⟨none, some 77, .app [.tmp 68, .tmp 76] [22, 22]⟩, ⟨none, some 78, .fa 25 (.tmp 12) 3⟩, ⟨none, none, .sto 22 (.tmp 78) (.tmp 77)⟩]) (some ([3, 4, 9, 10, 11, 12, 13, 14], [4, 11, 12, 14, 77, 95, 106, 108, 114, 116, 122, 124, 130, 137, 144, 151, 157, 163])) := rx
@[simp] theorem x11_11 : RX 249 r11_11 (.str [⟨none, some 79, .fa 75 (.tmp 14) 2⟩, ⟨none, some 80, .ld 3 (.tmp 79)⟩, ⟨none, some 81, .mv (.tmp 9)⟩, ⟨none, some 82, .bin .eql 3 (.tmp 80) (.tmp 81)⟩]) (some ([3, 4, 9, 10, 11, 12, 13, 14], [4, 11, 12, 14, 77, 95, 106, 108, 114, 116, 122, 124, 130, 137, 144, 151, 157, 163])) := rx
@[simp] theorem x11_12 : RX 249 r11_12 (.str [⟨none, some 83, .mv (.tmp 10)⟩, ⟨none, some 84, .fa 75 (.tmp 14) 2⟩, ⟨none, none, .sto 3 (.tmp 84) (.tmp 83)⟩]) (some ([3, 4, 9, 10, 11, 12, 13, 14], [4, 11, 12, 14, 77, 95, 106, 108, 114, 116, 122, 124, 130, 137, 144, 151, 157, 163])) := rx
@[simp] theorem x11_13 : RX 249 r11_13 (.str [⟨none, some 85, .fa 75 (.tmp 14) 2⟩, ⟨none, some 86, .ld 3 (.tmp 85)⟩, ⟨none, some 87, .mv (.tmp 10)⟩, ⟨none, some 88, .bin .eql 3 (.tmp 86) (.tmp 87)⟩]) (some ([3, 4, 9, 10, 11, 12, 13, 14], [4, 11, 12, 14, 77, 95, 106, 108, 114, 116, 122, 124, 130, 137, 144, 151, 157, 163])) := rx
@[simp] theorem x11_14 : RX 249 r11_14 (.str [⟨none, some 89, .mv (.tmp 9)⟩, ⟨none, some 90, .fa 75 (.tmp 14) 2⟩, ⟨none, none, .sto 3 (.tmp 90) (.tmp 89)⟩]) (some ([3, 4, 9, 10, 11, 12, 13, 14], [4, 11, 12, 14, 77, 95, 106, 108, 114, 116, 122, 124, 130, 137, 144, 151, 157, 163])) := rx
@[simp] theorem x11_15 : RX 249 r11_15 (.str [⟨none, some 91, .fa 25 (.tmp 11) 3⟩, ⟨none, some 92, .ld 22 (.tmp 91)⟩, ⟨none, some 93, .ld 75 (.tmp 14)⟩, ⟨none, some 94, .buildS 22 1 [(0, .tmp 93)]⟩, ⟨none, some 95, .app [.tmp 92, .tmp 94] [22, 22]⟩, ⟨none, some 96, .fa 25 (.tmp 11) 3⟩, ⟨none, none, .sto 22 (.tmp 96) (.tmp 95)⟩]) (some ([3, 4, 9, 10, 11, 12, 13, 14], [4, 11, 12, 14, 77, 95, 106, 108, 114, 116, 122, 124, 130, 137, 144, 151, 157, 163])) := rx
@[simp] theorem x11_8 : RX 249 r11_8 (.str [⟨none, some 60, .mv (.tmp 13)⟩, ⟨none, some 61, .bin .add 3 (.tmp 60) (.const (.int .i64 1))⟩, ⟨none, some 13, .mv (.tmp 61)⟩]) (some ([3, 4, 9, 10, 11, 12, 13], [4, 11, 12, 77, 95, 106, 108, 114, 116, 122, 124, 130, 137, 144, 151, 157, 163])) := rx
@[simp] theorem x11_16 (n : Nat) (st : XS) : execA Try.prog ann kn (n + 1) 249 r11_16 st = toN (runR Try.prog (envA Try.prog ann kn n) (.str [⟨none, some 97, .mv (.tmp 3)⟩, ⟨none, some 98, .oth (.convert 5 3 (.tmp 97))⟩, ⟨none, some 99, .fa 25 (.tmp 4) 3⟩, ⟨none, some 100, .ld 22 (.tmp 99)⟩, ⟨none, some 101, .oth (.call ⟨.builtin .len, #[.tmp 100], #[22]⟩)⟩, ⟨none, some 102, .bin .add 3 (.tmp 101) (.const (.int .i64 1))⟩, ⟨none, some 103, .bin .rem 3 (.tmp 98) (.tmp 102)⟩, ⟨none, some 15, .mv (.tmp 103)⟩]) (trimO (some ([3, 4, 11, 12], [4, 11, 12, 77, 95, 106, 108, 114, 116, 122, 124, 130, 137, 144, 151, 157, 163])) (toldO [77, 95] st))) :=
  exec_regT (by kernel_rfl) (by kernel_rfl) (by kernel_rfl) (by kernel_rfl) (by kernel_rfl)
@[simp] theorem x11_17 : RX 249 r11_17 (.str [⟨none, some 105, .ld 25 (.tmp 4)⟩, ⟨none, some 106, .call false none (.func 22) [.tmp 105]⟩, ⟨none, some 107, .mv (.tmp 15)⟩, ⟨none, some 108, .call false none (.func 21) [.tmp 106, .tmp 107]⟩, ⟨none, some 104, .mv (.tmp 108)⟩, ⟨none, some 109, .oth (.extract (.tmp 104) 0)⟩, ⟨none, some 110, .oth (.extract (.tmp 104) 1)⟩, ⟨none, some 111, .oth (.extract (.tmp 104) 2)⟩, ⟨none, some 16, .mv (.tmp 109)⟩, ⟨none, some 17, .mv (.tmp 110)⟩, ⟨none, some 18, .mv (.tmp 111)⟩]) (some ([4, 11, 12, 15], [4, 11, 12, 77, 95, 106, 108, 114, 116, 122, 124, 130, 137, 144, 151, 157, 163])) := rx
@[simp] theorem x11_18 : RX 249 r11_18 (.str [⟨none, some 113, .ld 25 (.tmp 11)⟩, ⟨none, some 114, .call false none (.func 22) [.tmp 113]⟩, ⟨none, some 115, .mv (.tmp 15)⟩, ⟨none, some 116, .call false none (.func 21) [.tmp 114, .tmp 115]⟩, ⟨none, some 112, .mv (.tmp 116)⟩, ⟨none, some 117, .oth (.extract (.tmp 112) 0)⟩, ⟨none, some 118, .oth (.extract (.tmp 112) 1)⟩, ⟨none, some 119, .oth (.extract (.tmp 112) 2)⟩, ⟨none, some 19, .mv (.tmp 117)⟩, ⟨none, some 20, .mv (.tmp 118)⟩, ⟨none, some 21, .mv (.tmp 119)⟩]) (some ([4, 11, 12, 15, 16, 17, 18], [4, 11, 12, 77, 95, 106, 108, 114, 116, 122, 124, 130, 137, 144, 151, 157, 163])) := rx
@[simp] theorem x11_19 : RX 249 r11_19 (.str [⟨none, some 121, .ld 25 (.tmp 12)⟩, ⟨none, some 122, .call false none (.func 22) [.tmp 121]⟩, ⟨none, some 123, .mv (.tmp 15)⟩, ⟨none, some 124, .call false none (.func 21) [.tmp 122, .tmp 123]⟩, ⟨none, some 120, .mv (.tmp 124)⟩, ⟨none, some 125, .oth (.extract (.tmp 120) 0)⟩, ⟨none, some 126, .oth (.extract (.tmp 120) 1)⟩, ⟨none, some 127, .oth (.extract (.tmp 120) 2)⟩, ⟨none, some 22, .mv (.tmp 125)⟩, ⟨none, some 23, .mv (.tmp 126)⟩, ⟨none, some 24, .mv (.tmp 127)⟩]) (some ([4, 11, 12, 15, 16, 17, 18, 19, 21], [4, 11, 12, 77, 95, 106, 108, 114, 116, 122, 124, 130, 137, 144, 151, 157, 163])) := rx
@[simp] theorem x11_20 : RX 249 r11_20 (.str [⟨none, some 129, .ld 25 (.tmp 4)⟩, ⟨none, some 130, .call false none (.func 22) [.tmp 129]⟩, ⟨none, some 131, .mv (.tmp 15)⟩, ⟨none, some 132, .call false none (.func 28) [.tmp 130, .tmp 131]⟩, ⟨none, some 128, .mv (.tmp 132)⟩, ⟨none, some 133, .oth (.extract (.tmp 128) 0)⟩, ⟨none, some 134, .oth (.extract (.tmp 128) 1)⟩, ⟨none, some 25, .alloc 45⟩, ⟨none, none, .sto 45 (.tmp 25) (.tmp 133)⟩, ⟨none, some 26, .mv (.tmp 134)⟩]) (some ([4, 11, 12, 15, 16, 17, 18, 19, 21, 22, 23, 24], [4, 11, 12, 77, 95, 106, 108, 114, 116, 122, 124, 130, 137, 144, 151, 157, 163])) := rx
@[simp] theorem x11_21 : RX 249 r11_21 (.str [⟨none, some 136, .ld 25 (.tmp 11)⟩, ⟨none, some 137, .call false none (.func 22) [.tmp 136]⟩, ⟨none, some 138, .mv (.tmp 15)⟩, ⟨none, some 139, .call false none (.func 28) [.tmp 137, .tmp 138]⟩, ⟨none, some 135, .mv (.tmp 139)⟩, ⟨none, some 140, .oth (.extract (.tmp 135) 0)⟩, ⟨none, some 141, .oth (.extract (.tmp 135) 1)⟩, ⟨none, some 27, .alloc 45⟩, ⟨none, none, .sto 45 (.tmp 27) (.tmp 140)⟩, ⟨none, some 28, .mv (.tmp 141)⟩]) (some ([4, 11, 12, 15, 16, 17, 18, 19, 21, 22, 23, 24, 25, 26], [4, 11, 12, 25, 77, 95, 106, 108, 114, 116, 122, 124, 130, 137, 144, 151, 157, 163])) := rx
@[simp] theorem x11_22 : RX 249 r11_22 (.str [⟨none, some 143, .ld 25 (.tmp 12)⟩, ⟨none, some 144, .call false none (.func 22) [.tmp 143]⟩, ⟨none, some 145, .mv (.tmp 15)⟩, ⟨none, some 146, .call false none (.func 28) [.tmp 144, .tmp 145]⟩, ⟨none, some 142, .mv (.tmp 146)⟩, ⟨none, some 147, .oth (.extract (.tmp 142) 0)⟩, ⟨none, some 148, .oth (.extract (.tmp 142) 1)⟩, ⟨none, some 29, .alloc 45⟩, ⟨none, none, .sto 45 (.tmp 29) (.tmp 147)⟩, ⟨none, some 30, .mv (.tmp 148)⟩]) (some ([4, 11, 12, 15, 16, 17, 18, 19, 21, 22, 23, 24, 25, 26, 27, 28], [4, 11, 12, 25, 27, 77, 95, 106, 108, 114, 116, 122, 124, 130, 137, 144, 151, 157, 163])) := rx
@[simp] theorem x11_23 : RX 249 r11_23 (.str [⟨none, some 150, .ld 25 (.tmp 4)⟩, ⟨none, some 151, .call false none (.func 22) [.tmp 150]⟩, ⟨none, some 152, .call false none (.func 29) [.tmp 151]⟩, ⟨none, some 149, .mv (.tmp 152)⟩, ⟨none, some 153, .oth (.extract (.tmp 149) 0)⟩, ⟨none, some 154, .oth (.extract (.tmp 149) 1)⟩, ⟨none, some 31, .alloc 45⟩, ⟨none, none, .sto 45 (.tmp 31) (.tmp 153)⟩, ⟨none, some 32, .mv (.tmp 154)⟩]) (some ([4, 11, 12, 16, 17, 18, 19, 21, 22, 23, 24, 25, 26, 27, 28, 29, 30], [4, 11, 12, 25, 27, 29, 77, 95, 106, 108, 114, 116, 122, 124, 130, 137, 144, 151, 157, 163])) := rx
@[simp] theorem x11_24 : RX 249 r11_24 (.str [⟨none, some 156, .ld 25 (.tmp 11)⟩, ⟨none, some 157, .call false none (.func 22) [.tmp 156]⟩, ⟨none, some 158, .call false none (.func 29) [.tmp 157]⟩, ⟨none, some 155, .mv (.tmp 158)⟩, ⟨none, some 159, .oth (.extract (.tmp 155) 0)⟩, ⟨none, some 160, .oth (.extract (.tmp 155) 1)⟩, ⟨none, some 33, .alloc 45⟩, ⟨none, none, .sto 45 (.tmp 33) (.tmp 159)⟩, ⟨none, some 34, .mv (.tmp 160)⟩]) (some ([11, 12, 16, 17, 18, 19, 21, 22, 23, 24, 25, 26, 27, 28, 29, 30, 31, 32], [4, 11, 12, 25, 27, 29, 31, 77, 95, 106, 108, 114, 116, 122, 124, 130, 137, 144, 151, 157, 163])) := rx
@[simp] theorem x11_25 : RX 249 r11_25 (.str [⟨none, some 162, .ld 25 (.tmp 12)⟩, ⟨none, some 163, .call false none (.func 22) [.tmp 162]⟩, ⟨none, some 164, .call false none (.func 29) [.tmp 163]⟩, ⟨none, some 161, .mv (.tmp 164)⟩, ⟨none, some 165, .oth (.extract (.tmp 161) 0)⟩, ⟨none, some 166, .oth (.extract (.tmp 161) 1)⟩, ⟨none, some 35, .alloc 45⟩, ⟨none, none, .sto 45 (.tmp 35) (.tmp 165)⟩, ⟨none, some 36, .mv (.tmp 166)⟩]) (some ([12, 16, 17, 18, 19, 21, 22, 23, 24, 25, 26, 27, 28, 29, 30, 31, 32, 33, 34], [4, 11, 12, 25, 27, 29, 31, 33, 77, 95, 106, 108, 114, 116, 122, 124, 130, 137, 144, 151, 157, 163])) := rx
@[simp] theorem x11_26 : RX 249 r11_26 (.str [⟨none, some 167, .mv (.tmp 18)⟩, ⟨none, some 168, .bin .neq 29 (.tmp 167) (.const (.int .i64 0))⟩, ⟨none, some 169, .mv (.tmp 168)⟩, ⟨some (169, true), some 170, .mv (.tmp 18)⟩, ⟨some (169, true), some 171, .bin .neq 29 (.tmp 170) (.const (.int .i64 11))⟩, ⟨none, some 172, .pick (.tmp 169) (.tmp 171) (.const (.bool false))⟩, ⟨none, some 173, .mv (.tmp 172)⟩, ⟨some (173, false), some 174, .mv (.tmp 21)⟩, ⟨some (173, false), some 175, .mv (.tmp 18)⟩, ⟨some (173, false), some 176, .bin .neq 29 (.tmp 174) (.tmp 175)⟩, ⟨none, some 177, .pick (.tmp 173) (.const (.bool true)) (.tmp 176)⟩, ⟨none, some 178, .mv (.tmp 177)⟩, ⟨some (178, false), some 179, .mv (.tmp 24)⟩, ⟨some (178, false), some 180, .mv (.tmp 18)⟩, ⟨some (178, false), some 181, .bin .neq 29 (.tmp 179) (.tmp 180)⟩, ⟨none, some 182, .pick (.tmp 178) (.const (.bool true)) (.tmp 181)⟩, ⟨none, some 183, .mv (.tmp 182)⟩, ⟨some (183, false), some 184, .mv (.tmp 26)⟩, ⟨some (183, false), some 185, .mv (.tmp 18)⟩, ⟨some (183, false), some 186, .bin .neq 29 (.tmp 184) (.tmp 185)⟩, ⟨none, some 187, .pick (.tmp 183) (.const (.bool true)) (.tmp 186)⟩, ⟨none, some 188, .mv (.tmp 187)⟩, ⟨some (188, false), some 189, .mv (.tmp 28)⟩, ⟨some (188, false), some 190, .mv (.tmp 18)⟩, ⟨some (188, false), some 191, .bin .neq 29 (.tmp 189) (.tmp 190)⟩, ⟨none, some 192, .pick (.tmp 188) (.const (.bool true)) (.tmp 191)⟩, ⟨none, some 193, .mv (.tmp 192)⟩, ⟨some (193, false), some 194, .mv (.tmp 30)⟩, ⟨some (193, false), some 195, .mv (.tmp 18)⟩, ⟨some (193, false), some 196, .bin .neq 29 (.tmp 194) (.tmp 195)⟩, ⟨none, some 197, .pick (.tmp 193) (.const (.bool true)) (.tmp 196)⟩, ⟨none, some 198, .mv (.tmp 197)⟩, ⟨some (198, false), some 199, .mv (.tmp 32)⟩, ⟨some (198, false), some 200, .mv (.tmp 18)⟩, ⟨some (198, false), some 201, .bin .neq 29 (.tmp 199) (.tmp 200)⟩, ⟨none, some 202, .pick (.tmp 198) (.const (.bool true)) (.tmp 201)⟩, ⟨none, some 203, .mv (.tmp 202)⟩, ⟨some (203, false), some 204, .mv (.tmp 34)⟩, ⟨some (203, false), some 205, .mv (.tmp 18)⟩, ⟨some (203, false), some 206, .bin .neq 29 (.tmp 204) (.tmp 205)⟩, ⟨none, some 207, .pick (.tmp 203) (.const (.bool true)) (.tmp 206)⟩, ⟨none, some 208, .mv (.tmp 207)⟩, ⟨some (208, false), some 209, .mv (.tmp 36)⟩, ⟨some (208, false), some 210, .mv (.tmp 18)⟩, ⟨some (208, false), some 211, .bin .neq 29 (.tmp 209) (.tmp 210)⟩, ⟨none, some 212, .pick (.tmp 208) (.const (.bool true)) (.tmp 211)⟩]) (some ([16, 17, 18, 19, 21, 22, 23, 24, 25, 26, 27, 28, 29, 30, 31, 32, 33, 34, 35, 36], [4, 11, 12, 25, 27, 29, 31, 33, 35, 77, 95, 106, 108, 114, 116, 122, 124, 130, 137, 144, 151, 157, 163])) := rx
@[simp] theorem x11_28 : RX 249 r11_28 (.str [⟨none, some 213, .mv (.tmp 16)⟩, ⟨none, some 214, .mv (.tmp 19)⟩, ⟨none, some 215, .call false none (.func 40) [.tmp 213, .tmp 214]⟩, ⟨none, some 216, .mv (.tmp 215)⟩, ⟨some (216, true), some 217, .mv (.tmp 16)⟩, ⟨some (216, true), some 218, .mv (.tmp 23)⟩, ⟨some (216, true), some 219, .call false none (.func 40) [.tmp 217, .tmp 218]⟩, ⟨none, some 220, .pick (.tmp 216) (.tmp 219) (.const (.bool false))⟩, ⟨none, some 221, .mv (.tmp 220)⟩, ⟨some (221, true), some 222, .mv (.tmp 17)⟩, ⟨some (221, true), some 223, .mv (.tmp 22)⟩, ⟨some (221, true), some 224, .call false none (.func 40) [.tmp 222, .tmp 223]⟩, ⟨none, some 225, .pick (.tmp 221) (.tmp 224) (.const (.bool false))⟩, ⟨none, some 226, .mv (.tmp 225)⟩, ⟨some (226, true), some 227, .ld 45 (.tmp 25)⟩, ⟨some (226, true), some 228, .ld 45 (.tmp 27)⟩, ⟨some (226, true), some 229, .bin .eql 45 (.tmp 227) (.tmp 228)⟩, ⟨none, some 230, .pick (.tmp 226) (.tmp 229) (.const (.bool false))⟩, ⟨none, some 231, .mv (.tmp 230)⟩, ⟨some (231, true), some 232, .ld 45 (.tmp 25)⟩, ⟨some (231, true), some 233, .ld 45 (.tmp 29)⟩, ⟨some (231, true), some 234, .bin .eql 45 (.tmp 232) (.tmp 233)⟩, ⟨none, some 235, .pick (.tmp 231) (.tmp 234) (.const (.bool false))⟩, ⟨none, some 236, .mv (.tmp 235)⟩, ⟨some (236, true), some 237, .ld 45 (.tmp 31)⟩, ⟨some (236, true), some 238, .ld 45 (.tmp 33)⟩, ⟨some (236, true), some 239, .bin .eql 45 (.tmp 237) (.tmp 238)⟩, ⟨none, some 240, .pick (.tmp 236) (.tmp 239) (.const (.bool false))⟩, ⟨none, some 241, .mv (.tmp 240)⟩, ⟨some (241, true), some 242, .ld 45 (.tmp 31)⟩, ⟨some (241, true), some 243, .ld 45 (.tmp 35)⟩, ⟨some (241, true), some 244, .bin .eql 45 (.tmp 242) (.tmp 243)⟩, ⟨none, some 245, .pick (.tmp 241) (.tmp 244) (.const (.bool false))⟩, ⟨none, some 246, .mv (.tmp 245)⟩, ⟨some (246, true), some 247, .call false none (.func 20) []⟩, ⟨none, some 248, .pick (.tmp 246) (.tmp 247) (.const (.bool false))⟩, ⟨none, some 8, .mv (.tmp 248)⟩]) (some ([16, 17, 19, 22, 23, 25, 27, 29, 31, 33, 35], [4, 11, 12, 25, 27, 29, 31, 33, 35, 77, 95, 106, 108, 114, 116, 122, 124, 130, 137, 144, 151, 157, 163])) := rx
@[simp] theorem l11_7 : ann 249 (fstR lb11_7) = some ([3, 4, 9, 10, 11, 12, 13], [4, 11, 12, 77, 95, 106, 108, 114, 116, 122, 124, 130, 137, 144, 151, 157, 163]) := by kernel_rfl
end
end Go.Proofs.Try.Op
