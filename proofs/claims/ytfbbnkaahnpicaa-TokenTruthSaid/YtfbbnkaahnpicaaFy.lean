/- The walk's ground of functions: their regions worked out. No condition. -/
import Derived.Test.YtfbbnkaahnpicaaGa
set_option maxRecDepth 100000
namespace Go.Proofs.Try.Op
open Go Go.Pg
noncomputable section
def r106_0:=rg Try.f106 2
def r106_1:=rg Try.f106 9
def r106_2:=rg Try.f106 69
def r106_3:=rg Try.f106 1125
def r106_4:=rg Try.f106 2661
def r106_5:=rg Try.f106 9829
def r106_6:=rg Try.f106 485
def r106_7:=rg Try.f106 11
def lb106_2:Code:=(.seq r106_2 (.seq (.cond (.tmp 9) .skip (.exit 0)) (.seq (.block 1 (.seq r106_3 (.seq r106_4 (.cond (.tmp 16) (.seq r106_5 .ret) .skip)))) r106_6)))
@[simp] theorem u106_2 (n:Nat) (st:XS):execA Try.prog ann kn n 19 lb106_2 st = execA Try.prog ann kn n 19 (.seq r106_2 (.seq (.cond (.tmp 9) .skip (.exit 0)) (.seq (.block 1 (.seq r106_3 (.seq r106_4 (.cond (.tmp 16) (.seq r106_5 .ret) .skip)))) r106_6))) st:=rfl
def c106:Code:=(.seq r106_0 (.seq (.seq r106_1 (.block 0 (.loop lb106_2))) (.seq r106_7 .ret)))
theorem b106:Try.f106.body = some c106:=by kernel_rfl
@[simp] theorem x106_0:RX 19 r106_0 (.str [oq 4 (.mv (ci 0))]) (some ([0,1],[])):=rx
@[simp] theorem x106_1:RX 19 r106_1 (.str [oq 6 (.mv (tq 0)),oq 7 (.oth (.call ⟨.builtin .len,#[tq 6],#[32]⟩)),oq 8 (.mv (ci 0))]) (some ([0,1,2,3],[2,3])):=rx
@[simp] theorem x106_2:RX 19 r106_2 (.str [oq 9 (.bin .lss 3 (tq 8) (tq 7))]) (some ([0,1,3,7,8],[3])):=rx
@[simp] theorem x106_3:RX 19 r106_3 (.str [oq 10 (.mv (tq 8)),oq 5 (.mv (tq 10))]) (some ([0,1,3,7,8],[3])):=rx
@[simp] theorem x106_4:RX 19 r106_4 (.str [oq 11 (.mv (tq 1)),oq 12 (.mv (tq 0)),oq 13 (.mv (tq 5)),oq 14 (.oth (.indexAddr 32 (tq 12) (tq 13))),oq 15 (.ld 96 (tq 14)),oq 16 (.call false none (tq 11) [tq 15])]) (some ([0,1,3,5,7,8],[3])):=rx
@[simp] theorem x106_5:RX 19 r106_5 (.str [oq 17 (.mv (tq 5)),oq 4 (.mv (tq 17))]) (some ([5],[])):=rx
@[simp] theorem x106_6:RX 19 r106_6 (.str [oq 18 (.bin .add 3 (tq 8) (ci 1)),oq 8 (.mv (tq 18))]) (some ([0,1,3,7,8],[3])):=rx
@[simp] theorem x106_7:RX 19 r106_7 (.str [oq 4 (.mv (.const (.int .i64 (Int.negSucc 0))))]) (some ([],[])):=rx
@[simp] theorem l106_2:ann 19 (fstR lb106_2) = some ([0,1,3,7,8],[3]):=by kernel_rfl
def r113_0:=rg Try.f113 2
def r113_1:=rg Try.f113 5
def c113:Code:=(.seq r113_0 (.seq r113_1 .ret))
theorem b113:Try.f113.body = some c113:=by kernel_rfl
@[simp] theorem x113_0:RX 9 r113_0 (.str [oq 4 (.mv (cb false))]) (some ([0,1],[])):=rx
@[simp] theorem x113_1:RX 9 r113_1 (.str [oq 5 (.mv (tq 0)),oq 6 (.mv (tq 1)),oq 7 (.call false none (.func 106) [tq 5,tq 6]),oq 8 (.bin .geq 3 (tq 7) (ci 0)),oq 4 (.mv (tq 8))]) (some ([0,1,3],[3])):=rx
def r114_0:=rg Try.f114 2
def r114_1:=rg Try.f114 5
def c114:Code:=(.seq r114_0 (.seq r114_1 .ret))
theorem b114:Try.f114.body = some c114:=by kernel_rfl
@[simp] theorem x114_0:RX 8 r114_0 (.str [oq 2 (.box (tq 0)),oq 3 (.mv (cb false))]) (some ([0,1],[])):=rx
@[simp] theorem x114_1:RX 8 r114_1 (.str [oq 4 (.ld 128 (tq 1)),oq 5 (.ld 96 (tq 2)),oq 6 (.call false none (tq 4) [tq 5]),oq 7 (.oth (.unOp .not 4 (tq 6))),oq 3 (.mv (tq 7))]) (some ([1,2],[2])):=rx
def r96_0:=rg Try.f96 2
def r96_1:=rg Try.f96 5
def c96:Code:=(.seq r96_0 (.seq r96_1 .ret))
theorem b96:Try.f96.body = some c96:=by kernel_rfl
@[simp] theorem x96_0:RX 9 r96_0 (.str [oq 3 (.box (tq 1)),oq 4 (.mv (cb false))]) (some ([0,1],[3])):=rx
@[simp] theorem x96_1:RX 9 r96_1 (.str [oq 5 (.mv (tq 0)),oq 6 (.oth (.makeFunc (.func 114) #[] #[tq 3])),oq 7 (.call false none (.func 113) [tq 5,tq 6]),oq 8 (.oth (.unOp .not 4 (tq 7))),oq 4 (.mv (tq 8))]) (some ([0,1,3],[3])):=rx
def r121_0:=rg Try.f121 2
def r121_1:=rg Try.f121 9
def r121_2:=rg Try.f121 69
def r121_3:=rg Try.f121 1125
def r121_4:=rg Try.f121 2661
def r121_5:=rg Try.f121 9829
def r121_6:=rg Try.f121 485
def r121_7:=rg Try.f121 11
def lb121_2:Code:=(.seq r121_2 (.seq (.cond (.tmp 9) .skip (.exit 0)) (.seq (.block 1 (.seq r121_3 (.seq r121_4 (.cond (.tmp 16) (.seq r121_5 .ret) .skip)))) r121_6)))
@[simp] theorem u121_2 (n:Nat) (st:XS):execA Try.prog ann kn n 19 lb121_2 st = execA Try.prog ann kn n 19 (.seq r121_2 (.seq (.cond (.tmp 9) .skip (.exit 0)) (.seq (.block 1 (.seq r121_3 (.seq r121_4 (.cond (.tmp 16) (.seq r121_5 .ret) .skip)))) r121_6))) st:=rfl
def c121:Code:=(.seq r121_0 (.seq (.seq r121_1 (.block 0 (.loop lb121_2))) (.seq r121_7 .ret)))
theorem b121:Try.f121.body = some c121:=by kernel_rfl
@[simp] theorem x121_0:RX 19 r121_0 (.str [oq 4 (.mv (ci 0))]) (some ([0,1],[])):=rx
@[simp] theorem x121_1:RX 19 r121_1 (.str [oq 6 (.mv (tq 0)),oq 7 (.oth (.call ⟨.builtin .len,#[tq 6],#[33]⟩)),oq 8 (.mv (ci 0))]) (some ([0,1,2,3],[2,3])):=rx
@[simp] theorem x121_2:RX 19 r121_2 (.str [oq 9 (.bin .lss 3 (tq 8) (tq 7))]) (some ([0,1,3,7,8],[3])):=rx
@[simp] theorem x121_3:RX 19 r121_3 (.str [oq 10 (.mv (tq 8)),oq 5 (.mv (tq 10))]) (some ([0,1,3,7,8],[3])):=rx
@[simp] theorem x121_4:RX 19 r121_4 (.str [oq 11 (.mv (tq 1)),oq 12 (.mv (tq 0)),oq 13 (.mv (tq 5)),oq 14 (.oth (.indexAddr 33 (tq 12) (tq 13))),oq 15 (.ld 99 (tq 14)),oq 16 (.call false none (tq 11) [tq 15])]) (some ([0,1,3,5,7,8],[3])):=rx
@[simp] theorem x121_5:RX 19 r121_5 (.str [oq 17 (.mv (tq 5)),oq 4 (.mv (tq 17))]) (some ([5],[])):=rx
@[simp] theorem x121_6:RX 19 r121_6 (.str [oq 18 (.bin .add 3 (tq 8) (ci 1)),oq 8 (.mv (tq 18))]) (some ([0,1,3,7,8],[3])):=rx
@[simp] theorem x121_7:RX 19 r121_7 (.str [oq 4 (.mv (.const (.int .i64 (Int.negSucc 0))))]) (some ([],[])):=rx
@[simp] theorem l121_2:ann 19 (fstR lb121_2) = some ([0,1,3,7,8],[3]):=by kernel_rfl
def r115_0:=rg Try.f115 2
def r115_1:=rg Try.f115 5
def c115:Code:=(.seq r115_0 (.seq r115_1 .ret))
theorem b115:Try.f115.body = some c115:=by kernel_rfl
@[simp] theorem x115_0:RX 9 r115_0 (.str [oq 4 (.mv (cb false))]) (some ([0,1],[])):=rx
@[simp] theorem x115_1:RX 9 r115_1 (.str [oq 5 (.mv (tq 0)),oq 6 (.mv (tq 1)),oq 7 (.call false none (.func 121) [tq 5,tq 6]),oq 8 (.bin .geq 3 (tq 7) (ci 0)),oq 4 (.mv (tq 8))]) (some ([0,1,3],[3])):=rx
def r116_0:=rg Try.f116 2
def r116_1:=rg Try.f116 5
def c116:Code:=(.seq r116_0 (.seq r116_1 .ret))
theorem b116:Try.f116.body = some c116:=by kernel_rfl
@[simp] theorem x116_0:RX 8 r116_0 (.str [oq 2 (.box (tq 0)),oq 3 (.mv (cb false))]) (some ([0,1],[])):=rx
@[simp] theorem x116_1:RX 8 r116_1 (.str [oq 4 (.ld 137 (tq 1)),oq 5 (.ld 99 (tq 2)),oq 6 (.call false none (tq 4) [tq 5]),oq 7 (.oth (.unOp .not 4 (tq 6))),oq 3 (.mv (tq 7))]) (some ([1,2],[2])):=rx
def r97_0:=rg Try.f97 2
def r97_1:=rg Try.f97 5
def c97:Code:=(.seq r97_0 (.seq r97_1 .ret))
theorem b97:Try.f97.body = some c97:=by kernel_rfl
@[simp] theorem x97_0:RX 9 r97_0 (.str [oq 3 (.box (tq 1)),oq 4 (.mv (cb false))]) (some ([0,1],[3])):=rx
@[simp] theorem x97_1:RX 9 r97_1 (.str [oq 5 (.mv (tq 0)),oq 6 (.oth (.makeFunc (.func 116) #[] #[tq 3])),oq 7 (.call false none (.func 115) [tq 5,tq 6]),oq 8 (.oth (.unOp .not 4 (tq 7))),oq 4 (.mv (tq 8))]) (some ([0,1,3],[3])):=rx
def r55_0:=rg Try.f55 2
def r55_1:=rg Try.f55 5
def r55_2:=rg Try.f55 35
def r55_3:=rg Try.f55 147
def r55_4:=rg Try.f55 179
def r55_5:=rg Try.f55 627
def r55_6:=rg Try.f55 23
def r55_7:=rg Try.f55 79
def r55_8:=rg Try.f55 559
def r55_9:=rg Try.f55 9007
def r55_10:=rg Try.f55 13103
def r55_11:=rg Try.f55 3887
def r55_12:=rg Try.f55 159
def r55_13:=rg Try.f55 607
def r55_14:=rg Try.f55 191
def lb55_8:Code:=(.seq r55_8 (.seq (.cond (.tmp 58) .skip (.exit 1)) (.seq (.block 2 (.seq r55_9 r55_10)) r55_11)))
@[simp] theorem u55_8 (n:Nat) (st:XS):execA Try.prog ann kn n 72 lb55_8 st = execA Try.prog ann kn n 72 (.seq r55_8 (.seq (.cond (.tmp 58) .skip (.exit 1)) (.seq (.block 2 (.seq r55_9 r55_10)) r55_11))) st:=rfl
def c55:Code:=(.seq r55_0 (.seq r55_1 (.seq (.block 0 (.seq r55_2 (.cond (.tmp 12) (.seq r55_3 .ret) (.seq r55_4 (.cond (.tmp 23) (.seq r55_5 .ret) .skip))))) (.seq r55_6 (.seq (.seq r55_7 (.block 1 (.loop lb55_8))) (.seq (.seq r55_12 (.cond (.tmp 71) (.seq r55_13 .ret) .skip)) (.seq r55_14 .ret)))))))
theorem b55:Try.f55.body = some c55:=by kernel_rfl
@[simp] theorem x55_0:RX 72 r55_0 (.str [oq 1 (.box (tq 0)),oq 2 (.mv (ci 0))]) (some ([0],[1,64])):=rx
@[simp] theorem x55_1:RX 72 r55_1 (.drw [⟨[],[oq 8 (.ld 35 (tq 1)),oq 9 (.oth (.makeFunc (.func 94) #[tq 8] #[])),oq 10 (.ld 35 (tq 1)),oq 11 (.oth (.makeFunc (.func 95) #[tq 10] #[])),oq 3 (.mv (tq 9)),oq 4 (.mv (tq 11))],[]⟩]) (some ([1],[1,64])):=rx
@[simp] theorem x55_2:RX 72 r55_2 (.str [oq 13 (.fa 35 (tq 1) 3),oq 14 (.ld 32 (tq 13)),oq 15 (.oth (.call ⟨.builtin .len,#[tq 14],#[32]⟩)),oq 16 (.bin .gtr 3 (tq 15) (ci 8)),oq 17 (.mv (tq 16)),og 17 false 18 (.fa 35 (tq 1) 4),og 17 false 19 (.ld 33 (tq 18)),og 17 false 20 (.oth (.call ⟨.builtin .len,#[tq 19],#[33]⟩)),og 17 false 21 (.bin .gtr 3 (tq 20) (ci 4)),oq 22 (.pick (tq 17) (cb true) (tq 21)),oq 12 (.mv (tq 22))]) (some ([1,3,4],[1,64])):=rx
@[simp] theorem x55_3:RX 72 r55_3 (.str [oq 2 (.mv (ci 3))]) (some ([],[])):=rx
@[simp] theorem x55_4:RX 72 r55_4 (.str [oq 24 (.fa 35 (tq 1) 0),oq 25 (.ld 3 (tq 24)),oq 26 (.call false none (.func 69) [tq 25,ci 1,ci 4]),oq 27 (.oth (.unOp .not 4 (tq 26))),oq 28 (.mv (tq 27)),og 28 false 29 (.fa 35 (tq 1) 1),og 28 false 30 (.ld 3 (tq 29)),og 28 false 31 (.call false none (.func 69) [tq 30,ci 1,ci 99]),og 28 false 32 (.oth (.unOp .not 4 (tq 31))),oq 33 (.pick (tq 28) (cb true) (tq 32)),oq 34 (.mv (tq 33)),og 34 false 35 (.fa 35 (tq 1) 2),og 34 false 36 (.ld 3 (tq 35)),og 34 false 37 (.call false none (.func 69) [tq 36,ci 0,ci 999]),og 34 false 38 (.oth (.unOp .not 4 (tq 37))),oq 39 (.pick (tq 34) (cb true) (tq 38)),oq 40 (.mv (tq 39)),og 40 false 41 (.fa 35 (tq 1) 3),og 40 false 42 (.ld 32 (tq 41)),og 40 false 43 (.mv (tq 3)),og 40 false 44 (.call false none (.func 96) [tq 42,tq 43]),og 40 false 45 (.oth (.unOp .not 4 (tq 44))),oq 46 (.pick (tq 40) (cb true) (tq 45)),oq 47 (.mv (tq 46)),og 47 false 48 (.fa 35 (tq 1) 4),og 47 false 49 (.ld 33 (tq 48)),og 47 false 50 (.mv (tq 4)),og 47 false 51 (.call false none (.func 97) [tq 49,tq 50]),og 47 false 52 (.oth (.unOp .not 4 (tq 51))),oq 53 (.pick (tq 47) (cb true) (tq 52)),oq 23 (.mv (tq 53))]) (some ([1,3,4],[1,64])):=rx
@[simp] theorem x55_5:RX 72 r55_5 (.str [oq 2 (.mv (ci 1))]) (some ([],[])):=rx
@[simp] theorem x55_6:RX 72 r55_6 (.str [oq 5 (.mv (ci 1))]) (some ([1],[1,64])):=rx
@[simp] theorem x55_7:RX 72 r55_7 (.str [oq 54 (.fa 35 (tq 1) 3),oq 55 (.ld 32 (tq 54)),oq 56 (.oth (.call ⟨.builtin .len,#[tq 55],#[32]⟩)),oq 57 (.mv (ci 0))]) (some ([1,5],[1,64])):=rx
@[simp] theorem x55_8:RX 72 r55_8 (.str [oq 58 (.bin .lss 3 (tq 57) (tq 56))]) (some ([1,5,55,56,57],[1,64])):=rx
@[simp] theorem x55_9:RX 72 r55_9 (.str [oq 59 (.oth (.indexAddr 32 (tq 55) (tq 57))),oq 60 (.ld 96 (tq 59)),oq 7 (.alloc 96),os (.sto 96 (tq 7) (tq 60))]) (some ([1,5,55,56,57],[1,64])):=rx
@[simp] theorem x55_10:RX 72 r55_10 (.str [oq 61 (.mv (tq 5)),oq 62 (.ld 35 (tq 1)),oq 63 (.ld 96 (tq 7)),oq 64 (.call false none (.func 81) [tq 62,tq 63]),oq 65 (.oth (.call ⟨.builtin .len,#[tq 64],#[32]⟩)),oq 66 (.bin .mul 3 (tq 61) (tq 65)),oq 67 (.buildS 28 2 [(0,tq 66),(1,ci 4097)]),oq 68 (.call false none (.func 98) [tq 67]),oq 5 (.mv (tq 68))]) (some ([1,5,7,55,56,57],[1,7,64])):=rx
@[simp] theorem x55_11:RX 72 r55_11 (.str [oq 69 (.bin .add 3 (tq 57) (ci 1)),oq 57 (.mv (tq 69))]) (some ([1,5,55,56,57],[1,64])):=rx
@[simp] theorem x55_12:RX 72 r55_12 (.str [oq 70 (.mv (tq 5)),oq 71 (.bin .gtr 3 (tq 70) (ci 4096))]) (some ([5],[])):=rx
@[simp] theorem x55_13:RX 72 r55_13 (.str [oq 2 (.mv (ci 3))]) (some ([],[])):=rx
@[simp] theorem x55_14:RX 72 r55_14 (.str [oq 2 (.mv (ci 0))]) (some ([],[])):=rx
@[simp] theorem l55_8:ann 72 (fstR lb55_8) = some ([1,5,55,56,57],[1,64]):=by kernel_rfl
def r105_0:=rg Try.f105 2
def r105_1:=rg Try.f105 5
def c105:Code:=(.seq r105_0 (.seq r105_1 .ret))
theorem b105:Try.f105.body = some c105:=by kernel_rfl
@[simp] theorem x105_0:RX 6 r105_0 (.str [oq 1 (.box (tq 0)),oq 2 (.alloc 113)]) (some ([0],[1])):=rx
@[simp] theorem x105_1:RX 6 r105_1 (.str [oq 3 (.fa 35 (tq 1) 2),oq 4 (.ld 3 (tq 3)),oq 5 (.build 113 [(2,tq 4)]),os (.sto 113 (tq 2) (tq 5))]) (some ([1,2],[1,2])):=rx
def r104_0:=rg Try.f104 2
def r104_1:=rg Try.f104 5
def r104_2:=rg Try.f104 19
def r104_3:=rg Try.f104 75
def r104_4:=rg Try.f104 39
def r104_5:=rg Try.f104 279
def r104_6:=rg Try.f104 663
def r104_7:=rg Try.f104 343
def r104_8:=rg Try.f104 727
def r104_9:=rg Try.f104 1495
def r104_10:=rg Try.f104 47
def r104_11:=rg Try.f104 95
def r104_12:=rg Try.f104 191
def c104:Code:=(.seq r104_0 (.seq r104_1 (.seq (.seq r104_2 (.cond (.tmp 31) (.seq r104_3 .ret) .skip)) (.seq (.seq r104_4 (.cond (.tmp 33) (.seq (.seq r104_5 (.cond (.tmp 44) r104_6 .skip)) (.seq r104_7 (.seq r104_8 (.seq r104_9 .ret)))) .skip)) (.seq r104_10 (.seq r104_11 (.seq r104_12 .ret)))))))
theorem b104:Try.f104.body = some c104:=by kernel_rfl
@[simp] theorem x104_0:RX 83 r104_0 (.str [oq 4 (.box (tq 0)),oq 5 (.box (tq 1)),oq 7 (.box (tq 3)),oq 8 (.alloc 113),oq 9 (.mv (cb false))]) (some ([0,1,2,3],[4])):=rx
@[simp] theorem x104_1:RX 83 r104_1 (.str [oq 11 (.fa 96 (tq 7) 0),oq 12 (.ld 3 (tq 11)),oq 13 (.bin .eql 3 (tq 12) (ci 2)),oq 10 (.mv (tq 13))]) (some ([2,4,5,7,8],[4,5,7,8])):=rx
@[simp] theorem x104_2:RX 83 r104_2 (.str [oq 14 (.fa 96 (tq 7) 1),oq 15 (.ld 3 (tq 14)),oq 16 (.fa 113 (tq 5) 0),oq 17 (.oth (.indexAddr 111 (tq 16) (tq 15))),oq 18 (.ld 3 (tq 17)),oq 19 (.bin .neq 3 (tq 18) (ci 0)),oq 20 (.mv (tq 10)),oq 21 (.bin .neq 4 (tq 19) (tq 20)),oq 22 (.mv (tq 21)),og 22 false 23 (.fa 96 (tq 7) 2),og 22 false 24 (.ld 3 (tq 23)),og 22 false 25 (.fa 113 (tq 5) 1),og 22 false 26 (.oth (.indexAddr 111 (tq 25) (tq 24))),og 22 false 27 (.ld 3 (tq 26)),og 22 false 28 (.bin .neq 3 (tq 27) (ci 0)),og 22 false 29 (.mv (tq 10)),og 22 false 30 (.bin .neq 4 (tq 28) (tq 29)),oq 31 (.pick (tq 22) (cb true) (tq 30))]) (some ([2,4,5,7,8,10],[4,5,7,8])):=rx
@[simp] theorem x104_3:RX 83 r104_3 (.str [oq 32 (.ld 113 (tq 5)),os (.sto 113 (tq 8) (tq 32)),oq 9 (.mv (cb false))]) (some ([5,8],[5,8])):=rx
@[simp] theorem x104_4:RX 83 r104_4 (.str [oq 33 (.mv (tq 10))]) (some ([2,4,5,7,8,10],[4,5,7,8])):=rx
@[simp] theorem x104_5:RX 83 r104_5 (.drw [⟨[],[oq 34 (.fa 96 (tq 7) 1),oq 35 (.ld 3 (tq 34)),oq 36 (.fa 113 (tq 5) 0),oq 37 (.oth (.indexAddr 111 (tq 36) (tq 35))),oq 38 (.ld 3 (tq 37)),oq 39 (.fa 96 (tq 7) 2),oq 40 (.ld 3 (tq 39)),oq 41 (.fa 113 (tq 5) 1),oq 42 (.oth (.indexAddr 111 (tq 41) (tq 40))),oq 43 (.ld 3 (tq 42)),oq 44 (.bin .neq 3 (tq 38) (tq 43))],[]⟩]) (some ([4,5,7,8],[4,5,7,8])):=rx
@[simp] theorem x104_6:RX 83 r104_6 (.str [oq 45 (.fa 113 (tq 5) 3),oq 46 (.ld 3 (tq 45)),oq 47 (.bin .add 3 (tq 46) (ci 1)),oq 48 (.fa 113 (tq 5) 3),os (.sto 3 (tq 48) (tq 47))]) (some ([4,5,7,8],[4,5,7,8])):=rx
@[simp] theorem x104_7:RX 83 r104_7 (.drw [⟨[],[oq 49 (.fa 96 (tq 7) 1),oq 50 (.ld 3 (tq 49)),oq 51 (.fa 96 (tq 7) 2),oq 52 (.ld 3 (tq 51)),oq 53 (.fa 113 (tq 5) 0),oq 54 (.oth (.indexAddr 111 (tq 53) (tq 50))),oq 55 (.fa 113 (tq 5) 1),os (.sto 3 (tq 54) (ci 0)),oq 56 (.oth (.indexAddr 111 (tq 55) (tq 52))),os (.sto 3 (tq 56) (ci 0))],[]⟩]) (some ([4,5,7,8],[4,5,7,8])):=rx
@[simp] theorem x104_8:RX 83 r104_8 (.str [oq 57 (.fa 113 (tq 5) 2),oq 58 (.ld 3 (tq 57)),oq 59 (.fa 35 (tq 4) 1),oq 60 (.ld 3 (tq 59)),oq 61 (.bin .sub 3 (tq 58) (tq 60)),oq 62 (.fa 113 (tq 5) 2),os (.sto 3 (tq 62) (tq 61))]) (some ([4,5,8],[4,5,8])):=rx
@[simp] theorem x104_9:RX 83 r104_9 (.str [oq 63 (.ld 113 (tq 5)),os (.sto 113 (tq 8) (tq 63)),oq 9 (.mv (cb true))]) (some ([5,8],[5,8])):=rx
@[simp] theorem x104_10:RX 83 r104_10 (.drw [⟨[],[oq 64 (.fa 96 (tq 7) 1),oq 65 (.ld 3 (tq 64)),oq 66 (.fa 96 (tq 7) 2),oq 67 (.ld 3 (tq 66)),oq 68 (.mv (tq 2)),oq 69 (.bin .add 3 (tq 68) (ci 1)),oq 70 (.mv (tq 2)),oq 71 (.bin .add 3 (tq 70) (ci 1)),oq 72 (.fa 113 (tq 5) 0),oq 73 (.oth (.indexAddr 111 (tq 72) (tq 65))),oq 74 (.fa 113 (tq 5) 1),os (.sto 3 (tq 73) (tq 69)),oq 75 (.oth (.indexAddr 111 (tq 74) (tq 67))),os (.sto 3 (tq 75) (tq 71))],[]⟩]) (some ([2,4,5,7,8],[4,5,7,8])):=rx
@[simp] theorem x104_11:RX 83 r104_11 (.str [oq 76 (.fa 113 (tq 5) 2),oq 77 (.ld 3 (tq 76)),oq 78 (.fa 35 (tq 4) 1),oq 79 (.ld 3 (tq 78)),oq 80 (.bin .add 3 (tq 77) (tq 79)),oq 81 (.fa 113 (tq 5) 2),os (.sto 3 (tq 81) (tq 80))]) (some ([4,5,8],[4,5,8])):=rx
@[simp] theorem x104_12:RX 83 r104_12 (.str [oq 82 (.ld 113 (tq 5)),os (.sto 113 (tq 8) (tq 82)),oq 9 (.mv (cb true))]) (some ([5,8],[5,8])):=rx
def r122_0:=rg Try.f122 2
def r122_1:=rg Try.f122 9
def r122_2:=rg Try.f122 69
def r122_3:=rg Try.f122 1125
def r122_4:=rg Try.f122 2661
def r122_5:=rg Try.f122 9829
def r122_6:=rg Try.f122 485
def r122_7:=rg Try.f122 11
def lb122_2:Code:=(.seq r122_2 (.seq (.cond (.tmp 9) .skip (.exit 0)) (.seq (.block 1 (.seq r122_3 (.seq r122_4 (.cond (.tmp 16) (.seq r122_5 .ret) .skip)))) r122_6)))
@[simp] theorem u122_2 (n:Nat) (st:XS):execA Try.prog ann kn n 19 lb122_2 st = execA Try.prog ann kn n 19 (.seq r122_2 (.seq (.cond (.tmp 9) .skip (.exit 0)) (.seq (.block 1 (.seq r122_3 (.seq r122_4 (.cond (.tmp 16) (.seq r122_5 .ret) .skip)))) r122_6))) st:=rfl
def c122:Code:=(.seq r122_0 (.seq (.seq r122_1 (.block 0 (.loop lb122_2))) (.seq r122_7 .ret)))
theorem b122:Try.f122.body = some c122:=by kernel_rfl
@[simp] theorem x122_0:RX 19 r122_0 (.str [oq 3 (.box (tq 1)),oq 4 (.mv (ci 0))]) (some ([0,1],[])):=rx
@[simp] theorem x122_1:RX 19 r122_1 (.str [oq 6 (.mv (tq 0)),oq 7 (.oth (.call ⟨.builtin .len,#[tq 6],#[32]⟩)),oq 8 (.mv (ci 0))]) (some ([0,1,2,3],[2,3])):=rx
@[simp] theorem x122_2:RX 19 r122_2 (.str [oq 9 (.bin .lss 3 (tq 8) (tq 7))]) (some ([0,1,3,7,8],[3])):=rx
@[simp] theorem x122_3:RX 19 r122_3 (.str [oq 10 (.mv (tq 8)),oq 5 (.mv (tq 10))]) (some ([0,1,3,7,8],[3])):=rx
@[simp] theorem x122_4:RX 19 r122_4 (.drw [⟨[],[oq 11 (.ld 96 (tq 3)),oq 12 (.mv (tq 0)),oq 13 (.mv (tq 5)),oq 14 (.oth (.indexAddr 32 (tq 12) (tq 13))),oq 15 (.ld 96 (tq 14)),oq 16 (.bin .eql 96 (tq 11) (tq 15))],[]⟩]) (some ([0,1,3,5,7,8],[3])):=rx
@[simp] theorem x122_5:RX 19 r122_5 (.str [oq 17 (.mv (tq 5)),oq 4 (.mv (tq 17))]) (some ([5],[])):=rx
@[simp] theorem x122_6:RX 19 r122_6 (.str [oq 18 (.bin .add 3 (tq 8) (ci 1)),oq 8 (.mv (tq 18))]) (some ([0,1,3,7,8],[3])):=rx
@[simp] theorem x122_7:RX 19 r122_7 (.str [oq 4 (.mv (.const (.int .i64 (Int.negSucc 0))))]) (some ([],[])):=rx
@[simp] theorem l122_2:ann 19 (fstR lb122_2) = some ([0,1,3,7,8],[3]):=by kernel_rfl
def r120_0:=rg Try.f120 2
def r120_1:=rg Try.f120 5
def c120:Code:=(.seq r120_0 (.seq r120_1 .ret))
theorem b120:Try.f120.body = some c120:=by kernel_rfl
@[simp] theorem x120_0:RX 9 r120_0 (.str [oq 3 (.box (tq 1)),oq 4 (.mv (cb false))]) (some ([0,1],[3])):=rx
@[simp] theorem x120_1:RX 9 r120_1 (.str [oq 5 (.mv (tq 0)),oq 6 (.ld 96 (tq 3)),oq 7 (.call false none (.func 122) [tq 5,tq 6]),oq 8 (.bin .geq 3 (tq 7) (ci 0)),oq 4 (.mv (tq 8))]) (some ([0,1,3],[3])):=rx
def r110_0:=rg Try.f110 2
def r110_1:=rg Try.f110 5
def c110:Code:=(.seq r110_0 (.seq r110_1 .ret))
theorem b110:Try.f110.body = some c110:=by kernel_rfl
@[simp] theorem x110_0:RX 12 r110_0 (.str [oq 3 (.box (tq 0)),oq 4 (.box (tq 1)),oq 5 (.box (tq 2)),oq 6 (.mv (cb false))]) (some ([0,1,2],[3,9])):=rx
@[simp] theorem x110_1:RX 12 r110_1 (.drw [⟨[],[oq 7 (.ld 35 (tq 3)),oq 8 (.ld 96 (tq 4)),oq 9 (.call false none (.func 81) [tq 7,tq 8]),oq 10 (.ld 96 (tq 5))],[oq 11 (.call false none (.func 120) [tq 9,tq 10])]⟩,⟨[],[oq 6 (.mv (tq 11))],[]⟩]) (some ([3,4,5],[3,4,5])):=rx
def r93_0:=rg Try.f93 2
def r93_1:=rg Try.f93 5
def c93:Code:=(.seq r93_0 (.seq r93_1 .ret))
theorem b93:Try.f93.body = some c93:=by kernel_rfl
@[simp] theorem x93_0:RX 11 r93_0 (.str [oq 3 (.box (tq 0)),oq 4 (.box (tq 1)),oq 5 (.box (tq 2)),oq 6 (.mv (cb false))]) (some ([0,1,2],[3])):=rx
@[simp] theorem x93_1:RX 11 r93_1 (.str [oq 7 (.fa 35 (tq 3) 4),oq 8 (.ld 33 (tq 7)),oq 9 (.oth (.makeFunc (.func 111) #[] #[tq 5,tq 4])),oq 10 (.call false none (.func 97) [tq 8,tq 9]),oq 6 (.mv (tq 10))]) (some ([3,4,5],[3,4,5])):=rx
def r111_0:=rg Try.f111 2
def r111_1:=rg Try.f111 5
def c111:Code:=(.seq r111_0 (.seq r111_1 .ret))
theorem b111:Try.f111.body = some c111:=by kernel_rfl
@[simp] theorem x111_0:RX 16 r111_0 (.str [oq 3 (.box (tq 0)),oq 4 (.mv (cb false))]) (some ([0,1,2],[])):=rx
@[simp] theorem x111_1:RX 16 r111_1 (.str [oq 5 (.fa 99 (tq 3) 0),oq 6 (.ld 3 (tq 5)),oq 7 (.ld 3 (tq 1)),oq 8 (.bin .neq 3 (tq 6) (tq 7)),oq 9 (.mv (tq 8)),og 9 false 10 (.fa 99 (tq 3) 1),og 9 false 11 (.ld 45 (tq 10)),og 9 false 12 (.fa 113 (tq 2) 2),og 9 false 13 (.ld 3 (tq 12)),og 9 false 14 (.call false none (.func 112) [tq 11,tq 13]),oq 15 (.pick (tq 9) (cb true) (tq 14)),oq 4 (.mv (tq 15))]) (some ([1,2,3],[3])):=rx
def r92_0:=rg Try.f92 2
def r92_1:=rg Try.f92 9
def r92_2:=rg Try.f92 37
def r92_3:=rg Try.f92 11
def r92_4:=rg Try.f92 23
def r92_5:=rg Try.f92 79
def r92_6:=rg Try.f92 559
def r92_7:=rg Try.f92 9007
def r92_8:=rg Try.f92 37679
def r92_9:=rg Try.f92 152367
def r92_10:=rg Try.f92 45871
def r92_11:=rg Try.f92 160559
def r92_12:=rg Try.f92 357167
def r92_13:=rg Try.f92 1274671
def r92_14:=rg Try.f92 127791
def r92_15:=rg Try.f92 3887
def r92_16:=rg Try.f92 95
def lb92_6:Code:=(.seq r92_6 (.seq (.cond (.tmp 24) .skip (.exit 0)) (.seq (.block 1 (.seq r92_7 (.seq (.seq r92_8 (.cond (.tmp 36) (.seq r92_9 .ret) .skip)) (.seq r92_10 (.seq (.seq r92_11 (.seq r92_12 (.cond (.tmp 46) (.seq r92_13 .ret) .skip))) r92_14))))) r92_15)))
@[simp] theorem u92_6 (n:Nat) (st:XS):execA Try.prog ann kn n 53 lb92_6 st = execA Try.prog ann kn n 53 (.seq r92_6 (.seq (.cond (.tmp 24) .skip (.exit 0)) (.seq (.block 1 (.seq r92_7 (.seq (.seq r92_8 (.cond (.tmp 36) (.seq r92_9 .ret) .skip)) (.seq r92_10 (.seq (.seq r92_11 (.seq r92_12 (.cond (.tmp 46) (.seq r92_13 .ret) .skip))) r92_14))))) r92_15))) st:=rfl
def c92:Code:=(.seq r92_0 (.seq (.seq r92_1 (.cond (.tmp 16) (.seq r92_2 .ret) .skip)) (.seq r92_3 (.seq r92_4 (.seq (.seq r92_5 (.block 0 (.loop lb92_6))) (.seq r92_16 .ret))))))
theorem b92:Try.f92.body = some c92:=by kernel_rfl
@[simp] theorem x92_0:RX 53 r92_0 (.str [oq 2 (.box (tq 0)),oq 4 (.mv (.const (.slice none 0 0))),oq 5 (.mv (cb false))]) (some ([0,1],[2])):=rx
@[simp] theorem x92_1:RX 53 r92_1 (.str [oq 11 (.mv (tq 1)),oq 12 (.oth (.call ⟨.builtin .len,#[tq 11],#[32]⟩)),oq 13 (.fa 35 (tq 2) 3),oq 14 (.ld 32 (tq 13)),oq 15 (.oth (.call ⟨.builtin .len,#[tq 14],#[32]⟩)),oq 16 (.bin .neq 3 (tq 12) (tq 15))]) (some ([1,2],[2])):=rx
@[simp] theorem x92_2:RX 53 r92_2 (.str [oq 4 (.mv (.const (.slice none 0 0))),oq 5 (.mv (cb false))]) (some ([],[])):=rx
@[simp] theorem x92_3:RX 53 r92_3 (.str [oq 17 (.ld 35 (tq 2)),oq 18 (.call true none (.func 105) [tq 17]),oq 6 (.alloc 113),os (.sto 113 (tq 6) (tq 18))]) (some ([1,2],[2])):=rx
@[simp] theorem x92_4:RX 53 r92_4 (.str [oq 19 (.ld 113 (tq 6)),oq 20 (.buildS 134 1 [(0,tq 19)]),oq 7 (.mv (tq 20))]) (some ([1,2,6],[2,6])):=rx
@[simp] theorem x92_5:RX 53 r92_5 (.str [oq 21 (.mv (tq 1)),oq 22 (.oth (.call ⟨.builtin .len,#[tq 21],#[32]⟩)),oq 23 (.mv (ci 0))]) (some ([1,2,6,7],[2,6,50])):=rx
@[simp] theorem x92_6:RX 53 r92_6 (.str [oq 24 (.bin .lss 3 (tq 23) (tq 22))]) (some ([2,6,7,21,22,23],[2,6,50])):=rx
@[simp] theorem x92_7:RX 53 r92_7 (.str [oq 25 (.mv (tq 23)),oq 26 (.oth (.indexAddr 32 (tq 21) (tq 23))),oq 27 (.ld 96 (tq 26)),oq 9 (.alloc 96),oq 8 (.mv (tq 25)),os (.sto 96 (tq 9) (tq 27))]) (some ([2,6,7,21,22,23],[2,6,50])):=rx
@[simp] theorem x92_8:RX 53 r92_8 (.drw [⟨[],[oq 28 (.ld 35 (tq 2)),oq 29 (.fa 35 (tq 2) 3),oq 30 (.ld 32 (tq 29)),oq 31 (.mv (tq 8)),oq 32 (.oth (.indexAddr 32 (tq 30) (tq 31))),oq 33 (.ld 96 (tq 32)),oq 34 (.ld 96 (tq 9))],[oq 35 (.call false none (.func 110) [tq 28,tq 33,tq 34])]⟩,⟨[],[oq 36 (.oth (.unOp .not 4 (tq 35)))],[]⟩]) (some ([2,6,7,8,9,21,22,23],[2,6,9,50])):=rx
@[simp] theorem x92_9:RX 53 r92_9 (.str [oq 4 (.mv (.const (.slice none 0 0))),oq 5 (.mv (cb false))]) (some ([],[])):=rx
@[simp] theorem x92_10:RX 53 r92_10 (.str [oq 10 (.mv (cb false))]) (some ([2,6,7,8,9,21,22,23],[2,6,9,50])):=rx
@[simp] theorem x92_11:RX 53 r92_11 (.str [oq 38 (.ld 35 (tq 2)),oq 39 (.ld 113 (tq 6)),oq 40 (.mv (tq 8)),oq 41 (.ld 96 (tq 9)),oq 42 (.call false none (.func 104) [tq 38,tq 39,tq 40,tq 41]),oq 37 (.mv (tq 42)),oq 43 (.oth (.extract (tq 37) 0)),oq 44 (.oth (.extract (tq 37) 1)),os (.sto 113 (tq 6) (tq 43)),oq 10 (.mv (tq 44))]) (some ([2,6,7,8,9,21,22,23],[2,6,9,50])):=rx
@[simp] theorem x92_12:RX 53 r92_12 (.str [oq 45 (.mv (tq 10)),oq 46 (.oth (.unOp .not 4 (tq 45)))]) (some ([2,6,7,10,21,22,23],[2,6,50])):=rx
@[simp] theorem x92_13:RX 53 r92_13 (.str [oq 4 (.mv (.const (.slice none 0 0))),oq 5 (.mv (cb false))]) (some ([],[])):=rx
@[simp] theorem x92_14:RX 53 r92_14 (.str [oq 47 (.mv (tq 7)),oq 48 (.ld 113 (tq 6)),oq 49 (.buildS 134 1 [(0,tq 48)]),oq 50 (.app [tq 47,tq 49] [134,134]),oq 7 (.mv (tq 50))]) (some ([2,6,7,21,22,23],[2,6,50])):=rx
@[simp] theorem x92_15:RX 53 r92_15 (.str [oq 51 (.bin .add 3 (tq 23) (ci 1)),oq 23 (.mv (tq 51))]) (some ([2,6,7,21,22,23],[2,6,50])):=rx
@[simp] theorem x92_16:RX 53 r92_16 (.str [oq 52 (.mv (tq 7)),oq 4 (.mv (tq 52)),oq 5 (.mv (cb true))]) (some ([7],[50])):=rx
@[simp] theorem l92_6:ann 53 (fstR lb92_6) = some ([2,6,7,21,22,23],[2,6,50]):=by kernel_rfl
def r53_0:=rg Try.f53 2
def r53_1:=rg Try.f53 9
def r53_2:=rg Try.f53 37
def r53_3:=rg Try.f53 11
def r53_4:=rg Try.f53 39
def r53_5:=rg Try.f53 279
def r53_6:=rg Try.f53 4503
def r53_7:=rg Try.f53 6551
def r53_8:=rg Try.f53 1943
def r53_9:=rg Try.f53 47
def lb53_5:Code:=(.seq r53_5 (.seq (.cond (.tmp 21) .skip (.exit 0)) (.seq (.block 1 (.seq r53_6 r53_7)) r53_8)))
@[simp] theorem u53_5 (n:Nat) (st:XS):execA Try.prog ann kn n 34 lb53_5 st = execA Try.prog ann kn n 34 (.seq r53_5 (.seq (.cond (.tmp 21) .skip (.exit 0)) (.seq (.block 1 (.seq r53_6 r53_7)) r53_8))) st:=rfl
def c53:Code:=(.seq r53_0 (.seq (.seq r53_1 (.cond (.tmp 11) (.seq r53_2 .ret) .skip)) (.seq r53_3 (.seq (.seq r53_4 (.block 0 (.loop lb53_5))) (.seq r53_9 .ret)))))
theorem b53:Try.f53.body = some c53:=by kernel_rfl
@[simp] theorem x53_0:RX 34 r53_0 (.str [oq 2 (.box (tq 0)),oq 4 (.mv (cb false))]) (some ([0,1],[2,15])):=rx
@[simp] theorem x53_1:RX 34 r53_1 (.str [oq 9 (.ld 35 (tq 2)),oq 10 (.call false none (.func 55) [tq 9]),oq 11 (.bin .neq 29 (tq 10) (ci 0))]) (some ([1,2],[2,15])):=rx
@[simp] theorem x53_2:RX 34 r53_2 (.str [oq 4 (.mv (cb false))]) (some ([],[])):=rx
@[simp] theorem x53_3:RX 34 r53_3 (.str [oq 13 (.ld 35 (tq 2)),oq 14 (.mv (tq 1)),oq 15 (.call false none (.func 92) [tq 13,tq 14]),oq 12 (.mv (tq 15)),oq 16 (.oth (.extract (tq 12) 0)),oq 17 (.oth (.extract (tq 12) 1)),oq 5 (.mv (tq 16)),oq 6 (.mv (tq 17))]) (some ([1,2],[2,15])):=rx
@[simp] theorem x53_4:RX 34 r53_4 (.str [oq 18 (.mv (tq 5)),oq 19 (.oth (.call ⟨.builtin .len,#[tq 18],#[134]⟩)),oq 20 (.mv (ci 0))]) (some ([2,5,6],[2,15])):=rx
@[simp] theorem x53_5:RX 34 r53_5 (.str [oq 21 (.bin .lss 3 (tq 20) (tq 19))]) (some ([2,6,18,19,20],[2,15])):=rx
@[simp] theorem x53_6:RX 34 r53_6 (.str [oq 22 (.mv (tq 20)),oq 23 (.oth (.indexAddr 134 (tq 18) (tq 20))),oq 24 (.ld 113 (tq 23)),oq 8 (.alloc 113),oq 7 (.mv (tq 22)),os (.sto 113 (tq 8) (tq 24))]) (some ([2,6,18,19,20],[2,15])):=rx
@[simp] theorem x53_7:RX 34 r53_7 (.str [oq 25 (.mv (tq 6)),oq 26 (.mv (tq 25)),og 26 true 27 (.ld 35 (tq 2)),og 26 true 28 (.ld 113 (tq 8)),og 26 true 29 (.mv (tq 7)),og 26 true 30 (.call false none (.func 93) [tq 27,tq 28,tq 29]),oq 31 (.pick (tq 26) (tq 30) (cb false)),oq 6 (.mv (tq 31))]) (some ([2,6,7,8,18,19,20],[2,8,15])):=rx
@[simp] theorem x53_8:RX 34 r53_8 (.str [oq 32 (.bin .add 3 (tq 20) (ci 1)),oq 20 (.mv (tq 32))]) (some ([2,6,18,19,20],[2,15])):=rx
@[simp] theorem x53_9:RX 34 r53_9 (.str [oq 33 (.mv (tq 6)),oq 4 (.mv (tq 33))]) (some ([6],[])):=rx
@[simp] theorem l53_5:ann 34 (fstR lb53_5) = some ([2,6,18,19,20],[2,15]):=by kernel_rfl
def r54_0:=rg Try.f54 2
def r54_1:=rg Try.f54 9
def r54_2:=rg Try.f54 21
def r54_3:=rg Try.f54 77
def r54_4:=rg Try.f54 11
def r54_5:=rg Try.f54 39
def r54_6:=rg Try.f54 151
def r54_7:=rg Try.f54 79
def r54_8:=rg Try.f54 559
def r54_9:=rg Try.f54 9007
def r54_10:=rg Try.f54 13103
def r54_11:=rg Try.f54 3887
def r54_12:=rg Try.f54 95
def lb54_8:Code:=(.seq r54_8 (.seq (.cond (.tmp 28) .skip (.exit 0)) (.seq (.block 1 (.seq r54_9 r54_10)) r54_11)))
@[simp] theorem u54_8 (n:Nat) (st:XS):execA Try.prog ann kn n 41 lb54_8 st = execA Try.prog ann kn n 41 (.seq r54_8 (.seq (.cond (.tmp 28) .skip (.exit 0)) (.seq (.block 1 (.seq r54_9 r54_10)) r54_11))) st:=rfl
def c54:Code:=(.seq r54_0 (.seq (.seq r54_1 (.seq r54_2 (.cond (.tmp 15) (.seq r54_3 .ret) .skip))) (.seq r54_4 (.seq (.seq r54_5 (.cond (.tmp 24) (.seq r54_6 .ret) .skip)) (.seq (.seq r54_7 (.block 0 (.loop lb54_8))) (.seq r54_12 .ret))))))
theorem b54:Try.f54.body = some c54:=by kernel_rfl
@[simp] theorem x54_0:RX 41 r54_0 (.str [oq 2 (.box (tq 0)),oq 4 (.mv (.const (.slice none 0 0))),oq 5 (.mv (ci 0)),oq 6 (.mv (ci 0))]) (some ([0,1],[2,20])):=rx
@[simp] theorem x54_1:RX 41 r54_1 (.str [oq 12 (.ld 35 (tq 2)),oq 13 (.call false none (.func 55) [tq 12]),oq 7 (.mv (tq 13))]) (some ([1,2,4,5],[2,20,35])):=rx
@[simp] theorem x54_2:RX 41 r54_2 (.str [oq 14 (.mv (tq 7)),oq 15 (.bin .neq 29 (tq 14) (ci 0))]) (some ([1,2,4,5,7],[2,20,35])):=rx
@[simp] theorem x54_3:RX 41 r54_3 (.str [oq 16 (.mv (tq 7)),oq 4 (.mv (.const (.slice none 0 0))),oq 5 (.mv (ci 0)),oq 6 (.mv (tq 16))]) (some ([7],[])):=rx
@[simp] theorem x54_4:RX 41 r54_4 (.str [oq 18 (.ld 35 (tq 2)),oq 19 (.mv (tq 1)),oq 20 (.call false none (.func 92) [tq 18,tq 19]),oq 17 (.mv (tq 20)),oq 21 (.oth (.extract (tq 17) 0)),oq 22 (.oth (.extract (tq 17) 1)),oq 8 (.mv (tq 21)),oq 9 (.mv (tq 22))]) (some ([1,2,4,5],[2,20,35])):=rx
@[simp] theorem x54_5:RX 41 r54_5 (.str [oq 23 (.mv (tq 9)),oq 24 (.oth (.unOp .not 4 (tq 23)))]) (some ([4,5,8,9],[2,20,35])):=rx
@[simp] theorem x54_6:RX 41 r54_6 (.str [oq 4 (.mv (.const (.slice none 0 0))),oq 5 (.mv (ci 0)),oq 6 (.mv (ci 2))]) (some ([],[])):=rx
@[simp] theorem x54_7:RX 41 r54_7 (.str [oq 25 (.mv (tq 8)),oq 26 (.oth (.call ⟨.builtin .len,#[tq 25],#[134]⟩)),oq 27 (.mv (ci 0))]) (some ([4,5,8],[2,20,35])):=rx
@[simp] theorem x54_8:RX 41 r54_8 (.str [oq 28 (.bin .lss 3 (tq 27) (tq 26))]) (some ([4,5,25,26,27],[2,20,35])):=rx
@[simp] theorem x54_9:RX 41 r54_9 (.str [oq 29 (.oth (.indexAddr 134 (tq 25) (tq 27))),oq 30 (.ld 113 (tq 29)),oq 11 (.alloc 113),os (.sto 113 (tq 11) (tq 30))]) (some ([4,25,26,27],[2,20,35])):=rx
@[simp] theorem x54_10:RX 41 r54_10 (.drw [⟨[],[oq 31 (.mv (tq 4)),oq 32 (.fa 113 (tq 11) 2),oq 33 (.ld 3 (tq 32)),oq 34 (.buildS 28 1 [(0,tq 33)]),oq 36 (.fa 113 (tq 11) 3),oq 37 (.ld 3 (tq 36)),oq 35 (.app [tq 31,tq 34] [28,28]),oq 4 (.mv (tq 35)),oq 5 (.mv (tq 37))],[]⟩]) (some ([4,11,25,26,27],[2,11,20,35])):=rx
@[simp] theorem x54_11:RX 41 r54_11 (.str [oq 38 (.bin .add 3 (tq 27) (ci 1)),oq 27 (.mv (tq 38))]) (some ([4,5,25,26,27],[2,20,35])):=rx
@[simp] theorem x54_12:RX 41 r54_12 (.str [oq 39 (.mv (tq 4)),oq 40 (.mv (tq 5)),oq 4 (.mv (tq 39)),oq 5 (.mv (tq 40)),oq 6 (.mv (ci 0))]) (some ([4,5],[35])):=rx
@[simp] theorem l54_8:ann 41 (fstR lb54_8) = some ([4,5,25,26,27],[2,20,35]):=by kernel_rfl
def r63_0:=rg Try.f63 2
def r63_1:=rg Try.f63 5
def r63_2:=rg Try.f63 19
def r63_3:=rg Try.f63 267
def r63_5:=rg Try.f63 1099
def r63_6:=rg Try.f63 4683
def r63_7:=rg Try.f63 10827
def r63_8:=rg Try.f63 23115
def r63_4:=rg Try.f63 459
def r63_9:=rg Try.f63 23
def lb63_3:Code:=(.seq (.seq r63_3 (.cond (.tmp 11) .skip (.exit 0))) (.seq (.block 1 (.seq r63_5 (.cond (.tmp 20) (.seq r63_6 (.seq r63_7 (.cond (.tmp 26) r63_8 .skip))) .skip))) r63_4))
@[simp] theorem u63_3 (n:Nat) (st:XS):execA Try.prog ann kn n 29 lb63_3 st = execA Try.prog ann kn n 29 (.seq (.seq r63_3 (.cond (.tmp 11) .skip (.exit 0))) (.seq (.block 1 (.seq r63_5 (.cond (.tmp 20) (.seq r63_6 (.seq r63_7 (.cond (.tmp 26) r63_8 .skip))) .skip))) r63_4)) st:=rfl
def c63:Code:=(.seq r63_0 (.seq r63_1 (.seq (.seq r63_2 (.block 0 (.loop lb63_3))) (.seq r63_9 .ret))))
theorem b63:Try.f63.body = some c63:=by kernel_rfl
@[simp] theorem x63_0:RX 29 r63_0 (.str [oq 6 (.mv (ci 0))]) (some ([0,1,2],[])):=rx
@[simp] theorem x63_1:RX 29 r63_1 (.str [oq 7 (.mv (.const (.int .i64 (Int.negSucc 0))))]) (some ([0,1,2],[])):=rx
@[simp] theorem x63_2:RX 29 r63_2 (.str [oq 8 (.mv (ci 0))]) (some ([0,1,2,7],[])):=rx
@[simp] theorem x63_3:RX 29 r63_3 (.str [oq 9 (.mv (tq 8)),oq 10 (.mv (tq 1)),oq 11 (.bin .lss 3 (tq 9) (tq 10))]) (some ([0,1,2,7,8],[])):=rx
@[simp] theorem x63_5:RX 29 r63_5 (.str [oq 14 (.mv (tq 0)),oq 15 (.mv (tq 8)),oq 16 (.oth (.indexAddr 22 (tq 14) (tq 15))),oq 17 (.fa 75 (tq 16) 1),oq 18 (.ld 3 (tq 17)),oq 19 (.mv (tq 2)),oq 20 (.bin .eql 3 (tq 18) (tq 19))]) (some ([0,1,2,7,8],[])):=rx
@[simp] theorem x63_6:RX 29 r63_6 (.str [oq 7 (.mv (.const (.int .i64 (Int.negSucc 0))))]) (some ([0,1,2,8],[])):=rx
@[simp] theorem x63_7:RX 29 r63_7 (.str [oq 21 (.mv (tq 0)),oq 22 (.mv (tq 8)),oq 23 (.oth (.indexAddr 22 (tq 21) (tq 22))),oq 24 (.fa 75 (tq 23) 0),oq 25 (.ld 3 (tq 24)),oq 26 (.bin .eql 3 (tq 25) (ci 1))]) (some ([0,1,2,7,8],[])):=rx
@[simp] theorem x63_8:RX 29 r63_8 (.str [oq 27 (.mv (tq 8)),oq 7 (.mv (tq 27))]) (some ([0,1,2,8],[])):=rx
@[simp] theorem x63_4:RX 29 r63_4 (.str [oq 12 (.mv (tq 8)),oq 13 (.bin .add 3 (tq 12) (ci 1)),oq 8 (.mv (tq 13))]) (some ([0,1,2,7,8],[])):=rx
@[simp] theorem x63_9:RX 29 r63_9 (.str [oq 28 (.mv (tq 7)),oq 6 (.mv (tq 28))]) (some ([7],[])):=rx
@[simp] theorem l63_3:ann 29 (fstR lb63_3) = some ([0,1,2,7,8],[]):=by kernel_rfl
def r64_0:=rg Try.f64 2
def r64_1:=rg Try.f64 5
def r64_2:=rg Try.f64 19
def r64_3:=rg Try.f64 267
def r64_5:=rg Try.f64 1099
def r64_6:=rg Try.f64 4683
def r64_7:=rg Try.f64 10827
def r64_8:=rg Try.f64 23115
def r64_4:=rg Try.f64 459
def r64_9:=rg Try.f64 23
def lb64_3:Code:=(.seq (.seq r64_3 (.cond (.tmp 11) .skip (.exit 0))) (.seq (.block 1 (.seq r64_5 (.cond (.tmp 20) (.seq r64_6 (.seq r64_7 (.cond (.tmp 26) r64_8 .skip))) .skip))) r64_4))
@[simp] theorem u64_3 (n:Nat) (st:XS):execA Try.prog ann kn n 29 lb64_3 st = execA Try.prog ann kn n 29 (.seq (.seq r64_3 (.cond (.tmp 11) .skip (.exit 0))) (.seq (.block 1 (.seq r64_5 (.cond (.tmp 20) (.seq r64_6 (.seq r64_7 (.cond (.tmp 26) r64_8 .skip))) .skip))) r64_4)) st:=rfl
def c64:Code:=(.seq r64_0 (.seq r64_1 (.seq (.seq r64_2 (.block 0 (.loop lb64_3))) (.seq r64_9 .ret))))
theorem b64:Try.f64.body = some c64:=by kernel_rfl
@[simp] theorem x64_0:RX 29 r64_0 (.str [oq 6 (.mv (ci 0))]) (some ([0,1,2],[])):=rx
@[simp] theorem x64_1:RX 29 r64_1 (.str [oq 7 (.mv (.const (.int .i64 (Int.negSucc 0))))]) (some ([0,1,2],[])):=rx
@[simp] theorem x64_2:RX 29 r64_2 (.str [oq 8 (.mv (ci 0))]) (some ([0,1,2,7],[])):=rx
@[simp] theorem x64_3:RX 29 r64_3 (.str [oq 9 (.mv (tq 8)),oq 10 (.mv (tq 1)),oq 11 (.bin .lss 3 (tq 9) (tq 10))]) (some ([0,1,2,7,8],[])):=rx
@[simp] theorem x64_5:RX 29 r64_5 (.str [oq 14 (.mv (tq 0)),oq 15 (.mv (tq 8)),oq 16 (.oth (.indexAddr 22 (tq 14) (tq 15))),oq 17 (.fa 75 (tq 16) 2),oq 18 (.ld 3 (tq 17)),oq 19 (.mv (tq 2)),oq 20 (.bin .eql 3 (tq 18) (tq 19))]) (some ([0,1,2,7,8],[])):=rx
@[simp] theorem x64_6:RX 29 r64_6 (.str [oq 7 (.mv (.const (.int .i64 (Int.negSucc 0))))]) (some ([0,1,2,8],[])):=rx
@[simp] theorem x64_7:RX 29 r64_7 (.str [oq 21 (.mv (tq 0)),oq 22 (.mv (tq 8)),oq 23 (.oth (.indexAddr 22 (tq 21) (tq 22))),oq 24 (.fa 75 (tq 23) 0),oq 25 (.ld 3 (tq 24)),oq 26 (.bin .eql 3 (tq 25) (ci 1))]) (some ([0,1,2,7,8],[])):=rx
@[simp] theorem x64_8:RX 29 r64_8 (.str [oq 27 (.mv (tq 8)),oq 7 (.mv (tq 27))]) (some ([0,1,2,8],[])):=rx
@[simp] theorem x64_4:RX 29 r64_4 (.str [oq 12 (.mv (tq 8)),oq 13 (.bin .add 3 (tq 12) (ci 1)),oq 8 (.mv (tq 13))]) (some ([0,1,2,7,8],[])):=rx
@[simp] theorem x64_9:RX 29 r64_9 (.str [oq 28 (.mv (tq 7)),oq 6 (.mv (tq 28))]) (some ([7],[])):=rx
@[simp] theorem l64_3:ann 29 (fstR lb64_3) = some ([0,1,2,7,8],[]):=by kernel_rfl
def r44_0:=rg Try.f44 2
def r44_1:=rg Try.f44 5
def r44_2:=rg Try.f44 19
def r44_3:=rg Try.f44 267
def r44_5:=rg Try.f44 1099
def r44_6:=rg Try.f44 2635
def r44_7:=rg Try.f44 3659
def r44_4:=rg Try.f44 459
def r44_8:=rg Try.f44 23
def lb44_3:Code:=(.seq (.seq r44_3 (.cond (.tmp 13) .skip (.exit 0))) (.seq (.block 1 (.seq r44_5 (.cond (.tmp 21) r44_6 r44_7))) r44_4))
@[simp] theorem u44_3 (n:Nat) (st:XS):execA Try.prog ann kn n 31 lb44_3 st = execA Try.prog ann kn n 31 (.seq (.seq r44_3 (.cond (.tmp 13) .skip (.exit 0))) (.seq (.block 1 (.seq r44_5 (.cond (.tmp 21) r44_6 r44_7))) r44_4)) st:=rfl
def c44:Code:=(.seq r44_0 (.seq r44_1 (.seq (.seq r44_2 (.block 0 (.loop lb44_3))) (.seq r44_8 .ret))))
theorem b44:Try.f44.body = some c44:=by kernel_rfl
@[simp] theorem x44_0:RX 31 r44_0 (.str [oq 3 (.box (tq 0)),oq 6 (.mv (ci 0))]) (some ([0,1,2],[3])):=rx
@[simp] theorem x44_1:RX 31 r44_1 (.str [oq 9 (.fa 25 (tq 3) 2),oq 10 (.ld 3 (tq 9)),oq 7 (.mv (tq 10))]) (some ([1,2,3],[3])):=rx
@[simp] theorem x44_2:RX 31 r44_2 (.str [oq 8 (.mv (ci 0))]) (some ([1,2,3,7],[3])):=rx
@[simp] theorem x44_3:RX 31 r44_3 (.str [oq 11 (.mv (tq 8)),oq 12 (.mv (tq 2)),oq 13 (.bin .lss 3 (tq 11) (tq 12))]) (some ([1,2,3,4,7,8],[3])):=rx
@[simp] theorem x44_5:RX 31 r44_5 (.str [oq 16 (.mv (tq 1)),oq 17 (.mv (tq 8)),oq 18 (.oth (.indexAddr 22 (tq 16) (tq 17))),oq 19 (.fa 75 (tq 18) 0),oq 20 (.ld 3 (tq 19)),oq 21 (.bin .eql 3 (tq 20) (ci 1))]) (some ([1,2,3,7,8],[3])):=rx
@[simp] theorem x44_6:RX 31 r44_6 (.str [oq 22 (.mv (tq 7)),oq 23 (.fa 25 (tq 3) 1),oq 24 (.ld 3 (tq 23)),oq 25 (.bin .add 3 (tq 22) (tq 24)),oq 7 (.mv (tq 25))]) (some ([1,2,3,7,8],[3])):=rx
@[simp] theorem x44_7:RX 31 r44_7 (.str [oq 26 (.mv (tq 7)),oq 27 (.fa 25 (tq 3) 1),oq 28 (.ld 3 (tq 27)),oq 29 (.bin .sub 3 (tq 26) (tq 28)),oq 7 (.mv (tq 29))]) (some ([1,2,3,7,8],[3])):=rx
@[simp] theorem x44_4:RX 31 r44_4 (.str [oq 14 (.mv (tq 8)),oq 15 (.bin .add 3 (tq 14) (ci 1)),oq 8 (.mv (tq 15))]) (some ([1,2,3,7,8],[3])):=rx
@[simp] theorem x44_8:RX 31 r44_8 (.str [oq 30 (.mv (tq 7)),oq 6 (.mv (tq 30))]) (some ([7],[])):=rx
@[simp] theorem l44_3:ann 31 (fstR lb44_3) = some ([1,2,3,4,7,8],[3]):=by kernel_rfl
def r45_0:=rg Try.f45 2
def r45_1:=rg Try.f45 5
def r45_2:=rg Try.f45 19
def r45_3:=rg Try.f45 267
def r45_5:=rg Try.f45 1099
def r45_6:=rg Try.f45 2635
def r45_7:=rg Try.f45 5707
def r45_4:=rg Try.f45 459
def r45_8:=rg Try.f45 23
def lb45_3:Code:=(.seq (.seq r45_3 (.cond (.tmp 9) .skip (.exit 0))) (.seq (.block 1 (.seq r45_5 (.seq r45_6 (.cond (.tmp 31) r45_7 .skip)))) r45_4))
@[simp] theorem u45_3 (n:Nat) (st:XS):execA Try.prog ann kn n 35 lb45_3 st = execA Try.prog ann kn n 35 (.seq (.seq r45_3 (.cond (.tmp 9) .skip (.exit 0))) (.seq (.block 1 (.seq r45_5 (.seq r45_6 (.cond (.tmp 31) r45_7 .skip)))) r45_4)) st:=rfl
def c45:Code:=(.seq r45_0 (.seq r45_1 (.seq (.seq r45_2 (.block 0 (.loop lb45_3))) (.seq r45_8 .ret))))
@[simp] theorem x45_0:RX 35 r45_0 (.str [oq 2 (.mv (ci 0))]) (some ([0],[])):=rx
@[simp] theorem x45_1:RX 35 r45_1 (.str [oq 3 (.mv (ci 0))]) (some ([0],[])):=rx
@[simp] theorem x45_2:RX 35 r45_2 (.str [oq 4 (.mv (ci 0))]) (some ([0,3],[])):=rx
@[simp] theorem x45_3:RX 35 r45_3 (.str [oq 6 (.mv (tq 4)),oq 7 (.mv (tq 0)),oq 8 (.oth (.call ⟨.builtin .len,#[tq 7],#[22]⟩)),oq 9 (.bin .lss 3 (tq 6) (tq 8))]) (some ([0,3,4],[])):=rx
@[simp] theorem x45_5:RX 35 r45_5 (.str [oq 12 (.mv (tq 0)),oq 13 (.mv (tq 4)),oq 14 (.oth (.indexAddr 22 (tq 12) (tq 13))),oq 15 (.ld 75 (tq 14)),oq 5 (.alloc 75),os (.sto 75 (tq 5) (tq 15))]) (some ([0,3,4],[])):=rx
@[simp] theorem x45_6:RX 35 r45_6 (.drw [⟨[],[oq 16 (.fa 75 (tq 5) 0),oq 17 (.ld 3 (tq 16)),oq 18 (.bin .eql 3 (tq 17) (ci 2)),oq 19 (.mv (tq 18)),og 19 true 20 (.mv (tq 0)),og 19 true 21 (.mv (tq 4)),og 19 true 22 (.fa 75 (tq 5) 1),og 19 true 23 (.ld 3 (tq 22)),og 19 true 24 (.call false none (.func 63) [tq 20,tq 21,tq 23]),og 19 true 25 (.mv (tq 0)),og 19 true 26 (.mv (tq 4)),og 19 true 27 (.fa 75 (tq 5) 2),og 19 true 28 (.ld 3 (tq 27))],[og 19 true 29 (.call false none (.func 64) [tq 25,tq 26,tq 28])]⟩,⟨[],[og 19 true 30 (.bin .neq 3 (tq 24) (tq 29)),oq 31 (.pick (tq 19) (tq 30) (cb false))],[]⟩]) (some ([0,3,4,5],[5])):=rx
@[simp] theorem x45_7:RX 35 r45_7 (.str [oq 32 (.mv (tq 3)),oq 33 (.bin .add 3 (tq 32) (ci 1)),oq 3 (.mv (tq 33))]) (some ([0,3,4],[])):=rx
@[simp] theorem x45_4:RX 35 r45_4 (.str [oq 10 (.mv (tq 4)),oq 11 (.bin .add 3 (tq 10) (ci 1)),oq 4 (.mv (tq 11))]) (some ([0,3,4],[])):=rx
@[simp] theorem x45_8:RX 35 r45_8 (.str [oq 34 (.mv (tq 3)),oq 2 (.mv (tq 34))]) (some ([3],[])):=rx
@[simp] theorem l45_3:ann 35 (fstR lb45_3) = some ([0,3,4],[]):=by kernel_rfl
def r57_0:=rg Try.f57 2
def r57_1:=rg Try.f57 9
def r57_2:=rg Try.f57 37
def r57_3:=rg Try.f57 19
def r57_4:=rg Try.f57 267
def r57_6:=rg Try.f57 1099
def r57_7:=rg Try.f57 2635
def r57_8:=rg Try.f57 9803
def r57_5:=rg Try.f57 459
def r57_9:=rg Try.f57 23
def lb57_4:Code:=(.seq (.seq r57_4 (.cond (.tmp 16) .skip (.exit 0))) (.seq (.block 1 (.seq r57_6 (.seq r57_7 (.cond (.tmp 54) (.seq r57_8 .ret) .skip)))) r57_5))
@[simp] theorem u57_4 (n:Nat) (st:XS):execA Try.prog ann kn n 55 lb57_4 st = execA Try.prog ann kn n 55 (.seq (.seq r57_4 (.cond (.tmp 16) .skip (.exit 0))) (.seq (.block 1 (.seq r57_6 (.seq r57_7 (.cond (.tmp 54) (.seq r57_8 .ret) .skip)))) r57_5)) st:=rfl
def c57:Code:=(.seq r57_0 (.seq (.seq r57_1 (.cond (.tmp 12) (.seq r57_2 .ret) .skip)) (.seq (.seq r57_3 (.block 0 (.loop lb57_4))) (.seq r57_9 .ret))))
@[simp] theorem x57_0:RX 55 r57_0 (.str [oq 2 (.box (tq 0)),oq 4 (.mv (cb false))]) (some ([0,1],[2])):=rx
@[simp] theorem x57_1:RX 55 r57_1 (.str [oq 7 (.mv (tq 1)),oq 8 (.oth (.call ⟨.builtin .len,#[tq 7],#[22]⟩)),oq 9 (.fa 25 (tq 2) 3),oq 10 (.ld 22 (tq 9)),oq 11 (.oth (.call ⟨.builtin .len,#[tq 10],#[22]⟩)),oq 12 (.bin .neq 3 (tq 8) (tq 11))]) (some ([1,2],[2])):=rx
@[simp] theorem x57_2:RX 55 r57_2 (.str [oq 4 (.mv (cb false))]) (some ([],[])):=rx
@[simp] theorem x57_3:RX 55 r57_3 (.str [oq 5 (.mv (ci 0))]) (some ([1,2],[2])):=rx
@[simp] theorem x57_4:RX 55 r57_4 (.str [oq 13 (.mv (tq 5)),oq 14 (.mv (tq 1)),oq 15 (.oth (.call ⟨.builtin .len,#[tq 14],#[22]⟩)),oq 16 (.bin .lss 3 (tq 13) (tq 15))]) (some ([1,2,5],[2])):=rx
@[simp] theorem x57_6:RX 55 r57_6 (.str [oq 19 (.mv (tq 1)),oq 20 (.mv (tq 5)),oq 21 (.oth (.indexAddr 22 (tq 19) (tq 20))),oq 22 (.ld 75 (tq 21)),oq 6 (.alloc 75),os (.sto 75 (tq 6) (tq 22))]) (some ([1,2,5],[2])):=rx
@[simp] theorem x57_7:RX 55 r57_7 (.drw [⟨[],[oq 23 (.fa 75 (tq 6) 0),oq 24 (.ld 3 (tq 23))],[oq 25 (.call false none (.func 25) [tq 24,ci 1,ci 2])]⟩,⟨[],[oq 26 (.oth (.unOp .not 4 (tq 25))),oq 27 (.mv (tq 26)),og 27 false 28 (.fa 75 (tq 6) 1),og 27 false 29 (.ld 3 (tq 28)),og 27 false 30 (.fa 25 (tq 2) 0),og 27 false 31 (.ld 3 (tq 30)),og 27 false 32 (.bin .sub 3 (tq 31) (ci 1))],[og 27 false 33 (.call false none (.func 25) [tq 29,ci 0,tq 32])]⟩,⟨[],[og 27 false 34 (.oth (.unOp .not 4 (tq 33))),oq 35 (.pick (tq 27) (cb true) (tq 34)),oq 36 (.mv (tq 35)),og 36 false 37 (.fa 75 (tq 6) 2),og 36 false 38 (.ld 3 (tq 37)),og 36 false 39 (.fa 25 (tq 2) 0),og 36 false 40 (.ld 3 (tq 39)),og 36 false 41 (.bin .sub 3 (tq 40) (ci 1))],[og 36 false 42 (.call false none (.func 25) [tq 38,ci 0,tq 41])]⟩,⟨[],[og 36 false 43 (.oth (.unOp .not 4 (tq 42))),oq 44 (.pick (tq 36) (cb true) (tq 43)),oq 45 (.mv (tq 44)),og 45 false 46 (.fa 25 (tq 2) 3),og 45 false 47 (.ld 22 (tq 46)),og 45 false 48 (.mv (tq 5)),og 45 false 49 (.oth (.indexAddr 22 (tq 47) (tq 48))),og 45 false 50 (.ld 75 (tq 49)),og 45 false 51 (.ld 75 (tq 6))],[og 45 false 52 (.call false none (.func 99) [tq 50,tq 51])]⟩,⟨[],[og 45 false 53 (.oth (.unOp .not 4 (tq 52))),oq 54 (.pick (tq 45) (cb true) (tq 53))],[]⟩]) (some ([1,2,5,6],[2,6])):=rx
@[simp] theorem x57_8:RX 55 r57_8 (.str [oq 4 (.mv (cb false))]) (some ([],[])):=rx
@[simp] theorem x57_5:RX 55 r57_5 (.str [oq 17 (.mv (tq 5)),oq 18 (.bin .add 3 (tq 17) (ci 1)),oq 5 (.mv (tq 18))]) (some ([1,2,5],[2])):=rx
@[simp] theorem x57_9:RX 55 r57_9 (.str [oq 4 (.mv (cb true))]) (some ([],[])):=rx
@[simp] theorem l57_4:ann 55 (fstR lb57_4) = some ([1,2,5],[2]):=by kernel_rfl
def r58_0:=rg Try.f58 2
def r58_1:=rg Try.f58 9
def r58_2:=rg Try.f58 133
def r58_4:=rg Try.f58 549
def r58_5:=rg Try.f58 1317
def r58_6:=rg Try.f58 2853
def r58_7:=rg Try.f58 10021
def r58_3:=rg Try.f58 229
def r58_8:=rg Try.f58 11
def lb58_2:Code:=(.seq (.seq r58_2 (.cond (.tmp 10) .skip (.exit 0))) (.seq (.block 1 (.seq r58_4 (.seq r58_5 (.seq r58_6 (.cond (.tmp 44) (.seq r58_7 .ret) .skip))))) r58_3))
@[simp] theorem u58_2 (n:Nat) (st:XS):execA Try.prog ann kn n 45 lb58_2 st = execA Try.prog ann kn n 45 (.seq (.seq r58_2 (.cond (.tmp 10) .skip (.exit 0))) (.seq (.block 1 (.seq r58_4 (.seq r58_5 (.seq r58_6 (.cond (.tmp 44) (.seq r58_7 .ret) .skip))))) r58_3)) st:=rfl
def c58:Code:=(.seq r58_0 (.seq (.seq r58_1 (.block 0 (.loop lb58_2))) (.seq r58_8 .ret)))
theorem b58:Try.f58.body = some c58:=by kernel_rfl
@[simp] theorem x58_0:RX 45 r58_0 (.str [oq 2 (.mv (cb false))]) (some ([0],[])):=rx
@[simp] theorem x58_1:RX 45 r58_1 (.str [oq 3 (.mv (ci 0))]) (some ([0],[])):=rx
@[simp] theorem x58_2:RX 45 r58_2 (.str [oq 7 (.mv (tq 3)),oq 8 (.mv (tq 0)),oq 9 (.oth (.call ⟨.builtin .len,#[tq 8],#[22]⟩)),oq 10 (.bin .lss 3 (tq 7) (tq 9))]) (some ([0,3],[])):=rx
@[simp] theorem x58_4:RX 45 r58_4 (.drw [⟨[],[oq 13 (.mv (tq 0)),oq 14 (.mv (tq 3)),oq 15 (.mv (tq 0)),oq 16 (.mv (tq 3)),oq 17 (.oth (.indexAddr 22 (tq 15) (tq 16))),oq 18 (.fa 75 (tq 17) 1),oq 19 (.ld 3 (tq 18)),oq 20 (.call false none (.func 63) [tq 13,tq 14,tq 19]),oq 21 (.bin .geq 3 (tq 20) (ci 0)),oq 22 (.mv (tq 0)),oq 23 (.mv (tq 3)),oq 24 (.mv (tq 0)),oq 25 (.mv (tq 3)),oq 26 (.oth (.indexAddr 22 (tq 24) (tq 25))),oq 27 (.fa 75 (tq 26) 2),oq 28 (.ld 3 (tq 27)),oq 29 (.call false none (.func 64) [tq 22,tq 23,tq 28]),oq 30 (.bin .geq 3 (tq 29) (ci 0)),oq 4 (.mv (tq 21)),oq 5 (.mv (tq 30))],[]⟩]) (some ([0,3],[])):=rx
@[simp] theorem x58_5:RX 45 r58_5 (.str [oq 31 (.mv (tq 0)),oq 32 (.mv (tq 3)),oq 33 (.oth (.indexAddr 22 (tq 31) (tq 32))),oq 34 (.fa 75 (tq 33) 0),oq 35 (.ld 3 (tq 34)),oq 36 (.bin .eql 3 (tq 35) (ci 2)),oq 6 (.mv (tq 36))]) (some ([0,3,4,5],[])):=rx
@[simp] theorem x58_6:RX 45 r58_6 (.str [oq 37 (.mv (tq 4)),oq 38 (.mv (tq 6)),oq 39 (.bin .neq 4 (tq 37) (tq 38)),oq 40 (.mv (tq 39)),og 40 false 41 (.mv (tq 5)),og 40 false 42 (.mv (tq 6)),og 40 false 43 (.bin .neq 4 (tq 41) (tq 42)),oq 44 (.pick (tq 40) (cb true) (tq 43))]) (some ([0,3,4,5,6],[])):=rx
@[simp] theorem x58_7:RX 45 r58_7 (.str [oq 2 (.mv (cb false))]) (some ([],[])):=rx
@[simp] theorem x58_3:RX 45 r58_3 (.str [oq 11 (.mv (tq 3)),oq 12 (.bin .add 3 (tq 11) (ci 1)),oq 3 (.mv (tq 12))]) (some ([0,3],[])):=rx
@[simp] theorem x58_8:RX 45 r58_8 (.str [oq 2 (.mv (cb true))]) (some ([],[])):=rx
@[simp] theorem l58_2:ann 45 (fstR lb58_2) = some ([0,3],[]):=by kernel_rfl
def r89_0:=rg Try.f89 2
def r89_1:=rg Try.f89 9
def r89_2:=rg Try.f89 133
def r89_4:=rg Try.f89 549
def r89_5:=rg Try.f89 1317
def r89_6:=rg Try.f89 4901
def r89_3:=rg Try.f89 229
def r89_7:=rg Try.f89 11
def lb89_2:Code:=(.seq (.seq r89_2 (.cond (.tmp 11) .skip (.exit 0))) (.seq (.block 1 (.seq r89_4 (.seq r89_5 (.cond (.tmp 31) (.seq r89_6 .ret) .skip)))) r89_3))
@[simp] theorem u89_2 (n:Nat) (st:XS):execA Try.prog ann kn n 32 lb89_2 st = execA Try.prog ann kn n 32 (.seq (.seq r89_2 (.cond (.tmp 11) .skip (.exit 0))) (.seq (.block 1 (.seq r89_4 (.seq r89_5 (.cond (.tmp 31) (.seq r89_6 .ret) .skip)))) r89_3)) st:=rfl
def c89:Code:=(.seq r89_0 (.seq (.seq r89_1 (.block 0 (.loop lb89_2))) (.seq r89_7 .ret)))
@[simp] theorem x89_0:RX 32 r89_0 (.str [oq 2 (.box (tq 0)),oq 4 (.mv (cb false))]) (some ([0,1],[2])):=rx
@[simp] theorem x89_1:RX 32 r89_1 (.str [oq 5 (.mv (ci 0))]) (some ([1,2],[2])):=rx
@[simp] theorem x89_2:RX 32 r89_2 (.str [oq 7 (.mv (tq 5)),oq 8 (.fa 25 (tq 2) 4),oq 9 (.ld 23 (tq 8)),oq 10 (.oth (.call ⟨.builtin .len,#[tq 9],#[23]⟩)),oq 11 (.bin .lss 3 (tq 7) (tq 10))]) (some ([1,2,5],[2])):=rx
@[simp] theorem x89_4:RX 32 r89_4 (.str [oq 14 (.fa 25 (tq 2) 4),oq 15 (.ld 23 (tq 14)),oq 16 (.mv (tq 5)),oq 17 (.oth (.indexAddr 23 (tq 15) (tq 16))),oq 18 (.ld 78 (tq 17)),oq 6 (.alloc 78),os (.sto 78 (tq 6) (tq 18))]) (some ([1,2,5],[2])):=rx
@[simp] theorem x89_5:RX 32 r89_5 (.drw [⟨[],[oq 19 (.ld 25 (tq 2)),oq 20 (.mv (tq 1)),oq 21 (.fa 78 (tq 6) 0),oq 22 (.ld 3 (tq 21)),oq 23 (.call false none (.func 44) [tq 19,tq 20,tq 22]),oq 24 (.fa 78 (tq 6) 1),oq 25 (.fa 50 (tq 24) 0),oq 26 (.ld 3 (tq 25)),oq 27 (.fa 78 (tq 6) 1),oq 28 (.fa 50 (tq 27) 1),oq 29 (.ld 3 (tq 28))],[oq 30 (.call false none (.func 25) [tq 23,tq 26,tq 29])]⟩,⟨[],[oq 31 (.oth (.unOp .not 4 (tq 30)))],[]⟩]) (some ([1,2,5,6],[2,6])):=rx
@[simp] theorem x89_6:RX 32 r89_6 (.str [oq 4 (.mv (cb false))]) (some ([],[])):=rx
@[simp] theorem x89_3:RX 32 r89_3 (.str [oq 12 (.mv (tq 5)),oq 13 (.bin .add 3 (tq 12) (ci 1)),oq 5 (.mv (tq 13))]) (some ([1,2,5],[2])):=rx
@[simp] theorem x89_7:RX 32 r89_7 (.str [oq 4 (.mv (cb true))]) (some ([],[])):=rx
@[simp] theorem l89_2:ann 32 (fstR lb89_2) = some ([1,2,5],[2]):=by kernel_rfl
def r56_0:=rg Try.f56 2
def r56_1:=rg Try.f56 5
def c56:Code:=(.seq r56_0 (.seq r56_1 .ret))
def r16_0:=rg Try.f16 2
def r16_1:=rg Try.f16 9
def r16_2:=rg Try.f16 37
def r16_3:=rg Try.f16 11
def r16_4:=rg Try.f16 23
def r16_5:=rg Try.f16 47
def r16_6:=rg Try.f16 159
def r16_7:=rg Try.f16 607
def r16_8:=rg Try.f16 319
def r16_9:=rg Try.f16 703
def r16_10:=rg Try.f16 639
def r16_11:=rg Try.f16 2431
def r16_12:=rg Try.f16 1279
def r16_13:=rg Try.f16 4863
def r16_14:=rg Try.f16 2559
def r16_15:=rg Try.f16 34303
def r16_17:=rg Try.f16 140799
def r16_18:=rg Try.f16 599551
def r16_16:=rg Try.f16 58879
def r16_19:=rg Try.f16 3071
def lb16_15:Code:=(.seq (.seq r16_15 (.cond (.tmp 100) .skip (.exit 0))) (.seq (.block 1 (.seq r16_17 (.cond (.tmp 111) (.seq r16_18 .ret) .skip))) r16_16))
@[simp] theorem u16_15 (n:Nat) (st:XS):execA Try.prog ann kn n 113 lb16_15 st = execA Try.prog ann kn n 113 (.seq (.seq r16_15 (.cond (.tmp 100) .skip (.exit 0))) (.seq (.block 1 (.seq r16_17 (.cond (.tmp 111) (.seq r16_18 .ret) .skip))) r16_16)) st:=rfl
def c16:Code:=(.seq r16_0 (.seq (.seq r16_1 (.cond (.tmp 18) (.seq r16_2 .ret) .skip)) (.seq r16_3 (.seq r16_4 (.seq r16_5 (.seq (.seq r16_6 (.cond (.tmp 51) (.seq r16_7 .ret) .skip)) (.seq (.seq r16_8 (.cond (.tmp 63) r16_9 .skip)) (.seq (.seq r16_10 (.cond (.tmp 65) (.seq r16_11 .ret) .skip)) (.seq (.seq r16_12 (.cond (.tmp 96) (.seq r16_13 .ret) .skip)) (.seq (.seq r16_14 (.block 0 (.loop lb16_15))) (.seq r16_19 .ret)))))))))))
@[simp] theorem x16_0:RX 113 r16_0 (.str [oq 2 (.box (tq 0)),oq 4 (.mv (cb false))]) (some ([0,1],[2,22,24,25,30,32,37])):=rx
@[simp] theorem x16_1:RX 113 r16_1 (.str [oq 11 (.ld 25 (tq 2)),oq 12 (.call false none (.func 19) [tq 11]),oq 13 (.oth (.unOp .not 4 (tq 12))),oq 14 (.mv (tq 13)),og 14 false 15 (.mv (tq 1)),og 14 false 16 (.oth (.call ⟨.builtin .len,#[tq 15],#[22]⟩)),og 14 false 17 (.bin .gtr 3 (tq 16) (ci 11)),oq 18 (.pick (tq 14) (cb true) (tq 17))]) (some ([1,2],[2,22,24,25,30,32,37])):=rx
@[simp] theorem x16_2:RX 113 r16_2 (.str [oq 19 (.call false none (.func 20) []),oq 4 (.mv (tq 19))]) (some ([],[])):=rx
@[simp] theorem x16_3:RX 113 r16_3 (.str [oq 21 (.ld 25 (tq 2)),oq 22 (.call false none (.func 22) [tq 21]),oq 23 (.mv (tq 1)),oq 24 (.call false none (.func 35) [tq 23]),oq 25 (.call false none (.func 54) [tq 22,tq 24]),oq 20 (.mv (tq 25)),oq 26 (.oth (.extract (tq 20) 0)),oq 27 (.oth (.extract (tq 20) 1)),oq 28 (.oth (.extract (tq 20) 2)),oq 5 (.mv (tq 26)),oq 6 (.mv (tq 27)),oq 7 (.mv (tq 28))]) (some ([1,2],[2,22,24,25,30,32,37])):=rx
@[simp] theorem x16_4:RX 113 r16_4 (.str [oq 29 (.ld 25 (tq 2)),oq 30 (.call false none (.func 22) [tq 29]),oq 31 (.mv (tq 1)),oq 32 (.call false none (.func 35) [tq 31]),oq 33 (.call false none (.func 53) [tq 30,tq 32]),oq 8 (.mv (tq 33))]) (some ([1,2,5,6,7],[2,22,24,25,30,32,37])):=rx
@[simp] theorem x16_5:RX 113 r16_5 (.str [oq 34 (.ld 25 (tq 2)),oq 35 (.call false none (.func 24) [tq 34]),oq 9 (.mv (tq 35))]) (some ([1,2,5,6,7,8],[2,22,24,25,30,32,37])):=rx
@[simp] theorem x16_6:RX 113 r16_6 (.str [oq 36 (.ld 25 (tq 2)),oq 37 (.call false none (.func 22) [tq 36]),oq 38 (.call false none (.func 55) [tq 37]),oq 39 (.mv (tq 9)),oq 40 (.bin .neq 29 (tq 38) (tq 39)),oq 41 (.mv (tq 40)),og 41 false 42 (.mv (tq 8)),og 41 false 43 (.mv (tq 9)),og 41 false 44 (.bin .eql 29 (tq 43) (ci 0)),og 41 false 45 (.mv (tq 44)),og 45 true 46 (.ld 25 (tq 2)),og 45 true 47 (.mv (tq 1)),og 45 true 48 (.call false none (.func 56) [tq 46,tq 47]),og 41 false 49 (.pick (tq 45) (tq 48) (cb false)),og 41 false 50 (.bin .neq 4 (tq 42) (tq 49)),oq 51 (.pick (tq 41) (cb true) (tq 50))]) (some ([1,2,5,6,7,8,9],[2,22,24,25,30,32,37])):=rx
@[simp] theorem x16_7:RX 113 r16_7 (.str [oq 4 (.mv (cb false))]) (some ([],[])):=rx
@[simp] theorem x16_8:RX 113 r16_8 (.str [oq 52 (.mv (tq 9)),oq 53 (.bin .eql 29 (tq 52) (ci 0)),oq 54 (.mv (tq 53)),og 54 true 55 (.ld 25 (tq 2)),og 54 true 56 (.mv (tq 1)),og 54 true 57 (.call false none (.func 57) [tq 55,tq 56]),og 54 true 58 (.mv (tq 57)),og 58 true 59 (.mv (tq 1)),og 58 true 60 (.call false none (.func 58) [tq 59]),og 54 true 61 (.pick (tq 58) (tq 60) (cb false)),og 54 true 62 (.oth (.unOp .not 4 (tq 61))),oq 63 (.pick (tq 54) (tq 62) (cb false))]) (some ([1,2,5,6,7,9],[2,22,24,25,30,32,37])):=rx
@[simp] theorem x16_9:RX 113 r16_9 (.str [oq 9 (.mv (ci 2))]) (some ([1,2,5,6,7],[2,22,24,25,30,32,37])):=rx
@[simp] theorem x16_10:RX 113 r16_10 (.str [oq 64 (.mv (tq 9)),oq 65 (.bin .neq 29 (tq 64) (ci 0))]) (some ([1,2,5,6,7,9],[2,22,24,25,30,32,37])):=rx
@[simp] theorem x16_11:RX 113 r16_11 (.str [oq 66 (.mv (tq 7)),oq 67 (.mv (tq 9)),oq 68 (.bin .eql 29 (tq 66) (tq 67)),oq 69 (.mv (tq 68)),og 69 true 70 (.mv (tq 5)),og 69 true 71 (.oth (.call ⟨.builtin .len,#[tq 70],#[28]⟩)),og 69 true 72 (.bin .eql 3 (tq 71) (ci 0)),oq 73 (.pick (tq 69) (tq 72) (cb false)),oq 74 (.mv (tq 73)),og 74 true 75 (.mv (tq 6)),og 74 true 76 (.bin .eql 3 (tq 75) (ci 0)),oq 77 (.pick (tq 74) (tq 76) (cb false)),oq 78 (.mv (tq 77)),og 78 true 79 (.call false none (.func 20) []),oq 80 (.pick (tq 78) (tq 79) (cb false)),oq 4 (.mv (tq 80))]) (some ([5,6,7,9],[2,22,24,25,30,32,37])):=rx
@[simp] theorem x16_12:RX 113 r16_12 (.str [oq 81 (.mv (tq 7)),oq 82 (.bin .neq 29 (tq 81) (ci 0)),oq 83 (.mv (tq 82)),og 83 false 84 (.mv (tq 6)),og 83 false 85 (.mv (tq 1)),og 83 false 86 (.call false none (.func 45) [tq 85]),og 83 false 87 (.bin .neq 3 (tq 84) (tq 86)),oq 88 (.pick (tq 83) (cb true) (tq 87)),oq 89 (.mv (tq 88)),og 89 false 90 (.mv (tq 5)),og 89 false 91 (.oth (.call ⟨.builtin .len,#[tq 90],#[28]⟩)),og 89 false 92 (.mv (tq 1)),og 89 false 93 (.oth (.call ⟨.builtin .len,#[tq 92],#[22]⟩)),og 89 false 94 (.bin .add 3 (tq 93) (ci 1)),og 89 false 95 (.bin .neq 3 (tq 91) (tq 94)),oq 96 (.pick (tq 89) (cb true) (tq 95))]) (some ([1,2,5,6,7],[2,22,24,25,30,32,37])):=rx
@[simp] theorem x16_13:RX 113 r16_13 (.str [oq 4 (.mv (cb false))]) (some ([],[])):=rx
@[simp] theorem x16_14:RX 113 r16_14 (.str [oq 10 (.mv (ci 0))]) (some ([1,2,5],[2,22,24,25,30,32,37])):=rx
@[simp] theorem x16_15:RX 113 r16_15 (.str [oq 97 (.mv (tq 10)),oq 98 (.mv (tq 5)),oq 99 (.oth (.call ⟨.builtin .len,#[tq 98],#[28]⟩)),oq 100 (.bin .lss 3 (tq 97) (tq 99))]) (some ([1,2,5,10],[2,22,24,25,30,32,37])):=rx
@[simp] theorem x16_17:RX 113 r16_17 (.drw [⟨[],[oq 103 (.mv (tq 5)),oq 104 (.mv (tq 10)),oq 105 (.oth (.indexAddr 28 (tq 103) (tq 104))),oq 106 (.ld 3 (tq 105)),oq 107 (.ld 25 (tq 2)),oq 108 (.mv (tq 1)),oq 109 (.mv (tq 10)),oq 110 (.call false none (.func 44) [tq 107,tq 108,tq 109]),oq 111 (.bin .neq 3 (tq 106) (tq 110))],[]⟩]) (some ([1,2,5,10],[2,22,24,25,30,32,37])):=rx
@[simp] theorem x16_18:RX 113 r16_18 (.str [oq 4 (.mv (cb false))]) (some ([],[])):=rx
@[simp] theorem x16_16:RX 113 r16_16 (.str [oq 101 (.mv (tq 10)),oq 102 (.bin .add 3 (tq 101) (ci 1)),oq 10 (.mv (tq 102))]) (some ([1,2,5,10],[2,22,24,25,30,32,37])):=rx
@[simp] theorem x16_19:RX 113 r16_19 (.str [oq 112 (.call false none (.func 20) []),oq 4 (.mv (tq 112))]) (some ([],[])):=rx
@[simp] theorem l16_15:ann 113 (fstR lb16_15) = some ([1,2,5,10],[2,22,24,25,30,32,37]):=by kernel_rfl
end
end Go.Proofs.Try.Op
