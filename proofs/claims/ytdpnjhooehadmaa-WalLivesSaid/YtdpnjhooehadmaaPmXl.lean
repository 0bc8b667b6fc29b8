/- code of a statement of wal: bodies, in the form in which they are walked. Printed by a program. No law of Go's is stated here. -/
import Derived.Test.YtdpnjhooehadmaaPmMd
import Derived.Test.YtdpnjhooehadmaaPmMc
set_option linter.all false
set_option maxRecDepth 100000
namespace Go.Proofs.Ytdpnjhooehadmaa.Pm
open Go Go.RowKit


def r_law04_WalLives_0 : List I := [⟨some 23, .unOp .not 4 (.tmp 22), none⟩, ⟨some 24, .move (.tmp 23), none⟩, ⟨some 25, .fieldAddr 26 (.tmp 2) 1, some (24, false)⟩, ⟨some 26, .load 3 (.tmp 25), some (24, false)⟩, ⟨some 27, .fieldAddr 26 (.tmp 2) 2, some (24, false)⟩, ⟨some 28, .load 3 (.tmp 27), some (24, false)⟩, ⟨some 29, .binOp .neq 3 (.tmp 26) (.tmp 28) 3, some (24, false)⟩, ⟨some 30, .pick (.tmp 24) (.const (.bool true)) (.tmp 29), none⟩, ⟨some 31, .move (.tmp 30), none⟩, ⟨some 32, .fieldAddr 26 (.tmp 2) 1, some (31, false)⟩, ⟨some 33, .load 3 (.tmp 32), some (31, false)⟩, ⟨some 34, .binOp .gtr 3 (.tmp 33) (.const (.int .i64 1000000)) 3, some (31, false)⟩, ⟨some 35, .pick (.tmp 31) (.const (.bool true)) (.tmp 34), none⟩, ⟨some 36, .move (.tmp 35), none⟩, ⟨some 37, .move (.tmp 1), some (36, false)⟩, ⟨some 38, .call { callee := .builtin .len, args := #[(.tmp 37)], argTypes := #[98] }, some (36, false)⟩, ⟨some 39, .binOp .gtr 3 (.tmp 38) (.const (.int .i64 20)) 3, some (36, false)⟩, ⟨some 40, .pick (.tmp 36) (.const (.bool true)) (.tmp 39), none⟩, ⟨some 41, .move (.tmp 40), none⟩, ⟨some 42, .fieldAddr 26 (.tmp 2) 0, some (41, false)⟩, ⟨some 43, .fieldAddr 24 (.tmp 42) 2, some (41, false)⟩, ⟨some 44, .load 3 (.tmp 43), some (41, false)⟩, ⟨some 45, .binOp .lss 3 (.tmp 44) (.const (.int .i64 4000)) 3, some (41, false)⟩, ⟨some 46, .pick (.tmp 41) (.const (.bool true)) (.tmp 45), none⟩]
@[go_sem ↓] def ur_law04_WalLives_0 := @unI _ _ r_law04_WalLives_0.eq_1
def r_law04_WalLives_1 : List I := [⟨some 4, .assign (.tmp 47), none⟩]
@[go_sem ↓] def ur_law04_WalLives_1 := @unI _ _ r_law04_WalLives_1.eq_1
def c_law04_WalLives_2 : C := (.seq (.seq (.reg (⟨some 47, .call { callee := .value (.func 59), args := #[], argTypes := #[] }, none⟩ :: r_law04_WalLives_1)) (.keep [4])) .ret)
@[go_sem ↓] def uc_law04_WalLives_2 := @unC _ _ c_law04_WalLives_2.eq_1
def c_law04_WalLives_3 : C := (.cond (.tmp 46) c_law04_WalLives_2 .skip)
@[go_sem ↓] def uc_law04_WalLives_3 := @unC _ _ c_law04_WalLives_3.eq_1
def c_law04_WalLives_4 : C := (.cond (.tmp 51) .skip (.exit 0))
@[go_sem ↓] def uc_law04_WalLives_4 := @unC _ _ c_law04_WalLives_4.eq_1
def c_law04_WalLives_5 : C := (.cond (.tmp 132) .skip (.exit 3))
@[go_sem ↓] def uc_law04_WalLives_5 := @unC _ _ c_law04_WalLives_5.eq_1
def c_law04_WalLives_6 : C := (.seq (.reg ([⟨some 133, .move (.tmp 9), none⟩, ⟨some 134, .binOp .add 3 (.tmp 133) (.const (.int .i64 1)) 3, none⟩, ⟨some 9, .assign (.tmp 134), none⟩])) (.keep [1, 2, 5, 6, 7, 8, 9]))
@[go_sem ↓] def uc_law04_WalLives_6 := @unC _ _ c_law04_WalLives_6.eq_1
def c_law04_WalLives_7 : C := (.seq (.block 4 (.seq (.reg ([⟨some 135, .move (.tmp 8), none⟩, ⟨some 136, .move (.tmp 9), none⟩, ⟨some 137, .move (.tmp 7), none⟩, ⟨some 138, .move (.tmp 9), none⟩, ⟨some 139, .binOp .add 3 (.tmp 137) (.tmp 138) 3, none⟩, ⟨some 140, .convert 3 5 (.tmp 139), none⟩, ⟨some 141, .indexAddr 22 (.tmp 135) (.tmp 136), none⟩, ⟨none, .store 5 (.tmp 141) (.tmp 140), none⟩])) (.keep [1, 2, 5, 6, 7, 8, 9]))) c_law04_WalLives_6)
@[go_sem ↓] def uc_law04_WalLives_7 := @unC _ _ c_law04_WalLives_7.eq_1
def c_law04_WalLives_8 : C := (.seq (.seq (.seq (.reg ([⟨some 129, .move (.tmp 9), none⟩, ⟨some 130, .move (.tmp 8), none⟩, ⟨some 131, .call { callee := .builtin .len, args := #[(.tmp 130)], argTypes := #[22] }, none⟩, ⟨some 132, .binOp .lss 3 (.tmp 129) (.tmp 131) 3, none⟩])) (.keep [1, 2, 5, 6, 7, 8, 9, 132])) c_law04_WalLives_5) c_law04_WalLives_7)
@[go_sem ↓] def uc_law04_WalLives_8 := @unC _ _ c_law04_WalLives_8.eq_1
def c_law04_WalLives_9 : C := (.block 3 (.loop [] [1, 2, 5, 6, 7, 8, 9] c_law04_WalLives_8))
@[go_sem ↓] def uc_law04_WalLives_9 := @unC _ _ c_law04_WalLives_9.eq_1
def r_law04_WalLives_10 : List I := [⟨some 142, .move (.tmp 145), none⟩, ⟨some 146, .extract (.tmp 142) 0, none⟩, ⟨some 147, .extract (.tmp 142) 1, none⟩, ⟨some 148, .extract (.tmp 142) 2, none⟩, ⟨some 10, .alloc 26, none⟩, ⟨none, .store 26 (.tmp 10) (.tmp 146), none⟩, ⟨some 11, .assign (.tmp 147), none⟩, ⟨some 12, .assign (.tmp 148), none⟩]
@[go_sem ↓] def ur_law04_WalLives_10 := @unI _ _ r_law04_WalLives_10.eq_1
def c_law04_WalLives_11 : C := (.seq (.seq (.reg ([⟨some 4, .assign (.const (.bool false)), none⟩])) (.keep [4])) .ret)
@[go_sem ↓] def uc_law04_WalLives_11 := @unC _ _ c_law04_WalLives_11.eq_1
def c_law04_WalLives_12 : C := (.cond (.tmp 156) c_law04_WalLives_11 .skip)
@[go_sem ↓] def uc_law04_WalLives_12 := @unC _ _ c_law04_WalLives_12.eq_1
def c_law04_WalLives_13 : C := (.seq (.reg ([⟨some 163, .load 26 (.tmp 10), none⟩, ⟨none, .store 26 (.tmp 2) (.tmp 163), none⟩])) (.keep [1, 2, 5, 6, 7]))
@[go_sem ↓] def uc_law04_WalLives_13 := @unC _ _ c_law04_WalLives_13.eq_1
def c_law04_WalLives_14 : C := (.seq (.seq (.reg ([⟨some 157, .move (.tmp 5), none⟩, ⟨some 158, .move (.tmp 11), none⟩, ⟨some 159, .move (.tmp 8), none⟩, ⟨some 160, .build 100 #[(0, (.tmp 158)), (1, (.tmp 159))], none⟩, ⟨some 161, .buildSlice 34 1 #[(0, (.tmp 160))], none⟩, ⟨some 162, .call { callee := .builtin .append, args := #[(.tmp 157), (.tmp 161)], argTypes := #[34, 34] }, none⟩, ⟨some 5, .assign (.tmp 162), none⟩])) (.keep [1, 2, 5, 6, 7, 10])) c_law04_WalLives_13)
@[go_sem ↓] def uc_law04_WalLives_14 := @unC _ _ c_law04_WalLives_14.eq_1
def c_law04_WalLives_15 : C := (.seq (.seq (.seq (.reg ([⟨some 149, .move (.tmp 12), none⟩, ⟨some 150, .binOp .neq 29 (.tmp 149) (.const (.int .i64 0)) 29, none⟩, ⟨some 151, .move (.tmp 150), none⟩, ⟨some 152, .move (.tmp 11), some (151, false)⟩, ⟨some 153, .fieldAddr 26 (.tmp 2) 2, some (151, false)⟩, ⟨some 154, .load 3 (.tmp 153), some (151, false)⟩, ⟨some 155, .binOp .neq 3 (.tmp 152) (.tmp 154) 3, some (151, false)⟩, ⟨some 156, .pick (.tmp 151) (.const (.bool true)) (.tmp 155), none⟩])) (.keep [1, 2, 5, 6, 7, 8, 10, 11, 156])) c_law04_WalLives_12) c_law04_WalLives_14)
@[go_sem ↓] def uc_law04_WalLives_15 := @unC _ _ c_law04_WalLives_15.eq_1
def c_law04_WalLives_16 : C := (.seq (.seq (.reg (⟨some 143, .load 26 (.tmp 2), none⟩ :: ⟨some 144, .move (.tmp 8), none⟩ :: ⟨some 145, .call { callee := .value (.func 48), args := #[(.tmp 143), (.tmp 144)], argTypes := #[26, 22] }, none⟩ :: r_law04_WalLives_10)) (.keep [1, 2, 5, 6, 7, 8, 10, 11, 12])) c_law04_WalLives_15)
@[go_sem ↓] def uc_law04_WalLives_16 := @unC _ _ c_law04_WalLives_16.eq_1
def c_law04_WalLives_17 : C := (.seq (.seq (.seq (.reg ([⟨some 9, .assign (.const (.int .i64 0)), none⟩])) (.keep [1, 2, 5, 6, 7, 8, 9])) c_law04_WalLives_9) c_law04_WalLives_16)
@[go_sem ↓] def uc_law04_WalLives_17 := @unC _ _ c_law04_WalLives_17.eq_1
def c_law04_WalLives_18 : C := (.seq (.seq (.reg ([⟨some 123, .move (.tmp 1), none⟩, ⟨some 124, .move (.tmp 7), none⟩, ⟨some 125, .indexAddr 98 (.tmp 123) (.tmp 124), none⟩, ⟨some 126, .load 3 (.tmp 125), none⟩, ⟨some 127, .call { callee := .builtin .min, args := #[(.tmp 126), (.const (.int .i64 50))], argTypes := #[3, 3] }, none⟩, ⟨some 128, .makeSlice 22 (.tmp 127) (.tmp 127), none⟩, ⟨some 8, .assign (.tmp 128), none⟩])) (.keep [1, 2, 5, 6, 7, 8])) c_law04_WalLives_17)
@[go_sem ↓] def uc_law04_WalLives_18 := @unC _ _ c_law04_WalLives_18.eq_1
def r_law04_WalLives_19 : List I := [⟨some 170, .move (.tmp 172), none⟩, ⟨some 173, .extract (.tmp 170) 0, none⟩, ⟨some 174, .extract (.tmp 170) 1, none⟩, ⟨some 13, .alloc 26, none⟩, ⟨none, .store 26 (.tmp 13) (.tmp 173), none⟩, ⟨some 14, .assign (.tmp 174), none⟩]
@[go_sem ↓] def ur_law04_WalLives_19 := @unI _ _ r_law04_WalLives_19.eq_1
def c_law04_WalLives_20 : C := (.seq (.seq (.reg ([⟨some 4, .assign (.const (.bool false)), none⟩])) (.keep [4])) .ret)
@[go_sem ↓] def uc_law04_WalLives_20 := @unC _ _ c_law04_WalLives_20.eq_1
def c_law04_WalLives_21 : C := (.cond (.tmp 176) c_law04_WalLives_20 .skip)
@[go_sem ↓] def uc_law04_WalLives_21 := @unC _ _ c_law04_WalLives_21.eq_1
def c_law04_WalLives_22 : C := (.seq (.reg ([⟨some 177, .load 26 (.tmp 13), none⟩, ⟨some 178, .move (.tmp 5), none⟩, ⟨some 179, .call { callee := .builtin .len, args := #[(.tmp 178)], argTypes := #[34] }, none⟩, ⟨none, .store 26 (.tmp 2) (.tmp 177), none⟩, ⟨some 6, .assign (.tmp 179), none⟩])) (.keep [1, 2, 5, 6, 7]))
@[go_sem ↓] def uc_law04_WalLives_22 := @unC _ _ c_law04_WalLives_22.eq_1
def c_law04_WalLives_23 : C := (.seq (.seq (.seq (.reg ([⟨some 175, .move (.tmp 14), none⟩, ⟨some 176, .binOp .neq 29 (.tmp 175) (.const (.int .i64 0)) 29, none⟩])) (.keep [1, 2, 5, 7, 13, 176])) c_law04_WalLives_21) c_law04_WalLives_22)
@[go_sem ↓] def uc_law04_WalLives_23 := @unC _ _ c_law04_WalLives_23.eq_1
def c_law04_WalLives_24 : C := (.seq (.seq (.reg (⟨some 171, .load 26 (.tmp 2), none⟩ :: ⟨some 172, .call { callee := .value (.func 50), args := #[(.tmp 171)], argTypes := #[26] }, none⟩ :: r_law04_WalLives_19)) (.keep [1, 2, 5, 7, 13, 14])) c_law04_WalLives_23)
@[go_sem ↓] def uc_law04_WalLives_24 := @unC _ _ c_law04_WalLives_24.eq_1
def d_law04_WalLives_25 : List D := [⟨⟨some 54, .move (.tmp 67), none⟩, []⟩, ⟨⟨some 68, .extract (.tmp 54) 0, none⟩, []⟩, ⟨⟨some 69, .extract (.tmp 54) 1, none⟩, [14]⟩, ⟨⟨some 15, .alloc 24, none⟩, [0, 1, 2, 3, 4, 5, 6, 7, 8, 9, 10, 11, 12, 13, 14, 15]⟩, ⟨⟨none, .store 24 (.tmp 15) (.tmp 68), none⟩, [15]⟩, ⟨⟨some 16, .assign (.tmp 69), none⟩, []⟩]
@[go_sem ↓] def ud_law04_WalLives_25 := @unD _ _ d_law04_WalLives_25.eq_1
def c_law04_WalLives_26 : C := (.seq (.seq (.reg ([⟨some 4, .assign (.const (.bool false)), none⟩])) (.keep [4])) .ret)
@[go_sem ↓] def uc_law04_WalLives_26 := @unC _ _ c_law04_WalLives_26.eq_1
def c_law04_WalLives_27 : C := (.cond (.tmp 71) c_law04_WalLives_26 .skip)
@[go_sem ↓] def uc_law04_WalLives_27 := @unC _ _ c_law04_WalLives_27.eq_1
def r_law04_WalLives_28 : List I := [⟨some 72, .move (.tmp 76), none⟩, ⟨some 77, .extract (.tmp 72) 0, none⟩, ⟨some 78, .extract (.tmp 72) 1, none⟩, ⟨some 17, .alloc 26, none⟩, ⟨none, .store 26 (.tmp 17) (.tmp 77), none⟩, ⟨some 18, .assign (.tmp 78), none⟩]
@[go_sem ↓] def ur_law04_WalLives_28 := @unI _ _ r_law04_WalLives_28.eq_1
def c_law04_WalLives_29 : C := (.seq (.seq (.reg ([⟨some 4, .assign (.const (.bool false)), none⟩])) (.keep [4])) .ret)
@[go_sem ↓] def uc_law04_WalLives_29 := @unC _ _ c_law04_WalLives_29.eq_1
def c_law04_WalLives_30 : C := (.cond (.tmp 106) c_law04_WalLives_29 .skip)
@[go_sem ↓] def uc_law04_WalLives_30 := @unC _ _ c_law04_WalLives_30.eq_1
def c_law04_WalLives_31 : C := (.seq (.reg ([⟨some 115, .move (.tmp 5), none⟩, ⟨some 116, .call { callee := .builtin .len, args := #[(.tmp 115)], argTypes := #[34] }, none⟩, ⟨some 6, .assign (.tmp 116), none⟩])) (.keep [1, 2, 5, 6, 7]))
@[go_sem ↓] def uc_law04_WalLives_31 := @unC _ _ c_law04_WalLives_31.eq_1
def c_law04_WalLives_32 : C := (.seq (.seq (.reg ([⟨some 108, .move (.tmp 5), none⟩, ⟨some 109, .fieldAddr 26 (.tmp 2) 2, none⟩, ⟨some 110, .load 3 (.tmp 109), none⟩, ⟨some 111, .fieldAddr 26 (.tmp 2) 1, none⟩, ⟨some 112, .load 3 (.tmp 111), none⟩, ⟨some 113, .binOp .sub 3 (.tmp 110) (.tmp 112) 3, none⟩, ⟨some 114, .slice 34 (.tmp 108) none (some (.tmp 113)) none, none⟩, ⟨some 5, .assign (.tmp 114), none⟩])) (.keep [1, 2, 5, 7])) c_law04_WalLives_31)
@[go_sem ↓] def uc_law04_WalLives_32 := @unC _ _ c_law04_WalLives_32.eq_1
def c_law04_WalLives_33 : C := (.seq (.seq (.reg ([⟨some 107, .load 26 (.tmp 17), none⟩, ⟨none, .store 26 (.tmp 2) (.tmp 107), none⟩])) (.keep [1, 2, 5, 7])) c_law04_WalLives_32)
@[go_sem ↓] def uc_law04_WalLives_33 := @unC _ _ c_law04_WalLives_33.eq_1
def c_law04_WalLives_34 : C := (.seq (.seq (.seq (.reg ([⟨some 79, .move (.tmp 18), none⟩, ⟨some 80, .binOp .neq 29 (.tmp 79) (.const (.int .i64 0)) 29, none⟩, ⟨some 81, .move (.tmp 80), none⟩, ⟨some 82, .fieldAddr 26 (.tmp 17) 1, some (81, false)⟩, ⟨some 83, .load 3 (.tmp 82), some (81, false)⟩, ⟨some 84, .fieldAddr 26 (.tmp 2) 1, some (81, false)⟩, ⟨some 85, .load 3 (.tmp 84), some (81, false)⟩, ⟨some 86, .binOp .neq 3 (.tmp 83) (.tmp 85) 3, some (81, false)⟩, ⟨some 87, .pick (.tmp 81) (.const (.bool true)) (.tmp 86), none⟩, ⟨some 88, .move (.tmp 87), none⟩, ⟨some 89, .fieldAddr 26 (.tmp 17) 2, some (88, false)⟩, ⟨some 90, .load 3 (.tmp 89), some (88, false)⟩, ⟨some 91, .fieldAddr 26 (.tmp 2) 1, some (88, false)⟩, ⟨some 92, .load 3 (.tmp 91), some (88, false)⟩, ⟨some 93, .move (.tmp 6), some (88, false)⟩, ⟨some 94, .binOp .add 3 (.tmp 92) (.tmp 93) 3, some (88, false)⟩, ⟨some 95, .binOp .lss 3 (.tmp 90) (.tmp 94) 3, some (88, false)⟩, ⟨some 96, .pick (.tmp 88) (.const (.bool true)) (.tmp 95), none⟩, ⟨some 97, .move (.tmp 96), none⟩, ⟨some 98, .fieldAddr 26 (.tmp 17) 2, some (97, false)⟩, ⟨some 99, .load 3 (.tmp 98), some (97, false)⟩, ⟨some 100, .fieldAddr 26 (.tmp 2) 1, some (97, false)⟩, ⟨some 101, .load 3 (.tmp 100), some (97, false)⟩, ⟨some 102, .move (.tmp 5), some (97, false)⟩, ⟨some 103, .call { callee := .builtin .len, args := #[(.tmp 102)], argTypes := #[34] }, some (97, false)⟩, ⟨some 104, .binOp .add 3 (.tmp 101) (.tmp 103) 3, some (97, false)⟩, ⟨some 105, .binOp .gtr 3 (.tmp 99) (.tmp 104) 3, some (97, false)⟩, ⟨some 106, .pick (.tmp 97) (.const (.bool true)) (.tmp 105), none⟩])) (.keep [1, 2, 5, 7, 17, 106])) c_law04_WalLives_30) c_law04_WalLives_33)
@[go_sem ↓] def uc_law04_WalLives_34 := @unC _ _ c_law04_WalLives_34.eq_1
def c_law04_WalLives_35 : C := (.seq (.seq (.reg (⟨some 73, .load 24 (.tmp 15), none⟩ :: ⟨some 74, .fieldAddr 26 (.tmp 2) 1, none⟩ :: ⟨some 75, .load 3 (.tmp 74), none⟩ :: ⟨some 76, .call { callee := .value (.func 32), args := #[(.tmp 73), (.tmp 75)], argTypes := #[24, 3] }, none⟩ :: r_law04_WalLives_28)) (.keep [1, 2, 5, 6, 7, 17, 18])) c_law04_WalLives_34)
@[go_sem ↓] def uc_law04_WalLives_35 := @unC _ _ c_law04_WalLives_35.eq_1
def c_law04_WalLives_36 : C := (.seq (.seq (.seq (.reg ([⟨some 70, .move (.tmp 16), none⟩, ⟨some 71, .binOp .neq 29 (.tmp 70) (.const (.int .i64 0)) 29, none⟩])) (.keep [1, 2, 5, 6, 7, 15, 71])) c_law04_WalLives_27) c_law04_WalLives_35)
@[go_sem ↓] def uc_law04_WalLives_36 := @unC _ _ c_law04_WalLives_36.eq_1
def c_law04_WalLives_37 : C := (.seq (.seq (.draw (⟨⟨some 55, .load 26 (.tmp 2), none⟩, []⟩ :: ⟨⟨some 56, .move (.tmp 1), none⟩, [0]⟩ :: ⟨⟨some 57, .move (.tmp 7), none⟩, [0, 1]⟩ :: ⟨⟨some 58, .indexAddr 98 (.tmp 56) (.tmp 57), none⟩, [0]⟩ :: ⟨⟨some 59, .load 3 (.tmp 58), none⟩, [0]⟩ :: ⟨⟨some 60, .call { callee := .builtin .max, args := #[(.tmp 59), (.const (.int .i64 (-3000)))], argTypes := #[3, 3] }, none⟩, [0]⟩ :: ⟨⟨some 61, .binOp .sub 3 (.const (.int .i64 (-2))) (.tmp 60) 3, none⟩, [0]⟩ :: ⟨⟨some 62, .fieldAddr 26 (.tmp 2) 0, none⟩, [0, 1, 2, 3, 4, 5, 6]⟩ :: ⟨⟨some 63, .fieldAddr 24 (.tmp 62) 1, none⟩, [0, 1, 2, 3, 4, 5, 6]⟩ :: ⟨⟨some 64, .load 22 (.tmp 63), none⟩, [0, 1, 2, 3, 4, 5, 6]⟩ :: ⟨⟨some 65, .call { callee := .builtin .len, args := #[(.tmp 64)], argTypes := #[22] }, none⟩, [0, 1, 2, 3, 4, 5, 6]⟩ :: ⟨⟨some 66, .call { callee := .builtin .min, args := #[(.tmp 61), (.tmp 65)], argTypes := #[3, 3] }, none⟩, [0]⟩ :: ⟨⟨some 67, .call { callee := .value (.func 34), args := #[(.tmp 55), (.tmp 66)], argTypes := #[26, 3] }, none⟩, []⟩ :: d_law04_WalLives_25)) (.keep [1, 2, 5, 6, 7, 15, 16])) c_law04_WalLives_36)
@[go_sem ↓] def uc_law04_WalLives_37 := @unC _ _ c_law04_WalLives_37.eq_1
def c_law04_WalLives_38 : C := (.cond (.tmp 164) c_law04_WalLives_24 c_law04_WalLives_37)
@[go_sem ↓] def uc_law04_WalLives_38 := @unC _ _ c_law04_WalLives_38.eq_1
def c_law04_WalLives_39 : C := (.seq (.seq (.reg ([⟨some 165, .move (.tmp 1), none⟩, ⟨some 166, .move (.tmp 7), none⟩, ⟨some 167, .indexAddr 98 (.tmp 165) (.tmp 166), none⟩, ⟨some 168, .load 3 (.tmp 167), none⟩, ⟨some 169, .binOp .eql 3 (.tmp 168) (.const (.int .i64 (-1))) 3, none⟩, ⟨some 164, .assign (.tmp 169), none⟩])) (.keep [1, 2, 5, 6, 7, 164])) c_law04_WalLives_38)
@[go_sem ↓] def uc_law04_WalLives_39 := @unC _ _ c_law04_WalLives_39.eq_1
def c_law04_WalLives_40 : C := (.cond (.tmp 117) c_law04_WalLives_18 c_law04_WalLives_39)
@[go_sem ↓] def uc_law04_WalLives_40 := @unC _ _ c_law04_WalLives_40.eq_1
def r_law04_WalLives_41 : List I := [⟨some 180, .move (.tmp 184), none⟩, ⟨some 185, .extract (.tmp 180) 0, none⟩, ⟨some 186, .extract (.tmp 180) 1, none⟩, ⟨some 19, .assign (.tmp 185), none⟩, ⟨some 20, .assign (.tmp 186), none⟩]
@[go_sem ↓] def ur_law04_WalLives_41 := @unI _ _ r_law04_WalLives_41.eq_1
def r_law04_WalLives_42 : List I := [⟨some 193, .unOp .not 4 (.tmp 192), some (189, false)⟩, ⟨some 194, .pick (.tmp 189) (.const (.bool true)) (.tmp 193), none⟩]
@[go_sem ↓] def ur_law04_WalLives_42 := @unI _ _ r_law04_WalLives_42.eq_1
def c_law04_WalLives_43 : C := (.seq (.seq (.reg ([⟨some 4, .assign (.const (.bool false)), none⟩])) (.keep [4])) .ret)
@[go_sem ↓] def uc_law04_WalLives_43 := @unC _ _ c_law04_WalLives_43.eq_1
def c_law04_WalLives_44 : C := (.cond (.tmp 194) c_law04_WalLives_43 .skip)
@[go_sem ↓] def uc_law04_WalLives_44 := @unC _ _ c_law04_WalLives_44.eq_1
def c_law04_WalLives_45 : C := (.seq (.seq (.reg (⟨some 187, .move (.tmp 20), none⟩ :: ⟨some 188, .binOp .neq 29 (.tmp 187) (.const (.int .i64 0)) 29, none⟩ :: ⟨some 189, .move (.tmp 188), none⟩ :: ⟨some 190, .move (.tmp 19), some (189, false)⟩ :: ⟨some 191, .move (.tmp 5), some (189, false)⟩ :: ⟨some 192, .call { callee := .value (.func 22), args := #[(.tmp 190), (.tmp 191)], argTypes := #[34, 34] }, some (189, false)⟩ :: r_law04_WalLives_42)) (.keep [1, 2, 5, 6, 7, 194])) c_law04_WalLives_44)
@[go_sem ↓] def uc_law04_WalLives_45 := @unC _ _ c_law04_WalLives_45.eq_1
def c_law04_WalLives_46 : C := (.seq (.seq (.reg (⟨some 181, .load 26 (.tmp 2), none⟩ :: ⟨some 182, .fieldAddr 26 (.tmp 2) 1, none⟩ :: ⟨some 183, .load 3 (.tmp 182), none⟩ :: ⟨some 184, .call { callee := .value (.func 20), args := #[(.tmp 181), (.tmp 183)], argTypes := #[26, 3] }, none⟩ :: r_law04_WalLives_41)) (.keep [1, 2, 5, 6, 7, 19, 20])) c_law04_WalLives_45)
@[go_sem ↓] def uc_law04_WalLives_46 := @unC _ _ c_law04_WalLives_46.eq_1
def c_law04_WalLives_47 : C := (.seq (.reg ([⟨some 52, .move (.tmp 7), none⟩, ⟨some 53, .binOp .add 3 (.tmp 52) (.const (.int .i64 1)) 3, none⟩, ⟨some 7, .assign (.tmp 53), none⟩])) (.keep [1, 2, 5, 6, 7]))
@[go_sem ↓] def uc_law04_WalLives_47 := @unC _ _ c_law04_WalLives_47.eq_1
def c_law04_WalLives_48 : C := (.seq (.block 1 (.seq (.block 2 (.seq (.seq (.reg ([⟨some 118, .move (.tmp 1), none⟩, ⟨some 119, .move (.tmp 7), none⟩, ⟨some 120, .indexAddr 98 (.tmp 118) (.tmp 119), none⟩, ⟨some 121, .load 3 (.tmp 120), none⟩, ⟨some 122, .binOp .geq 3 (.tmp 121) (.const (.int .i64 0)) 3, none⟩, ⟨some 117, .assign (.tmp 122), none⟩])) (.keep [1, 2, 5, 6, 7, 117])) c_law04_WalLives_40)) c_law04_WalLives_46)) c_law04_WalLives_47)
@[go_sem ↓] def uc_law04_WalLives_48 := @unC _ _ c_law04_WalLives_48.eq_1
def c_law04_WalLives_49 : C := (.seq (.seq (.seq (.reg ([⟨some 48, .move (.tmp 7), none⟩, ⟨some 49, .move (.tmp 1), none⟩, ⟨some 50, .call { callee := .builtin .len, args := #[(.tmp 49)], argTypes := #[98] }, none⟩, ⟨some 51, .binOp .lss 3 (.tmp 48) (.tmp 50) 3, none⟩])) (.keep [1, 2, 5, 6, 7, 51])) c_law04_WalLives_4) c_law04_WalLives_48)
@[go_sem ↓] def uc_law04_WalLives_49 := @unC _ _ c_law04_WalLives_49.eq_1
def c_law04_WalLives_50 : C := (.block 0 (.loop [(5, 2)] [1, 2, 5, 6, 7] c_law04_WalLives_49))
@[go_sem ↓] def uc_law04_WalLives_50 := @unC _ _ c_law04_WalLives_50.eq_1
def r_law04_WalLives_51 : List I := [⟨some 4, .assign (.tmp 195), none⟩]
@[go_sem ↓] def ur_law04_WalLives_51 := @unI _ _ r_law04_WalLives_51.eq_1
def c_law04_WalLives_52 : C := (.seq (.seq (.reg (⟨some 195, .call { callee := .value (.func 59), args := #[], argTypes := #[] }, none⟩ :: r_law04_WalLives_51)) (.keep [4])) .ret)
@[go_sem ↓] def uc_law04_WalLives_52 := @unC _ _ c_law04_WalLives_52.eq_1
def c_law04_WalLives_53 : C := (.seq (.seq (.seq (.reg ([⟨some 7, .assign (.const (.int .i64 0)), none⟩])) (.keep [1, 2, 5, 6, 7])) c_law04_WalLives_50) c_law04_WalLives_52)
@[go_sem ↓] def uc_law04_WalLives_53 := @unC _ _ c_law04_WalLives_53.eq_1
def c_law04_WalLives_54 : C := (.seq (.seq (.reg ([⟨some 6, .assign (.const (.int .i64 0)), none⟩])) (.keep [1, 2, 5, 6])) c_law04_WalLives_53)
@[go_sem ↓] def uc_law04_WalLives_54 := @unC _ _ c_law04_WalLives_54.eq_1
def c_law04_WalLives_55 : C := (.seq (.seq (.reg ([⟨some 5, .assign (.const (.slice none 0 0)), none⟩])) (.keep [1, 2, 5])) c_law04_WalLives_54)
@[go_sem ↓] def uc_law04_WalLives_55 := @unC _ _ c_law04_WalLives_55.eq_1
def c_law04_WalLives_56 : C := (.seq (.seq (.seq (.reg (⟨some 21, .load 26 (.tmp 2), none⟩ :: ⟨some 22, .call { callee := .value (.func 58), args := #[(.tmp 21)], argTypes := #[26] }, none⟩ :: r_law04_WalLives_0)) (.keep [1, 2, 46])) c_law04_WalLives_3) c_law04_WalLives_55)
@[go_sem ↓] def uc_law04_WalLives_56 := @unC _ _ c_law04_WalLives_56.eq_1
def c_law04_WalLives : C := (.seq (.seq (.reg ([⟨some 2, .box 26 (.tmp 0), none⟩, ⟨some 4, .assign (.const (.bool false)), none⟩])) (.keep [1, 2])) c_law04_WalLives_56)
attribute [go_sem ↓] c_law04_WalLives
def h_law04_WalLives : List Hint := [⟨[], [1, 2], []⟩, ⟨[], [1, 2, 46], []⟩, ⟨[], [4], []⟩, ⟨[], [1, 2, 5], []⟩, ⟨[], [1, 2, 5, 6], []⟩, ⟨[], [1, 2, 5, 6, 7], []⟩, ⟨[(5, 2)], [1, 2, 5, 6, 7], []⟩, ⟨[], [1, 2, 5, 6, 7, 51], []⟩, ⟨[], [1, 2, 5, 6, 7, 117], []⟩, ⟨[], [1, 2, 5, 6, 7, 8], []⟩, ⟨[], [1, 2, 5, 6, 7, 8, 9], []⟩, ⟨[], [1, 2, 5, 6, 7, 8, 9], []⟩, ⟨[], [1, 2, 5, 6, 7, 8, 9, 132], []⟩, ⟨[], [1, 2, 5, 6, 7, 8, 9], []⟩, ⟨[], [1, 2, 5, 6, 7, 8, 9], []⟩, ⟨[], [1, 2, 5, 6, 7, 8, 10, 11, 12], []⟩, ⟨[], [1, 2, 5, 6, 7, 8, 10, 11, 156], []⟩, ⟨[], [4], []⟩, ⟨[], [1, 2, 5, 6, 7, 10], []⟩, ⟨[], [1, 2, 5, 6, 7], []⟩, ⟨[], [1, 2, 5, 6, 7, 164], []⟩, ⟨[], [1, 2, 5, 7, 13, 14], []⟩, ⟨[], [1, 2, 5, 7, 13, 176], []⟩, ⟨[], [4], []⟩, ⟨[], [1, 2, 5, 6, 7], []⟩, ⟨[], [1, 2, 5, 6, 7, 15, 16], []⟩, ⟨[], [1, 2, 5, 6, 7, 15, 71], []⟩, ⟨[], [4], []⟩, ⟨[], [1, 2, 5, 6, 7, 17, 18], []⟩, ⟨[], [1, 2, 5, 7, 17, 106], []⟩, ⟨[], [4], []⟩, ⟨[], [1, 2, 5, 7], []⟩, ⟨[], [1, 2, 5, 7], []⟩, ⟨[], [1, 2, 5, 6, 7], []⟩, ⟨[], [1, 2, 5, 6, 7, 19, 20], []⟩, ⟨[], [1, 2, 5, 6, 7, 194], []⟩, ⟨[], [4], []⟩, ⟨[], [1, 2, 5, 6, 7], []⟩, ⟨[], [4], []⟩]
theorem b_law04_WalLives : Body Try.prog 13 [] h_law04_WalLives c_law04_WalLives 196 [.tmp 4] := body_of Try.func13 (by kernel_rfl) (by kernel_rfl) (by kernel_rfl) (by kernel_rfl)

end Go.Proofs.Ytdpnjhooehadmaa.Pm
