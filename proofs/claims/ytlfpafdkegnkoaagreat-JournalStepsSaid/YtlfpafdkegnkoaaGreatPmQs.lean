/- statements of journal: bodies, in the form in which they are walked. Printed by a program. No law of Go's is stated here. -/
import Derived.Test.YtlfpafdkegnkoaaGreatPmMd
import Derived.Test.YtlfpafdkegnkoaaGreatPmMc
set_option linter.all false
set_option maxRecDepth 100000
namespace Go.Proofs.YtlfpafdkegnkoaaGreat.Pm
open Go Go.RowKit


def r_law06_JournalSteps_0 : List I := [⟨some 36, .move (.tmp 35), none⟩, ⟨some 37, .move (.tmp 3), some (36, false)⟩, ⟨some 38, .call { callee := .builtin .len, args := #[(.tmp 37)], argTypes := #[35] }, some (36, false)⟩, ⟨some 39, .binOp .gtr 3 (.tmp 38) (.const (.int .i64 40)) 3, some (36, false)⟩, ⟨some 40, .pick (.tmp 36) (.const (.bool true)) (.tmp 39), none⟩]
@[go_sem ↓] def ur_law06_JournalSteps_0 := @unI _ _ r_law06_JournalSteps_0.eq_1
def c_law06_JournalSteps_1 : C := (.seq (.seq (.reg ([⟨some 10, .assign (.const (.bool true)), none⟩])) (.keep [10])) .ret)
@[go_sem ↓] def uc_law06_JournalSteps_1 := @unC _ _ c_law06_JournalSteps_1.eq_1
def c_law06_JournalSteps_2 : C := (.cond (.tmp 40) c_law06_JournalSteps_1 .skip)
@[go_sem ↓] def uc_law06_JournalSteps_2 := @unC _ _ c_law06_JournalSteps_2.eq_1
def r_law06_JournalSteps_3 : List I := [⟨some 11, .alloc 32, none⟩, ⟨none, .store 32 (.tmp 11) (.tmp 42), none⟩]
@[go_sem ↓] def ur_law06_JournalSteps_3 := @unI _ _ r_law06_JournalSteps_3.eq_1
def r_law06_JournalSteps_4 : List I := [⟨some 43, .move (.tmp 45), none⟩, ⟨some 46, .extract (.tmp 43) 0, none⟩, ⟨some 47, .extract (.tmp 43) 1, none⟩, ⟨some 12, .alloc 32, none⟩, ⟨none, .store 32 (.tmp 12) (.tmp 46), none⟩, ⟨some 13, .assign (.tmp 47), none⟩]
@[go_sem ↓] def ur_law06_JournalSteps_4 := @unI _ _ r_law06_JournalSteps_4.eq_1
def r_law06_JournalSteps_5 : List I := [⟨some 48, .move (.tmp 50), none⟩, ⟨some 51, .extract (.tmp 48) 0, none⟩, ⟨some 52, .extract (.tmp 48) 1, none⟩, ⟨some 14, .alloc 32, none⟩, ⟨none, .store 32 (.tmp 14) (.tmp 51), none⟩, ⟨some 15, .assign (.tmp 52), none⟩]
@[go_sem ↓] def ur_law06_JournalSteps_5 := @unI _ _ r_law06_JournalSteps_5.eq_1
def r_law06_JournalSteps_6 : List I := [⟨some 53, .move (.tmp 56), none⟩, ⟨some 57, .extract (.tmp 53) 0, none⟩, ⟨some 58, .extract (.tmp 53) 1, none⟩, ⟨some 16, .alloc 30, none⟩, ⟨none, .store 30 (.tmp 16) (.tmp 57), none⟩, ⟨some 17, .assign (.tmp 58), none⟩]
@[go_sem ↓] def ur_law06_JournalSteps_6 := @unI _ _ r_law06_JournalSteps_6.eq_1
def r_law06_JournalSteps_7 : List I := [⟨some 59, .move (.tmp 62), none⟩, ⟨some 63, .extract (.tmp 59) 0, none⟩, ⟨some 64, .extract (.tmp 59) 1, none⟩, ⟨some 18, .alloc 30, none⟩, ⟨none, .store 30 (.tmp 18) (.tmp 63), none⟩, ⟨some 19, .assign (.tmp 64), none⟩]
@[go_sem ↓] def ur_law06_JournalSteps_7 := @unI _ _ r_law06_JournalSteps_7.eq_1
def r_law06_JournalSteps_8 : List I := [⟨some 65, .move (.tmp 68), none⟩, ⟨some 69, .extract (.tmp 65) 0, none⟩, ⟨some 70, .extract (.tmp 65) 1, none⟩, ⟨some 71, .extract (.tmp 65) 2, none⟩, ⟨some 20, .alloc 32, none⟩, ⟨none, .store 32 (.tmp 20) (.tmp 69), none⟩, ⟨some 21, .assign (.tmp 70), none⟩, ⟨some 22, .assign (.tmp 71), none⟩]
@[go_sem ↓] def ur_law06_JournalSteps_8 := @unI _ _ r_law06_JournalSteps_8.eq_1
def r_law06_JournalSteps_9 : List I := [⟨some 72, .move (.tmp 75), none⟩, ⟨some 76, .extract (.tmp 72) 0, none⟩, ⟨some 77, .extract (.tmp 72) 1, none⟩, ⟨some 78, .extract (.tmp 72) 2, none⟩, ⟨some 23, .alloc 32, none⟩, ⟨none, .store 32 (.tmp 23) (.tmp 76), none⟩, ⟨some 24, .assign (.tmp 77), none⟩, ⟨some 25, .assign (.tmp 78), none⟩]
@[go_sem ↓] def ur_law06_JournalSteps_9 := @unI _ _ r_law06_JournalSteps_9.eq_1
def r_law06_JournalSteps_10 : List I := [⟨some 102, .unOp .not 4 (.tmp 101), some (98, false)⟩, ⟨some 103, .pick (.tmp 98) (.const (.bool true)) (.tmp 102), none⟩, ⟨some 104, .move (.tmp 103), none⟩, ⟨some 105, .move (.tmp 21), some (104, false)⟩, ⟨some 106, .move (.tmp 24), some (104, false)⟩, ⟨some 107, .binOp .neq 3 (.tmp 105) (.tmp 106) 3, some (104, false)⟩, ⟨some 108, .pick (.tmp 104) (.const (.bool true)) (.tmp 107), none⟩, ⟨some 109, .move (.tmp 108), none⟩, ⟨some 110, .move (.tmp 22), some (109, false)⟩, ⟨some 111, .move (.tmp 25), some (109, false)⟩, ⟨some 112, .binOp .neq 3 (.tmp 110) (.tmp 111) 3, some (109, false)⟩, ⟨some 113, .pick (.tmp 109) (.const (.bool true)) (.tmp 112), none⟩]
@[go_sem ↓] def ur_law06_JournalSteps_10 := @unI _ _ r_law06_JournalSteps_10.eq_1
def r_law06_JournalSteps_11 : List I := ⟨some 82, .unOp .not 4 (.tmp 81), none⟩ :: ⟨some 83, .move (.tmp 82), none⟩ :: ⟨some 84, .move (.tmp 13), some (83, false)⟩ :: ⟨some 85, .move (.tmp 15), some (83, false)⟩ :: ⟨some 86, .binOp .neq 3 (.tmp 84) (.tmp 85) 3, some (83, false)⟩ :: ⟨some 87, .pick (.tmp 83) (.const (.bool true)) (.tmp 86), none⟩ :: ⟨some 88, .move (.tmp 87), none⟩ :: ⟨some 89, .load 30 (.tmp 16), some (88, false)⟩ :: ⟨some 90, .load 30 (.tmp 18), some (88, false)⟩ :: ⟨some 91, .binOp .neq 30 (.tmp 89) (.tmp 90) 30, some (88, false)⟩ :: ⟨some 92, .pick (.tmp 88) (.const (.bool true)) (.tmp 91), none⟩ :: ⟨some 93, .move (.tmp 92), none⟩ :: ⟨some 94, .move (.tmp 17), some (93, false)⟩ :: ⟨some 95, .move (.tmp 19), some (93, false)⟩ :: ⟨some 96, .binOp .neq 3 (.tmp 94) (.tmp 95) 3, some (93, false)⟩ :: ⟨some 97, .pick (.tmp 93) (.const (.bool true)) (.tmp 96), none⟩ :: ⟨some 98, .move (.tmp 97), none⟩ :: ⟨some 99, .load 32 (.tmp 20), some (98, false)⟩ :: ⟨some 100, .load 32 (.tmp 23), some (98, false)⟩ :: ⟨some 101, .call { callee := .value (.func 15), args := #[(.tmp 99), (.tmp 100)], argTypes := #[32, 32] }, some (98, false)⟩ :: r_law06_JournalSteps_10
@[go_sem ↓] def ur_law06_JournalSteps_11 := @unI _ _ r_law06_JournalSteps_11.eq_1
def c_law06_JournalSteps_12 : C := (.seq (.seq (.reg ([⟨some 10, .assign (.const (.bool false)), none⟩])) (.keep [10])) .ret)
@[go_sem ↓] def uc_law06_JournalSteps_12 := @unC _ _ c_law06_JournalSteps_12.eq_1
def c_law06_JournalSteps_13 : C := (.cond (.tmp 113) c_law06_JournalSteps_12 .skip)
@[go_sem ↓] def uc_law06_JournalSteps_13 := @unC _ _ c_law06_JournalSteps_13.eq_1
def r_law06_JournalSteps_14 : List I := [⟨some 114, .move (.tmp 116), none⟩, ⟨some 117, .extract (.tmp 114) 0, none⟩, ⟨some 118, .extract (.tmp 114) 1, none⟩, ⟨some 26, .alloc 32, none⟩, ⟨none, .store 32 (.tmp 26) (.tmp 117), none⟩, ⟨some 27, .assign (.tmp 118), none⟩]
@[go_sem ↓] def ur_law06_JournalSteps_14 := @unI _ _ r_law06_JournalSteps_14.eq_1
def r_law06_JournalSteps_15 : List I := [⟨some 119, .move (.tmp 121), none⟩, ⟨some 122, .extract (.tmp 119) 0, none⟩, ⟨some 123, .extract (.tmp 119) 1, none⟩, ⟨some 28, .alloc 32, none⟩, ⟨none, .store 32 (.tmp 28) (.tmp 122), none⟩, ⟨some 29, .assign (.tmp 123), none⟩]
@[go_sem ↓] def ur_law06_JournalSteps_15 := @unI _ _ r_law06_JournalSteps_15.eq_1
def r_law06_JournalSteps_16 : List I := [⟨some 124, .move (.tmp 126), none⟩, ⟨some 127, .extract (.tmp 124) 0, none⟩, ⟨some 128, .extract (.tmp 124) 1, none⟩, ⟨some 30, .alloc 32, none⟩, ⟨none, .store 32 (.tmp 30) (.tmp 127), none⟩, ⟨some 31, .assign (.tmp 128), none⟩]
@[go_sem ↓] def ur_law06_JournalSteps_16 := @unI _ _ r_law06_JournalSteps_16.eq_1
def r_law06_JournalSteps_17 : List I := [⟨some 129, .move (.tmp 131), none⟩, ⟨some 132, .extract (.tmp 129) 0, none⟩, ⟨some 133, .extract (.tmp 129) 1, none⟩, ⟨some 32, .alloc 32, none⟩, ⟨none, .store 32 (.tmp 32) (.tmp 132), none⟩, ⟨some 33, .assign (.tmp 133), none⟩]
@[go_sem ↓] def ur_law06_JournalSteps_17 := @unI _ _ r_law06_JournalSteps_17.eq_1
def d_law06_JournalSteps_18 : List D := [⟨⟨some 163, .pick (.tmp 159) (.tmp 162) (.const (.bool false)), none⟩, []⟩, ⟨⟨some 10, .assign (.tmp 163), none⟩, []⟩]
@[go_sem ↓] def ud_law06_JournalSteps_18 := @unD _ _ d_law06_JournalSteps_18.eq_1
def d_law06_JournalSteps_19 : List D := ⟨⟨some 153, .pick (.tmp 149) (.tmp 152) (.const (.bool false)), none⟩, []⟩ :: ⟨⟨some 154, .move (.tmp 153), none⟩, []⟩ :: ⟨⟨some 155, .move (.tmp 31), some (154, true)⟩, []⟩ :: ⟨⟨some 156, .move (.tmp 33), some (154, true)⟩, [21]⟩ :: ⟨⟨some 157, .binOp .eql 3 (.tmp 155) (.tmp 156) 3, some (154, true)⟩, []⟩ :: ⟨⟨some 158, .pick (.tmp 154) (.tmp 157) (.const (.bool false)), none⟩, []⟩ :: ⟨⟨some 159, .move (.tmp 158), none⟩, []⟩ :: ⟨⟨some 160, .load 32 (.tmp 11), some (159, true)⟩, []⟩ :: ⟨⟨some 161, .load 32 (.tmp 5), some (159, true)⟩, [26]⟩ :: ⟨⟨some 162, .call { callee := .value (.func 15), args := #[(.tmp 160), (.tmp 161)], argTypes := #[32, 32] }, some (159, true)⟩, []⟩ :: d_law06_JournalSteps_18
@[go_sem ↓] def ud_law06_JournalSteps_19 := @unD _ _ d_law06_JournalSteps_19.eq_1
def d_law06_JournalSteps_20 : List D := ⟨⟨some 143, .pick (.tmp 139) (.tmp 142) (.const (.bool false)), none⟩, []⟩ :: ⟨⟨some 144, .move (.tmp 143), none⟩, []⟩ :: ⟨⟨some 145, .move (.tmp 27), some (144, true)⟩, []⟩ :: ⟨⟨some 146, .move (.tmp 29), some (144, true)⟩, [11]⟩ :: ⟨⟨some 147, .binOp .eql 3 (.tmp 145) (.tmp 146) 3, some (144, true)⟩, []⟩ :: ⟨⟨some 148, .pick (.tmp 144) (.tmp 147) (.const (.bool false)), none⟩, []⟩ :: ⟨⟨some 149, .move (.tmp 148), none⟩, []⟩ :: ⟨⟨some 150, .load 32 (.tmp 30), some (149, true)⟩, []⟩ :: ⟨⟨some 151, .load 32 (.tmp 32), some (149, true)⟩, [16]⟩ :: ⟨⟨some 152, .call { callee := .value (.func 15), args := #[(.tmp 150), (.tmp 151)], argTypes := #[32, 32] }, some (149, true)⟩, []⟩ :: d_law06_JournalSteps_19
@[go_sem ↓] def ud_law06_JournalSteps_20 := @unD _ _ d_law06_JournalSteps_20.eq_1
def d_law06_JournalSteps_21 : List D := ⟨⟨some 138, .binOp .eql 3 (.tmp 135) (.tmp 137) 3, none⟩, []⟩ :: ⟨⟨some 139, .move (.tmp 138), none⟩, []⟩ :: ⟨⟨some 140, .load 32 (.tmp 26), some (139, true)⟩, []⟩ :: ⟨⟨some 141, .load 32 (.tmp 28), some (139, true)⟩, [6]⟩ :: ⟨⟨some 142, .call { callee := .value (.func 15), args := #[(.tmp 140), (.tmp 141)], argTypes := #[32, 32] }, some (139, true)⟩, []⟩ :: d_law06_JournalSteps_20
@[go_sem ↓] def ud_law06_JournalSteps_21 := @unD _ _ d_law06_JournalSteps_21.eq_1
def d_law06_JournalSteps_22 : List D := ⟨⟨some 136, .load 32 (.tmp 5), none⟩, [0, 1]⟩ :: ⟨⟨some 137, .call { callee := .value (.func 21), args := #[(.tmp 136)], argTypes := #[32] }, none⟩, []⟩ :: d_law06_JournalSteps_21
@[go_sem ↓] def ud_law06_JournalSteps_22 := @unD _ _ d_law06_JournalSteps_22.eq_1
def c_law06_JournalSteps_23 : C := (.seq (.seq (.draw (⟨⟨some 134, .load 32 (.tmp 11), none⟩, []⟩ :: ⟨⟨some 135, .call { callee := .value (.func 20), args := #[(.tmp 134)], argTypes := #[32] }, none⟩, []⟩ :: d_law06_JournalSteps_22)) (.keep [10])) .ret)
@[go_sem ↓] def uc_law06_JournalSteps_23 := @unC _ _ c_law06_JournalSteps_23.eq_1
def c_law06_JournalSteps_24 : C := (.seq (.seq (.reg (⟨some 130, .load 32 (.tmp 5), none⟩ :: ⟨some 131, .call { callee := .value (.func 19), args := #[(.tmp 130)], argTypes := #[32] }, none⟩ :: r_law06_JournalSteps_17)) (.keep [5, 11, 26, 27, 28, 29, 30, 31, 32, 33])) c_law06_JournalSteps_23)
@[go_sem ↓] def uc_law06_JournalSteps_24 := @unC _ _ c_law06_JournalSteps_24.eq_1
def c_law06_JournalSteps_25 : C := (.seq (.seq (.reg (⟨some 125, .load 32 (.tmp 11), none⟩ :: ⟨some 126, .call { callee := .value (.func 18), args := #[(.tmp 125)], argTypes := #[32] }, none⟩ :: r_law06_JournalSteps_16)) (.keep [5, 11, 26, 27, 28, 29, 30, 31])) c_law06_JournalSteps_24)
@[go_sem ↓] def uc_law06_JournalSteps_25 := @unC _ _ c_law06_JournalSteps_25.eq_1
def c_law06_JournalSteps_26 : C := (.seq (.seq (.reg (⟨some 120, .load 32 (.tmp 5), none⟩ :: ⟨some 121, .call { callee := .value (.func 17), args := #[(.tmp 120)], argTypes := #[32] }, none⟩ :: r_law06_JournalSteps_15)) (.keep [5, 11, 26, 27, 28, 29])) c_law06_JournalSteps_25)
@[go_sem ↓] def uc_law06_JournalSteps_26 := @unC _ _ c_law06_JournalSteps_26.eq_1
def c_law06_JournalSteps_27 : C := (.seq (.seq (.reg (⟨some 115, .load 32 (.tmp 11), none⟩ :: ⟨some 116, .call { callee := .value (.func 16), args := #[(.tmp 115)], argTypes := #[32] }, none⟩ :: r_law06_JournalSteps_14)) (.keep [5, 11, 26, 27])) c_law06_JournalSteps_26)
@[go_sem ↓] def uc_law06_JournalSteps_27 := @unC _ _ c_law06_JournalSteps_27.eq_1
def c_law06_JournalSteps_28 : C := (.seq (.seq (.seq (.reg (⟨some 79, .load 32 (.tmp 12), none⟩ :: ⟨some 80, .load 32 (.tmp 14), none⟩ :: ⟨some 81, .call { callee := .value (.func 15), args := #[(.tmp 79), (.tmp 80)], argTypes := #[32, 32] }, none⟩ :: r_law06_JournalSteps_11)) (.keep [5, 11, 113])) c_law06_JournalSteps_13) c_law06_JournalSteps_27)
@[go_sem ↓] def uc_law06_JournalSteps_28 := @unC _ _ c_law06_JournalSteps_28.eq_1
def c_law06_JournalSteps_29 : C := (.seq (.seq (.reg (⟨some 73, .load 32 (.tmp 5), none⟩ :: ⟨some 74, .load 34 (.tmp 6), none⟩ :: ⟨some 75, .call { callee := .value (.func 14), args := #[(.tmp 73), (.tmp 74)], argTypes := #[32, 34] }, none⟩ :: r_law06_JournalSteps_9)) (.keep [5, 11, 12, 13, 14, 15, 16, 17, 18, 19, 20, 21, 22, 23, 24, 25])) c_law06_JournalSteps_28)
@[go_sem ↓] def uc_law06_JournalSteps_29 := @unC _ _ c_law06_JournalSteps_29.eq_1
def c_law06_JournalSteps_30 : C := (.seq (.seq (.reg (⟨some 66, .load 32 (.tmp 11), none⟩ :: ⟨some 67, .load 34 (.tmp 6), none⟩ :: ⟨some 68, .call { callee := .value (.func 13), args := #[(.tmp 66), (.tmp 67)], argTypes := #[32, 34] }, none⟩ :: r_law06_JournalSteps_8)) (.keep [5, 6, 11, 12, 13, 14, 15, 16, 17, 18, 19, 20, 21, 22])) c_law06_JournalSteps_29)
@[go_sem ↓] def uc_law06_JournalSteps_30 := @unC _ _ c_law06_JournalSteps_30.eq_1
def c_law06_JournalSteps_31 : C := (.seq (.seq (.reg (⟨some 60, .load 30 (.tmp 7), none⟩ :: ⟨some 61, .move (.tmp 3), none⟩ :: ⟨some 62, .call { callee := .value (.func 12), args := #[(.tmp 60), (.tmp 61)], argTypes := #[30, 35] }, none⟩ :: r_law06_JournalSteps_7)) (.keep [5, 6, 11, 12, 13, 14, 15, 16, 17, 18, 19])) c_law06_JournalSteps_30)
@[go_sem ↓] def uc_law06_JournalSteps_31 := @unC _ _ c_law06_JournalSteps_31.eq_1
def c_law06_JournalSteps_32 : C := (.seq (.seq (.reg (⟨some 54, .load 30 (.tmp 7), none⟩ :: ⟨some 55, .move (.tmp 3), none⟩ :: ⟨some 56, .call { callee := .value (.func 11), args := #[(.tmp 54), (.tmp 55)], argTypes := #[30, 35] }, none⟩ :: r_law06_JournalSteps_6)) (.keep [3, 5, 6, 7, 11, 12, 13, 14, 15, 16, 17])) c_law06_JournalSteps_31)
@[go_sem ↓] def uc_law06_JournalSteps_32 := @unC _ _ c_law06_JournalSteps_32.eq_1
def c_law06_JournalSteps_33 : C := (.seq (.seq (.reg (⟨some 49, .move (.tmp 4), none⟩ :: ⟨some 50, .call { callee := .value (.func 10), args := #[(.tmp 49)], argTypes := #[3] }, none⟩ :: r_law06_JournalSteps_5)) (.keep [3, 5, 6, 7, 11, 12, 13, 14, 15])) c_law06_JournalSteps_32)
@[go_sem ↓] def uc_law06_JournalSteps_33 := @unC _ _ c_law06_JournalSteps_33.eq_1
def c_law06_JournalSteps_34 : C := (.seq (.seq (.reg (⟨some 44, .move (.tmp 4), none⟩ :: ⟨some 45, .call { callee := .value (.func 9), args := #[(.tmp 44)], argTypes := #[3] }, none⟩ :: r_law06_JournalSteps_4)) (.keep [3, 4, 5, 6, 7, 11, 12, 13])) c_law06_JournalSteps_33)
@[go_sem ↓] def uc_law06_JournalSteps_34 := @unC _ _ c_law06_JournalSteps_34.eq_1
def c_law06_JournalSteps_35 : C := (.seq (.seq (.reg (⟨some 41, .load 32 (.tmp 5), none⟩ :: ⟨some 42, .call { callee := .value (.func 8), args := #[(.tmp 41)], argTypes := #[32] }, none⟩ :: r_law06_JournalSteps_3)) (.keep [3, 4, 5, 6, 7, 11])) c_law06_JournalSteps_34)
@[go_sem ↓] def uc_law06_JournalSteps_35 := @unC _ _ c_law06_JournalSteps_35.eq_1
def c_law06_JournalSteps_36 : C := (.seq (.seq (.seq (.reg (⟨some 34, .load 32 (.tmp 5), none⟩ :: ⟨some 35, .call { callee := .value (.func 7), args := #[(.tmp 34)], argTypes := #[32] }, none⟩ :: r_law06_JournalSteps_0)) (.keep [3, 4, 5, 6, 7, 40])) c_law06_JournalSteps_2) c_law06_JournalSteps_35)
@[go_sem ↓] def uc_law06_JournalSteps_36 := @unC _ _ c_law06_JournalSteps_36.eq_1
def c_law06_JournalSteps : C := (.seq (.seq (.reg ([⟨some 5, .box 32 (.tmp 0), none⟩, ⟨some 6, .box 34 (.tmp 1), none⟩, ⟨some 7, .box 30 (.tmp 2), none⟩, ⟨some 10, .assign (.const (.bool false)), none⟩])) (.keep [3, 4, 5, 6, 7])) c_law06_JournalSteps_36)
attribute [go_sem ↓] c_law06_JournalSteps
def h_law06_JournalSteps : List Hint := [⟨[], [3, 4, 5, 6, 7], []⟩, ⟨[], [3, 4, 5, 6, 7, 40], []⟩, ⟨[], [10], []⟩, ⟨[], [3, 4, 5, 6, 7, 11], []⟩, ⟨[], [3, 4, 5, 6, 7, 11, 12, 13], []⟩, ⟨[], [3, 5, 6, 7, 11, 12, 13, 14, 15], []⟩, ⟨[], [3, 5, 6, 7, 11, 12, 13, 14, 15, 16, 17], []⟩, ⟨[], [5, 6, 11, 12, 13, 14, 15, 16, 17, 18, 19], []⟩, ⟨[], [5, 6, 11, 12, 13, 14, 15, 16, 17, 18, 19, 20, 21, 22], []⟩, ⟨[], [5, 11, 12, 13, 14, 15, 16, 17, 18, 19, 20, 21, 22, 23, 24, 25], []⟩, ⟨[], [5, 11, 113], []⟩, ⟨[], [10], []⟩, ⟨[], [5, 11, 26, 27], []⟩, ⟨[], [5, 11, 26, 27, 28, 29], []⟩, ⟨[], [5, 11, 26, 27, 28, 29, 30, 31], []⟩, ⟨[], [5, 11, 26, 27, 28, 29, 30, 31, 32, 33], []⟩, ⟨[], [10], []⟩]
theorem b_law06_JournalSteps : Body Tryz.prog 3 [] h_law06_JournalSteps c_law06_JournalSteps 164 [.tmp 10] := body_of Tryz.func3 (by kernel_rfl) (by kernel_rfl) (by kernel_rfl) (by kernel_rfl)
end Go.Proofs.YtlfpafdkegnkoaaGreat.Pm
