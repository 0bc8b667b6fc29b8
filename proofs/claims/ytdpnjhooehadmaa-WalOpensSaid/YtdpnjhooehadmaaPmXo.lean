/- code of a statement of wal: bodies, in the form in which they are walked. Printed by a program. No law of Go's is stated here. -/
import Derived.Test.YtdpnjhooehadmaaPmMd
import Derived.Test.YtdpnjhooehadmaaPmMc
set_option linter.all false
set_option maxRecDepth 100000
namespace Go.Proofs.Ytdpnjhooehadmaa.Pm
open Go Go.RowKit


def r_law04_WalOpens_0 : List I := [⟨some 25, .pick (.tmp 22) (.const (.bool true)) (.tmp 24), none⟩]
@[go_sem ↓] def ur_law04_WalOpens_0 := @unI _ _ r_law04_WalOpens_0.eq_1
def r_law04_WalOpens_1 : List I := ⟨some 22, .move (.tmp 21), none⟩ :: ⟨some 23, .load 24 (.tmp 5), some (22, false)⟩ :: ⟨some 24, .call { callee := .value (.func 16), args := #[(.tmp 23)], argTypes := #[24] }, some (22, false)⟩ :: r_law04_WalOpens_0
@[go_sem ↓] def ur_law04_WalOpens_1 := @unI _ _ r_law04_WalOpens_1.eq_1
def c_law04_WalOpens_2 : C := (.seq (.seq (.reg ([⟨some 8, .assign (.const (.bool true)), none⟩])) (.keep [8])) .ret)
@[go_sem ↓] def uc_law04_WalOpens_2 := @unC _ _ c_law04_WalOpens_2.eq_1
def c_law04_WalOpens_3 : C := (.cond (.tmp 25) c_law04_WalOpens_2 .skip)
@[go_sem ↓] def uc_law04_WalOpens_3 := @unC _ _ c_law04_WalOpens_3.eq_1
def d_law04_WalOpens_4 : List D := [⟨⟨some 9, .alloc 26, none⟩, [0, 1, 2, 3]⟩, ⟨⟨some 10, .alloc 24, none⟩, [0, 1, 2, 3, 4]⟩, ⟨⟨none, .store 26 (.tmp 9) (.tmp 27), none⟩, []⟩, ⟨⟨none, .store 24 (.tmp 10) (.tmp 29), none⟩, []⟩]
@[go_sem ↓] def ud_law04_WalOpens_4 := @unD _ _ d_law04_WalOpens_4.eq_1
def d_law04_WalOpens_5 : List D := ⟨⟨some 28, .load 24 (.tmp 5), none⟩, [0, 1]⟩ :: ⟨⟨some 29, .call { callee := .value (.func 31), args := #[(.tmp 28)], argTypes := #[24] }, none⟩, []⟩ :: d_law04_WalOpens_4
@[go_sem ↓] def ud_law04_WalOpens_5 := @unD _ _ d_law04_WalOpens_5.eq_1
def r_law04_WalOpens_6 : List I := [⟨some 30, .move (.tmp 33), none⟩, ⟨some 34, .extract (.tmp 30) 0, none⟩, ⟨some 35, .extract (.tmp 30) 1, none⟩, ⟨some 11, .alloc 26, none⟩, ⟨none, .store 26 (.tmp 11) (.tmp 34), none⟩, ⟨some 12, .assign (.tmp 35), none⟩]
@[go_sem ↓] def ur_law04_WalOpens_6 := @unI _ _ r_law04_WalOpens_6.eq_1
def r_law04_WalOpens_7 : List I := [⟨some 36, .move (.tmp 39), none⟩, ⟨some 40, .extract (.tmp 36) 0, none⟩, ⟨some 41, .extract (.tmp 36) 1, none⟩, ⟨some 13, .alloc 26, none⟩, ⟨none, .store 26 (.tmp 13) (.tmp 40), none⟩, ⟨some 14, .assign (.tmp 41), none⟩]
@[go_sem ↓] def ur_law04_WalOpens_7 := @unI _ _ r_law04_WalOpens_7.eq_1
def r_law04_WalOpens_8 : List I := [⟨some 42, .move (.tmp 45), none⟩, ⟨some 46, .extract (.tmp 42) 0, none⟩, ⟨some 47, .extract (.tmp 42) 1, none⟩, ⟨some 15, .alloc 24, none⟩, ⟨none, .store 24 (.tmp 15) (.tmp 46), none⟩, ⟨some 16, .assign (.tmp 47), none⟩]
@[go_sem ↓] def ur_law04_WalOpens_8 := @unI _ _ r_law04_WalOpens_8.eq_1
def r_law04_WalOpens_9 : List I := [⟨some 48, .move (.tmp 51), none⟩, ⟨some 52, .extract (.tmp 48) 0, none⟩, ⟨some 53, .extract (.tmp 48) 1, none⟩, ⟨some 17, .alloc 24, none⟩, ⟨none, .store 24 (.tmp 17) (.tmp 52), none⟩, ⟨some 18, .assign (.tmp 53), none⟩]
@[go_sem ↓] def ur_law04_WalOpens_9 := @unI _ _ r_law04_WalOpens_9.eq_1
def d_law04_WalOpens_10 : List D := [⟨⟨some 88, .pick (.tmp 84) (.tmp 87) (.const (.bool false)), none⟩, []⟩, ⟨⟨some 8, .assign (.tmp 88), none⟩, []⟩]
@[go_sem ↓] def ud_law04_WalOpens_10 := @unD _ _ d_law04_WalOpens_10.eq_1
def d_law04_WalOpens_11 : List D := ⟨⟨some 83, .pick (.tmp 79) (.tmp 82) (.const (.bool false)), none⟩, []⟩ :: ⟨⟨some 84, .move (.tmp 83), none⟩, []⟩ :: ⟨⟨some 85, .load 24 (.tmp 10), some (84, true)⟩, []⟩ :: ⟨⟨some 86, .load 24 (.tmp 5), some (84, true)⟩, [31]⟩ :: ⟨⟨some 87, .call { callee := .value (.func 39), args := #[(.tmp 85), (.tmp 86)], argTypes := #[24, 24] }, some (84, true)⟩, []⟩ :: d_law04_WalOpens_10
@[go_sem ↓] def ud_law04_WalOpens_11 := @unD _ _ d_law04_WalOpens_11.eq_1
def d_law04_WalOpens_12 : List D := ⟨⟨some 73, .pick (.tmp 69) (.tmp 72) (.const (.bool false)), none⟩, []⟩ :: ⟨⟨some 74, .move (.tmp 73), none⟩, []⟩ :: ⟨⟨some 75, .move (.tmp 16), some (74, true)⟩, []⟩ :: ⟨⟨some 76, .move (.tmp 18), some (74, true)⟩, [21]⟩ :: ⟨⟨some 77, .binOp .eql 3 (.tmp 75) (.tmp 76) 3, some (74, true)⟩, []⟩ :: ⟨⟨some 78, .pick (.tmp 74) (.tmp 77) (.const (.bool false)), none⟩, []⟩ :: ⟨⟨some 79, .move (.tmp 78), none⟩, []⟩ :: ⟨⟨some 80, .load 26 (.tmp 9), some (79, true)⟩, []⟩ :: ⟨⟨some 81, .load 26 (.tmp 4), some (79, true)⟩, [26]⟩ :: ⟨⟨some 82, .call { callee := .value (.func 38), args := #[(.tmp 80), (.tmp 81)], argTypes := #[26, 26] }, some (79, true)⟩, []⟩ :: d_law04_WalOpens_11
@[go_sem ↓] def ud_law04_WalOpens_12 := @unD _ _ d_law04_WalOpens_12.eq_1
def d_law04_WalOpens_13 : List D := ⟨⟨some 63, .pick (.tmp 59) (.tmp 62) (.const (.bool false)), none⟩, []⟩ :: ⟨⟨some 64, .move (.tmp 63), none⟩, []⟩ :: ⟨⟨some 65, .move (.tmp 12), some (64, true)⟩, []⟩ :: ⟨⟨some 66, .move (.tmp 14), some (64, true)⟩, [11]⟩ :: ⟨⟨some 67, .binOp .eql 3 (.tmp 65) (.tmp 66) 3, some (64, true)⟩, []⟩ :: ⟨⟨some 68, .pick (.tmp 64) (.tmp 67) (.const (.bool false)), none⟩, []⟩ :: ⟨⟨some 69, .move (.tmp 68), none⟩, []⟩ :: ⟨⟨some 70, .load 24 (.tmp 15), some (69, true)⟩, []⟩ :: ⟨⟨some 71, .load 24 (.tmp 17), some (69, true)⟩, [16]⟩ :: ⟨⟨some 72, .call { callee := .value (.func 39), args := #[(.tmp 70), (.tmp 71)], argTypes := #[24, 24] }, some (69, true)⟩, []⟩ :: d_law04_WalOpens_12
@[go_sem ↓] def ud_law04_WalOpens_13 := @unD _ _ d_law04_WalOpens_13.eq_1
def d_law04_WalOpens_14 : List D := ⟨⟨some 58, .binOp .eql 3 (.tmp 55) (.tmp 57) 3, none⟩, []⟩ :: ⟨⟨some 59, .move (.tmp 58), none⟩, []⟩ :: ⟨⟨some 60, .load 26 (.tmp 11), some (59, true)⟩, []⟩ :: ⟨⟨some 61, .load 26 (.tmp 13), some (59, true)⟩, [6]⟩ :: ⟨⟨some 62, .call { callee := .value (.func 38), args := #[(.tmp 60), (.tmp 61)], argTypes := #[26, 26] }, some (59, true)⟩, []⟩ :: d_law04_WalOpens_13
@[go_sem ↓] def ud_law04_WalOpens_14 := @unD _ _ d_law04_WalOpens_14.eq_1
def d_law04_WalOpens_15 : List D := ⟨⟨some 56, .load 26 (.tmp 4), none⟩, [0, 1]⟩ :: ⟨⟨some 57, .call { callee := .value (.func 37), args := #[(.tmp 56)], argTypes := #[26] }, none⟩, []⟩ :: d_law04_WalOpens_14
@[go_sem ↓] def ud_law04_WalOpens_15 := @unD _ _ d_law04_WalOpens_15.eq_1
def c_law04_WalOpens_16 : C := (.seq (.seq (.draw (⟨⟨some 54, .load 26 (.tmp 9), none⟩, []⟩ :: ⟨⟨some 55, .call { callee := .value (.func 36), args := #[(.tmp 54)], argTypes := #[26] }, none⟩, []⟩ :: d_law04_WalOpens_15)) (.keep [8])) .ret)
@[go_sem ↓] def uc_law04_WalOpens_16 := @unC _ _ c_law04_WalOpens_16.eq_1
def c_law04_WalOpens_17 : C := (.seq (.seq (.reg (⟨some 49, .load 26 (.tmp 4), none⟩ :: ⟨some 50, .move (.tmp 3), none⟩ :: ⟨some 51, .call { callee := .value (.func 35), args := #[(.tmp 49), (.tmp 50)], argTypes := #[26, 3] }, none⟩ :: r_law04_WalOpens_9)) (.keep [4, 5, 9, 10, 11, 12, 13, 14, 15, 16, 17, 18])) c_law04_WalOpens_16)
@[go_sem ↓] def uc_law04_WalOpens_17 := @unC _ _ c_law04_WalOpens_17.eq_1
def c_law04_WalOpens_18 : C := (.seq (.seq (.reg (⟨some 43, .load 26 (.tmp 9), none⟩ :: ⟨some 44, .move (.tmp 3), none⟩ :: ⟨some 45, .call { callee := .value (.func 34), args := #[(.tmp 43), (.tmp 44)], argTypes := #[26, 3] }, none⟩ :: r_law04_WalOpens_8)) (.keep [3, 4, 5, 9, 10, 11, 12, 13, 14, 15, 16])) c_law04_WalOpens_17)
@[go_sem ↓] def uc_law04_WalOpens_18 := @unC _ _ c_law04_WalOpens_18.eq_1
def c_law04_WalOpens_19 : C := (.seq (.seq (.reg (⟨some 37, .load 24 (.tmp 5), none⟩ :: ⟨some 38, .move (.tmp 2), none⟩ :: ⟨some 39, .call { callee := .value (.func 33), args := #[(.tmp 37), (.tmp 38)], argTypes := #[24, 3] }, none⟩ :: r_law04_WalOpens_7)) (.keep [3, 4, 5, 9, 10, 11, 12, 13, 14])) c_law04_WalOpens_18)
@[go_sem ↓] def uc_law04_WalOpens_19 := @unC _ _ c_law04_WalOpens_19.eq_1
def c_law04_WalOpens_20 : C := (.seq (.seq (.reg (⟨some 31, .load 24 (.tmp 10), none⟩ :: ⟨some 32, .move (.tmp 2), none⟩ :: ⟨some 33, .call { callee := .value (.func 32), args := #[(.tmp 31), (.tmp 32)], argTypes := #[24, 3] }, none⟩ :: r_law04_WalOpens_6)) (.keep [2, 3, 4, 5, 9, 10, 11, 12])) c_law04_WalOpens_19)
@[go_sem ↓] def uc_law04_WalOpens_20 := @unC _ _ c_law04_WalOpens_20.eq_1
def c_law04_WalOpens_21 : C := (.seq (.seq (.draw (⟨⟨some 26, .load 26 (.tmp 4), none⟩, []⟩ :: ⟨⟨some 27, .call { callee := .value (.func 17), args := #[(.tmp 26)], argTypes := #[26] }, none⟩, []⟩ :: d_law04_WalOpens_5)) (.keep [2, 3, 4, 5, 9, 10])) c_law04_WalOpens_20)
@[go_sem ↓] def uc_law04_WalOpens_21 := @unC _ _ c_law04_WalOpens_21.eq_1
def c_law04_WalOpens_22 : C := (.seq (.seq (.seq (.reg (⟨some 19, .fieldAddr 26 (.tmp 4) 0, none⟩ :: ⟨some 20, .load 24 (.tmp 19), none⟩ :: ⟨some 21, .call { callee := .value (.func 16), args := #[(.tmp 20)], argTypes := #[24] }, none⟩ :: r_law04_WalOpens_1)) (.keep [2, 3, 4, 5, 25])) c_law04_WalOpens_3) c_law04_WalOpens_21)
@[go_sem ↓] def uc_law04_WalOpens_22 := @unC _ _ c_law04_WalOpens_22.eq_1
def c_law04_WalOpens : C := (.seq (.seq (.reg ([⟨some 4, .box 26 (.tmp 0), none⟩, ⟨some 5, .box 24 (.tmp 1), none⟩, ⟨some 8, .assign (.const (.bool false)), none⟩])) (.keep [2, 3, 4, 5])) c_law04_WalOpens_22)
attribute [go_sem ↓] c_law04_WalOpens
def h_law04_WalOpens : List Hint := [⟨[], [2, 3, 4, 5], []⟩, ⟨[], [2, 3, 4, 5, 25], []⟩, ⟨[], [8], []⟩, ⟨[], [2, 3, 4, 5, 9, 10], []⟩, ⟨[], [2, 3, 4, 5, 9, 10, 11, 12], []⟩, ⟨[], [3, 4, 5, 9, 10, 11, 12, 13, 14], []⟩, ⟨[], [3, 4, 5, 9, 10, 11, 12, 13, 14, 15, 16], []⟩, ⟨[], [4, 5, 9, 10, 11, 12, 13, 14, 15, 16, 17, 18], []⟩, ⟨[], [8], []⟩]
theorem b_law04_WalOpens : Body Try.prog 5 [] h_law04_WalOpens c_law04_WalOpens 89 [.tmp 8] := body_of Try.func5 (by kernel_rfl) (by kernel_rfl) (by kernel_rfl) (by kernel_rfl)

end Go.Proofs.Ytdpnjhooehadmaa.Pm
