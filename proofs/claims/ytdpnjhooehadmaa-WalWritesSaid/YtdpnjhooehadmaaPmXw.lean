/- code of a statement of wal: bodies, in the form in which they are walked. Printed by a program. No law of Go's is stated here. -/
import Derived.Test.YtdpnjhooehadmaaPmMd
import Derived.Test.YtdpnjhooehadmaaPmMc
set_option linter.all false
set_option maxRecDepth 100000
namespace Go.Proofs.Ytdpnjhooehadmaa.Pm
open Go Go.RowKit


def r_law04_WalWrites_0 : List I := [⟨some 25, .move (.tmp 24), none⟩, ⟨some 26, .move (.tmp 1), some (25, false)⟩, ⟨some 27, .call { callee := .builtin .len, args := #[(.tmp 26)], argTypes := #[22] }, some (25, false)⟩, ⟨some 28, .binOp .gtr 3 (.tmp 27) (.const (.int .i64 1100)) 3, some (25, false)⟩, ⟨some 29, .pick (.tmp 25) (.const (.bool true)) (.tmp 28), none⟩]
@[go_sem ↓] def ur_law04_WalWrites_0 := @unI _ _ r_law04_WalWrites_0.eq_1
def c_law04_WalWrites_1 : C := (.seq (.seq (.reg ([⟨some 6, .assign (.const (.bool true)), none⟩])) (.keep [6])) .ret)
@[go_sem ↓] def uc_law04_WalWrites_1 := @unC _ _ c_law04_WalWrites_1.eq_1
def c_law04_WalWrites_2 : C := (.cond (.tmp 29) c_law04_WalWrites_1 .skip)
@[go_sem ↓] def uc_law04_WalWrites_2 := @unC _ _ c_law04_WalWrites_2.eq_1
def r_law04_WalWrites_3 : List I := [⟨some 7, .alloc 26, none⟩, ⟨none, .store 26 (.tmp 7) (.tmp 31), none⟩]
@[go_sem ↓] def ur_law04_WalWrites_3 := @unI _ _ r_law04_WalWrites_3.eq_1
def r_law04_WalWrites_4 : List I := [⟨some 32, .move (.tmp 35), none⟩, ⟨some 36, .extract (.tmp 32) 0, none⟩, ⟨some 37, .extract (.tmp 32) 1, none⟩, ⟨some 38, .extract (.tmp 32) 2, none⟩, ⟨some 8, .alloc 26, none⟩, ⟨none, .store 26 (.tmp 8) (.tmp 36), none⟩, ⟨some 9, .assign (.tmp 37), none⟩, ⟨some 10, .assign (.tmp 38), none⟩]
@[go_sem ↓] def ur_law04_WalWrites_4 := @unI _ _ r_law04_WalWrites_4.eq_1
def r_law04_WalWrites_5 : List I := [⟨some 39, .move (.tmp 42), none⟩, ⟨some 43, .extract (.tmp 39) 0, none⟩, ⟨some 44, .extract (.tmp 39) 1, none⟩, ⟨some 45, .extract (.tmp 39) 2, none⟩, ⟨some 11, .alloc 26, none⟩, ⟨none, .store 26 (.tmp 11) (.tmp 43), none⟩, ⟨some 12, .assign (.tmp 44), none⟩, ⟨some 13, .assign (.tmp 45), none⟩]
@[go_sem ↓] def ur_law04_WalWrites_5 := @unI _ _ r_law04_WalWrites_5.eq_1
def r_law04_WalWrites_6 : List I := [⟨some 46, .move (.tmp 48), none⟩, ⟨some 49, .extract (.tmp 46) 0, none⟩, ⟨some 50, .extract (.tmp 46) 1, none⟩, ⟨some 14, .alloc 26, none⟩, ⟨none, .store 26 (.tmp 14) (.tmp 49), none⟩, ⟨some 15, .assign (.tmp 50), none⟩]
@[go_sem ↓] def ur_law04_WalWrites_6 := @unI _ _ r_law04_WalWrites_6.eq_1
def r_law04_WalWrites_7 : List I := [⟨some 51, .move (.tmp 53), none⟩, ⟨some 54, .extract (.tmp 51) 0, none⟩, ⟨some 55, .extract (.tmp 51) 1, none⟩, ⟨some 16, .alloc 26, none⟩, ⟨none, .store 26 (.tmp 16) (.tmp 54), none⟩, ⟨some 17, .assign (.tmp 55), none⟩]
@[go_sem ↓] def ur_law04_WalWrites_7 := @unI _ _ r_law04_WalWrites_7.eq_1
def r_law04_WalWrites_8 : List I := [⟨some 56, .move (.tmp 59), none⟩, ⟨some 60, .extract (.tmp 56) 0, none⟩, ⟨some 61, .extract (.tmp 56) 1, none⟩, ⟨some 18, .alloc 26, none⟩, ⟨none, .store 26 (.tmp 18) (.tmp 60), none⟩, ⟨some 19, .assign (.tmp 61), none⟩]
@[go_sem ↓] def ur_law04_WalWrites_8 := @unI _ _ r_law04_WalWrites_8.eq_1
def r_law04_WalWrites_9 : List I := [⟨some 62, .move (.tmp 65), none⟩, ⟨some 66, .extract (.tmp 62) 0, none⟩, ⟨some 67, .extract (.tmp 62) 1, none⟩, ⟨some 20, .alloc 26, none⟩, ⟨none, .store 26 (.tmp 20) (.tmp 66), none⟩, ⟨some 21, .assign (.tmp 67), none⟩]
@[go_sem ↓] def ur_law04_WalWrites_9 := @unI _ _ r_law04_WalWrites_9.eq_1
def r_law04_WalWrites_10 : List I := [⟨some 105, .pick (.tmp 101) (.tmp 104) (.const (.bool false)), none⟩, ⟨some 6, .assign (.tmp 105), none⟩]
@[go_sem ↓] def ur_law04_WalWrites_10 := @unI _ _ r_law04_WalWrites_10.eq_1
def r_law04_WalWrites_11 : List I := ⟨some 95, .pick (.tmp 91) (.tmp 94) (.const (.bool false)), none⟩ :: ⟨some 96, .move (.tmp 95), none⟩ :: ⟨some 97, .move (.tmp 19), some (96, true)⟩ :: ⟨some 98, .move (.tmp 21), some (96, true)⟩ :: ⟨some 99, .binOp .eql 3 (.tmp 97) (.tmp 98) 3, some (96, true)⟩ :: ⟨some 100, .pick (.tmp 96) (.tmp 99) (.const (.bool false)), none⟩ :: ⟨some 101, .move (.tmp 100), none⟩ :: ⟨some 102, .load 26 (.tmp 7), some (101, true)⟩ :: ⟨some 103, .load 26 (.tmp 3), some (101, true)⟩ :: ⟨some 104, .call { callee := .value (.func 38), args := #[(.tmp 102), (.tmp 103)], argTypes := #[26, 26] }, some (101, true)⟩ :: r_law04_WalWrites_10
@[go_sem ↓] def ur_law04_WalWrites_11 := @unI _ _ r_law04_WalWrites_11.eq_1
def r_law04_WalWrites_12 : List I := ⟨some 85, .pick (.tmp 81) (.tmp 84) (.const (.bool false)), none⟩ :: ⟨some 86, .move (.tmp 85), none⟩ :: ⟨some 87, .move (.tmp 15), some (86, true)⟩ :: ⟨some 88, .move (.tmp 17), some (86, true)⟩ :: ⟨some 89, .binOp .eql 3 (.tmp 87) (.tmp 88) 3, some (86, true)⟩ :: ⟨some 90, .pick (.tmp 86) (.tmp 89) (.const (.bool false)), none⟩ :: ⟨some 91, .move (.tmp 90), none⟩ :: ⟨some 92, .load 26 (.tmp 18), some (91, true)⟩ :: ⟨some 93, .load 26 (.tmp 20), some (91, true)⟩ :: ⟨some 94, .call { callee := .value (.func 38), args := #[(.tmp 92), (.tmp 93)], argTypes := #[26, 26] }, some (91, true)⟩ :: r_law04_WalWrites_11
@[go_sem ↓] def ur_law04_WalWrites_12 := @unI _ _ r_law04_WalWrites_12.eq_1
def r_law04_WalWrites_13 : List I := ⟨some 71, .move (.tmp 70), none⟩ :: ⟨some 72, .move (.tmp 9), some (71, true)⟩ :: ⟨some 73, .move (.tmp 12), some (71, true)⟩ :: ⟨some 74, .binOp .eql 3 (.tmp 72) (.tmp 73) 3, some (71, true)⟩ :: ⟨some 75, .pick (.tmp 71) (.tmp 74) (.const (.bool false)), none⟩ :: ⟨some 76, .move (.tmp 75), none⟩ :: ⟨some 77, .move (.tmp 10), some (76, true)⟩ :: ⟨some 78, .move (.tmp 13), some (76, true)⟩ :: ⟨some 79, .binOp .eql 3 (.tmp 77) (.tmp 78) 3, some (76, true)⟩ :: ⟨some 80, .pick (.tmp 76) (.tmp 79) (.const (.bool false)), none⟩ :: ⟨some 81, .move (.tmp 80), none⟩ :: ⟨some 82, .load 26 (.tmp 14), some (81, true)⟩ :: ⟨some 83, .load 26 (.tmp 16), some (81, true)⟩ :: ⟨some 84, .call { callee := .value (.func 38), args := #[(.tmp 82), (.tmp 83)], argTypes := #[26, 26] }, some (81, true)⟩ :: r_law04_WalWrites_12
@[go_sem ↓] def ur_law04_WalWrites_13 := @unI _ _ r_law04_WalWrites_13.eq_1
def c_law04_WalWrites_14 : C := (.seq (.seq (.reg (⟨some 68, .load 26 (.tmp 8), none⟩ :: ⟨some 69, .load 26 (.tmp 11), none⟩ :: ⟨some 70, .call { callee := .value (.func 38), args := #[(.tmp 68), (.tmp 69)], argTypes := #[26, 26] }, none⟩ :: r_law04_WalWrites_13)) (.keep [6])) .ret)
@[go_sem ↓] def uc_law04_WalWrites_14 := @unC _ _ c_law04_WalWrites_14.eq_1
def c_law04_WalWrites_15 : C := (.seq (.seq (.reg (⟨some 63, .load 26 (.tmp 3), none⟩ :: ⟨some 64, .move (.tmp 2), none⟩ :: ⟨some 65, .call { callee := .value (.func 53), args := #[(.tmp 63), (.tmp 64)], argTypes := #[26, 3] }, none⟩ :: r_law04_WalWrites_9)) (.keep [3, 7, 8, 9, 10, 11, 12, 13, 14, 15, 16, 17, 18, 19, 20, 21])) c_law04_WalWrites_14)
@[go_sem ↓] def uc_law04_WalWrites_15 := @unC _ _ c_law04_WalWrites_15.eq_1
def c_law04_WalWrites_16 : C := (.seq (.seq (.reg (⟨some 57, .load 26 (.tmp 7), none⟩ :: ⟨some 58, .move (.tmp 2), none⟩ :: ⟨some 59, .call { callee := .value (.func 52), args := #[(.tmp 57), (.tmp 58)], argTypes := #[26, 3] }, none⟩ :: r_law04_WalWrites_8)) (.keep [2, 3, 7, 8, 9, 10, 11, 12, 13, 14, 15, 16, 17, 18, 19])) c_law04_WalWrites_15)
@[go_sem ↓] def uc_law04_WalWrites_16 := @unC _ _ c_law04_WalWrites_16.eq_1
def c_law04_WalWrites_17 : C := (.seq (.seq (.reg (⟨some 52, .load 26 (.tmp 3), none⟩ :: ⟨some 53, .call { callee := .value (.func 51), args := #[(.tmp 52)], argTypes := #[26] }, none⟩ :: r_law04_WalWrites_7)) (.keep [2, 3, 7, 8, 9, 10, 11, 12, 13, 14, 15, 16, 17])) c_law04_WalWrites_16)
@[go_sem ↓] def uc_law04_WalWrites_17 := @unC _ _ c_law04_WalWrites_17.eq_1
def c_law04_WalWrites_18 : C := (.seq (.seq (.reg (⟨some 47, .load 26 (.tmp 7), none⟩ :: ⟨some 48, .call { callee := .value (.func 50), args := #[(.tmp 47)], argTypes := #[26] }, none⟩ :: r_law04_WalWrites_6)) (.keep [2, 3, 7, 8, 9, 10, 11, 12, 13, 14, 15])) c_law04_WalWrites_17)
@[go_sem ↓] def uc_law04_WalWrites_18 := @unC _ _ c_law04_WalWrites_18.eq_1
def c_law04_WalWrites_19 : C := (.seq (.seq (.reg (⟨some 40, .load 26 (.tmp 3), none⟩ :: ⟨some 41, .move (.tmp 1), none⟩ :: ⟨some 42, .call { callee := .value (.func 49), args := #[(.tmp 40), (.tmp 41)], argTypes := #[26, 22] }, none⟩ :: r_law04_WalWrites_5)) (.keep [2, 3, 7, 8, 9, 10, 11, 12, 13])) c_law04_WalWrites_18)
@[go_sem ↓] def uc_law04_WalWrites_19 := @unC _ _ c_law04_WalWrites_19.eq_1
def c_law04_WalWrites_20 : C := (.seq (.seq (.reg (⟨some 33, .load 26 (.tmp 7), none⟩ :: ⟨some 34, .move (.tmp 1), none⟩ :: ⟨some 35, .call { callee := .value (.func 48), args := #[(.tmp 33), (.tmp 34)], argTypes := #[26, 22] }, none⟩ :: r_law04_WalWrites_4)) (.keep [1, 2, 3, 7, 8, 9, 10])) c_law04_WalWrites_19)
@[go_sem ↓] def uc_law04_WalWrites_20 := @unC _ _ c_law04_WalWrites_20.eq_1
def c_law04_WalWrites_21 : C := (.seq (.seq (.reg (⟨some 30, .load 26 (.tmp 3), none⟩ :: ⟨some 31, .call { callee := .value (.func 17), args := #[(.tmp 30)], argTypes := #[26] }, none⟩ :: r_law04_WalWrites_3)) (.keep [1, 2, 3, 7])) c_law04_WalWrites_20)
@[go_sem ↓] def uc_law04_WalWrites_21 := @unC _ _ c_law04_WalWrites_21.eq_1
def c_law04_WalWrites_22 : C := (.seq (.seq (.seq (.reg (⟨some 22, .fieldAddr 26 (.tmp 3) 0, none⟩ :: ⟨some 23, .load 24 (.tmp 22), none⟩ :: ⟨some 24, .call { callee := .value (.func 16), args := #[(.tmp 23)], argTypes := #[24] }, none⟩ :: r_law04_WalWrites_0)) (.keep [1, 2, 3, 29])) c_law04_WalWrites_2) c_law04_WalWrites_21)
@[go_sem ↓] def uc_law04_WalWrites_22 := @unC _ _ c_law04_WalWrites_22.eq_1
def c_law04_WalWrites : C := (.seq (.seq (.reg ([⟨some 3, .box 26 (.tmp 0), none⟩, ⟨some 6, .assign (.const (.bool false)), none⟩])) (.keep [1, 2, 3])) c_law04_WalWrites_22)
attribute [go_sem ↓] c_law04_WalWrites
def h_law04_WalWrites : List Hint := [⟨[], [1, 2, 3], []⟩, ⟨[], [1, 2, 3, 29], []⟩, ⟨[], [6], []⟩, ⟨[], [1, 2, 3, 7], []⟩, ⟨[], [1, 2, 3, 7, 8, 9, 10], []⟩, ⟨[], [2, 3, 7, 8, 9, 10, 11, 12, 13], []⟩, ⟨[], [2, 3, 7, 8, 9, 10, 11, 12, 13, 14, 15], []⟩, ⟨[], [2, 3, 7, 8, 9, 10, 11, 12, 13, 14, 15, 16, 17], []⟩, ⟨[], [2, 3, 7, 8, 9, 10, 11, 12, 13, 14, 15, 16, 17, 18, 19], []⟩, ⟨[], [3, 7, 8, 9, 10, 11, 12, 13, 14, 15, 16, 17, 18, 19, 20, 21], []⟩, ⟨[], [6], []⟩]
theorem b_law04_WalWrites : Body Try.prog 7 [] h_law04_WalWrites c_law04_WalWrites 106 [.tmp 6] := body_of Try.func7 (by kernel_rfl) (by kernel_rfl) (by kernel_rfl) (by kernel_rfl)

end Go.Proofs.Ytdpnjhooehadmaa.Pm
