/- code of slots: bodies, in the form in which they are walked. Printed by a program. No law of Go's is stated here. -/
import Derived.Test.YtdpnjhooehadmaaPmMd
import Derived.Test.YtdpnjhooehadmaaPmMc
set_option linter.all false
set_option maxRecDepth 100000
namespace Go.Proofs.Ytdpnjhooehadmaa.Pm
open Go Go.RowKit


def c_law05_SlotsLoads_0 : C := (.seq (.seq (.reg ([⟨some 2, .assign (.const (.bool true)), none⟩])) (.keep [2])) .ret)
@[go_sem ↓] def uc_law05_SlotsLoads_0 := @unC _ _ c_law05_SlotsLoads_0.eq_1
def c_law05_SlotsLoads_1 : C := (.cond (.tmp 17) c_law05_SlotsLoads_0 .skip)
@[go_sem ↓] def uc_law05_SlotsLoads_1 := @unC _ _ c_law05_SlotsLoads_1.eq_1
def r_law05_SlotsLoads_2 : List I := [⟨some 3, .alloc 43, none⟩, ⟨none, .store 43 (.tmp 3) (.tmp 19), none⟩]
@[go_sem ↓] def ur_law05_SlotsLoads_2 := @unI _ _ r_law05_SlotsLoads_2.eq_1
def r_law05_SlotsLoads_3 : List I := [⟨some 20, .move (.tmp 22), none⟩, ⟨some 23, .extract (.tmp 20) 0, none⟩, ⟨some 24, .extract (.tmp 20) 1, none⟩, ⟨some 25, .extract (.tmp 20) 2, none⟩, ⟨some 4, .assign (.tmp 23), none⟩, ⟨some 5, .assign (.tmp 24), none⟩, ⟨some 6, .assign (.tmp 25), none⟩]
@[go_sem ↓] def ur_law05_SlotsLoads_3 := @unI _ _ r_law05_SlotsLoads_3.eq_1
def r_law05_SlotsLoads_4 : List I := [⟨some 26, .move (.tmp 28), none⟩, ⟨some 29, .extract (.tmp 26) 0, none⟩, ⟨some 30, .extract (.tmp 26) 1, none⟩, ⟨some 31, .extract (.tmp 26) 2, none⟩, ⟨some 7, .assign (.tmp 29), none⟩, ⟨some 8, .assign (.tmp 30), none⟩, ⟨some 9, .assign (.tmp 31), none⟩]
@[go_sem ↓] def ur_law05_SlotsLoads_4 := @unI _ _ r_law05_SlotsLoads_4.eq_1
def r_law05_SlotsLoads_5 : List I := [⟨some 32, .move (.tmp 34), none⟩, ⟨some 35, .extract (.tmp 32) 0, none⟩, ⟨some 36, .extract (.tmp 32) 1, none⟩, ⟨some 10, .alloc 43, none⟩, ⟨none, .store 43 (.tmp 10) (.tmp 35), none⟩, ⟨some 11, .assign (.tmp 36), none⟩]
@[go_sem ↓] def ur_law05_SlotsLoads_5 := @unI _ _ r_law05_SlotsLoads_5.eq_1
def r_law05_SlotsLoads_6 : List I := [⟨some 37, .move (.tmp 39), none⟩, ⟨some 40, .extract (.tmp 37) 0, none⟩, ⟨some 41, .extract (.tmp 37) 1, none⟩, ⟨some 12, .alloc 43, none⟩, ⟨none, .store 43 (.tmp 12) (.tmp 40), none⟩, ⟨some 13, .assign (.tmp 41), none⟩]
@[go_sem ↓] def ur_law05_SlotsLoads_6 := @unI _ _ r_law05_SlotsLoads_6.eq_1
def c_law05_SlotsLoads_7 : C := (.cond (.tmp 43) .skip (.exit 0))
@[go_sem ↓] def uc_law05_SlotsLoads_7 := @unC _ _ c_law05_SlotsLoads_7.eq_1
def c_law05_SlotsLoads_8 : C := (.cond (.tmp 53) .skip (.exit 2))
@[go_sem ↓] def uc_law05_SlotsLoads_8 := @unC _ _ c_law05_SlotsLoads_8.eq_1
def c_law05_SlotsLoads_9 : C := (.seq (.reg ([⟨some 54, .move (.tmp 15), none⟩, ⟨some 55, .binOp .add 3 (.tmp 54) (.const (.int .i64 1)) 3, none⟩, ⟨some 15, .assign (.tmp 55), none⟩])) (.keep [3, 4, 5, 6, 7, 8, 9, 10, 11, 12, 13, 14, 15]))
@[go_sem ↓] def uc_law05_SlotsLoads_9 := @unC _ _ c_law05_SlotsLoads_9.eq_1
def c_law05_SlotsLoads_10 : C := (.seq (.block 3 (.seq (.reg ([⟨some 56, .move (.tmp 14), none⟩, ⟨some 57, .fieldAddr 43 (.tmp 3) 0, none⟩, ⟨some 58, .indexAddr 41 (.tmp 57) (.tmp 56), none⟩, ⟨some 59, .fieldAddr 24 (.tmp 58) 0, none⟩, ⟨some 60, .load 22 (.tmp 59), none⟩, ⟨some 61, .move (.tmp 15), none⟩, ⟨some 62, .indexAddr 22 (.tmp 60) (.tmp 61), none⟩, ⟨some 63, .load 5 (.tmp 62), none⟩, ⟨some 64, .binOp .add 5 (.tmp 63) (.const (.int .u8 1)) 5, none⟩, ⟨some 65, .indexAddr 22 (.tmp 60) (.tmp 61), none⟩, ⟨none, .store 5 (.tmp 65) (.tmp 64), none⟩])) (.keep [3, 4, 5, 6, 7, 8, 9, 10, 11, 12, 13, 14, 15]))) c_law05_SlotsLoads_9)
@[go_sem ↓] def uc_law05_SlotsLoads_10 := @unC _ _ c_law05_SlotsLoads_10.eq_1
def c_law05_SlotsLoads_11 : C := (.seq (.seq (.seq (.reg ([⟨some 46, .move (.tmp 15), none⟩, ⟨some 47, .move (.tmp 14), none⟩, ⟨some 48, .fieldAddr 43 (.tmp 3) 0, none⟩, ⟨some 49, .indexAddr 41 (.tmp 48) (.tmp 47), none⟩, ⟨some 50, .fieldAddr 24 (.tmp 49) 0, none⟩, ⟨some 51, .load 22 (.tmp 50), none⟩, ⟨some 52, .call { callee := .builtin .len, args := #[(.tmp 51)], argTypes := #[22] }, none⟩, ⟨some 53, .binOp .lss 3 (.tmp 46) (.tmp 52) 3, none⟩])) (.keep [3, 4, 5, 6, 7, 8, 9, 10, 11, 12, 13, 14, 15, 53])) c_law05_SlotsLoads_8) c_law05_SlotsLoads_10)
@[go_sem ↓] def uc_law05_SlotsLoads_11 := @unC _ _ c_law05_SlotsLoads_11.eq_1
def c_law05_SlotsLoads_12 : C := (.block 2 (.loop [] [3, 4, 5, 6, 7, 8, 9, 10, 11, 12, 13, 14, 15] c_law05_SlotsLoads_11))
@[go_sem ↓] def uc_law05_SlotsLoads_12 := @unC _ _ c_law05_SlotsLoads_12.eq_1
def c_law05_SlotsLoads_13 : C := (.seq (.reg ([⟨some 44, .move (.tmp 14), none⟩, ⟨some 45, .binOp .add 3 (.tmp 44) (.const (.int .i64 1)) 3, none⟩, ⟨some 14, .assign (.tmp 45), none⟩])) (.keep [3, 4, 5, 6, 7, 8, 9, 10, 11, 12, 13, 14]))
@[go_sem ↓] def uc_law05_SlotsLoads_13 := @unC _ _ c_law05_SlotsLoads_13.eq_1
def c_law05_SlotsLoads_14 : C := (.seq (.block 1 (.seq (.seq (.reg ([⟨some 15, .assign (.const (.int .i64 0)), none⟩])) (.keep [3, 4, 5, 6, 7, 8, 9, 10, 11, 12, 13, 14, 15])) c_law05_SlotsLoads_12)) c_law05_SlotsLoads_13)
@[go_sem ↓] def uc_law05_SlotsLoads_14 := @unC _ _ c_law05_SlotsLoads_14.eq_1
def c_law05_SlotsLoads_15 : C := (.seq (.seq (.seq (.reg ([⟨some 42, .move (.tmp 14), none⟩, ⟨some 43, .binOp .lss 3 (.tmp 42) (.const (.int .i64 2)) 3, none⟩])) (.keep [3, 4, 5, 6, 7, 8, 9, 10, 11, 12, 13, 14, 43])) c_law05_SlotsLoads_7) c_law05_SlotsLoads_14)
@[go_sem ↓] def uc_law05_SlotsLoads_15 := @unC _ _ c_law05_SlotsLoads_15.eq_1
def c_law05_SlotsLoads_16 : C := (.block 0 (.loop [] [3, 4, 5, 6, 7, 8, 9, 10, 11, 12, 13, 14] c_law05_SlotsLoads_15))
@[go_sem ↓] def uc_law05_SlotsLoads_16 := @unC _ _ c_law05_SlotsLoads_16.eq_1
def r_law05_SlotsLoads_17 : List I := [⟨some 83, .pick (.tmp 79) (.tmp 82) (.const (.bool false)), none⟩, ⟨some 84, .move (.tmp 83), none⟩, ⟨some 85, .move (.tmp 11), some (84, true)⟩, ⟨some 86, .move (.tmp 13), some (84, true)⟩, ⟨some 87, .binOp .eql 3 (.tmp 85) (.tmp 86) 3, some (84, true)⟩, ⟨some 88, .pick (.tmp 84) (.tmp 87) (.const (.bool false)), none⟩, ⟨some 2, .assign (.tmp 88), none⟩]
@[go_sem ↓] def ur_law05_SlotsLoads_17 := @unI _ _ r_law05_SlotsLoads_17.eq_1
def r_law05_SlotsLoads_18 : List I := ⟨some 73, .pick (.tmp 69) (.tmp 72) (.const (.bool false)), none⟩ :: ⟨some 74, .move (.tmp 73), none⟩ :: ⟨some 75, .move (.tmp 6), some (74, true)⟩ :: ⟨some 76, .move (.tmp 9), some (74, true)⟩ :: ⟨some 77, .binOp .eql 3 (.tmp 75) (.tmp 76) 3, some (74, true)⟩ :: ⟨some 78, .pick (.tmp 74) (.tmp 77) (.const (.bool false)), none⟩ :: ⟨some 79, .move (.tmp 78), none⟩ :: ⟨some 80, .load 43 (.tmp 10), some (79, true)⟩ :: ⟨some 81, .load 43 (.tmp 12), some (79, true)⟩ :: ⟨some 82, .call { callee := .value (.func 30), args := #[(.tmp 80), (.tmp 81)], argTypes := #[43, 43] }, some (79, true)⟩ :: r_law05_SlotsLoads_17
@[go_sem ↓] def ur_law05_SlotsLoads_18 := @unI _ _ r_law05_SlotsLoads_18.eq_1
def c_law05_SlotsLoads_19 : C := (.seq (.seq (.reg (⟨some 66, .move (.tmp 4), none⟩ :: ⟨some 67, .move (.tmp 7), none⟩ :: ⟨some 68, .binOp .eql 3 (.tmp 66) (.tmp 67) 3, none⟩ :: ⟨some 69, .move (.tmp 68), none⟩ :: ⟨some 70, .move (.tmp 5), some (69, true)⟩ :: ⟨some 71, .move (.tmp 8), some (69, true)⟩ :: ⟨some 72, .call { callee := .value (.func 29), args := #[(.tmp 70), (.tmp 71)], argTypes := #[22, 22] }, some (69, true)⟩ :: r_law05_SlotsLoads_18)) (.keep [2])) .ret)
@[go_sem ↓] def uc_law05_SlotsLoads_19 := @unC _ _ c_law05_SlotsLoads_19.eq_1
def c_law05_SlotsLoads_20 : C := (.seq (.seq (.seq (.reg ([⟨some 14, .assign (.const (.int .i64 0)), none⟩])) (.keep [3, 4, 5, 6, 7, 8, 9, 10, 11, 12, 13, 14])) c_law05_SlotsLoads_16) c_law05_SlotsLoads_19)
@[go_sem ↓] def uc_law05_SlotsLoads_20 := @unC _ _ c_law05_SlotsLoads_20.eq_1
def c_law05_SlotsLoads_21 : C := (.seq (.seq (.reg (⟨some 38, .load 43 (.tmp 1), none⟩ :: ⟨some 39, .call { callee := .value (.func 28), args := #[(.tmp 38)], argTypes := #[43] }, none⟩ :: r_law05_SlotsLoads_6)) (.keep [3, 4, 5, 6, 7, 8, 9, 10, 11, 12, 13])) c_law05_SlotsLoads_20)
@[go_sem ↓] def uc_law05_SlotsLoads_21 := @unC _ _ c_law05_SlotsLoads_21.eq_1
def c_law05_SlotsLoads_22 : C := (.seq (.seq (.reg (⟨some 33, .load 43 (.tmp 3), none⟩ :: ⟨some 34, .call { callee := .value (.func 27), args := #[(.tmp 33)], argTypes := #[43] }, none⟩ :: r_law05_SlotsLoads_5)) (.keep [1, 3, 4, 5, 6, 7, 8, 9, 10, 11])) c_law05_SlotsLoads_21)
@[go_sem ↓] def uc_law05_SlotsLoads_22 := @unC _ _ c_law05_SlotsLoads_22.eq_1
def c_law05_SlotsLoads_23 : C := (.seq (.seq (.reg (⟨some 27, .load 43 (.tmp 1), none⟩ :: ⟨some 28, .call { callee := .value (.func 26), args := #[(.tmp 27)], argTypes := #[43] }, none⟩ :: r_law05_SlotsLoads_4)) (.keep [1, 3, 4, 5, 6, 7, 8, 9])) c_law05_SlotsLoads_22)
@[go_sem ↓] def uc_law05_SlotsLoads_23 := @unC _ _ c_law05_SlotsLoads_23.eq_1
def c_law05_SlotsLoads_24 : C := (.seq (.seq (.reg (⟨some 21, .load 43 (.tmp 3), none⟩ :: ⟨some 22, .call { callee := .value (.func 25), args := #[(.tmp 21)], argTypes := #[43] }, none⟩ :: r_law05_SlotsLoads_3)) (.keep [1, 3, 4, 5, 6])) c_law05_SlotsLoads_23)
@[go_sem ↓] def uc_law05_SlotsLoads_24 := @unC _ _ c_law05_SlotsLoads_24.eq_1
def c_law05_SlotsLoads_25 : C := (.seq (.seq (.reg (⟨some 18, .load 43 (.tmp 1), none⟩ :: ⟨some 19, .call { callee := .value (.func 24), args := #[(.tmp 18)], argTypes := #[43] }, none⟩ :: r_law05_SlotsLoads_2)) (.keep [1, 3])) c_law05_SlotsLoads_24)
@[go_sem ↓] def uc_law05_SlotsLoads_25 := @unC _ _ c_law05_SlotsLoads_25.eq_1
def c_law05_SlotsLoads_26 : C := (.seq (.seq (.seq (.reg ([⟨some 16, .load 43 (.tmp 1), none⟩, ⟨some 17, .call { callee := .value (.func 23), args := #[(.tmp 16)], argTypes := #[43] }, none⟩])) (.keep [1, 17])) c_law05_SlotsLoads_1) c_law05_SlotsLoads_25)
@[go_sem ↓] def uc_law05_SlotsLoads_26 := @unC _ _ c_law05_SlotsLoads_26.eq_1
def c_law05_SlotsLoads : C := (.seq (.seq (.reg ([⟨some 1, .box 43 (.tmp 0), none⟩, ⟨some 2, .assign (.const (.bool false)), none⟩])) (.keep [1])) c_law05_SlotsLoads_26)
attribute [go_sem ↓] c_law05_SlotsLoads
def h_law05_SlotsLoads : List Hint := [⟨[], [1], []⟩, ⟨[], [1, 17], []⟩, ⟨[], [2], []⟩, ⟨[], [1, 3], []⟩, ⟨[], [1, 3, 4, 5, 6], []⟩, ⟨[], [1, 3, 4, 5, 6, 7, 8, 9], []⟩, ⟨[], [1, 3, 4, 5, 6, 7, 8, 9, 10, 11], []⟩, ⟨[], [3, 4, 5, 6, 7, 8, 9, 10, 11, 12, 13], []⟩, ⟨[], [3, 4, 5, 6, 7, 8, 9, 10, 11, 12, 13, 14], []⟩, ⟨[], [3, 4, 5, 6, 7, 8, 9, 10, 11, 12, 13, 14], []⟩, ⟨[], [3, 4, 5, 6, 7, 8, 9, 10, 11, 12, 13, 14, 43], []⟩, ⟨[], [3, 4, 5, 6, 7, 8, 9, 10, 11, 12, 13, 14, 15], []⟩, ⟨[], [3, 4, 5, 6, 7, 8, 9, 10, 11, 12, 13, 14, 15], []⟩, ⟨[], [3, 4, 5, 6, 7, 8, 9, 10, 11, 12, 13, 14, 15, 53], []⟩, ⟨[], [3, 4, 5, 6, 7, 8, 9, 10, 11, 12, 13, 14, 15], []⟩, ⟨[], [3, 4, 5, 6, 7, 8, 9, 10, 11, 12, 13, 14, 15], []⟩, ⟨[], [3, 4, 5, 6, 7, 8, 9, 10, 11, 12, 13, 14], []⟩, ⟨[], [2], []⟩]
theorem b_law05_SlotsLoads : Body Try.prog 4 [] h_law05_SlotsLoads c_law05_SlotsLoads 89 [.tmp 2] := body_of Try.func4 (by kernel_rfl) (by kernel_rfl) (by kernel_rfl) (by kernel_rfl)

end Go.Proofs.Ytdpnjhooehadmaa.Pm
