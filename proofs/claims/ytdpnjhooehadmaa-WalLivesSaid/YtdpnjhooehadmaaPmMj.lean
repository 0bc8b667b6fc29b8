/- Texts of this proof in one file: PmXn, PmWn, PmWp, PmWq. No law of Go's is stated here. -/
import Derived.Test.YtdpnjhooehadmaaPmMd
import Derived.Test.YtdpnjhooehadmaaPmMc
import Derived.Test.YtdpnjhooehadmaaPmMi
/-! PmXn -/
set_option linter.all false
set_option maxRecDepth 100000
namespace Go.Proofs.Ytdpnjhooehadmaa.Pm
open Go Go.RowKit


def c_law04_fit : C := (.seq (.seq (.reg ([⟨some 1, .box 26 (.tmp 0), none⟩, ⟨some 2, .assign (.const (.bool false)), none⟩])) (.keep [1])) (.seq (.seq (.reg ([⟨some 3, .fieldAddr 26 (.tmp 1) 0, none⟩, ⟨some 4, .load 24 (.tmp 3), none⟩, ⟨some 5, .call { callee := .value (.func 16), args := #[(.tmp 4)], argTypes := #[24] }, none⟩, ⟨some 6, .unOp .not 4 (.tmp 5), none⟩, ⟨some 7, .move (.tmp 6), none⟩, ⟨some 8, .load 26 (.tmp 1), some (7, true)⟩, ⟨some 9, .call { callee := .value (.func 37), args := #[(.tmp 8)], argTypes := #[26] }, some (7, true)⟩, ⟨some 10, .binOp .eql 3 (.tmp 9) (.const (.int .i64 0)) 3, some (7, true)⟩, ⟨some 11, .pick (.tmp 7) (.tmp 10) (.const (.bool false)), none⟩, ⟨some 2, .assign (.tmp 11), none⟩])) (.keep [2])) .ret))
attribute [go_sem ↓] c_law04_fit
def h_law04_fit : List Hint := [⟨[], [1], []⟩, ⟨[], [2], []⟩]
theorem b_law04_fit : Body Try.prog 58 [] h_law04_fit c_law04_fit 12 [.tmp 2] := body_of Try.func58 (by kernel_rfl) (by kernel_rfl) (by kernel_rfl) (by kernel_rfl)
def r_law04_alive_0 : List I := [⟨some 11, .move (.tmp 13), none⟩, ⟨some 14, .extract (.tmp 11) 0, none⟩, ⟨some 15, .extract (.tmp 11) 1, none⟩, ⟨some 1, .assign (.tmp 14), none⟩, ⟨some 2, .assign (.tmp 15), none⟩]
@[go_sem ↓] def ur_law04_alive_0 := @unI _ _ r_law04_alive_0.eq_1
def r_law04_alive_1 : List I := ⟨some 13, .call { callee := .value (.func 18), args := #[(.tmp 12)], argTypes := #[26] }, none⟩ :: r_law04_alive_0
@[go_sem ↓] def ur_law04_alive_1 := @unI _ _ r_law04_alive_1.eq_1
def r_law04_alive_2 : List I := [⟨some 16, .move (.tmp 18), none⟩, ⟨some 19, .extract (.tmp 16) 0, none⟩, ⟨some 20, .extract (.tmp 16) 1, none⟩, ⟨some 3, .alloc 24, none⟩, ⟨none, .store 24 (.tmp 3) (.tmp 19), none⟩, ⟨some 4, .assign (.tmp 20), none⟩]
@[go_sem ↓] def ur_law04_alive_2 := @unI _ _ r_law04_alive_2.eq_1
def r_law04_alive_3 : List I := ⟨some 18, .call { callee := .value (.func 34), args := #[(.tmp 17), (.const (.int .i64 12))], argTypes := #[26, 3] }, none⟩ :: r_law04_alive_2
@[go_sem ↓] def ur_law04_alive_3 := @unI _ _ r_law04_alive_3.eq_1
def r_law04_alive_4 : List I := [⟨some 21, .move (.tmp 23), none⟩, ⟨some 24, .extract (.tmp 21) 0, none⟩, ⟨some 25, .extract (.tmp 21) 1, none⟩, ⟨some 5, .alloc 26, none⟩, ⟨none, .store 26 (.tmp 5) (.tmp 24), none⟩, ⟨some 6, .assign (.tmp 25), none⟩]
@[go_sem ↓] def ur_law04_alive_4 := @unI _ _ r_law04_alive_4.eq_1
def r_law04_alive_5 : List I := [⟨some 26, .move (.tmp 28), none⟩, ⟨some 29, .extract (.tmp 26) 0, none⟩, ⟨some 30, .extract (.tmp 26) 1, none⟩, ⟨some 7, .alloc 26, none⟩, ⟨none, .store 26 (.tmp 7) (.tmp 29), none⟩, ⟨some 8, .assign (.tmp 30), none⟩]
@[go_sem ↓] def ur_law04_alive_5 := @unI _ _ r_law04_alive_5.eq_1
def r_law04_alive_6 : List I := [⟨some 31, .move (.tmp 33), none⟩, ⟨some 34, .extract (.tmp 31) 0, none⟩, ⟨some 35, .extract (.tmp 31) 1, none⟩, ⟨some 9, .alloc 26, none⟩, ⟨none, .store 26 (.tmp 9) (.tmp 34), none⟩, ⟨some 10, .assign (.tmp 35), none⟩]
@[go_sem ↓] def ur_law04_alive_6 := @unI _ _ r_law04_alive_6.eq_1
def r_law04_alive_7 : List I := [⟨some 67, .pick (.tmp 63) (.tmp 66) (.const (.bool false)), none⟩, ⟨some 0, .assign (.tmp 67), none⟩]
@[go_sem ↓] def ur_law04_alive_7 := @unI _ _ r_law04_alive_7.eq_1
def r_law04_alive_8 : List I := ⟨some 62, .pick (.tmp 57) (.tmp 61) (.const (.bool false)), none⟩ :: ⟨some 63, .move (.tmp 62), none⟩ :: ⟨some 64, .load 26 (.tmp 9), some (63, true)⟩ :: ⟨some 65, .move (.tmp 10), some (63, true)⟩ :: ⟨some 66, .call { callee := .value (.func 61), args := #[(.tmp 64), (.tmp 65), (.const (.int .i64 9)), (.const (.slice none 0 0))], argTypes := #[26, 29, 3, 134] }, some (63, true)⟩ :: r_law04_alive_7
@[go_sem ↓] def ur_law04_alive_8 := @unI _ _ r_law04_alive_8.eq_1
def r_law04_alive_9 : List I := ⟨some 56, .pick (.tmp 51) (.tmp 55) (.const (.bool false)), none⟩ :: ⟨some 57, .move (.tmp 56), none⟩ :: ⟨some 58, .load 26 (.tmp 7), some (57, true)⟩ :: ⟨some 59, .move (.tmp 8), some (57, true)⟩ :: ⟨some 60, .buildSlice 134 1 #[(0, (.const (.string ⟨#[98, 99]⟩)))], some (57, true)⟩ :: ⟨some 61, .call { callee := .value (.func 61), args := #[(.tmp 58), (.tmp 59), (.const (.int .i64 6)), (.tmp 60)], argTypes := #[26, 29, 3, 134] }, some (57, true)⟩ :: r_law04_alive_8
@[go_sem ↓] def ur_law04_alive_9 := @unI _ _ r_law04_alive_9.eq_1
def r_law04_alive_10 : List I := ⟨some 39, .move (.tmp 38), none⟩ :: ⟨some 40, .move (.tmp 2), some (39, true)⟩ :: ⟨some 41, .binOp .eql 29 (.tmp 40) (.const (.int .i64 0)) 29, some (39, true)⟩ :: ⟨some 42, .pick (.tmp 39) (.tmp 41) (.const (.bool false)), none⟩ :: ⟨some 43, .move (.tmp 42), none⟩ :: ⟨some 44, .move (.tmp 1), some (43, true)⟩ :: ⟨some 45, .binOp .eql 3 (.tmp 44) (.const (.int .i64 5)) 3, some (43, true)⟩ :: ⟨some 46, .pick (.tmp 43) (.tmp 45) (.const (.bool false)), none⟩ :: ⟨some 47, .move (.tmp 46), none⟩ :: ⟨some 48, .move (.tmp 4), some (47, true)⟩ :: ⟨some 49, .binOp .eql 29 (.tmp 48) (.const (.int .i64 0)) 29, some (47, true)⟩ :: ⟨some 50, .pick (.tmp 47) (.tmp 49) (.const (.bool false)), none⟩ :: ⟨some 51, .move (.tmp 50), none⟩ :: ⟨some 52, .load 26 (.tmp 5), some (51, true)⟩ :: ⟨some 53, .move (.tmp 6), some (51, true)⟩ :: ⟨some 54, .buildSlice 134 2 #[(0, (.const (.string ⟨#[97]⟩))), (1, (.const (.string ⟨#[98, 99]⟩)))], some (51, true)⟩ :: ⟨some 55, .call { callee := .value (.func 61), args := #[(.tmp 52), (.tmp 53), (.const (.int .i64 5)), (.tmp 54)], argTypes := #[26, 29, 3, 134] }, some (51, true)⟩ :: r_law04_alive_9
@[go_sem ↓] def ur_law04_alive_10 := @unI _ _ r_law04_alive_10.eq_1
def r_law04_alive_11 : List I := ⟨some 37, .buildSlice 134 2 #[(0, (.const (.string ⟨#[97]⟩))), (1, (.const (.string ⟨#[98, 99]⟩)))], none⟩ :: ⟨some 38, .call { callee := .value (.func 61), args := #[(.tmp 36), (.const (.int .i64 0)), (.const (.int .i64 5)), (.tmp 37)], argTypes := #[26, 29, 3, 134] }, none⟩ :: r_law04_alive_10
@[go_sem ↓] def ur_law04_alive_11 := @unI _ _ r_law04_alive_11.eq_1
def c_law04_alive_12 : C := (.seq (.seq (.reg (⟨some 36, .call { callee := .value (.func 62), args := #[(.const (.bool false))], argTypes := #[4] }, none⟩ :: r_law04_alive_11)) (.keep [0])) .ret)
@[go_sem ↓] def uc_law04_alive_12 := @unC _ _ c_law04_alive_12.eq_1
def c_law04_alive_13 : C := (.seq (.seq (.reg (⟨some 32, .load 24 (.tmp 3), none⟩ :: ⟨some 33, .call { callee := .value (.func 32), args := #[(.tmp 32), (.const (.int .i64 9))], argTypes := #[24, 3] }, none⟩ :: r_law04_alive_6)) (.keep [1, 2, 4, 5, 6, 7, 8, 9, 10])) c_law04_alive_12)
@[go_sem ↓] def uc_law04_alive_13 := @unC _ _ c_law04_alive_13.eq_1
def c_law04_alive_14 : C := (.seq (.seq (.reg (⟨some 27, .load 26 (.tmp 5), none⟩ :: ⟨some 28, .call { callee := .value (.func 52), args := #[(.tmp 27), (.const (.int .i64 6))], argTypes := #[26, 3] }, none⟩ :: r_law04_alive_5)) (.keep [1, 2, 3, 4, 5, 6, 7, 8])) c_law04_alive_13)
@[go_sem ↓] def uc_law04_alive_14 := @unC _ _ c_law04_alive_14.eq_1
def c_law04_alive_15 : C := (.seq (.seq (.reg (⟨some 22, .load 24 (.tmp 3), none⟩ :: ⟨some 23, .call { callee := .value (.func 32), args := #[(.tmp 22), (.const (.int .i64 0))], argTypes := #[24, 3] }, none⟩ :: r_law04_alive_4)) (.keep [1, 2, 3, 4, 5, 6])) c_law04_alive_14)
@[go_sem ↓] def uc_law04_alive_15 := @unC _ _ c_law04_alive_15.eq_1
def c_law04_alive_16 : C := (.seq (.seq (.reg (⟨some 17, .call { callee := .value (.func 62), args := #[(.const (.bool true))], argTypes := #[4] }, none⟩ :: r_law04_alive_3)) (.keep [1, 2, 3, 4])) c_law04_alive_15)
@[go_sem ↓] def uc_law04_alive_16 := @unC _ _ c_law04_alive_16.eq_1
def c_law04_alive_17 : C := (.seq (.seq (.reg (⟨some 12, .call { callee := .value (.func 62), args := #[(.const (.bool false))], argTypes := #[4] }, none⟩ :: r_law04_alive_1)) (.keep [1, 2])) c_law04_alive_16)
@[go_sem ↓] def uc_law04_alive_17 := @unC _ _ c_law04_alive_17.eq_1
def c_law04_alive : C := (.seq (.seq (.reg ([⟨some 0, .assign (.const (.bool false)), none⟩])) (.keep [])) c_law04_alive_17)
attribute [go_sem ↓] c_law04_alive
def h_law04_alive : List Hint := [⟨[], [], []⟩, ⟨[], [1, 2], []⟩, ⟨[], [1, 2, 3, 4], []⟩, ⟨[], [1, 2, 3, 4, 5, 6], []⟩, ⟨[], [1, 2, 3, 4, 5, 6, 7, 8], []⟩, ⟨[], [1, 2, 4, 5, 6, 7, 8, 9, 10], []⟩, ⟨[], [0], []⟩]
theorem b_law04_alive : Body Try.prog 59 [] h_law04_alive c_law04_alive 68 [.tmp 0] := body_of Try.func59 (by kernel_rfl) (by kernel_rfl) (by kernel_rfl) (by kernel_rfl)
def c_law04_numbered : C := (.seq (.seq (.reg ([⟨some 4, .box 26 (.tmp 0), none⟩, ⟨some 8, .assign (.const (.bool false)), none⟩])) (.keep [1, 2, 3, 4])) (.seq (.seq (.seq (.reg ([⟨some 12, .move (.tmp 1), none⟩, ⟨some 13, .binOp .neq 29 (.tmp 12) (.const (.int .i64 0)) 29, none⟩])) (.keep [2, 3, 4, 13])) (.cond (.tmp 13) (.seq (.seq (.reg ([⟨some 8, .assign (.const (.bool false)), none⟩])) (.keep [8])) .ret) .skip)) (.seq (.seq (.reg ([⟨some 15, .load 26 (.tmp 4), none⟩, ⟨some 16, .move (.tmp 2), none⟩, ⟨some 17, .call { callee := .value (.func 20), args := #[(.tmp 15), (.tmp 16)], argTypes := #[26, 3] }, none⟩, ⟨some 14, .move (.tmp 17), none⟩, ⟨some 18, .extract (.tmp 14) 0, none⟩, ⟨some 19, .extract (.tmp 14) 1, none⟩, ⟨some 9, .assign (.tmp 18), none⟩, ⟨some 10, .assign (.tmp 19), none⟩])) (.keep [2, 3, 4, 9, 10])) (.seq (.seq (.seq (.reg ([⟨some 20, .move (.tmp 10), none⟩, ⟨some 21, .binOp .neq 29 (.tmp 20) (.const (.int .i64 0)) 29, none⟩, ⟨some 22, .move (.tmp 21), none⟩, ⟨some 23, .fieldAddr 26 (.tmp 4) 1, some (22, false)⟩, ⟨some 24, .load 3 (.tmp 23), some (22, false)⟩, ⟨some 25, .move (.tmp 2), some (22, false)⟩, ⟨some 26, .binOp .neq 3 (.tmp 24) (.tmp 25) 3, some (22, false)⟩, ⟨some 27, .pick (.tmp 22) (.const (.bool true)) (.tmp 26), none⟩, ⟨some 28, .move (.tmp 27), none⟩, ⟨some 29, .fieldAddr 26 (.tmp 4) 2, some (28, false)⟩, ⟨some 30, .load 3 (.tmp 29), some (28, false)⟩, ⟨some 31, .move (.tmp 2), some (28, false)⟩, ⟨some 32, .move (.tmp 3), some (28, false)⟩, ⟨some 33, .call { callee := .builtin .len, args := #[(.tmp 32)], argTypes := #[134] }, some (28, false)⟩, ⟨some 34, .binOp .add 3 (.tmp 31) (.tmp 33) 3, some (28, false)⟩, ⟨some 35, .binOp .neq 3 (.tmp 30) (.tmp 34) 3, some (28, false)⟩, ⟨some 36, .pick (.tmp 28) (.const (.bool true)) (.tmp 35), none⟩, ⟨some 37, .move (.tmp 36), none⟩, ⟨some 38, .move (.tmp 9), some (37, false)⟩, ⟨some 39, .call { callee := .builtin .len, args := #[(.tmp 38)], argTypes := #[34] }, some (37, false)⟩, ⟨some 40, .move (.tmp 3), some (37, false)⟩, ⟨some 41, .call { callee := .builtin .len, args := #[(.tmp 40)], argTypes := #[134] }, some (37, false)⟩, ⟨some 42, .binOp .neq 3 (.tmp 39) (.tmp 41) 3, some (37, false)⟩, ⟨some 43, .pick (.tmp 37) (.const (.bool true)) (.tmp 42), none⟩])) (.keep [2, 3, 9, 43])) (.cond (.tmp 43) (.seq (.seq (.reg ([⟨some 8, .assign (.const (.bool false)), none⟩])) (.keep [8])) .ret) .skip)) (.seq (.seq (.seq (.reg ([⟨some 11, .assign (.const (.int .i64 0)), none⟩])) (.keep [2, 3, 9, 11])) (.block 0 (.loop [] [2, 3, 9, 11] (.seq (.seq (.seq (.reg ([⟨some 44, .move (.tmp 11), none⟩, ⟨some 45, .move (.tmp 9), none⟩, ⟨some 46, .call { callee := .builtin .len, args := #[(.tmp 45)], argTypes := #[34] }, none⟩, ⟨some 47, .binOp .lss 3 (.tmp 44) (.tmp 46) 3, none⟩])) (.keep [2, 3, 9, 11, 47])) (.cond (.tmp 47) .skip (.exit 0))) (.seq (.block 1 (.seq (.seq (.draw ([⟨⟨some 50, .move (.tmp 9), none⟩, []⟩, ⟨⟨some 51, .move (.tmp 11), none⟩, [0]⟩, ⟨⟨some 52, .indexAddr 34 (.tmp 50) (.tmp 51), none⟩, []⟩, ⟨⟨some 53, .fieldAddr 100 (.tmp 52) 0, none⟩, []⟩, ⟨⟨some 54, .load 3 (.tmp 53), none⟩, []⟩, ⟨⟨some 55, .move (.tmp 2), none⟩, [0, 1, 2, 3, 4]⟩, ⟨⟨some 56, .move (.tmp 11), none⟩, [0, 1, 2, 3, 4, 5]⟩, ⟨⟨some 57, .binOp .add 3 (.tmp 55) (.tmp 56) 3, none⟩, [0, 1, 2, 3, 4]⟩, ⟨⟨some 58, .binOp .neq 3 (.tmp 54) (.tmp 57) 3, none⟩, []⟩, ⟨⟨some 59, .move (.tmp 58), none⟩, []⟩, ⟨⟨some 60, .move (.tmp 9), some (59, false)⟩, []⟩, ⟨⟨some 61, .move (.tmp 11), some (59, false)⟩, [10]⟩, ⟨⟨some 62, .indexAddr 34 (.tmp 60) (.tmp 61), some (59, false)⟩, []⟩, ⟨⟨some 63, .fieldAddr 100 (.tmp 62) 1, some (59, false)⟩, []⟩, ⟨⟨some 64, .load 22 (.tmp 63), some (59, false)⟩, []⟩, ⟨⟨some 65, .convert 22 9 (.tmp 64), some (59, false)⟩, []⟩, ⟨⟨some 66, .move (.tmp 3), some (59, false)⟩, [10, 11, 12, 13, 14, 15]⟩, ⟨⟨some 67, .move (.tmp 11), some (59, false)⟩, [10, 11, 12, 13, 14, 15, 16]⟩, ⟨⟨some 68, .indexAddr 134 (.tmp 66) (.tmp 67), some (59, false)⟩, [10, 11, 12, 13, 14, 15]⟩, ⟨⟨some 69, .load 9 (.tmp 68), some (59, false)⟩, [10, 11, 12, 13, 14, 15]⟩, ⟨⟨some 70, .binOp .neq 9 (.tmp 65) (.tmp 69) 9, some (59, false)⟩, []⟩, ⟨⟨some 71, .pick (.tmp 59) (.const (.bool true)) (.tmp 70), none⟩, []⟩])) (.keep [2, 3, 9, 11, 71])) (.cond (.tmp 71) (.seq (.seq (.reg ([⟨some 8, .assign (.const (.bool false)), none⟩])) (.keep [8])) .ret) .skip))) (.seq (.reg ([⟨some 48, .move (.tmp 11), none⟩, ⟨some 49, .binOp .add 3 (.tmp 48) (.const (.int .i64 1)) 3, none⟩, ⟨some 11, .assign (.tmp 49), none⟩])) (.keep [2, 3, 9, 11]))))))) (.seq (.seq (.reg ([⟨some 8, .assign (.const (.bool true)), none⟩])) (.keep [8])) .ret))))))
attribute [go_sem ↓] c_law04_numbered
def h_law04_numbered : List Hint := [⟨[], [1, 2, 3, 4], []⟩, ⟨[], [2, 3, 4, 13], []⟩, ⟨[], [8], []⟩, ⟨[], [2, 3, 4, 9, 10], []⟩, ⟨[], [2, 3, 9, 43], []⟩, ⟨[], [8], []⟩, ⟨[], [2, 3, 9, 11], []⟩, ⟨[], [2, 3, 9, 11], []⟩, ⟨[], [2, 3, 9, 11, 47], []⟩, ⟨[], [2, 3, 9, 11, 71], []⟩, ⟨[], [8], []⟩, ⟨[], [2, 3, 9, 11], []⟩, ⟨[], [8], []⟩]
theorem b_law04_numbered : Body Try.prog 61 [] h_law04_numbered c_law04_numbered 72 [.tmp 8] := body_of Try.func61 (by kernel_rfl) (by kernel_rfl) (by kernel_rfl) (by kernel_rfl)
def c_law04_given : C := (.seq (.seq (.reg ([⟨some 2, .alloc 26, none⟩])) (.keep [0, 2])) (.seq (.seq (.reg ([⟨some 6, .build 24 #[(2, (.const (.int .i64 1000)))], none⟩, ⟨some 7, .call { callee := .value (.func 32), args := #[(.tmp 6), (.const (.int .i64 5))], argTypes := #[24, 3] }, none⟩, ⟨some 5, .move (.tmp 7), none⟩, ⟨some 8, .extract (.tmp 5) 0, none⟩, ⟨some 9, .extract (.tmp 5) 1, none⟩, ⟨some 3, .alloc 26, none⟩, ⟨none, .store 26 (.tmp 3) (.tmp 8), none⟩, ⟨some 4, .assign (.tmp 9), none⟩])) (.keep [0, 2, 3])) (.seq (.seq (.reg ([⟨some 11, .load 26 (.tmp 3), none⟩, ⟨some 12, .buildSlice 22 1 #[(0, (.const (.int .u8 97)))], none⟩, ⟨some 13, .convert 22 22 (.tmp 12), none⟩, ⟨some 14, .call { callee := .value (.func 48), args := #[(.tmp 11), (.tmp 13)], argTypes := #[26, 22] }, none⟩, ⟨some 10, .move (.tmp 14), none⟩, ⟨some 15, .extract (.tmp 10) 0, none⟩, ⟨some 16, .extract (.tmp 10) 1, none⟩, ⟨some 17, .extract (.tmp 10) 2, none⟩, ⟨none, .store 26 (.tmp 3) (.tmp 15), none⟩])) (.keep [0, 2, 3])) (.seq (.seq (.reg ([⟨some 19, .load 26 (.tmp 3), none⟩, ⟨some 20, .buildSlice 22 2 #[(0, (.const (.int .u8 98))), (1, (.const (.int .u8 99)))], none⟩, ⟨some 21, .convert 22 22 (.tmp 20), none⟩, ⟨some 22, .call { callee := .value (.func 48), args := #[(.tmp 19), (.tmp 21)], argTypes := #[26, 22] }, none⟩, ⟨some 18, .move (.tmp 22), none⟩, ⟨some 23, .extract (.tmp 18) 0, none⟩, ⟨some 24, .extract (.tmp 18) 1, none⟩, ⟨some 25, .extract (.tmp 18) 2, none⟩, ⟨none, .store 26 (.tmp 3) (.tmp 23), none⟩])) (.keep [0, 2, 3])) (.seq (.seq (.seq (.reg ([⟨some 26, .move (.tmp 0), none⟩])) (.keep [2, 3, 26])) (.cond (.tmp 26) (.seq (.seq (.reg ([⟨some 28, .load 26 (.tmp 3), none⟩, ⟨some 29, .call { callee := .value (.func 50), args := #[(.tmp 28)], argTypes := #[26] }, none⟩, ⟨some 27, .move (.tmp 29), none⟩, ⟨some 30, .extract (.tmp 27) 0, none⟩, ⟨some 31, .extract (.tmp 27) 1, none⟩, ⟨none, .store 26 (.tmp 3) (.tmp 30), none⟩])) (.keep [2, 3])) (.seq (.reg ([⟨some 33, .load 26 (.tmp 3), none⟩, ⟨some 34, .buildSlice 22 1 #[(0, (.const (.int .u8 100)))], none⟩, ⟨some 35, .convert 22 22 (.tmp 34), none⟩, ⟨some 36, .call { callee := .value (.func 48), args := #[(.tmp 33), (.tmp 35)], argTypes := #[26, 22] }, none⟩, ⟨some 32, .move (.tmp 36), none⟩, ⟨some 37, .extract (.tmp 32) 0, none⟩, ⟨some 38, .extract (.tmp 32) 1, none⟩, ⟨some 39, .extract (.tmp 32) 2, none⟩, ⟨none, .store 26 (.tmp 3) (.tmp 37), none⟩])) (.keep [2, 3]))) .skip)) (.seq (.seq (.reg ([⟨some 40, .load 26 (.tmp 3), none⟩, ⟨none, .store 26 (.tmp 2) (.tmp 40), none⟩])) (.keep [2])) .ret))))))
attribute [go_sem ↓] c_law04_given
def h_law04_given : List Hint := [⟨[], [0, 2], []⟩, ⟨[], [0, 2, 3], []⟩, ⟨[], [0, 2, 3], []⟩, ⟨[], [0, 2, 3], []⟩, ⟨[], [2, 3, 26], []⟩, ⟨[], [2, 3], []⟩, ⟨[], [2, 3], []⟩, ⟨[], [2], []⟩]
theorem b_law04_given : Body Try.prog 62 [] h_law04_given c_law04_given 41 [.cell 2 26] := body_of Try.func62 (by kernel_rfl) (by kernel_rfl) (by kernel_rfl) (by kernel_rfl)

end Go.Proofs.Ytdpnjhooehadmaa.Pm

/-! PmWn -/
set_option linter.all false
set_option maxRecDepth 100000
set_option maxHeartbeats 2000000
namespace Go.Proofs.Ytdpnjhooehadmaa.Pm
open Go Go.RowKit

def strB (b : List (BitVec 8)) : ByteArray := strOf (bT b)
def strsT (d : List (List (BitVec 8))) : List (List T) := d.map fun b => [.s (strB b)]
theorem strsT_length (d : List (List (BitVec 8))) : (strsT d).length = d.length := by simp [strsT]
theorem strsT_get {d : List (List (BitVec 8))} {k : Nat} (h : k < d.length) : (strsT d)[k]? = some [.s (strB d[k])] := by simp [strsT, h]
theorem bT_areBytes (b : List (BitVec 8)) : areBytes (bT b) := by
  intro e he
  simp only [bT, List.mem_map] at he
  obtain ⟨x, _, rfl⟩ := he
  exact ⟨_, rfl⟩
/-- A log that has just these records' data, from this number on. -/
structure WLog.has (l : WLog) (n : Int) (data : List (List (BitVec 8))) : Prop where
  fine : l.fine
  ok : l.ok
  first : l.first = n
  data : l.recs.map Rec.data = data
theorem s_numbered {l : WLog} {n : Int} {data : List (List (BitVec 8))} (h : l.has n data) : Spec Try.prog 61 [.agg l.cells, .i .i64 0, .i .i64 n, .sl (strsT data)] [] (.t (.b true) true) := by
  refine spec_k (hold mixed) b_law04_numbered [(.b true, true)] ?_
  obtain ⟨hf, hok, hfi, hd⟩ := h
  obtain ⟨b0, b1, b2⟩ := ok_bounds hok
  have hnx := hok.2.2.2.1
  have hlen : data.length = l.recs.length := by rw [← hd, List.length_map]
  have ev : recR l n = (l.recs, 0) := by
    have e1 : l.first ≤ n ∧ n ≤ l.next := by omega
    have e2 : (n - l.first).toNat = 0 := by omega
    simp only [recR, if_pos hok, if_pos e1, e2, List.drop_zero]
  have w1 : IntKind.i64.wrap (n + ((l.recs.length : Nat) : Int)) = l.next := by rw [wrap_i64_id (by omega) (by omega)]; omega
  have c0 : (n != n) = false := by simp
  have c1 : (l.next != l.next) = false := by simp
  have c2 : ((((l.recs.length : Nat) : Int)) != ((l.recs.length : Nat) : Int)) = false := by simp
  simp -implicitDefEqProofs only [go_sem, reduceIte, Nat.reduceAdd, Nat.reduceSub, Nat.reduceMul, Nat.reduceLT, Nat.reduceLeDiff, Nat.reduceEqDiff, Nat.reduceBEq, Int.reduceLE, Int.reduceLT, Int.reduceToNat, Int.reduceMul, Int.reduceAdd, Int.reduceSub, Int.reduceNeg, Int.reduceEq, reduceCtorEq, Nat.reduceMod, Int.reduceBNe, Int.reduceBEq, Int.reduceGT, Int.reduceGE, Int.reduceNe, Int.cast_ofNat_Int, Int.natCast_zero, Int.natCast_one, bne_self_eq_false, gt_iff_lt, ge_iff_le, Int.lt_irrefl, Int.le_refl]
  have hR := s_wal_Records l hf n (by omega) (by omega)
  rw [ev] at hR
  refine call_k hR ?_ (by simp -implicitDefEqProofs only [go_sem, reduceIte, Nat.reduceAdd, Nat.reduceSub, Nat.reduceMul, Nat.reduceLT, Nat.reduceLeDiff, Nat.reduceEqDiff, Nat.reduceBEq, Int.reduceLE, Int.reduceLT, Int.reduceToNat, Int.reduceMul, Int.reduceAdd, Int.reduceSub, Int.reduceNeg, Int.reduceEq, reduceCtorEq, Nat.reduceMod]) (by simp -implicitDefEqProofs only [go_sem, reduceIte, Nat.reduceAdd, Nat.reduceSub, Nat.reduceMul, Nat.reduceLT, Nat.reduceLeDiff, Nat.reduceEqDiff, Nat.reduceBEq, Int.reduceLE, Int.reduceLT, Int.reduceToNat, Int.reduceMul, Int.reduceAdd, Int.reduceSub, Int.reduceNeg, Int.reduceEq, reduceCtorEq, Nat.reduceMod, recT])
  simp -implicitDefEqProofs only [go_sem, reduceIte, Nat.reduceAdd, Nat.reduceSub, Nat.reduceMul, Nat.reduceLT, Nat.reduceLeDiff, Nat.reduceEqDiff, Nat.reduceBEq, Int.reduceLE, Int.reduceLT, Int.reduceToNat, Int.reduceMul, Int.reduceAdd, Int.reduceSub, Int.reduceNeg, Int.reduceEq, reduceCtorEq, Nat.reduceMod, Int.reduceBNe, Int.reduceBEq, Int.reduceGT, Int.reduceGE, Int.reduceNe, Int.cast_ofNat_Int, Int.natCast_zero, Int.natCast_one, bne_self_eq_false, gt_iff_lt, ge_iff_le, Int.lt_irrefl, Int.le_refl, recT, hfi, c0, strsT_length, w1, c1, recsT_length, hlen, c2]
  refine loop_l (α := Nat) (fun k => ⟨tmL [(2, .t (.i .i64 n) true), (3, .t (.sl (strsT data)) false), (9, .t (.sl (recsT l.recs)) true), (11, .t (.i .i64 k) true)],
    [.var [.t (.sl (bT l.dev.syn)) false, .t (.sl (bT l.dev.tail)) false, .t (.i .i64 l.dev.cap) false, .t (.b l.dev.down) false, .t (.i .i64 n) false, .t (.i .i64 l.next) false]]⟩) (fun k => l.recs.length - k) (fun k => k ≤ l.recs.length) 0 (by simp -implicitDefEqProofs only [go_sem, reduceIte, Nat.reduceAdd, Nat.reduceSub, Nat.reduceMul, Nat.reduceLT, Nat.reduceLeDiff, Nat.reduceEqDiff, Nat.reduceBEq, Int.reduceLE, Int.reduceLT, Int.reduceToNat, Int.reduceMul, Int.reduceAdd, Int.reduceSub, Int.reduceNeg, Int.reduceEq, reduceCtorEq, Nat.reduceMod]; rfl) (Nat.zero_le _) ?_
  intro k hk R hR
  simp -implicitDefEqProofs only [go_sem, reduceIte, Nat.reduceAdd, Nat.reduceSub, Nat.reduceMul, Nat.reduceLT, Nat.reduceLeDiff, Nat.reduceEqDiff, Nat.reduceBEq, Int.reduceLE, Int.reduceLT, Int.reduceToNat, Int.reduceMul, Int.reduceAdd, Int.reduceSub, Int.reduceNeg, Int.reduceEq, reduceCtorEq, Nat.reduceMod, Int.reduceBNe, Int.reduceBEq, Int.reduceGT, Int.reduceGE, Int.reduceNe, Int.cast_ofNat_Int, Int.natCast_zero, Int.natCast_one, bne_self_eq_false, gt_iff_lt, ge_iff_le, Int.lt_irrefl, Int.le_refl, recsT_length]
  refine wcond_mk (fun hh => ?_) (fun hh => ?_)
  · have hk' : k < l.recs.length := by have := of_decide_eq_true hh; omega
    have hkd : k < data.length := by omega
    have hnum : l.recs[k].num = n + k := by rw [← hfi]; exact rec_at hok hk'
    have hdat : data[k] = l.recs[k].data := by simp only [← hd, List.getElem_map]
    have w2 : IntKind.i64.wrap (n + (k : Int)) = n + k := wrap_i64_id (by omega) (by omega)
    have c3 : ((n + (k : Int)) != (n + (k : Int))) = false := by simp
    have c4 : (strOf (bT l.recs[k].data)).toList == (strB data[k]).toList := by rw [hdat]; simp [strB]
    have c5 : ((strOf (bT l.recs[k].data)).toList != (strB data[k]).toList) = false := by rw [hdat]; simp [strB]
    simp -implicitDefEqProofs only [go_sem, reduceIte, Nat.reduceAdd, Nat.reduceSub, Nat.reduceMul, Nat.reduceLT, Nat.reduceLeDiff, Nat.reduceEqDiff, Nat.reduceBEq, Int.reduceLE, Int.reduceLT, Int.reduceToNat, Int.reduceMul, Int.reduceAdd, Int.reduceSub, Int.reduceNeg, Int.reduceEq, reduceCtorEq, Nat.reduceMod, Int.reduceBNe, Int.reduceBEq, Int.reduceGT, Int.reduceGE, Int.reduceNe, Int.cast_ofNat_Int, Int.natCast_zero, Int.natCast_one, bne_self_eq_false, gt_iff_lt, ge_iff_le, Int.lt_irrefl, Int.le_refl, recsT_get hk', strsT_get hkd, Rec.cells, hnum, w2, c3, bT_areBytes, c4, c5]
    refine hR (k + 1) _ ?_ (by omega) (by omega)
    simp -implicitDefEqProofs only [go_sem, reduceIte, Nat.reduceAdd, Nat.reduceSub, Nat.reduceMul, Nat.reduceLT, Nat.reduceLeDiff, Nat.reduceEqDiff, Nat.reduceBEq, Int.reduceLE, Int.reduceLT, Int.reduceToNat, Int.reduceMul, Int.reduceAdd, Int.reduceSub, Int.reduceNeg, Int.reduceEq, reduceCtorEq, Nat.reduceMod, wrap_i64_id (show -9223372036854775808 ≤ (k : Int) + 1 by omega) (by omega), Int.natCast_add]
    rfl
  · have hkm : k = l.recs.length := by have := of_decide_eq_false hh; omega
    subst hkm
    simp -implicitDefEqProofs only [go_sem, reduceIte, Nat.reduceAdd, Nat.reduceSub, Nat.reduceMul, Nat.reduceLT, Nat.reduceLeDiff, Nat.reduceEqDiff, Nat.reduceBEq, Int.reduceLE, Int.reduceLT, Int.reduceToNat, Int.reduceMul, Int.reduceAdd, Int.reduceSub, Int.reduceNeg, Int.reduceEq, reduceCtorEq, Nat.reduceMod, Int.reduceBNe, Int.reduceBEq, Int.reduceGT, Int.reduceGE, Int.reduceNe, Int.cast_ofNat_Int, Int.natCast_zero, Int.natCast_one, bne_self_eq_false, gt_iff_lt, ge_iff_le, Int.lt_irrefl, Int.le_refl]
def devK : Dev := ⟨[], [], 1000, false⟩
def W0 : WLog := (openW devK 5).1
def W1 : WLog := (W0.app [97#8]).1
def W2 : WLog := (W1.app [98#8, 99#8]).1
def W3 : WLog := (W2.sync).1
def W4 : WLog := (W3.app [100#8]).1
instance (d : Dev) : Decidable d.small := by unfold Dev.small; infer_instance
instance (l : WLog) : Decidable l.fine := by unfold WLog.fine; infer_instance
theorem has_of {l : WLog} {n : Int} {data : List (List (BitVec 8))} (h : l.fine ∧ l.ok ∧ l.first = n ∧ l.recs.map Rec.data = data) : l.has n data := ⟨h.1, h.2.1, h.2.2.1, h.2.2.2⟩
theorem fineW0 : W0.fine := by decide +kernel
theorem fineW1 : W1.fine := by decide +kernel
theorem fineW2 : W2.fine := by decide +kernel
theorem fineW3 : W3.fine := by decide +kernel
theorem fineW4 : W4.fine := by decide +kernel
theorem s_given_less : Spec Try.prog 62 [.b false] [] (.t (.agg W2.cells) true) := by
  refine spec_k (hold mixed) b_law04_given [(.agg W2.cells, true)] ?_
  have A0 : Spec Try.prog 32 [.agg [.sl [], .sl [], .i .i64 1000, .b false], .i .i64 5] [] (resV ((opW (openW devK 5)).map AV.ofT)) := s_wal_Open devK (by decide) 5 (by omega) (by omega)
  have A1 : Spec Try.prog 48 [.agg W0.cells, .sl [[.i .u8 97]]] [] (resV ((opW3 (W0.app [97#8])).map AV.ofT)) := s_wal_Append W0 fineW0 [97#8] (by simp)
  have A2 : Spec Try.prog 48 [.agg W1.cells, .sl [[.i .u8 98], [.i .u8 99]]] [] (resV ((opW3 (W1.app [98#8, 99#8])).map AV.ofT)) := s_wal_Append W1 fineW1 [98#8, 99#8] (by simp)
  have e0 : (openW devK 5).1 = W0 := rfl
  have e1 : (W0.app [97#8]).1 = W1 := rfl
  have e2 : (W1.app [98#8, 99#8]).1 = W2 := rfl
  simp -implicitDefEqProofs only [go_sem, reduceIte, Nat.reduceAdd, Nat.reduceSub, Nat.reduceMul, Nat.reduceLT, Nat.reduceLeDiff, Nat.reduceEqDiff, Nat.reduceBEq, Int.reduceLE, Int.reduceLT, Int.reduceToNat, Int.reduceMul, Int.reduceAdd, Int.reduceSub, Int.reduceNeg, Int.reduceEq, reduceCtorEq, Nat.reduceMod]
  refine call_k A0 ?_
  simp -implicitDefEqProofs only [go_sem, reduceIte, Nat.reduceAdd, Nat.reduceSub, Nat.reduceMul, Nat.reduceLT, Nat.reduceLeDiff, Nat.reduceEqDiff, Nat.reduceBEq, Int.reduceLE, Int.reduceLT, Int.reduceToNat, Int.reduceMul, Int.reduceAdd, Int.reduceSub, Int.reduceNeg, Int.reduceEq, reduceCtorEq, Nat.reduceMod, opW, e0]
  first | refine call_k A1 ?_ (by simp -implicitDefEqProofs only [go_sem, reduceIte, Nat.reduceAdd, Nat.reduceSub, Nat.reduceMul, Nat.reduceLT, Nat.reduceLeDiff, Nat.reduceEqDiff, Nat.reduceBEq, Int.reduceLE, Int.reduceLT, Int.reduceToNat, Int.reduceMul, Int.reduceAdd, Int.reduceSub, Int.reduceNeg, Int.reduceEq, reduceCtorEq, Nat.reduceMod]) (by simp -implicitDefEqProofs only [go_sem, reduceIte, Nat.reduceAdd, Nat.reduceSub, Nat.reduceMul, Nat.reduceLT, Nat.reduceLeDiff, Nat.reduceEqDiff, Nat.reduceBEq, Int.reduceLE, Int.reduceLT, Int.reduceToNat, Int.reduceMul, Int.reduceAdd, Int.reduceSub, Int.reduceNeg, Int.reduceEq, reduceCtorEq, Nat.reduceMod, opW3]) | refine call_d A1 ?_ (by simp -implicitDefEqProofs only [go_sem, reduceIte, Nat.reduceAdd, Nat.reduceSub, Nat.reduceMul, Nat.reduceLT, Nat.reduceLeDiff, Nat.reduceEqDiff, Nat.reduceBEq, Int.reduceLE, Int.reduceLT, Int.reduceToNat, Int.reduceMul, Int.reduceAdd, Int.reduceSub, Int.reduceNeg, Int.reduceEq, reduceCtorEq, Nat.reduceMod]) (by simp -implicitDefEqProofs only [go_sem, reduceIte, Nat.reduceAdd, Nat.reduceSub, Nat.reduceMul, Nat.reduceLT, Nat.reduceLeDiff, Nat.reduceEqDiff, Nat.reduceBEq, Int.reduceLE, Int.reduceLT, Int.reduceToNat, Int.reduceMul, Int.reduceAdd, Int.reduceSub, Int.reduceNeg, Int.reduceEq, reduceCtorEq, Nat.reduceMod, opW3])
  simp -implicitDefEqProofs only [go_sem, reduceIte, Nat.reduceAdd, Nat.reduceSub, Nat.reduceMul, Nat.reduceLT, Nat.reduceLeDiff, Nat.reduceEqDiff, Nat.reduceBEq, Int.reduceLE, Int.reduceLT, Int.reduceToNat, Int.reduceMul, Int.reduceAdd, Int.reduceSub, Int.reduceNeg, Int.reduceEq, reduceCtorEq, Nat.reduceMod, opW3, e1]
  first | refine call_k A2 ?_ (by simp -implicitDefEqProofs only [go_sem, reduceIte, Nat.reduceAdd, Nat.reduceSub, Nat.reduceMul, Nat.reduceLT, Nat.reduceLeDiff, Nat.reduceEqDiff, Nat.reduceBEq, Int.reduceLE, Int.reduceLT, Int.reduceToNat, Int.reduceMul, Int.reduceAdd, Int.reduceSub, Int.reduceNeg, Int.reduceEq, reduceCtorEq, Nat.reduceMod]) (by simp -implicitDefEqProofs only [go_sem, reduceIte, Nat.reduceAdd, Nat.reduceSub, Nat.reduceMul, Nat.reduceLT, Nat.reduceLeDiff, Nat.reduceEqDiff, Nat.reduceBEq, Int.reduceLE, Int.reduceLT, Int.reduceToNat, Int.reduceMul, Int.reduceAdd, Int.reduceSub, Int.reduceNeg, Int.reduceEq, reduceCtorEq, Nat.reduceMod, opW3]) | refine call_d A2 ?_ (by simp -implicitDefEqProofs only [go_sem, reduceIte, Nat.reduceAdd, Nat.reduceSub, Nat.reduceMul, Nat.reduceLT, Nat.reduceLeDiff, Nat.reduceEqDiff, Nat.reduceBEq, Int.reduceLE, Int.reduceLT, Int.reduceToNat, Int.reduceMul, Int.reduceAdd, Int.reduceSub, Int.reduceNeg, Int.reduceEq, reduceCtorEq, Nat.reduceMod]) (by simp -implicitDefEqProofs only [go_sem, reduceIte, Nat.reduceAdd, Nat.reduceSub, Nat.reduceMul, Nat.reduceLT, Nat.reduceLeDiff, Nat.reduceEqDiff, Nat.reduceBEq, Int.reduceLE, Int.reduceLT, Int.reduceToNat, Int.reduceMul, Int.reduceAdd, Int.reduceSub, Int.reduceNeg, Int.reduceEq, reduceCtorEq, Nat.reduceMod, opW3])
  simp -implicitDefEqProofs only [go_sem, reduceIte, Nat.reduceAdd, Nat.reduceSub, Nat.reduceMul, Nat.reduceLT, Nat.reduceLeDiff, Nat.reduceEqDiff, Nat.reduceBEq, Int.reduceLE, Int.reduceLT, Int.reduceToNat, Int.reduceMul, Int.reduceAdd, Int.reduceSub, Int.reduceNeg, Int.reduceEq, reduceCtorEq, Nat.reduceMod, opW3, e2]
theorem s_given_more : Spec Try.prog 62 [.b true] [] (.t (.agg W4.cells) true) := by
  refine spec_k (hold mixed) b_law04_given [(.agg W4.cells, true)] ?_
  have A0 : Spec Try.prog 32 [.agg [.sl [], .sl [], .i .i64 1000, .b false], .i .i64 5] [] (resV ((opW (openW devK 5)).map AV.ofT)) := s_wal_Open devK (by decide) 5 (by omega) (by omega)
  have A1 : Spec Try.prog 48 [.agg W0.cells, .sl [[.i .u8 97]]] [] (resV ((opW3 (W0.app [97#8])).map AV.ofT)) := s_wal_Append W0 fineW0 [97#8] (by simp)
  have A2 : Spec Try.prog 48 [.agg W1.cells, .sl [[.i .u8 98], [.i .u8 99]]] [] (resV ((opW3 (W1.app [98#8, 99#8])).map AV.ofT)) := s_wal_Append W1 fineW1 [98#8, 99#8] (by simp)
  have A3 : Spec Try.prog 50 [.agg W2.cells] [] (resV ((opW (W2.sync)).map AV.ofT)) := s_wal_Sync W2 fineW2
  have A4 : Spec Try.prog 48 [.agg W3.cells, .sl [[.i .u8 100]]] [] (resV ((opW3 (W3.app [100#8])).map AV.ofT)) := s_wal_Append W3 fineW3 [100#8] (by simp)
  have e0 : (openW devK 5).1 = W0 := rfl
  have e1 : (W0.app [97#8]).1 = W1 := rfl
  have e2 : (W1.app [98#8, 99#8]).1 = W2 := rfl
  have e3 : (W2.sync).1 = W3 := rfl
  have e4 : (W3.app [100#8]).1 = W4 := rfl
  simp -implicitDefEqProofs only [go_sem, reduceIte, Nat.reduceAdd, Nat.reduceSub, Nat.reduceMul, Nat.reduceLT, Nat.reduceLeDiff, Nat.reduceEqDiff, Nat.reduceBEq, Int.reduceLE, Int.reduceLT, Int.reduceToNat, Int.reduceMul, Int.reduceAdd, Int.reduceSub, Int.reduceNeg, Int.reduceEq, reduceCtorEq, Nat.reduceMod]
  refine call_k A0 ?_
  simp -implicitDefEqProofs only [go_sem, reduceIte, Nat.reduceAdd, Nat.reduceSub, Nat.reduceMul, Nat.reduceLT, Nat.reduceLeDiff, Nat.reduceEqDiff, Nat.reduceBEq, Int.reduceLE, Int.reduceLT, Int.reduceToNat, Int.reduceMul, Int.reduceAdd, Int.reduceSub, Int.reduceNeg, Int.reduceEq, reduceCtorEq, Nat.reduceMod, opW, e0]
  first | refine call_k A1 ?_ (by simp -implicitDefEqProofs only [go_sem, reduceIte, Nat.reduceAdd, Nat.reduceSub, Nat.reduceMul, Nat.reduceLT, Nat.reduceLeDiff, Nat.reduceEqDiff, Nat.reduceBEq, Int.reduceLE, Int.reduceLT, Int.reduceToNat, Int.reduceMul, Int.reduceAdd, Int.reduceSub, Int.reduceNeg, Int.reduceEq, reduceCtorEq, Nat.reduceMod]) (by simp -implicitDefEqProofs only [go_sem, reduceIte, Nat.reduceAdd, Nat.reduceSub, Nat.reduceMul, Nat.reduceLT, Nat.reduceLeDiff, Nat.reduceEqDiff, Nat.reduceBEq, Int.reduceLE, Int.reduceLT, Int.reduceToNat, Int.reduceMul, Int.reduceAdd, Int.reduceSub, Int.reduceNeg, Int.reduceEq, reduceCtorEq, Nat.reduceMod, opW3]) | refine call_d A1 ?_ (by simp -implicitDefEqProofs only [go_sem, reduceIte, Nat.reduceAdd, Nat.reduceSub, Nat.reduceMul, Nat.reduceLT, Nat.reduceLeDiff, Nat.reduceEqDiff, Nat.reduceBEq, Int.reduceLE, Int.reduceLT, Int.reduceToNat, Int.reduceMul, Int.reduceAdd, Int.reduceSub, Int.reduceNeg, Int.reduceEq, reduceCtorEq, Nat.reduceMod]) (by simp -implicitDefEqProofs only [go_sem, reduceIte, Nat.reduceAdd, Nat.reduceSub, Nat.reduceMul, Nat.reduceLT, Nat.reduceLeDiff, Nat.reduceEqDiff, Nat.reduceBEq, Int.reduceLE, Int.reduceLT, Int.reduceToNat, Int.reduceMul, Int.reduceAdd, Int.reduceSub, Int.reduceNeg, Int.reduceEq, reduceCtorEq, Nat.reduceMod, opW3])
  simp -implicitDefEqProofs only [go_sem, reduceIte, Nat.reduceAdd, Nat.reduceSub, Nat.reduceMul, Nat.reduceLT, Nat.reduceLeDiff, Nat.reduceEqDiff, Nat.reduceBEq, Int.reduceLE, Int.reduceLT, Int.reduceToNat, Int.reduceMul, Int.reduceAdd, Int.reduceSub, Int.reduceNeg, Int.reduceEq, reduceCtorEq, Nat.reduceMod, opW3, e1]
  first | refine call_k A2 ?_ (by simp -implicitDefEqProofs only [go_sem, reduceIte, Nat.reduceAdd, Nat.reduceSub, Nat.reduceMul, Nat.reduceLT, Nat.reduceLeDiff, Nat.reduceEqDiff, Nat.reduceBEq, Int.reduceLE, Int.reduceLT, Int.reduceToNat, Int.reduceMul, Int.reduceAdd, Int.reduceSub, Int.reduceNeg, Int.reduceEq, reduceCtorEq, Nat.reduceMod]) (by simp -implicitDefEqProofs only [go_sem, reduceIte, Nat.reduceAdd, Nat.reduceSub, Nat.reduceMul, Nat.reduceLT, Nat.reduceLeDiff, Nat.reduceEqDiff, Nat.reduceBEq, Int.reduceLE, Int.reduceLT, Int.reduceToNat, Int.reduceMul, Int.reduceAdd, Int.reduceSub, Int.reduceNeg, Int.reduceEq, reduceCtorEq, Nat.reduceMod, opW3]) | refine call_d A2 ?_ (by simp -implicitDefEqProofs only [go_sem, reduceIte, Nat.reduceAdd, Nat.reduceSub, Nat.reduceMul, Nat.reduceLT, Nat.reduceLeDiff, Nat.reduceEqDiff, Nat.reduceBEq, Int.reduceLE, Int.reduceLT, Int.reduceToNat, Int.reduceMul, Int.reduceAdd, Int.reduceSub, Int.reduceNeg, Int.reduceEq, reduceCtorEq, Nat.reduceMod]) (by simp -implicitDefEqProofs only [go_sem, reduceIte, Nat.reduceAdd, Nat.reduceSub, Nat.reduceMul, Nat.reduceLT, Nat.reduceLeDiff, Nat.reduceEqDiff, Nat.reduceBEq, Int.reduceLE, Int.reduceLT, Int.reduceToNat, Int.reduceMul, Int.reduceAdd, Int.reduceSub, Int.reduceNeg, Int.reduceEq, reduceCtorEq, Nat.reduceMod, opW3])
  simp -implicitDefEqProofs only [go_sem, reduceIte, Nat.reduceAdd, Nat.reduceSub, Nat.reduceMul, Nat.reduceLT, Nat.reduceLeDiff, Nat.reduceEqDiff, Nat.reduceBEq, Int.reduceLE, Int.reduceLT, Int.reduceToNat, Int.reduceMul, Int.reduceAdd, Int.reduceSub, Int.reduceNeg, Int.reduceEq, reduceCtorEq, Nat.reduceMod, opW3, e2]
  first | refine call_k A3 ?_ (by simp -implicitDefEqProofs only [go_sem, reduceIte, Nat.reduceAdd, Nat.reduceSub, Nat.reduceMul, Nat.reduceLT, Nat.reduceLeDiff, Nat.reduceEqDiff, Nat.reduceBEq, Int.reduceLE, Int.reduceLT, Int.reduceToNat, Int.reduceMul, Int.reduceAdd, Int.reduceSub, Int.reduceNeg, Int.reduceEq, reduceCtorEq, Nat.reduceMod]) (by simp -implicitDefEqProofs only [go_sem, reduceIte, Nat.reduceAdd, Nat.reduceSub, Nat.reduceMul, Nat.reduceLT, Nat.reduceLeDiff, Nat.reduceEqDiff, Nat.reduceBEq, Int.reduceLE, Int.reduceLT, Int.reduceToNat, Int.reduceMul, Int.reduceAdd, Int.reduceSub, Int.reduceNeg, Int.reduceEq, reduceCtorEq, Nat.reduceMod, opW]) | refine call_d A3 ?_ (by simp -implicitDefEqProofs only [go_sem, reduceIte, Nat.reduceAdd, Nat.reduceSub, Nat.reduceMul, Nat.reduceLT, Nat.reduceLeDiff, Nat.reduceEqDiff, Nat.reduceBEq, Int.reduceLE, Int.reduceLT, Int.reduceToNat, Int.reduceMul, Int.reduceAdd, Int.reduceSub, Int.reduceNeg, Int.reduceEq, reduceCtorEq, Nat.reduceMod]) (by simp -implicitDefEqProofs only [go_sem, reduceIte, Nat.reduceAdd, Nat.reduceSub, Nat.reduceMul, Nat.reduceLT, Nat.reduceLeDiff, Nat.reduceEqDiff, Nat.reduceBEq, Int.reduceLE, Int.reduceLT, Int.reduceToNat, Int.reduceMul, Int.reduceAdd, Int.reduceSub, Int.reduceNeg, Int.reduceEq, reduceCtorEq, Nat.reduceMod, opW])
  simp -implicitDefEqProofs only [go_sem, reduceIte, Nat.reduceAdd, Nat.reduceSub, Nat.reduceMul, Nat.reduceLT, Nat.reduceLeDiff, Nat.reduceEqDiff, Nat.reduceBEq, Int.reduceLE, Int.reduceLT, Int.reduceToNat, Int.reduceMul, Int.reduceAdd, Int.reduceSub, Int.reduceNeg, Int.reduceEq, reduceCtorEq, Nat.reduceMod, opW, e3]
  first | refine call_k A4 ?_ (by simp -implicitDefEqProofs only [go_sem, reduceIte, Nat.reduceAdd, Nat.reduceSub, Nat.reduceMul, Nat.reduceLT, Nat.reduceLeDiff, Nat.reduceEqDiff, Nat.reduceBEq, Int.reduceLE, Int.reduceLT, Int.reduceToNat, Int.reduceMul, Int.reduceAdd, Int.reduceSub, Int.reduceNeg, Int.reduceEq, reduceCtorEq, Nat.reduceMod]) (by simp -implicitDefEqProofs only [go_sem, reduceIte, Nat.reduceAdd, Nat.reduceSub, Nat.reduceMul, Nat.reduceLT, Nat.reduceLeDiff, Nat.reduceEqDiff, Nat.reduceBEq, Int.reduceLE, Int.reduceLT, Int.reduceToNat, Int.reduceMul, Int.reduceAdd, Int.reduceSub, Int.reduceNeg, Int.reduceEq, reduceCtorEq, Nat.reduceMod, opW3]) | refine call_d A4 ?_ (by simp -implicitDefEqProofs only [go_sem, reduceIte, Nat.reduceAdd, Nat.reduceSub, Nat.reduceMul, Nat.reduceLT, Nat.reduceLeDiff, Nat.reduceEqDiff, Nat.reduceBEq, Int.reduceLE, Int.reduceLT, Int.reduceToNat, Int.reduceMul, Int.reduceAdd, Int.reduceSub, Int.reduceNeg, Int.reduceEq, reduceCtorEq, Nat.reduceMod]) (by simp -implicitDefEqProofs only [go_sem, reduceIte, Nat.reduceAdd, Nat.reduceSub, Nat.reduceMul, Nat.reduceLT, Nat.reduceLeDiff, Nat.reduceEqDiff, Nat.reduceBEq, Int.reduceLE, Int.reduceLT, Int.reduceToNat, Int.reduceMul, Int.reduceAdd, Int.reduceSub, Int.reduceNeg, Int.reduceEq, reduceCtorEq, Nat.reduceMod, opW3])
  simp -implicitDefEqProofs only [go_sem, reduceIte, Nat.reduceAdd, Nat.reduceSub, Nat.reduceMul, Nat.reduceLT, Nat.reduceLeDiff, Nat.reduceEqDiff, Nat.reduceBEq, Int.reduceLE, Int.reduceLT, Int.reduceToNat, Int.reduceMul, Int.reduceAdd, Int.reduceSub, Int.reduceNeg, Int.reduceEq, reduceCtorEq, Nat.reduceMod, opW3, e4]
theorem s_law04_fit (l : WLog) (hf0 : -9223372036854775808 ≤ l.first) (hf1 : l.first ≤ 9223372036854775807) (hn0 : -9223372036854775808 ≤ l.next) (hn1 : l.next ≤ 9223372036854775807) :
    Spec Try.prog 58 [.agg l.cells] [] (.t (.b (!great4 l.dev && decide l.ok)) true) := by
  refine spec_k (hold mixed) b_law04_fit [(.b (!great4 l.dev && decide l.ok), true)] ?_
  by_cases hg : great4 l.dev = true
  · simp -implicitDefEqProofs only [go_sem, reduceIte, Nat.reduceAdd, Nat.reduceSub, Nat.reduceMul, Nat.reduceLT, Nat.reduceLeDiff, Nat.reduceEqDiff, Nat.reduceBEq, Int.reduceLE, Int.reduceLT, Int.reduceToNat, Int.reduceMul, Int.reduceAdd, Int.reduceSub, Int.reduceNeg, Int.reduceEq, reduceCtorEq, Nat.reduceMod]
    first | refine call_k (s_ref04_Great l.dev) ?_ | refine call_d (s_ref04_Great l.dev) ?_
    simp -implicitDefEqProofs only [go_sem, reduceIte, Nat.reduceAdd, Nat.reduceSub, Nat.reduceMul, Nat.reduceLT, Nat.reduceLeDiff, Nat.reduceEqDiff, Nat.reduceBEq, Int.reduceLE, Int.reduceLT, Int.reduceToNat, Int.reduceMul, Int.reduceAdd, Int.reduceSub, Int.reduceNeg, Int.reduceEq, reduceCtorEq, Nat.reduceMod, hg]
  replace hg : great4 l.dev = false := by simpa using hg
  have hd : l.dev.small := by simp [great4] at hg; exact ⟨by omega, by omega⟩
  have hl : l.fine := ⟨hd, hf0, hf1, hn0, hn1⟩
  have hc := s_ref04_Check l hl
  simp -implicitDefEqProofs only [go_sem, reduceIte, Nat.reduceAdd, Nat.reduceSub, Nat.reduceMul, Nat.reduceLT, Nat.reduceLeDiff, Nat.reduceEqDiff, Nat.reduceBEq, Int.reduceLE, Int.reduceLT, Int.reduceToNat, Int.reduceMul, Int.reduceAdd, Int.reduceSub, Int.reduceNeg, Int.reduceEq, reduceCtorEq, Nat.reduceMod]
  first | refine call_k (s_ref04_Great l.dev) ?_ | refine call_d (s_ref04_Great l.dev) ?_
  by_cases h : l.ok
  · rw [chk_ok h] at hc
    simp -implicitDefEqProofs only [go_sem, reduceIte, Nat.reduceAdd, Nat.reduceSub, Nat.reduceMul, Nat.reduceLT, Nat.reduceLeDiff, Nat.reduceEqDiff, Nat.reduceBEq, Int.reduceLE, Int.reduceLT, Int.reduceToNat, Int.reduceMul, Int.reduceAdd, Int.reduceSub, Int.reduceNeg, Int.reduceEq, reduceCtorEq, Nat.reduceMod, Int.reduceBNe, Int.reduceBEq, Int.reduceGT, Int.reduceGE, Int.reduceNe, Int.cast_ofNat_Int, Int.natCast_zero, Int.natCast_one, bne_self_eq_false, gt_iff_lt, ge_iff_le, Int.lt_irrefl, Int.le_refl, hg]
    first | refine call_k hc ?_ | refine call_d hc ?_
    simp -implicitDefEqProofs only [go_sem, reduceIte, Nat.reduceAdd, Nat.reduceSub, Nat.reduceMul, Nat.reduceLT, Nat.reduceLeDiff, Nat.reduceEqDiff, Nat.reduceBEq, Int.reduceLE, Int.reduceLT, Int.reduceToNat, Int.reduceMul, Int.reduceAdd, Int.reduceSub, Int.reduceNeg, Int.reduceEq, reduceCtorEq, Nat.reduceMod, Int.reduceBNe, Int.reduceBEq, Int.reduceGT, Int.reduceGE, Int.reduceNe, Int.cast_ofNat_Int, Int.natCast_zero, Int.natCast_one, bne_self_eq_false, gt_iff_lt, ge_iff_le, Int.lt_irrefl, Int.le_refl, hg, h]
    try simp [hg, h]
  · rw [chk_bad h] at hc
    simp -implicitDefEqProofs only [go_sem, reduceIte, Nat.reduceAdd, Nat.reduceSub, Nat.reduceMul, Nat.reduceLT, Nat.reduceLeDiff, Nat.reduceEqDiff, Nat.reduceBEq, Int.reduceLE, Int.reduceLT, Int.reduceToNat, Int.reduceMul, Int.reduceAdd, Int.reduceSub, Int.reduceNeg, Int.reduceEq, reduceCtorEq, Nat.reduceMod, Int.reduceBNe, Int.reduceBEq, Int.reduceGT, Int.reduceGE, Int.reduceNe, Int.cast_ofNat_Int, Int.natCast_zero, Int.natCast_one, bne_self_eq_false, gt_iff_lt, ge_iff_le, Int.lt_irrefl, Int.le_refl, hg]
    first | refine call_k hc ?_ | refine call_d hc ?_
    simp -implicitDefEqProofs only [go_sem, reduceIte, Nat.reduceAdd, Nat.reduceSub, Nat.reduceMul, Nat.reduceLT, Nat.reduceLeDiff, Nat.reduceEqDiff, Nat.reduceBEq, Int.reduceLE, Int.reduceLT, Int.reduceToNat, Int.reduceMul, Int.reduceAdd, Int.reduceSub, Int.reduceNeg, Int.reduceEq, reduceCtorEq, Nat.reduceMod, Int.reduceBNe, Int.reduceBEq, Int.reduceGT, Int.reduceGE, Int.reduceNe, Int.cast_ofNat_Int, Int.natCast_zero, Int.natCast_one, bne_self_eq_false, gt_iff_lt, ge_iff_le, Int.lt_irrefl, Int.le_refl, hg, h]
    try simp [hg, h]
end Go.Proofs.Ytdpnjhooehadmaa.Pm

/-! PmWp -/
set_option linter.all false
set_option maxRecDepth 100000
set_option maxHeartbeats 2000000
namespace Go.Proofs.Ytdpnjhooehadmaa.Pm
open Go Go.RowKit

def D5 : Dev := (W4.crash 12).1
def W5 : WLog := (openW D5 0).1
def W6 : WLog := (W5.drop 6).1
def W7 : WLog := (openW D5 9).1
theorem s_law04_alive : Spec Try.prog 59 [] [] (.t (.b true) true) := by
  refine spec_k (hold mixed) b_law04_alive [(.b true, true)] ?_
  have fD : D5.small := by decide +kernel
  have fW : W5.fine := by decide +kernel
  have A0 : Spec Try.prog 18 [.agg W2.cells] [] (resV ((synT (syncR W2)).map AV.ofT)) := s_wal_Synced W2 fineW2
  have A1 : Spec Try.prog 34 [.agg W4.cells, .i .i64 12] [] (resV ((opR (W4.crash 12)).map AV.ofT)) := s_wal_Crash W4 fineW4 12 (by omega) (by omega)
  have A2 : Spec Try.prog 32 [.agg D5.cells, .i .i64 0] [] (resV ((opW (openW D5 0)).map AV.ofT)) := s_wal_Open D5 fD 0 (by omega) (by omega)
  have A3 : Spec Try.prog 52 [.agg W5.cells, .i .i64 6] [] (resV ((opW (W5.drop 6)).map AV.ofT)) := s_wal_Drop W5 fW 6 (by omega) (by omega)
  have A4 : Spec Try.prog 32 [.agg D5.cells, .i .i64 9] [] (resV ((opW (openW D5 9)).map AV.ofT)) := s_wal_Open D5 fD 9 (by omega) (by omega)
  have r0 : syncR W2 = (5, 0) := by decide +kernel
  have r1 : W4.crash 12 = (D5, 0) := by decide +kernel
  have r2 : openW D5 0 = (W5, 0) := by decide +kernel
  have r3 : W5.drop 6 = (W6, 0) := by decide +kernel
  have r4 : openW D5 9 = (W7, 0) := by decide +kernel
  have h2 : W2.has 5 [[97#8], [98#8, 99#8]] := has_of (by decide +kernel)
  have h5 : W5.has 5 [[97#8], [98#8, 99#8]] := has_of (by decide +kernel)
  have h6 : W6.has 6 [[98#8, 99#8]] := has_of (by decide +kernel)
  have h7 : W7.has 9 [] := has_of (by decide +kernel)
  rw [r0] at A0; rw [r1] at A1; rw [r2] at A2; rw [r3] at A3; rw [r4] at A4
  simp -implicitDefEqProofs only [go_sem, reduceIte, Nat.reduceAdd, Nat.reduceSub, Nat.reduceMul, Nat.reduceLT, Nat.reduceLeDiff, Nat.reduceEqDiff, Nat.reduceBEq, Int.reduceLE, Int.reduceLT, Int.reduceToNat, Int.reduceMul, Int.reduceAdd, Int.reduceSub, Int.reduceNeg, Int.reduceEq, reduceCtorEq, Nat.reduceMod]
  first | refine call_k s_given_less ?_ | refine call_d s_given_less ?_
  simp -implicitDefEqProofs only [go_sem, reduceIte, Nat.reduceAdd, Nat.reduceSub, Nat.reduceMul, Nat.reduceLT, Nat.reduceLeDiff, Nat.reduceEqDiff, Nat.reduceBEq, Int.reduceLE, Int.reduceLT, Int.reduceToNat, Int.reduceMul, Int.reduceAdd, Int.reduceSub, Int.reduceNeg, Int.reduceEq, reduceCtorEq, Nat.reduceMod]
  first | refine call_k A0 ?_ (by simp -implicitDefEqProofs only [go_sem, reduceIte, Nat.reduceAdd, Nat.reduceSub, Nat.reduceMul, Nat.reduceLT, Nat.reduceLeDiff, Nat.reduceEqDiff, Nat.reduceBEq, Int.reduceLE, Int.reduceLT, Int.reduceToNat, Int.reduceMul, Int.reduceAdd, Int.reduceSub, Int.reduceNeg, Int.reduceEq, reduceCtorEq, Nat.reduceMod]) (by simp -implicitDefEqProofs only [go_sem, reduceIte, Nat.reduceAdd, Nat.reduceSub, Nat.reduceMul, Nat.reduceLT, Nat.reduceLeDiff, Nat.reduceEqDiff, Nat.reduceBEq, Int.reduceLE, Int.reduceLT, Int.reduceToNat, Int.reduceMul, Int.reduceAdd, Int.reduceSub, Int.reduceNeg, Int.reduceEq, reduceCtorEq, Nat.reduceMod, synT]) | refine call_d A0 ?_ (by simp -implicitDefEqProofs only [go_sem, reduceIte, Nat.reduceAdd, Nat.reduceSub, Nat.reduceMul, Nat.reduceLT, Nat.reduceLeDiff, Nat.reduceEqDiff, Nat.reduceBEq, Int.reduceLE, Int.reduceLT, Int.reduceToNat, Int.reduceMul, Int.reduceAdd, Int.reduceSub, Int.reduceNeg, Int.reduceEq, reduceCtorEq, Nat.reduceMod]) (by simp -implicitDefEqProofs only [go_sem, reduceIte, Nat.reduceAdd, Nat.reduceSub, Nat.reduceMul, Nat.reduceLT, Nat.reduceLeDiff, Nat.reduceEqDiff, Nat.reduceBEq, Int.reduceLE, Int.reduceLT, Int.reduceToNat, Int.reduceMul, Int.reduceAdd, Int.reduceSub, Int.reduceNeg, Int.reduceEq, reduceCtorEq, Nat.reduceMod, synT])
  simp -implicitDefEqProofs only [go_sem, reduceIte, Nat.reduceAdd, Nat.reduceSub, Nat.reduceMul, Nat.reduceLT, Nat.reduceLeDiff, Nat.reduceEqDiff, Nat.reduceBEq, Int.reduceLE, Int.reduceLT, Int.reduceToNat, Int.reduceMul, Int.reduceAdd, Int.reduceSub, Int.reduceNeg, Int.reduceEq, reduceCtorEq, Nat.reduceMod, synT]
  first | refine call_k s_given_more ?_ | refine call_d s_given_more ?_
  simp -implicitDefEqProofs only [go_sem, reduceIte, Nat.reduceAdd, Nat.reduceSub, Nat.reduceMul, Nat.reduceLT, Nat.reduceLeDiff, Nat.reduceEqDiff, Nat.reduceBEq, Int.reduceLE, Int.reduceLT, Int.reduceToNat, Int.reduceMul, Int.reduceAdd, Int.reduceSub, Int.reduceNeg, Int.reduceEq, reduceCtorEq, Nat.reduceMod]
  first | refine call_k A1 ?_ (by simp -implicitDefEqProofs only [go_sem, reduceIte, Nat.reduceAdd, Nat.reduceSub, Nat.reduceMul, Nat.reduceLT, Nat.reduceLeDiff, Nat.reduceEqDiff, Nat.reduceBEq, Int.reduceLE, Int.reduceLT, Int.reduceToNat, Int.reduceMul, Int.reduceAdd, Int.reduceSub, Int.reduceNeg, Int.reduceEq, reduceCtorEq, Nat.reduceMod]) (by simp -implicitDefEqProofs only [go_sem, reduceIte, Nat.reduceAdd, Nat.reduceSub, Nat.reduceMul, Nat.reduceLT, Nat.reduceLeDiff, Nat.reduceEqDiff, Nat.reduceBEq, Int.reduceLE, Int.reduceLT, Int.reduceToNat, Int.reduceMul, Int.reduceAdd, Int.reduceSub, Int.reduceNeg, Int.reduceEq, reduceCtorEq, Nat.reduceMod, opR]) | refine call_d A1 ?_ (by simp -implicitDefEqProofs only [go_sem, reduceIte, Nat.reduceAdd, Nat.reduceSub, Nat.reduceMul, Nat.reduceLT, Nat.reduceLeDiff, Nat.reduceEqDiff, Nat.reduceBEq, Int.reduceLE, Int.reduceLT, Int.reduceToNat, Int.reduceMul, Int.reduceAdd, Int.reduceSub, Int.reduceNeg, Int.reduceEq, reduceCtorEq, Nat.reduceMod]) (by simp -implicitDefEqProofs only [go_sem, reduceIte, Nat.reduceAdd, Nat.reduceSub, Nat.reduceMul, Nat.reduceLT, Nat.reduceLeDiff, Nat.reduceEqDiff, Nat.reduceBEq, Int.reduceLE, Int.reduceLT, Int.reduceToNat, Int.reduceMul, Int.reduceAdd, Int.reduceSub, Int.reduceNeg, Int.reduceEq, reduceCtorEq, Nat.reduceMod, opR])
  simp -implicitDefEqProofs only [go_sem, reduceIte, Nat.reduceAdd, Nat.reduceSub, Nat.reduceMul, Nat.reduceLT, Nat.reduceLeDiff, Nat.reduceEqDiff, Nat.reduceBEq, Int.reduceLE, Int.reduceLT, Int.reduceToNat, Int.reduceMul, Int.reduceAdd, Int.reduceSub, Int.reduceNeg, Int.reduceEq, reduceCtorEq, Nat.reduceMod, opR]
  first | refine call_k A2 ?_ (by simp -implicitDefEqProofs only [go_sem, reduceIte, Nat.reduceAdd, Nat.reduceSub, Nat.reduceMul, Nat.reduceLT, Nat.reduceLeDiff, Nat.reduceEqDiff, Nat.reduceBEq, Int.reduceLE, Int.reduceLT, Int.reduceToNat, Int.reduceMul, Int.reduceAdd, Int.reduceSub, Int.reduceNeg, Int.reduceEq, reduceCtorEq, Nat.reduceMod, Dev.cells]) (by simp -implicitDefEqProofs only [go_sem, reduceIte, Nat.reduceAdd, Nat.reduceSub, Nat.reduceMul, Nat.reduceLT, Nat.reduceLeDiff, Nat.reduceEqDiff, Nat.reduceBEq, Int.reduceLE, Int.reduceLT, Int.reduceToNat, Int.reduceMul, Int.reduceAdd, Int.reduceSub, Int.reduceNeg, Int.reduceEq, reduceCtorEq, Nat.reduceMod, opW]) | refine call_d A2 ?_ (by simp -implicitDefEqProofs only [go_sem, reduceIte, Nat.reduceAdd, Nat.reduceSub, Nat.reduceMul, Nat.reduceLT, Nat.reduceLeDiff, Nat.reduceEqDiff, Nat.reduceBEq, Int.reduceLE, Int.reduceLT, Int.reduceToNat, Int.reduceMul, Int.reduceAdd, Int.reduceSub, Int.reduceNeg, Int.reduceEq, reduceCtorEq, Nat.reduceMod, Dev.cells]) (by simp -implicitDefEqProofs only [go_sem, reduceIte, Nat.reduceAdd, Nat.reduceSub, Nat.reduceMul, Nat.reduceLT, Nat.reduceLeDiff, Nat.reduceEqDiff, Nat.reduceBEq, Int.reduceLE, Int.reduceLT, Int.reduceToNat, Int.reduceMul, Int.reduceAdd, Int.reduceSub, Int.reduceNeg, Int.reduceEq, reduceCtorEq, Nat.reduceMod, opW])
  simp -implicitDefEqProofs only [go_sem, reduceIte, Nat.reduceAdd, Nat.reduceSub, Nat.reduceMul, Nat.reduceLT, Nat.reduceLeDiff, Nat.reduceEqDiff, Nat.reduceBEq, Int.reduceLE, Int.reduceLT, Int.reduceToNat, Int.reduceMul, Int.reduceAdd, Int.reduceSub, Int.reduceNeg, Int.reduceEq, reduceCtorEq, Nat.reduceMod, opW]
  first | refine call_k A3 ?_ (by simp -implicitDefEqProofs only [go_sem, reduceIte, Nat.reduceAdd, Nat.reduceSub, Nat.reduceMul, Nat.reduceLT, Nat.reduceLeDiff, Nat.reduceEqDiff, Nat.reduceBEq, Int.reduceLE, Int.reduceLT, Int.reduceToNat, Int.reduceMul, Int.reduceAdd, Int.reduceSub, Int.reduceNeg, Int.reduceEq, reduceCtorEq, Nat.reduceMod]) (by simp -implicitDefEqProofs only [go_sem, reduceIte, Nat.reduceAdd, Nat.reduceSub, Nat.reduceMul, Nat.reduceLT, Nat.reduceLeDiff, Nat.reduceEqDiff, Nat.reduceBEq, Int.reduceLE, Int.reduceLT, Int.reduceToNat, Int.reduceMul, Int.reduceAdd, Int.reduceSub, Int.reduceNeg, Int.reduceEq, reduceCtorEq, Nat.reduceMod, opW]) | refine call_d A3 ?_ (by simp -implicitDefEqProofs only [go_sem, reduceIte, Nat.reduceAdd, Nat.reduceSub, Nat.reduceMul, Nat.reduceLT, Nat.reduceLeDiff, Nat.reduceEqDiff, Nat.reduceBEq, Int.reduceLE, Int.reduceLT, Int.reduceToNat, Int.reduceMul, Int.reduceAdd, Int.reduceSub, Int.reduceNeg, Int.reduceEq, reduceCtorEq, Nat.reduceMod]) (by simp -implicitDefEqProofs only [go_sem, reduceIte, Nat.reduceAdd, Nat.reduceSub, Nat.reduceMul, Nat.reduceLT, Nat.reduceLeDiff, Nat.reduceEqDiff, Nat.reduceBEq, Int.reduceLE, Int.reduceLT, Int.reduceToNat, Int.reduceMul, Int.reduceAdd, Int.reduceSub, Int.reduceNeg, Int.reduceEq, reduceCtorEq, Nat.reduceMod, opW])
  simp -implicitDefEqProofs only [go_sem, reduceIte, Nat.reduceAdd, Nat.reduceSub, Nat.reduceMul, Nat.reduceLT, Nat.reduceLeDiff, Nat.reduceEqDiff, Nat.reduceBEq, Int.reduceLE, Int.reduceLT, Int.reduceToNat, Int.reduceMul, Int.reduceAdd, Int.reduceSub, Int.reduceNeg, Int.reduceEq, reduceCtorEq, Nat.reduceMod, opW]
  first | refine call_k A4 ?_ (by simp -implicitDefEqProofs only [go_sem, reduceIte, Nat.reduceAdd, Nat.reduceSub, Nat.reduceMul, Nat.reduceLT, Nat.reduceLeDiff, Nat.reduceEqDiff, Nat.reduceBEq, Int.reduceLE, Int.reduceLT, Int.reduceToNat, Int.reduceMul, Int.reduceAdd, Int.reduceSub, Int.reduceNeg, Int.reduceEq, reduceCtorEq, Nat.reduceMod, Dev.cells]) (by simp -implicitDefEqProofs only [go_sem, reduceIte, Nat.reduceAdd, Nat.reduceSub, Nat.reduceMul, Nat.reduceLT, Nat.reduceLeDiff, Nat.reduceEqDiff, Nat.reduceBEq, Int.reduceLE, Int.reduceLT, Int.reduceToNat, Int.reduceMul, Int.reduceAdd, Int.reduceSub, Int.reduceNeg, Int.reduceEq, reduceCtorEq, Nat.reduceMod, opW]) | refine call_d A4 ?_ (by simp -implicitDefEqProofs only [go_sem, reduceIte, Nat.reduceAdd, Nat.reduceSub, Nat.reduceMul, Nat.reduceLT, Nat.reduceLeDiff, Nat.reduceEqDiff, Nat.reduceBEq, Int.reduceLE, Int.reduceLT, Int.reduceToNat, Int.reduceMul, Int.reduceAdd, Int.reduceSub, Int.reduceNeg, Int.reduceEq, reduceCtorEq, Nat.reduceMod, Dev.cells]) (by simp -implicitDefEqProofs only [go_sem, reduceIte, Nat.reduceAdd, Nat.reduceSub, Nat.reduceMul, Nat.reduceLT, Nat.reduceLeDiff, Nat.reduceEqDiff, Nat.reduceBEq, Int.reduceLE, Int.reduceLT, Int.reduceToNat, Int.reduceMul, Int.reduceAdd, Int.reduceSub, Int.reduceNeg, Int.reduceEq, reduceCtorEq, Nat.reduceMod, opW])
  simp -implicitDefEqProofs only [go_sem, reduceIte, Nat.reduceAdd, Nat.reduceSub, Nat.reduceMul, Nat.reduceLT, Nat.reduceLeDiff, Nat.reduceEqDiff, Nat.reduceBEq, Int.reduceLE, Int.reduceLT, Int.reduceToNat, Int.reduceMul, Int.reduceAdd, Int.reduceSub, Int.reduceNeg, Int.reduceEq, reduceCtorEq, Nat.reduceMod, opW]
  first | refine call_k s_given_less ?_ | refine call_d s_given_less ?_
  simp -implicitDefEqProofs only [go_sem, reduceIte, Nat.reduceAdd, Nat.reduceSub, Nat.reduceMul, Nat.reduceLT, Nat.reduceLeDiff, Nat.reduceEqDiff, Nat.reduceBEq, Int.reduceLE, Int.reduceLT, Int.reduceToNat, Int.reduceMul, Int.reduceAdd, Int.reduceSub, Int.reduceNeg, Int.reduceEq, reduceCtorEq, Nat.reduceMod]
  have n2 : Spec Try.prog 61 [.agg W2.cells, .i .i64 0, .i .i64 5, .sl [[.s ⟨#[97]⟩], [.s ⟨#[98, 99]⟩]]] [] (.t (.b true) true) := s_numbered h2
  have n5 : Spec Try.prog 61 [.agg W5.cells, .i .i64 0, .i .i64 5, .sl [[.s ⟨#[97]⟩], [.s ⟨#[98, 99]⟩]]] [] (.t (.b true) true) := s_numbered h5
  have n6 : Spec Try.prog 61 [.agg W6.cells, .i .i64 0, .i .i64 6, .sl [[.s ⟨#[98, 99]⟩]]] [] (.t (.b true) true) := s_numbered h6
  have n7 : Spec Try.prog 61 [.agg W7.cells, .i .i64 0, .i .i64 9, .sl []] [] (.t (.b true) true) := s_numbered h7
  first | refine call_k n2 ?_ | refine call_d n2 ?_
  simp -implicitDefEqProofs only [go_sem, reduceIte, Nat.reduceAdd, Nat.reduceSub, Nat.reduceMul, Nat.reduceLT, Nat.reduceLeDiff, Nat.reduceEqDiff, Nat.reduceBEq, Int.reduceLE, Int.reduceLT, Int.reduceToNat, Int.reduceMul, Int.reduceAdd, Int.reduceSub, Int.reduceNeg, Int.reduceEq, reduceCtorEq, Nat.reduceMod]
  first | refine call_k n5 ?_ | refine call_d n5 ?_
  simp -implicitDefEqProofs only [go_sem, reduceIte, Nat.reduceAdd, Nat.reduceSub, Nat.reduceMul, Nat.reduceLT, Nat.reduceLeDiff, Nat.reduceEqDiff, Nat.reduceBEq, Int.reduceLE, Int.reduceLT, Int.reduceToNat, Int.reduceMul, Int.reduceAdd, Int.reduceSub, Int.reduceNeg, Int.reduceEq, reduceCtorEq, Nat.reduceMod]
  first | refine call_k n6 ?_ | refine call_d n6 ?_
  simp -implicitDefEqProofs only [go_sem, reduceIte, Nat.reduceAdd, Nat.reduceSub, Nat.reduceMul, Nat.reduceLT, Nat.reduceLeDiff, Nat.reduceEqDiff, Nat.reduceBEq, Int.reduceLE, Int.reduceLT, Int.reduceToNat, Int.reduceMul, Int.reduceAdd, Int.reduceSub, Int.reduceNeg, Int.reduceEq, reduceCtorEq, Nat.reduceMod]
  first | refine call_k n7 ?_ | refine call_d n7 ?_
  simp -implicitDefEqProofs only [go_sem, reduceIte, Nat.reduceAdd, Nat.reduceSub, Nat.reduceMul, Nat.reduceLT, Nat.reduceLeDiff, Nat.reduceEqDiff, Nat.reduceBEq, Int.reduceLE, Int.reduceLT, Int.reduceToNat, Int.reduceMul, Int.reduceAdd, Int.reduceSub, Int.reduceNeg, Int.reduceEq, reduceCtorEq, Nat.reduceMod]
end Go.Proofs.Ytdpnjhooehadmaa.Pm

/-! PmWq -/
set_option linter.all false
set_option maxRecDepth 100000
namespace Go.Proofs.Ytdpnjhooehadmaa.Pm
open Go Go.RowKit

theorem scan_whole {l : List Rec} (h : follows l = true) : scanL (catR l) = l := by
  have := scan_torn h (n := (catR l).length) (k := l.length) (Nat.le_refl _) (Nat.le_refl _) (by rw [List.take_length]; exact Nat.le_refl _) (fun h => absurd h (Nat.lt_irrefl _))
  rw [List.take_length, List.take_length] at this
  exact this
theorem follows_take {l : List Rec} (h : follows l = true) (k : Nat) : follows (l.take k) = true :=
  follows_of (fun r hr => follows_ok h r (List.mem_of_mem_take hr)) (fun j hj => by
    rw [List.length_take] at hj
    rw [List.getElem_take, List.getElem_take]
    exact follows_row h j (by omega))
theorem follows_drop {l : List Rec} (h : follows l = true) (k : Nat) : follows (l.drop k) = true :=
  follows_of (fun r hr => follows_ok h r (List.mem_of_mem_drop hr)) (fun j hj => by
    rw [List.length_drop] at hj
    rw [List.getElem_drop, List.getElem_drop]
    exact follows_row h (k + j) (by omega))
theorem follows_num {l : List Rec} (h : follows l = true) : ∀ (k : Nat) (hk : k < l.length), l[k].num = (l[0]'(by omega)).num + k
  | 0, hk => by simp
  | k + 1, hk => by
    rw [follows_row h k hk, follows_num h k (by omega)]
    omega
/-- A log that is synced, with just these records. -/
def logOf (cap n : Int) (rs : List Rec) : WLog := ⟨⟨catR rs, [], cap, false⟩, n, n + rs.length⟩
/-- Records that a log from a number on may have. -/
structure Row (n : Int) (rs : List Rec) : Prop where
  follows : follows rs = true
  first : ∀ h : 0 < rs.length, rs[0].num = n
theorem row_take {n : Int} {rs : List Rec} (h : Row n rs) (k : Nat) : Row n (rs.take k) :=
  ⟨follows_take h.follows k, fun hk => by rw [List.getElem_take]; exact h.first (by rw [List.length_take] at hk; omega)⟩
theorem row_drop {n : Int} {rs : List Rec} (h : Row n rs) (k : Nat) : Row (n + k) (rs.drop k) :=
  ⟨follows_drop h.follows k, fun hk => by
    rw [List.length_drop] at hk
    rw [List.getElem_drop, follows_num h.follows (k + 0) (by omega), h.first (by omega)]
    omega⟩
theorem row_ok {l : WLog} (h : l.ok) : Row l.first l.recs := ⟨ok_follows l, fun hk => head_num h.2.2.2.2 hk⟩
theorem ok_of_row {l : WLog} {n : Int} {rs : List Rec} (h : Row n rs) (hc : l.dev.check = 0) (hd : l.dev.down = false) (ha : l.dev.all = catR rs) (hf : l.first = n) (hn : l.next = n + rs.length) (h0 : 0 ≤ n) (h1 : n ≤ 1000000001) : l.ok ∧ l.recs = rs := by
  have hr : l.recs = rs := by unfold WLog.recs; rw [ha]; exact scan_whole h.follows
  refine ⟨⟨hc, hd, by rw [hr, ha], by rw [hr, hn, hf], ?_⟩, hr⟩
  rw [hr]
  cases rs with
  | nil => exact ⟨by omega, by omega⟩
  | cons r rs => exact (h.first (by simp)).trans hf.symm
theorem log_ok {cap n : Int} {rs : List Rec} (h : Row n rs) (c0 : 0 ≤ cap) (c1 : cap ≤ 20000) (hl : ((catR rs).length : Int) ≤ cap) (h0 : 0 ≤ n) (h1 : n ≤ 1000000001) : (logOf cap n rs).ok ∧ (logOf cap n rs).recs = rs :=
  ok_of_row h (check_of c0 c1 (by show ((catR rs).length : Int) + (([] : List (BitVec 8)).length : Nat) ≤ cap; simp; omega) (fun h => by cases h)) rfl (by show catR rs ++ [] = _; rw [List.append_nil]) rfl rfl h0 h1
theorem open_of {d : Dev} {n : Int} {rs : List Rec} (hc : d.check = 0) (h0 : 0 ≤ n) (h1 : n ≤ 1000000000) (hs : scanL d.all = rs) (hr : Row n rs) : openW d n = (logOf d.cap n rs, 0) := by
  cases rs with
  | nil =>
    rw [openW_none hc h0 h1 hs]
    simp [logOf, cutD, catR]
  | cons r rs =>
    have hlast : ((r :: rs).getLast (List.cons_ne_nil r rs)).num = n + rs.length := by
      rw [List.getLast_eq_getElem, follows_num hr.follows _ (by simp), hr.first (by simp)]
      simp
    have hu := scan_used d.all
    rw [hs] at hu
    have hf : r.num = n := hr.first (by simp)
    rw [openW_some hc h0 h1 hs (by omega), hlast, hf]
    simp only [logOf, cutD, hu, List.length_cons]
    rw [show n + (rs.length : Int) + 1 = n + ((rs.length + 1 : Nat) : Int) by omega]
theorem open_own {l : WLog} (h : l.ok) (h1 : l.first ≤ 1000000000) : openW l.dev l.first = (logOf l.dev.cap l.first l.recs, 0) :=
  open_of h.1 (ok_bounds h).1 h1 rfl (row_ok h)
theorem cntR_mono : ∀ (l : List Rec) {m n : Nat} (_ : m ≤ n), cntR l m ≤ cntR l n
  | [], _, _, _ => Nat.le_refl _
  | r :: l, m, n, h => by
    unfold cntR
    split
    · rw [if_pos (by omega)]
      exact Nat.succ_le_succ (cntR_mono l (by omega))
    · exact Nat.zero_le _
/-- How many records a crash leaves that keeps so many bytes. -/
def keepC (l : WLog) (k : Nat) : Nat := cntR l.recs (l.dev.syn.length + k)
theorem crash_eq {l : WLog} (h : l.ok) {k : Nat} (hk : k ≤ l.dev.tail.length) : l.crash k = (⟨l.dev.syn ++ l.dev.tail.take k, [], l.dev.cap, true⟩, 0) := by
  have hup := upE_of h.1 h.2.1
  have : l.crash k = l.dev.crash k := if_pos h
  rw [this]
  simp [Dev.crash, orE, hup, hk]
theorem crash_bad {l : WLog} (h : l.ok) {k : Int} (hk : ¬ (0 ≤ k ∧ k ≤ l.dev.tail.length)) : l.crash k = (zeroD, 2) := by
  have hup := upE_of h.1 h.2.1
  have : l.crash k = l.dev.crash k := if_pos h
  rw [this]
  simp only [Dev.crash, orE, hup, if_true, if_neg hk]
theorem crash_scan {l : WLog} (h : l.ok) {k : Nat} (hk : k ≤ l.dev.tail.length) : scanL ((l.crash k).1.all) = l.recs.take (keepC l k) := by
  rw [crash_eq h hk]
  have hall := all_eq h
  have e : (⟨l.dev.syn ++ l.dev.tail.take k, [], l.dev.cap, true⟩ : Dev).all = (catR l.recs).take (l.dev.syn.length + k) := by
    rw [← hall]
    simp only [Dev.all, List.append_nil]
    rw [List.take_length_add_append]
  rw [e]
  have hle : l.dev.syn.length + k ≤ (catR l.recs).length := by rw [← hall, Dev.all, List.length_append]; omega
  exact scan_pre (ok_follows l) hle
theorem crash_ck {l : WLog} (h : l.ok) {k : Nat} (hk : k ≤ l.dev.tail.length) : (l.crash k).1.check = 0 := by
  have e : l.crash k = l.dev.crash k := if_pos h
  have h2 : (l.dev.crash k).2 = 0 := by rw [← e, crash_eq h hk]
  rw [e]
  exact crash_check h2
theorem open_crash {l : WLog} (h : l.ok) (h1 : l.first ≤ 1000000000) {k : Nat} (hk : k ≤ l.dev.tail.length) : openW (l.crash k).1 l.first = (logOf l.dev.cap l.first (l.recs.take (keepC l k)), 0) := by
  have := open_of (crash_ck h hk) (ok_bounds h).1 h1 (crash_scan h hk) (row_take (row_ok h) _)
  rw [crash_eq h hk] at this ⊢
  exact this
theorem keep_syn {l : WLog} (h : l.ok) (k : Nat) : (scanL l.dev.syn).length ≤ keepC l k := by
  rw [syn_len h]
  exact cntR_mono _ (by omega)
theorem keep_le (l : WLog) (k : Nat) : keepC l k ≤ l.recs.length := cntR_le _ _
theorem cap_ok {l : WLog} (h : l.ok) : 0 ≤ l.dev.cap ∧ l.dev.cap ≤ 20000 ∧ ((catR l.recs).length : Int) ≤ l.dev.cap := by
  obtain ⟨k1, k2, k3⟩ := l.dev.ok_of h.1
  have hall := all_eq h
  refine ⟨k1, k2, ?_⟩
  rw [← hall, Dev.all, List.length_append]
  omega
theorem log_take {l : WLog} (h : l.ok) (c : Nat) : (logOf l.dev.cap l.first (l.recs.take c)).ok ∧ (logOf l.dev.cap l.first (l.recs.take c)).recs = l.recs.take c := by
  obtain ⟨k1, k2, k3⟩ := cap_ok h
  have := catR_mono l.recs (Nat.le_max_left c l.recs.length)
  have h2 := catR_le l.recs c
  exact log_ok (row_take (row_ok h) c) k1 k2 (by omega) (ok_bounds h).1 (ok_bounds h).2.1
theorem log_synced {cap n : Int} {rs : List Rec} (h : Row n rs) (hok : (logOf cap n rs).ok) : syncR (logOf cap n rs) = (n + rs.length, 0) := by
  have : scanL (logOf cap n rs).dev.syn = rs := scan_whole h.follows
  unfold syncR
  rw [if_pos hok, this]
  rfl
theorem log_records {l : WLog} (hok : l.ok) : recR l l.first = (l.recs, 0) := by
  have hnx := hok.2.2.2.1
  have e1 : l.first ≤ l.first ∧ l.first ≤ l.next := by omega
  have e2 : (l.first - l.first).toNat = 0 := by omega
  simp only [recR, if_pos hok, if_pos e1, e2, List.drop_zero]
theorem log_fine {l : WLog} (hok : l.ok) : l.fine := by
  obtain ⟨k1, k2, k3⟩ := l.dev.ok_of hok.1
  obtain ⟨b0, b1, b2⟩ := ok_bounds hok
  have hnx := hok.2.2.2.1
  exact ⟨⟨by omega, by omega⟩, by omega, by omega, by omega, by omega⟩
end Go.Proofs.Ytdpnjhooehadmaa.Pm
