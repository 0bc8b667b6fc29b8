/- code of slots: bodies, in the form in which they are walked. Printed by a program. No law of Go's is stated here. -/
import Derived.Test.YtdpnjhooehadmaaPmMd
import Derived.Test.YtdpnjhooehadmaaPmMc
set_option linter.all false
set_option maxRecDepth 100000
namespace Go.Proofs.Ytdpnjhooehadmaa.Pm
open Go Go.RowKit


def r_law05_SlotsSaves_0 : List I := [⟨some 26, .move (.tmp 25), none⟩, ⟨some 27, .move (.tmp 1), some (26, false)⟩, ⟨some 28, .call { callee := .builtin .len, args := #[(.tmp 27)], argTypes := #[22] }, some (26, false)⟩, ⟨some 29, .binOp .gtr 3 (.tmp 28) (.const (.int .i64 1100)) 3, some (26, false)⟩, ⟨some 30, .pick (.tmp 26) (.const (.bool true)) (.tmp 29), none⟩]
@[go_sem ↓] def ur_law05_SlotsSaves_0 := @unI _ _ r_law05_SlotsSaves_0.eq_1
def c_law05_SlotsSaves_1 : C := (.seq (.seq (.reg ([⟨some 8, .assign (.const (.bool true)), none⟩])) (.keep [8])) .ret)
@[go_sem ↓] def uc_law05_SlotsSaves_1 := @unC _ _ c_law05_SlotsSaves_1.eq_1
def c_law05_SlotsSaves_2 : C := (.cond (.tmp 30) c_law05_SlotsSaves_1 .skip)
@[go_sem ↓] def uc_law05_SlotsSaves_2 := @unC _ _ c_law05_SlotsSaves_2.eq_1
def r_law05_SlotsSaves_3 : List I := [⟨some 9, .alloc 43, none⟩, ⟨none, .store 43 (.tmp 9) (.tmp 32), none⟩]
@[go_sem ↓] def ur_law05_SlotsSaves_3 := @unI _ _ r_law05_SlotsSaves_3.eq_1
def r_law05_SlotsSaves_4 : List I := [⟨some 33, .move (.tmp 35), none⟩, ⟨some 36, .extract (.tmp 33) 0, none⟩, ⟨some 37, .extract (.tmp 33) 1, none⟩, ⟨some 10, .alloc 43, none⟩, ⟨none, .store 43 (.tmp 10) (.tmp 36), none⟩, ⟨some 11, .assign (.tmp 37), none⟩]
@[go_sem ↓] def ur_law05_SlotsSaves_4 := @unI _ _ r_law05_SlotsSaves_4.eq_1
def r_law05_SlotsSaves_5 : List I := [⟨some 38, .move (.tmp 40), none⟩, ⟨some 41, .extract (.tmp 38) 0, none⟩, ⟨some 42, .extract (.tmp 38) 1, none⟩, ⟨some 12, .alloc 43, none⟩, ⟨none, .store 43 (.tmp 12) (.tmp 41), none⟩, ⟨some 13, .assign (.tmp 42), none⟩]
@[go_sem ↓] def ur_law05_SlotsSaves_5 := @unI _ _ r_law05_SlotsSaves_5.eq_1
def r_law05_SlotsSaves_6 : List I := [⟨some 43, .move (.tmp 46), none⟩, ⟨some 47, .extract (.tmp 43) 0, none⟩, ⟨some 48, .extract (.tmp 43) 1, none⟩, ⟨some 49, .extract (.tmp 43) 2, none⟩, ⟨some 14, .alloc 43, none⟩, ⟨none, .store 43 (.tmp 14) (.tmp 47), none⟩, ⟨some 15, .assign (.tmp 48), none⟩, ⟨some 16, .assign (.tmp 49), none⟩]
@[go_sem ↓] def ur_law05_SlotsSaves_6 := @unI _ _ r_law05_SlotsSaves_6.eq_1
def r_law05_SlotsSaves_7 : List I := [⟨some 50, .move (.tmp 53), none⟩, ⟨some 54, .extract (.tmp 50) 0, none⟩, ⟨some 55, .extract (.tmp 50) 1, none⟩, ⟨some 56, .extract (.tmp 50) 2, none⟩, ⟨some 17, .alloc 43, none⟩, ⟨none, .store 43 (.tmp 17) (.tmp 54), none⟩, ⟨some 18, .assign (.tmp 55), none⟩, ⟨some 19, .assign (.tmp 56), none⟩]
@[go_sem ↓] def ur_law05_SlotsSaves_7 := @unI _ _ r_law05_SlotsSaves_7.eq_1
def r_law05_SlotsSaves_8 : List I := [⟨some 57, .move (.tmp 62), none⟩, ⟨some 63, .extract (.tmp 57) 0, none⟩, ⟨some 64, .extract (.tmp 57) 1, none⟩, ⟨some 20, .alloc 43, none⟩, ⟨none, .store 43 (.tmp 20) (.tmp 63), none⟩, ⟨some 21, .assign (.tmp 64), none⟩]
@[go_sem ↓] def ur_law05_SlotsSaves_8 := @unI _ _ r_law05_SlotsSaves_8.eq_1
def r_law05_SlotsSaves_9 : List I := [⟨some 65, .move (.tmp 70), none⟩, ⟨some 71, .extract (.tmp 65) 0, none⟩, ⟨some 72, .extract (.tmp 65) 1, none⟩, ⟨some 22, .alloc 43, none⟩, ⟨none, .store 43 (.tmp 22) (.tmp 71), none⟩, ⟨some 23, .assign (.tmp 72), none⟩]
@[go_sem ↓] def ur_law05_SlotsSaves_9 := @unI _ _ r_law05_SlotsSaves_9.eq_1
def d_law05_SlotsSaves_10 : List D := [⟨⟨some 117, .pick (.tmp 113) (.tmp 116) (.const (.bool false)), none⟩, []⟩, ⟨⟨some 8, .assign (.tmp 117), none⟩, []⟩]
@[go_sem ↓] def ud_law05_SlotsSaves_10 := @unD _ _ d_law05_SlotsSaves_10.eq_1
def d_law05_SlotsSaves_11 : List D := ⟨⟨some 107, .pick (.tmp 103) (.tmp 106) (.const (.bool false)), none⟩, []⟩ :: ⟨⟨some 108, .move (.tmp 107), none⟩, []⟩ :: ⟨⟨some 109, .move (.tmp 21), some (108, true)⟩, []⟩ :: ⟨⟨some 110, .move (.tmp 23), some (108, true)⟩, [36]⟩ :: ⟨⟨some 111, .binOp .eql 3 (.tmp 109) (.tmp 110) 3, some (108, true)⟩, []⟩ :: ⟨⟨some 112, .pick (.tmp 108) (.tmp 111) (.const (.bool false)), none⟩, []⟩ :: ⟨⟨some 113, .move (.tmp 112), none⟩, []⟩ :: ⟨⟨some 114, .load 43 (.tmp 9), some (113, true)⟩, []⟩ :: ⟨⟨some 115, .load 43 (.tmp 4), some (113, true)⟩, [41]⟩ :: ⟨⟨some 116, .call { callee := .value (.func 30), args := #[(.tmp 114), (.tmp 115)], argTypes := #[43, 43] }, some (113, true)⟩, []⟩ :: d_law05_SlotsSaves_10
@[go_sem ↓] def ud_law05_SlotsSaves_11 := @unD _ _ d_law05_SlotsSaves_11.eq_1
def d_law05_SlotsSaves_12 : List D := ⟨⟨some 92, .pick (.tmp 88) (.tmp 91) (.const (.bool false)), none⟩, []⟩ :: ⟨⟨some 93, .move (.tmp 92), none⟩, []⟩ :: ⟨⟨some 94, .move (.tmp 15), some (93, true)⟩, []⟩ :: ⟨⟨some 95, .move (.tmp 18), some (93, true)⟩, [21]⟩ :: ⟨⟨some 96, .binOp .eql 3 (.tmp 94) (.tmp 95) 3, some (93, true)⟩, []⟩ :: ⟨⟨some 97, .pick (.tmp 93) (.tmp 96) (.const (.bool false)), none⟩, []⟩ :: ⟨⟨some 98, .move (.tmp 97), none⟩, []⟩ :: ⟨⟨some 99, .move (.tmp 16), some (98, true)⟩, []⟩ :: ⟨⟨some 100, .move (.tmp 19), some (98, true)⟩, [26]⟩ :: ⟨⟨some 101, .binOp .eql 3 (.tmp 99) (.tmp 100) 3, some (98, true)⟩, []⟩ :: ⟨⟨some 102, .pick (.tmp 98) (.tmp 101) (.const (.bool false)), none⟩, []⟩ :: ⟨⟨some 103, .move (.tmp 102), none⟩, []⟩ :: ⟨⟨some 104, .load 43 (.tmp 20), some (103, true)⟩, []⟩ :: ⟨⟨some 105, .load 43 (.tmp 22), some (103, true)⟩, [31]⟩ :: ⟨⟨some 106, .call { callee := .value (.func 30), args := #[(.tmp 104), (.tmp 105)], argTypes := #[43, 43] }, some (103, true)⟩, []⟩ :: d_law05_SlotsSaves_11
@[go_sem ↓] def ud_law05_SlotsSaves_12 := @unD _ _ d_law05_SlotsSaves_12.eq_1
def d_law05_SlotsSaves_13 : List D := ⟨⟨some 82, .pick (.tmp 78) (.tmp 81) (.const (.bool false)), none⟩, []⟩ :: ⟨⟨some 83, .move (.tmp 82), none⟩, []⟩ :: ⟨⟨some 84, .move (.tmp 11), some (83, true)⟩, []⟩ :: ⟨⟨some 85, .move (.tmp 13), some (83, true)⟩, [11]⟩ :: ⟨⟨some 86, .binOp .eql 3 (.tmp 84) (.tmp 85) 3, some (83, true)⟩, []⟩ :: ⟨⟨some 87, .pick (.tmp 83) (.tmp 86) (.const (.bool false)), none⟩, []⟩ :: ⟨⟨some 88, .move (.tmp 87), none⟩, []⟩ :: ⟨⟨some 89, .load 43 (.tmp 14), some (88, true)⟩, []⟩ :: ⟨⟨some 90, .load 43 (.tmp 17), some (88, true)⟩, [16]⟩ :: ⟨⟨some 91, .call { callee := .value (.func 30), args := #[(.tmp 89), (.tmp 90)], argTypes := #[43, 43] }, some (88, true)⟩, []⟩ :: d_law05_SlotsSaves_12
@[go_sem ↓] def ud_law05_SlotsSaves_13 := @unD _ _ d_law05_SlotsSaves_13.eq_1
def d_law05_SlotsSaves_14 : List D := ⟨⟨some 77, .binOp .eql 3 (.tmp 74) (.tmp 76) 3, none⟩, []⟩ :: ⟨⟨some 78, .move (.tmp 77), none⟩, []⟩ :: ⟨⟨some 79, .load 43 (.tmp 10), some (78, true)⟩, []⟩ :: ⟨⟨some 80, .load 43 (.tmp 12), some (78, true)⟩, [6]⟩ :: ⟨⟨some 81, .call { callee := .value (.func 30), args := #[(.tmp 79), (.tmp 80)], argTypes := #[43, 43] }, some (78, true)⟩, []⟩ :: d_law05_SlotsSaves_13
@[go_sem ↓] def ud_law05_SlotsSaves_14 := @unD _ _ d_law05_SlotsSaves_14.eq_1
def d_law05_SlotsSaves_15 : List D := ⟨⟨some 75, .load 43 (.tmp 4), none⟩, [0, 1]⟩ :: ⟨⟨some 76, .call { callee := .value (.func 47), args := #[(.tmp 75)], argTypes := #[43] }, none⟩, []⟩ :: d_law05_SlotsSaves_14
@[go_sem ↓] def ud_law05_SlotsSaves_15 := @unD _ _ d_law05_SlotsSaves_15.eq_1
def c_law05_SlotsSaves_16 : C := (.seq (.seq (.draw (⟨⟨some 73, .load 43 (.tmp 9), none⟩, []⟩ :: ⟨⟨some 74, .call { callee := .value (.func 46), args := #[(.tmp 73)], argTypes := #[43] }, none⟩, []⟩ :: d_law05_SlotsSaves_15)) (.keep [8])) .ret)
@[go_sem ↓] def uc_law05_SlotsSaves_16 := @unC _ _ c_law05_SlotsSaves_16.eq_1
def c_law05_SlotsSaves_17 : C := (.seq (.seq (.reg (⟨some 66, .load 43 (.tmp 4), none⟩ :: ⟨some 67, .move (.tmp 1), none⟩ :: ⟨some 68, .move (.tmp 2), none⟩ :: ⟨some 69, .move (.tmp 3), none⟩ :: ⟨some 70, .call { callee := .value (.func 45), args := #[(.tmp 66), (.tmp 67), (.tmp 68), (.tmp 69)], argTypes := #[43, 22, 3, 3] }, none⟩ :: r_law05_SlotsSaves_9)) (.keep [4, 9, 10, 11, 12, 13, 14, 15, 16, 17, 18, 19, 20, 21, 22, 23])) c_law05_SlotsSaves_16)
@[go_sem ↓] def uc_law05_SlotsSaves_17 := @unC _ _ c_law05_SlotsSaves_17.eq_1
def c_law05_SlotsSaves_18 : C := (.seq (.seq (.reg (⟨some 58, .load 43 (.tmp 9), none⟩ :: ⟨some 59, .move (.tmp 1), none⟩ :: ⟨some 60, .move (.tmp 2), none⟩ :: ⟨some 61, .move (.tmp 3), none⟩ :: ⟨some 62, .call { callee := .value (.func 44), args := #[(.tmp 58), (.tmp 59), (.tmp 60), (.tmp 61)], argTypes := #[43, 22, 3, 3] }, none⟩ :: r_law05_SlotsSaves_8)) (.keep [1, 2, 3, 4, 9, 10, 11, 12, 13, 14, 15, 16, 17, 18, 19, 20, 21])) c_law05_SlotsSaves_17)
@[go_sem ↓] def uc_law05_SlotsSaves_18 := @unC _ _ c_law05_SlotsSaves_18.eq_1
def c_law05_SlotsSaves_19 : C := (.seq (.seq (.reg (⟨some 51, .load 43 (.tmp 4), none⟩ :: ⟨some 52, .move (.tmp 1), none⟩ :: ⟨some 53, .call { callee := .value (.func 43), args := #[(.tmp 51), (.tmp 52)], argTypes := #[43, 22] }, none⟩ :: r_law05_SlotsSaves_7)) (.keep [1, 2, 3, 4, 9, 10, 11, 12, 13, 14, 15, 16, 17, 18, 19])) c_law05_SlotsSaves_18)
@[go_sem ↓] def uc_law05_SlotsSaves_19 := @unC _ _ c_law05_SlotsSaves_19.eq_1
def c_law05_SlotsSaves_20 : C := (.seq (.seq (.reg (⟨some 44, .load 43 (.tmp 9), none⟩ :: ⟨some 45, .move (.tmp 1), none⟩ :: ⟨some 46, .call { callee := .value (.func 42), args := #[(.tmp 44), (.tmp 45)], argTypes := #[43, 22] }, none⟩ :: r_law05_SlotsSaves_6)) (.keep [1, 2, 3, 4, 9, 10, 11, 12, 13, 14, 15, 16])) c_law05_SlotsSaves_19)
@[go_sem ↓] def uc_law05_SlotsSaves_20 := @unC _ _ c_law05_SlotsSaves_20.eq_1
def c_law05_SlotsSaves_21 : C := (.seq (.seq (.reg (⟨some 39, .move (.tmp 3), none⟩ :: ⟨some 40, .call { callee := .value (.func 41), args := #[(.tmp 39)], argTypes := #[3] }, none⟩ :: r_law05_SlotsSaves_5)) (.keep [1, 2, 3, 4, 9, 10, 11, 12, 13])) c_law05_SlotsSaves_20)
@[go_sem ↓] def uc_law05_SlotsSaves_21 := @unC _ _ c_law05_SlotsSaves_21.eq_1
def c_law05_SlotsSaves_22 : C := (.seq (.seq (.reg (⟨some 34, .move (.tmp 3), none⟩ :: ⟨some 35, .call { callee := .value (.func 40), args := #[(.tmp 34)], argTypes := #[3] }, none⟩ :: r_law05_SlotsSaves_4)) (.keep [1, 2, 3, 4, 9, 10, 11])) c_law05_SlotsSaves_21)
@[go_sem ↓] def uc_law05_SlotsSaves_22 := @unC _ _ c_law05_SlotsSaves_22.eq_1
def c_law05_SlotsSaves_23 : C := (.seq (.seq (.reg (⟨some 31, .load 43 (.tmp 4), none⟩ :: ⟨some 32, .call { callee := .value (.func 24), args := #[(.tmp 31)], argTypes := #[43] }, none⟩ :: r_law05_SlotsSaves_3)) (.keep [1, 2, 3, 4, 9])) c_law05_SlotsSaves_22)
@[go_sem ↓] def uc_law05_SlotsSaves_23 := @unC _ _ c_law05_SlotsSaves_23.eq_1
def c_law05_SlotsSaves_24 : C := (.seq (.seq (.seq (.reg (⟨some 24, .load 43 (.tmp 4), none⟩ :: ⟨some 25, .call { callee := .value (.func 23), args := #[(.tmp 24)], argTypes := #[43] }, none⟩ :: r_law05_SlotsSaves_0)) (.keep [1, 2, 3, 4, 30])) c_law05_SlotsSaves_2) c_law05_SlotsSaves_23)
@[go_sem ↓] def uc_law05_SlotsSaves_24 := @unC _ _ c_law05_SlotsSaves_24.eq_1
def c_law05_SlotsSaves : C := (.seq (.seq (.reg ([⟨some 4, .box 43 (.tmp 0), none⟩, ⟨some 8, .assign (.const (.bool false)), none⟩])) (.keep [1, 2, 3, 4])) c_law05_SlotsSaves_24)
attribute [go_sem ↓] c_law05_SlotsSaves
def h_law05_SlotsSaves : List Hint := [⟨[], [1, 2, 3, 4], []⟩, ⟨[], [1, 2, 3, 4, 30], []⟩, ⟨[], [8], []⟩, ⟨[], [1, 2, 3, 4, 9], []⟩, ⟨[], [1, 2, 3, 4, 9, 10, 11], []⟩, ⟨[], [1, 2, 3, 4, 9, 10, 11, 12, 13], []⟩, ⟨[], [1, 2, 3, 4, 9, 10, 11, 12, 13, 14, 15, 16], []⟩, ⟨[], [1, 2, 3, 4, 9, 10, 11, 12, 13, 14, 15, 16, 17, 18, 19], []⟩, ⟨[], [1, 2, 3, 4, 9, 10, 11, 12, 13, 14, 15, 16, 17, 18, 19, 20, 21], []⟩, ⟨[], [4, 9, 10, 11, 12, 13, 14, 15, 16, 17, 18, 19, 20, 21, 22, 23], []⟩, ⟨[], [8], []⟩]
theorem b_law05_SlotsSaves : Body Try.prog 6 [] h_law05_SlotsSaves c_law05_SlotsSaves 118 [.tmp 8] := body_of Try.func6 (by kernel_rfl) (by kernel_rfl) (by kernel_rfl) (by kernel_rfl)

end Go.Proofs.Ytdpnjhooehadmaa.Pm
