/- code of slots: bodies, in the form in which they are walked. Printed by a program. No law of Go's is stated here. -/
import Derived.Test.YtdpnjhooehadmaaPmMd
import Derived.Test.YtdpnjhooehadmaaPmMc
set_option linter.all false
set_option maxRecDepth 100000
namespace Go.Proofs.Ytdpnjhooehadmaa.Pm
open Go Go.RowKit


def r_law05_SlotsSurvive_0 : List I := [⟨some 25, .unOp .not 4 (.tmp 24), none⟩, ⟨some 26, .move (.tmp 25), none⟩, ⟨some 27, .move (.tmp 1), some (26, false)⟩, ⟨some 28, .call { callee := .builtin .len, args := #[(.tmp 27)], argTypes := #[22] }, some (26, false)⟩, ⟨some 29, .binOp .gtr 3 (.tmp 28) (.const (.int .i64 1000)) 3, some (26, false)⟩, ⟨some 30, .pick (.tmp 26) (.const (.bool true)) (.tmp 29), none⟩]
@[go_sem ↓] def ur_law05_SlotsSurvive_0 := @unI _ _ r_law05_SlotsSurvive_0.eq_1
def r_law05_SlotsSurvive_1 : List I := [⟨some 8, .assign (.tmp 31), none⟩]
@[go_sem ↓] def ur_law05_SlotsSurvive_1 := @unI _ _ r_law05_SlotsSurvive_1.eq_1
def c_law05_SlotsSurvive_2 : C := (.seq (.seq (.reg (⟨some 31, .call { callee := .value (.func 56), args := #[], argTypes := #[] }, none⟩ :: r_law05_SlotsSurvive_1)) (.keep [8])) .ret)
@[go_sem ↓] def uc_law05_SlotsSurvive_2 := @unC _ _ c_law05_SlotsSurvive_2.eq_1
def c_law05_SlotsSurvive_3 : C := (.cond (.tmp 30) c_law05_SlotsSurvive_2 .skip)
@[go_sem ↓] def uc_law05_SlotsSurvive_3 := @unC _ _ c_law05_SlotsSurvive_3.eq_1
def r_law05_SlotsSurvive_4 : List I := [⟨some 32, .move (.tmp 34), none⟩, ⟨some 35, .extract (.tmp 32) 0, none⟩, ⟨some 36, .extract (.tmp 32) 1, none⟩, ⟨some 9, .alloc 43, none⟩, ⟨none, .store 43 (.tmp 9) (.tmp 35), none⟩, ⟨some 10, .assign (.tmp 36), none⟩]
@[go_sem ↓] def ur_law05_SlotsSurvive_4 := @unI _ _ r_law05_SlotsSurvive_4.eq_1
def r_law05_SlotsSurvive_5 : List I := [⟨some 37, .move (.tmp 39), none⟩, ⟨some 40, .extract (.tmp 37) 0, none⟩, ⟨some 41, .extract (.tmp 37) 1, none⟩, ⟨some 42, .extract (.tmp 37) 2, none⟩, ⟨some 11, .assign (.tmp 40), none⟩, ⟨some 12, .assign (.tmp 41), none⟩, ⟨some 13, .assign (.tmp 42), none⟩]
@[go_sem ↓] def ur_law05_SlotsSurvive_5 := @unI _ _ r_law05_SlotsSurvive_5.eq_1
def c_law05_SlotsSurvive_6 : C := (.seq (.seq (.reg ([⟨some 8, .assign (.const (.bool false)), none⟩])) (.keep [8])) .ret)
@[go_sem ↓] def uc_law05_SlotsSurvive_6 := @unC _ _ c_law05_SlotsSurvive_6.eq_1
def c_law05_SlotsSurvive_7 : C := (.cond (.tmp 72) c_law05_SlotsSurvive_6 .skip)
@[go_sem ↓] def uc_law05_SlotsSurvive_7 := @unC _ _ c_law05_SlotsSurvive_7.eq_1
def r_law05_SlotsSurvive_8 : List I := [⟨some 73, .move (.tmp 78), none⟩, ⟨some 79, .extract (.tmp 73) 0, none⟩, ⟨some 80, .extract (.tmp 73) 1, none⟩, ⟨some 14, .alloc 43, none⟩, ⟨none, .store 43 (.tmp 14) (.tmp 79), none⟩, ⟨some 15, .assign (.tmp 80), none⟩]
@[go_sem ↓] def ur_law05_SlotsSurvive_8 := @unI _ _ r_law05_SlotsSurvive_8.eq_1
def r_law05_SlotsSurvive_9 : List I := [⟨some 91, .pick (.tmp 89) (.tmp 90) (.const (.bool false)), none⟩, ⟨some 8, .assign (.tmp 91), none⟩]
@[go_sem ↓] def ur_law05_SlotsSurvive_9 := @unI _ _ r_law05_SlotsSurvive_9.eq_1
def c_law05_SlotsSurvive_10 : C := (.seq (.seq (.reg (⟨some 83, .move (.tmp 15), none⟩ :: ⟨some 84, .binOp .eql 29 (.tmp 83) (.const (.int .i64 2)) 29, none⟩ :: ⟨some 85, .move (.tmp 84), none⟩ :: ⟨some 86, .move (.tmp 15), some (85, false)⟩ :: ⟨some 87, .binOp .eql 29 (.tmp 86) (.const (.int .i64 18)) 29, some (85, false)⟩ :: ⟨some 88, .pick (.tmp 85) (.const (.bool true)) (.tmp 87), none⟩ :: ⟨some 89, .move (.tmp 88), none⟩ :: ⟨some 90, .call { callee := .value (.func 56), args := #[], argTypes := #[] }, some (89, true)⟩ :: r_law05_SlotsSurvive_9)) (.keep [8])) .ret)
@[go_sem ↓] def uc_law05_SlotsSurvive_10 := @unC _ _ c_law05_SlotsSurvive_10.eq_1
def c_law05_SlotsSurvive_11 : C := (.cond (.tmp 82) c_law05_SlotsSurvive_10 .skip)
@[go_sem ↓] def uc_law05_SlotsSurvive_11 := @unC _ _ c_law05_SlotsSurvive_11.eq_1
def r_law05_SlotsSurvive_12 : List I := [⟨some 92, .move (.tmp 94), none⟩, ⟨some 95, .extract (.tmp 92) 0, none⟩, ⟨some 96, .extract (.tmp 92) 1, none⟩, ⟨some 16, .alloc 43, none⟩, ⟨none, .store 43 (.tmp 16) (.tmp 95), none⟩, ⟨some 17, .assign (.tmp 96), none⟩]
@[go_sem ↓] def ur_law05_SlotsSurvive_12 := @unI _ _ r_law05_SlotsSurvive_12.eq_1
def r_law05_SlotsSurvive_13 : List I := [⟨some 97, .move (.tmp 99), none⟩, ⟨some 100, .extract (.tmp 97) 0, none⟩, ⟨some 101, .extract (.tmp 97) 1, none⟩, ⟨some 102, .extract (.tmp 97) 2, none⟩, ⟨some 18, .assign (.tmp 100), none⟩, ⟨some 19, .assign (.tmp 101), none⟩, ⟨some 20, .assign (.tmp 102), none⟩]
@[go_sem ↓] def ur_law05_SlotsSurvive_13 := @unI _ _ r_law05_SlotsSurvive_13.eq_1
def c_law05_SlotsSurvive_14 : C := (.seq (.seq (.reg ([⟨some 8, .assign (.const (.bool false)), none⟩])) (.keep [8])) .ret)
@[go_sem ↓] def uc_law05_SlotsSurvive_14 := @unC _ _ c_law05_SlotsSurvive_14.eq_1
def c_law05_SlotsSurvive_15 : C := (.cond (.tmp 104) c_law05_SlotsSurvive_14 .skip)
@[go_sem ↓] def uc_law05_SlotsSurvive_15 := @unC _ _ c_law05_SlotsSurvive_15.eq_1
def r_law05_SlotsSurvive_16 : List I := [⟨some 117, .pick (.tmp 113) (.tmp 116) (.const (.bool false)), none⟩, ⟨some 21, .assign (.tmp 117), none⟩]
@[go_sem ↓] def ur_law05_SlotsSurvive_16 := @unI _ _ r_law05_SlotsSurvive_16.eq_1
def r_law05_SlotsSurvive_17 : List I := [⟨some 130, .pick (.tmp 126) (.tmp 129) (.const (.bool false)), none⟩, ⟨some 22, .assign (.tmp 130), none⟩]
@[go_sem ↓] def ur_law05_SlotsSurvive_17 := @unI _ _ r_law05_SlotsSurvive_17.eq_1
def r_law05_SlotsSurvive_18 : List I := [⟨some 151, .pick (.tmp 149) (.tmp 150) (.const (.bool false)), none⟩, ⟨some 8, .assign (.tmp 151), none⟩]
@[go_sem ↓] def ur_law05_SlotsSurvive_18 := @unI _ _ r_law05_SlotsSurvive_18.eq_1
def c_law05_SlotsSurvive_19 : C := (.seq (.seq (.reg (⟨some 131, .move (.tmp 21), none⟩ :: ⟨some 132, .move (.tmp 131), none⟩ :: ⟨some 133, .move (.tmp 22), some (132, false)⟩ :: ⟨some 134, .pick (.tmp 132) (.const (.bool true)) (.tmp 133), none⟩ :: ⟨some 135, .move (.tmp 134), none⟩ :: ⟨some 136, .move (.tmp 2), some (135, true)⟩ :: ⟨some 137, .binOp .lss 3 (.tmp 136) (.const (.int .i64 3)) 3, some (135, true)⟩ :: ⟨some 138, .move (.tmp 137), some (135, true)⟩ :: ⟨some 139, .move (.tmp 21), some (138, false)⟩ :: ⟨some 140, .pick (.tmp 138) (.const (.bool true)) (.tmp 139), some (135, true)⟩ :: ⟨some 141, .pick (.tmp 135) (.tmp 140) (.const (.bool false)), none⟩ :: ⟨some 142, .move (.tmp 141), none⟩ :: ⟨some 143, .move (.tmp 2), some (142, true)⟩ :: ⟨some 144, .binOp .gtr 3 (.tmp 143) (.const (.int .i64 1)) 3, some (142, true)⟩ :: ⟨some 145, .move (.tmp 144), some (142, true)⟩ :: ⟨some 146, .move (.tmp 22), some (145, false)⟩ :: ⟨some 147, .pick (.tmp 145) (.const (.bool true)) (.tmp 146), some (142, true)⟩ :: ⟨some 148, .pick (.tmp 142) (.tmp 147) (.const (.bool false)), none⟩ :: ⟨some 149, .move (.tmp 148), none⟩ :: ⟨some 150, .call { callee := .value (.func 56), args := #[], argTypes := #[] }, some (149, true)⟩ :: r_law05_SlotsSurvive_18)) (.keep [8])) .ret)
@[go_sem ↓] def uc_law05_SlotsSurvive_19 := @unC _ _ c_law05_SlotsSurvive_19.eq_1
def c_law05_SlotsSurvive_20 : C := (.seq (.seq (.reg (⟨some 118, .move (.tmp 20), none⟩ :: ⟨some 119, .move (.tmp 13), none⟩ :: ⟨some 120, .binOp .eql 29 (.tmp 118) (.tmp 119) 29, none⟩ :: ⟨some 121, .move (.tmp 120), none⟩ :: ⟨some 122, .move (.tmp 18), some (121, true)⟩ :: ⟨some 123, .move (.tmp 11), some (121, true)⟩ :: ⟨some 124, .binOp .eql 3 (.tmp 122) (.tmp 123) 3, some (121, true)⟩ :: ⟨some 125, .pick (.tmp 121) (.tmp 124) (.const (.bool false)), none⟩ :: ⟨some 126, .move (.tmp 125), none⟩ :: ⟨some 127, .move (.tmp 19), some (126, true)⟩ :: ⟨some 128, .move (.tmp 12), some (126, true)⟩ :: ⟨some 129, .call { callee := .value (.func 29), args := #[(.tmp 127), (.tmp 128)], argTypes := #[22, 22] }, some (126, true)⟩ :: r_law05_SlotsSurvive_17)) (.keep [2, 21, 22])) c_law05_SlotsSurvive_19)
@[go_sem ↓] def uc_law05_SlotsSurvive_20 := @unC _ _ c_law05_SlotsSurvive_20.eq_1
def c_law05_SlotsSurvive_21 : C := (.seq (.seq (.reg (⟨some 105, .move (.tmp 20), none⟩ :: ⟨some 106, .binOp .eql 29 (.tmp 105) (.const (.int .i64 0)) 29, none⟩ :: ⟨some 107, .move (.tmp 106), none⟩ :: ⟨some 108, .move (.tmp 18), some (107, true)⟩ :: ⟨some 109, .fieldAddr 43 (.tmp 9) 1, some (107, true)⟩ :: ⟨some 110, .load 3 (.tmp 109), some (107, true)⟩ :: ⟨some 111, .binOp .eql 3 (.tmp 108) (.tmp 110) 3, some (107, true)⟩ :: ⟨some 112, .pick (.tmp 107) (.tmp 111) (.const (.bool false)), none⟩ :: ⟨some 113, .move (.tmp 112), none⟩ :: ⟨some 114, .move (.tmp 19), some (113, true)⟩ :: ⟨some 115, .move (.tmp 1), some (113, true)⟩ :: ⟨some 116, .call { callee := .value (.func 29), args := #[(.tmp 114), (.tmp 115)], argTypes := #[22, 22] }, some (113, true)⟩ :: r_law05_SlotsSurvive_16)) (.keep [2, 11, 12, 13, 18, 19, 20, 21])) c_law05_SlotsSurvive_20)
@[go_sem ↓] def uc_law05_SlotsSurvive_21 := @unC _ _ c_law05_SlotsSurvive_21.eq_1
def c_law05_SlotsSurvive_22 : C := (.seq (.seq (.seq (.reg ([⟨some 103, .move (.tmp 17), none⟩, ⟨some 104, .binOp .neq 29 (.tmp 103) (.const (.int .i64 0)) 29, none⟩])) (.keep [1, 2, 9, 11, 12, 13, 18, 19, 20, 104])) c_law05_SlotsSurvive_15) c_law05_SlotsSurvive_21)
@[go_sem ↓] def uc_law05_SlotsSurvive_22 := @unC _ _ c_law05_SlotsSurvive_22.eq_1
def c_law05_SlotsSurvive_23 : C := (.seq (.seq (.reg (⟨some 98, .load 43 (.tmp 16), none⟩ :: ⟨some 99, .call { callee := .value (.func 25), args := #[(.tmp 98)], argTypes := #[43] }, none⟩ :: r_law05_SlotsSurvive_13)) (.keep [1, 2, 9, 11, 12, 13, 17, 18, 19, 20])) c_law05_SlotsSurvive_22)
@[go_sem ↓] def uc_law05_SlotsSurvive_23 := @unC _ _ c_law05_SlotsSurvive_23.eq_1
def c_law05_SlotsSurvive_24 : C := (.seq (.seq (.reg (⟨some 93, .load 43 (.tmp 14), none⟩ :: ⟨some 94, .call { callee := .value (.func 27), args := #[(.tmp 93)], argTypes := #[43] }, none⟩ :: r_law05_SlotsSurvive_12)) (.keep [1, 2, 9, 11, 12, 13, 16, 17])) c_law05_SlotsSurvive_23)
@[go_sem ↓] def uc_law05_SlotsSurvive_24 := @unC _ _ c_law05_SlotsSurvive_24.eq_1
def c_law05_SlotsSurvive_25 : C := (.seq (.seq (.seq (.reg ([⟨some 81, .move (.tmp 15), none⟩, ⟨some 82, .binOp .neq 29 (.tmp 81) (.const (.int .i64 0)) 29, none⟩])) (.keep [1, 2, 9, 11, 12, 13, 14, 15, 82])) c_law05_SlotsSurvive_11) c_law05_SlotsSurvive_24)
@[go_sem ↓] def uc_law05_SlotsSurvive_25 := @unC _ _ c_law05_SlotsSurvive_25.eq_1
def c_law05_SlotsSurvive_26 : C := (.seq (.seq (.reg (⟨some 74, .load 43 (.tmp 9), none⟩ :: ⟨some 75, .move (.tmp 1), none⟩ :: ⟨some 76, .move (.tmp 2), none⟩ :: ⟨some 77, .move (.tmp 3), none⟩ :: ⟨some 78, .call { callee := .value (.func 44), args := #[(.tmp 74), (.tmp 75), (.tmp 76), (.tmp 77)], argTypes := #[43, 22, 3, 3] }, none⟩ :: r_law05_SlotsSurvive_8)) (.keep [1, 2, 9, 11, 12, 13, 14, 15])) c_law05_SlotsSurvive_25)
@[go_sem ↓] def uc_law05_SlotsSurvive_26 := @unC _ _ c_law05_SlotsSurvive_26.eq_1
def c_law05_SlotsSurvive_27 : C := (.seq (.seq (.seq (.reg ([⟨some 43, .move (.tmp 10), none⟩, ⟨some 44, .binOp .neq 29 (.tmp 43) (.const (.int .i64 0)) 29, none⟩, ⟨some 45, .move (.tmp 44), none⟩, ⟨some 46, .move (.tmp 13), some (45, false)⟩, ⟨some 47, .binOp .neq 29 (.tmp 46) (.const (.int .i64 0)) 29, some (45, false)⟩, ⟨some 48, .move (.tmp 47), some (45, false)⟩, ⟨some 49, .move (.tmp 13), some (48, true)⟩, ⟨some 50, .binOp .neq 29 (.tmp 49) (.const (.int .i64 6)) 29, some (48, true)⟩, ⟨some 51, .pick (.tmp 48) (.tmp 50) (.const (.bool false)), some (45, false)⟩, ⟨some 52, .pick (.tmp 45) (.const (.bool true)) (.tmp 51), none⟩, ⟨some 53, .move (.tmp 52), none⟩, ⟨some 54, .fieldAddr 43 (.tmp 9) 1, some (53, false)⟩, ⟨some 55, .load 3 (.tmp 54), some (53, false)⟩, ⟨some 56, .move (.tmp 11), some (53, false)⟩, ⟨some 57, .binOp .add 3 (.tmp 56) (.const (.int .i64 1)) 3, some (53, false)⟩, ⟨some 58, .binOp .neq 3 (.tmp 55) (.tmp 57) 3, some (53, false)⟩, ⟨some 59, .move (.tmp 58), some (53, false)⟩, ⟨some 60, .move (.tmp 13), some (59, true)⟩, ⟨some 61, .binOp .eql 29 (.tmp 60) (.const (.int .i64 0)) 29, some (59, true)⟩, ⟨some 62, .pick (.tmp 59) (.tmp 61) (.const (.bool false)), some (53, false)⟩, ⟨some 63, .pick (.tmp 53) (.const (.bool true)) (.tmp 62), none⟩, ⟨some 64, .move (.tmp 63), none⟩, ⟨some 65, .move (.tmp 13), some (64, false)⟩, ⟨some 66, .binOp .eql 29 (.tmp 65) (.const (.int .i64 6)) 29, some (64, false)⟩, ⟨some 67, .move (.tmp 66), some (64, false)⟩, ⟨some 68, .fieldAddr 43 (.tmp 9) 1, some (67, true)⟩, ⟨some 69, .load 3 (.tmp 68), some (67, true)⟩, ⟨some 70, .binOp .neq 3 (.tmp 69) (.const (.int .i64 1)) 3, some (67, true)⟩, ⟨some 71, .pick (.tmp 67) (.tmp 70) (.const (.bool false)), some (64, false)⟩, ⟨some 72, .pick (.tmp 64) (.const (.bool true)) (.tmp 71), none⟩])) (.keep [1, 2, 3, 9, 11, 12, 13, 72])) c_law05_SlotsSurvive_7) c_law05_SlotsSurvive_26)
@[go_sem ↓] def uc_law05_SlotsSurvive_27 := @unC _ _ c_law05_SlotsSurvive_27.eq_1
def c_law05_SlotsSurvive_28 : C := (.seq (.seq (.reg (⟨some 38, .load 43 (.tmp 9), none⟩ :: ⟨some 39, .call { callee := .value (.func 25), args := #[(.tmp 38)], argTypes := #[43] }, none⟩ :: r_law05_SlotsSurvive_5)) (.keep [1, 2, 3, 9, 10, 11, 12, 13])) c_law05_SlotsSurvive_27)
@[go_sem ↓] def uc_law05_SlotsSurvive_28 := @unC _ _ c_law05_SlotsSurvive_28.eq_1
def c_law05_SlotsSurvive_29 : C := (.seq (.seq (.reg (⟨some 33, .load 43 (.tmp 4), none⟩ :: ⟨some 34, .call { callee := .value (.func 27), args := #[(.tmp 33)], argTypes := #[43] }, none⟩ :: r_law05_SlotsSurvive_4)) (.keep [1, 2, 3, 9, 10])) c_law05_SlotsSurvive_28)
@[go_sem ↓] def uc_law05_SlotsSurvive_29 := @unC _ _ c_law05_SlotsSurvive_29.eq_1
def c_law05_SlotsSurvive_30 : C := (.seq (.seq (.seq (.reg (⟨some 23, .load 43 (.tmp 4), none⟩ :: ⟨some 24, .call { callee := .value (.func 57), args := #[(.tmp 23)], argTypes := #[43] }, none⟩ :: r_law05_SlotsSurvive_0)) (.keep [1, 2, 3, 4, 30])) c_law05_SlotsSurvive_3) c_law05_SlotsSurvive_29)
@[go_sem ↓] def uc_law05_SlotsSurvive_30 := @unC _ _ c_law05_SlotsSurvive_30.eq_1
def c_law05_SlotsSurvive : C := (.seq (.seq (.reg ([⟨some 4, .box 43 (.tmp 0), none⟩, ⟨some 8, .assign (.const (.bool false)), none⟩])) (.keep [1, 2, 3, 4])) c_law05_SlotsSurvive_30)
attribute [go_sem ↓] c_law05_SlotsSurvive
end Go.Proofs.Ytdpnjhooehadmaa.Pm
