/- code of slots: bodies, in the form in which they are walked. Printed by a program. No law of Go's is stated here. -/
import Derived.Test.YtdpnjhooehadmaaPmMd
import Derived.Test.YtdpnjhooehadmaaPmMc
set_option linter.all false
set_option maxRecDepth 100000
namespace Go.Proofs.Ytdpnjhooehadmaa.Pm
open Go Go.RowKit


def r_law05_SlotsKeeps_0 : List I := [⟨some 26, .unOp .not 4 (.tmp 25), none⟩, ⟨some 27, .move (.tmp 26), none⟩, ⟨some 28, .move (.tmp 1), some (27, false)⟩, ⟨some 29, .call { callee := .builtin .len, args := #[(.tmp 28)], argTypes := #[22] }, some (27, false)⟩, ⟨some 30, .binOp .gtr 3 (.tmp 29) (.const (.int .i64 1000)) 3, some (27, false)⟩, ⟨some 31, .pick (.tmp 27) (.const (.bool true)) (.tmp 30), none⟩, ⟨some 32, .move (.tmp 31), none⟩, ⟨some 33, .move (.tmp 2), some (32, false)⟩, ⟨some 34, .call { callee := .builtin .len, args := #[(.tmp 33)], argTypes := #[22] }, some (32, false)⟩, ⟨some 35, .binOp .gtr 3 (.tmp 34) (.const (.int .i64 1000)) 3, some (32, false)⟩, ⟨some 36, .pick (.tmp 32) (.const (.bool true)) (.tmp 35), none⟩]
@[go_sem ↓] def ur_law05_SlotsKeeps_0 := @unI _ _ r_law05_SlotsKeeps_0.eq_1
def r_law05_SlotsKeeps_1 : List I := [⟨some 6, .assign (.tmp 37), none⟩]
@[go_sem ↓] def ur_law05_SlotsKeeps_1 := @unI _ _ r_law05_SlotsKeeps_1.eq_1
def c_law05_SlotsKeeps_2 : C := (.seq (.seq (.reg (⟨some 37, .call { callee := .value (.func 56), args := #[], argTypes := #[] }, none⟩ :: r_law05_SlotsKeeps_1)) (.keep [6])) .ret)
@[go_sem ↓] def uc_law05_SlotsKeeps_2 := @unC _ _ c_law05_SlotsKeeps_2.eq_1
def c_law05_SlotsKeeps_3 : C := (.cond (.tmp 36) c_law05_SlotsKeeps_2 .skip)
@[go_sem ↓] def uc_law05_SlotsKeeps_3 := @unC _ _ c_law05_SlotsKeeps_3.eq_1
def r_law05_SlotsKeeps_4 : List I := [⟨some 38, .move (.tmp 40), none⟩, ⟨some 41, .extract (.tmp 38) 0, none⟩, ⟨some 42, .extract (.tmp 38) 1, none⟩, ⟨some 7, .alloc 43, none⟩, ⟨none, .store 43 (.tmp 7) (.tmp 41), none⟩, ⟨some 8, .assign (.tmp 42), none⟩]
@[go_sem ↓] def ur_law05_SlotsKeeps_4 := @unI _ _ r_law05_SlotsKeeps_4.eq_1
def c_law05_SlotsKeeps_5 : C := (.seq (.seq (.reg ([⟨some 6, .assign (.const (.bool false)), none⟩])) (.keep [6])) .ret)
@[go_sem ↓] def uc_law05_SlotsKeeps_5 := @unC _ _ c_law05_SlotsKeeps_5.eq_1
def c_law05_SlotsKeeps_6 : C := (.cond (.tmp 49) c_law05_SlotsKeeps_5 .skip)
@[go_sem ↓] def uc_law05_SlotsKeeps_6 := @unC _ _ c_law05_SlotsKeeps_6.eq_1
def r_law05_SlotsKeeps_7 : List I := [⟨some 56, .unOp .not 4 (.tmp 55), none⟩]
@[go_sem ↓] def ur_law05_SlotsKeeps_7 := @unI _ _ r_law05_SlotsKeeps_7.eq_1
def c_law05_SlotsKeeps_8 : C := (.seq (.seq (.reg ([⟨some 6, .assign (.const (.bool false)), none⟩])) (.keep [6])) .ret)
@[go_sem ↓] def uc_law05_SlotsKeeps_8 := @unC _ _ c_law05_SlotsKeeps_8.eq_1
def c_law05_SlotsKeeps_9 : C := (.cond (.tmp 56) c_law05_SlotsKeeps_8 .skip)
@[go_sem ↓] def uc_law05_SlotsKeeps_9 := @unC _ _ c_law05_SlotsKeeps_9.eq_1
def r_law05_SlotsKeeps_10 : List I := [⟨some 57, .move (.tmp 59), none⟩, ⟨some 60, .extract (.tmp 57) 0, none⟩, ⟨some 61, .extract (.tmp 57) 1, none⟩, ⟨none, .store 43 (.tmp 7) (.tmp 60), none⟩]
@[go_sem ↓] def ur_law05_SlotsKeeps_10 := @unI _ _ r_law05_SlotsKeeps_10.eq_1
def r_law05_SlotsKeeps_11 : List I := [⟨some 62, .move (.tmp 65), none⟩, ⟨some 66, .extract (.tmp 62) 0, none⟩, ⟨some 67, .extract (.tmp 62) 1, none⟩, ⟨some 68, .extract (.tmp 62) 2, none⟩, ⟨some 9, .alloc 43, none⟩, ⟨none, .store 43 (.tmp 9) (.tmp 66), none⟩, ⟨some 10, .assign (.tmp 67), none⟩, ⟨some 11, .assign (.tmp 68), none⟩]
@[go_sem ↓] def ur_law05_SlotsKeeps_11 := @unI _ _ r_law05_SlotsKeeps_11.eq_1
def r_law05_SlotsKeeps_12 : List I := [⟨some 79, .pick (.tmp 77) (.tmp 78) (.const (.bool false)), none⟩, ⟨some 6, .assign (.tmp 79), none⟩]
@[go_sem ↓] def ur_law05_SlotsKeeps_12 := @unI _ _ r_law05_SlotsKeeps_12.eq_1
def c_law05_SlotsKeeps_13 : C := (.seq (.seq (.reg (⟨some 71, .move (.tmp 11), none⟩ :: ⟨some 72, .binOp .eql 29 (.tmp 71) (.const (.int .i64 18)) 29, none⟩ :: ⟨some 73, .move (.tmp 72), none⟩ :: ⟨some 74, .move (.tmp 11), some (73, false)⟩ :: ⟨some 75, .binOp .eql 29 (.tmp 74) (.const (.int .i64 2)) 29, some (73, false)⟩ :: ⟨some 76, .pick (.tmp 73) (.const (.bool true)) (.tmp 75), none⟩ :: ⟨some 77, .move (.tmp 76), none⟩ :: ⟨some 78, .call { callee := .value (.func 56), args := #[], argTypes := #[] }, some (77, true)⟩ :: r_law05_SlotsKeeps_12)) (.keep [6])) .ret)
@[go_sem ↓] def uc_law05_SlotsKeeps_13 := @unC _ _ c_law05_SlotsKeeps_13.eq_1
def c_law05_SlotsKeeps_14 : C := (.cond (.tmp 70) c_law05_SlotsKeeps_13 .skip)
@[go_sem ↓] def uc_law05_SlotsKeeps_14 := @unC _ _ c_law05_SlotsKeeps_14.eq_1
def r_law05_SlotsKeeps_15 : List I := [⟨some 80, .move (.tmp 82), none⟩, ⟨some 83, .extract (.tmp 80) 0, none⟩, ⟨some 84, .extract (.tmp 80) 1, none⟩, ⟨some 85, .extract (.tmp 80) 2, none⟩, ⟨some 12, .assign (.tmp 83), none⟩, ⟨some 13, .assign (.tmp 84), none⟩, ⟨some 14, .assign (.tmp 85), none⟩]
@[go_sem ↓] def ur_law05_SlotsKeeps_15 := @unI _ _ r_law05_SlotsKeeps_15.eq_1
def r_law05_SlotsKeeps_16 : List I := [⟨some 86, .move (.tmp 89), none⟩, ⟨some 90, .extract (.tmp 86) 0, none⟩, ⟨some 91, .extract (.tmp 86) 1, none⟩, ⟨some 92, .extract (.tmp 86) 2, none⟩, ⟨some 15, .alloc 43, none⟩, ⟨none, .store 43 (.tmp 15) (.tmp 90), none⟩, ⟨some 16, .assign (.tmp 91), none⟩, ⟨some 17, .assign (.tmp 92), none⟩]
@[go_sem ↓] def ur_law05_SlotsKeeps_16 := @unI _ _ r_law05_SlotsKeeps_16.eq_1
def r_law05_SlotsKeeps_17 : List I := [⟨some 117, .unOp .not 4 (.tmp 116), some (113, false)⟩, ⟨some 118, .pick (.tmp 113) (.const (.bool true)) (.tmp 117), none⟩]
@[go_sem ↓] def ur_law05_SlotsKeeps_17 := @unI _ _ r_law05_SlotsKeeps_17.eq_1
def c_law05_SlotsKeeps_18 : C := (.seq (.seq (.reg ([⟨some 6, .assign (.const (.bool false)), none⟩])) (.keep [6])) .ret)
@[go_sem ↓] def uc_law05_SlotsKeeps_18 := @unC _ _ c_law05_SlotsKeeps_18.eq_1
def c_law05_SlotsKeeps_19 : C := (.cond (.tmp 118) c_law05_SlotsKeeps_18 .skip)
@[go_sem ↓] def uc_law05_SlotsKeeps_19 := @unC _ _ c_law05_SlotsKeeps_19.eq_1
def r_law05_SlotsKeeps_20 : List I := [⟨some 129, .pick (.tmp 127) (.tmp 128) (.const (.bool false)), none⟩, ⟨some 6, .assign (.tmp 129), none⟩]
@[go_sem ↓] def ur_law05_SlotsKeeps_20 := @unI _ _ r_law05_SlotsKeeps_20.eq_1
def c_law05_SlotsKeeps_21 : C := (.seq (.seq (.reg (⟨some 121, .move (.tmp 17), none⟩ :: ⟨some 122, .binOp .eql 29 (.tmp 121) (.const (.int .i64 18)) 29, none⟩ :: ⟨some 123, .move (.tmp 122), none⟩ :: ⟨some 124, .move (.tmp 17), some (123, false)⟩ :: ⟨some 125, .binOp .eql 29 (.tmp 124) (.const (.int .i64 2)) 29, some (123, false)⟩ :: ⟨some 126, .pick (.tmp 123) (.const (.bool true)) (.tmp 125), none⟩ :: ⟨some 127, .move (.tmp 126), none⟩ :: ⟨some 128, .call { callee := .value (.func 56), args := #[], argTypes := #[] }, some (127, true)⟩ :: r_law05_SlotsKeeps_20)) (.keep [6])) .ret)
@[go_sem ↓] def uc_law05_SlotsKeeps_21 := @unC _ _ c_law05_SlotsKeeps_21.eq_1
def c_law05_SlotsKeeps_22 : C := (.cond (.tmp 120) c_law05_SlotsKeeps_21 .skip)
@[go_sem ↓] def uc_law05_SlotsKeeps_22 := @unC _ _ c_law05_SlotsKeeps_22.eq_1
def r_law05_SlotsKeeps_23 : List I := [⟨some 130, .move (.tmp 132), none⟩, ⟨some 133, .extract (.tmp 130) 0, none⟩, ⟨some 134, .extract (.tmp 130) 1, none⟩, ⟨some 135, .extract (.tmp 130) 2, none⟩, ⟨some 18, .assign (.tmp 133), none⟩, ⟨some 19, .assign (.tmp 134), none⟩, ⟨some 20, .assign (.tmp 135), none⟩]
@[go_sem ↓] def ur_law05_SlotsKeeps_23 := @unI _ _ r_law05_SlotsKeeps_23.eq_1
def r_law05_SlotsKeeps_24 : List I := [⟨some 141, .move (.tmp 143), none⟩, ⟨some 144, .extract (.tmp 141) 0, none⟩, ⟨some 145, .extract (.tmp 141) 1, none⟩, ⟨some 146, .extract (.tmp 141) 2, none⟩, ⟨some 21, .assign (.tmp 144), none⟩, ⟨some 22, .assign (.tmp 145), none⟩, ⟨some 23, .assign (.tmp 146), none⟩]
@[go_sem ↓] def ur_law05_SlotsKeeps_24 := @unI _ _ r_law05_SlotsKeeps_24.eq_1
def r_law05_SlotsKeeps_25 : List I := [⟨some 175, .pick (.tmp 173) (.tmp 174) (.const (.bool false)), none⟩, ⟨some 6, .assign (.tmp 175), none⟩]
@[go_sem ↓] def ur_law05_SlotsKeeps_25 := @unI _ _ r_law05_SlotsKeeps_25.eq_1
def r_law05_SlotsKeeps_26 : List I := ⟨some 172, .pick (.tmp 168) (.tmp 171) (.const (.bool false)), none⟩ :: ⟨some 173, .move (.tmp 172), none⟩ :: ⟨some 174, .call { callee := .value (.func 56), args := #[], argTypes := #[] }, some (173, true)⟩ :: r_law05_SlotsKeeps_25
@[go_sem ↓] def ur_law05_SlotsKeeps_26 := @unI _ _ r_law05_SlotsKeeps_26.eq_1
def r_law05_SlotsKeeps_27 : List I := ⟨some 158, .pick (.tmp 154) (.tmp 157) (.const (.bool false)), none⟩ :: ⟨some 159, .move (.tmp 158), none⟩ :: ⟨some 160, .move (.tmp 23), some (159, true)⟩ :: ⟨some 161, .binOp .eql 29 (.tmp 160) (.const (.int .i64 0)) 29, some (159, true)⟩ :: ⟨some 162, .pick (.tmp 159) (.tmp 161) (.const (.bool false)), none⟩ :: ⟨some 163, .move (.tmp 162), none⟩ :: ⟨some 164, .move (.tmp 21), some (163, true)⟩ :: ⟨some 165, .move (.tmp 10), some (163, true)⟩ :: ⟨some 166, .binOp .eql 3 (.tmp 164) (.tmp 165) 3, some (163, true)⟩ :: ⟨some 167, .pick (.tmp 163) (.tmp 166) (.const (.bool false)), none⟩ :: ⟨some 168, .move (.tmp 167), none⟩ :: ⟨some 169, .move (.tmp 22), some (168, true)⟩ :: ⟨some 170, .move (.tmp 1), some (168, true)⟩ :: ⟨some 171, .call { callee := .value (.func 29), args := #[(.tmp 169), (.tmp 170)], argTypes := #[22, 22] }, some (168, true)⟩ :: r_law05_SlotsKeeps_26
@[go_sem ↓] def ur_law05_SlotsKeeps_27 := @unI _ _ r_law05_SlotsKeeps_27.eq_1
def c_law05_SlotsKeeps_28 : C := (.seq (.seq (.reg (⟨some 147, .move (.tmp 20), none⟩ :: ⟨some 148, .binOp .eql 29 (.tmp 147) (.const (.int .i64 0)) 29, none⟩ :: ⟨some 149, .move (.tmp 148), none⟩ :: ⟨some 150, .move (.tmp 18), some (149, true)⟩ :: ⟨some 151, .move (.tmp 16), some (149, true)⟩ :: ⟨some 152, .binOp .eql 3 (.tmp 150) (.tmp 151) 3, some (149, true)⟩ :: ⟨some 153, .pick (.tmp 149) (.tmp 152) (.const (.bool false)), none⟩ :: ⟨some 154, .move (.tmp 153), none⟩ :: ⟨some 155, .move (.tmp 19), some (154, true)⟩ :: ⟨some 156, .move (.tmp 2), some (154, true)⟩ :: ⟨some 157, .call { callee := .value (.func 29), args := #[(.tmp 155), (.tmp 156)], argTypes := #[22, 22] }, some (154, true)⟩ :: r_law05_SlotsKeeps_27)) (.keep [6])) .ret)
@[go_sem ↓] def uc_law05_SlotsKeeps_28 := @unC _ _ c_law05_SlotsKeeps_28.eq_1
def c_law05_SlotsKeeps_29 : C := (.seq (.seq (.reg (⟨some 142, .load 43 (.tmp 15), none⟩ :: ⟨some 143, .call { callee := .value (.func 25), args := #[(.tmp 142)], argTypes := #[43] }, none⟩ :: r_law05_SlotsKeeps_24)) (.keep [1, 2, 10, 16, 18, 19, 20, 21, 22, 23])) c_law05_SlotsKeeps_28)
@[go_sem ↓] def uc_law05_SlotsKeeps_29 := @unC _ _ c_law05_SlotsKeeps_29.eq_1
def c_law05_SlotsKeeps_30 : C := (.seq (.seq (.reg ([⟨some 136, .move (.tmp 16), none⟩, ⟨some 137, .binOp .rem 3 (.tmp 136) (.const (.int .i64 2)) 3, none⟩, ⟨some 138, .build 24 #[(2, (.const (.int .i64 1)))], none⟩, ⟨some 139, .fieldAddr 43 (.tmp 15) 0, none⟩, ⟨some 140, .indexAddr 41 (.tmp 139) (.tmp 137), none⟩, ⟨none, .store 24 (.tmp 140) (.tmp 138), none⟩])) (.keep [1, 2, 10, 15, 16, 18, 19, 20])) c_law05_SlotsKeeps_29)
@[go_sem ↓] def uc_law05_SlotsKeeps_30 := @unC _ _ c_law05_SlotsKeeps_30.eq_1
def c_law05_SlotsKeeps_31 : C := (.seq (.seq (.reg (⟨some 131, .load 43 (.tmp 15), none⟩ :: ⟨some 132, .call { callee := .value (.func 25), args := #[(.tmp 131)], argTypes := #[43] }, none⟩ :: r_law05_SlotsKeeps_23)) (.keep [1, 2, 10, 15, 16, 18, 19, 20])) c_law05_SlotsKeeps_30)
@[go_sem ↓] def uc_law05_SlotsKeeps_31 := @unC _ _ c_law05_SlotsKeeps_31.eq_1
def c_law05_SlotsKeeps_32 : C := (.seq (.seq (.seq (.reg ([⟨some 119, .move (.tmp 17), none⟩, ⟨some 120, .binOp .neq 29 (.tmp 119) (.const (.int .i64 0)) 29, none⟩])) (.keep [1, 2, 10, 15, 16, 17, 120])) c_law05_SlotsKeeps_22) c_law05_SlotsKeeps_31)
@[go_sem ↓] def uc_law05_SlotsKeeps_32 := @unC _ _ c_law05_SlotsKeeps_32.eq_1
def c_law05_SlotsKeeps_33 : C := (.seq (.seq (.seq (.reg (⟨some 93, .move (.tmp 10), none⟩ :: ⟨some 94, .fieldAddr 43 (.tmp 7) 1, none⟩ :: ⟨some 95, .load 3 (.tmp 94), none⟩ :: ⟨some 96, .binOp .neq 3 (.tmp 93) (.tmp 95) 3, none⟩ :: ⟨some 97, .move (.tmp 96), none⟩ :: ⟨some 98, .fieldAddr 43 (.tmp 9) 1, some (97, false)⟩ :: ⟨some 99, .load 3 (.tmp 98), some (97, false)⟩ :: ⟨some 100, .move (.tmp 10), some (97, false)⟩ :: ⟨some 101, .binOp .add 3 (.tmp 100) (.const (.int .i64 1)) 3, some (97, false)⟩ :: ⟨some 102, .binOp .neq 3 (.tmp 99) (.tmp 101) 3, some (97, false)⟩ :: ⟨some 103, .pick (.tmp 97) (.const (.bool true)) (.tmp 102), none⟩ :: ⟨some 104, .move (.tmp 103), none⟩ :: ⟨some 105, .move (.tmp 14), some (104, false)⟩ :: ⟨some 106, .binOp .neq 29 (.tmp 105) (.const (.int .i64 0)) 29, some (104, false)⟩ :: ⟨some 107, .pick (.tmp 104) (.const (.bool true)) (.tmp 106), none⟩ :: ⟨some 108, .move (.tmp 107), none⟩ :: ⟨some 109, .move (.tmp 12), some (108, false)⟩ :: ⟨some 110, .move (.tmp 10), some (108, false)⟩ :: ⟨some 111, .binOp .neq 3 (.tmp 109) (.tmp 110) 3, some (108, false)⟩ :: ⟨some 112, .pick (.tmp 108) (.const (.bool true)) (.tmp 111), none⟩ :: ⟨some 113, .move (.tmp 112), none⟩ :: ⟨some 114, .move (.tmp 13), some (113, false)⟩ :: ⟨some 115, .move (.tmp 1), some (113, false)⟩ :: ⟨some 116, .call { callee := .value (.func 29), args := #[(.tmp 114), (.tmp 115)], argTypes := #[22, 22] }, some (113, false)⟩ :: r_law05_SlotsKeeps_17)) (.keep [1, 2, 10, 15, 16, 17, 118])) c_law05_SlotsKeeps_19) c_law05_SlotsKeeps_32)
@[go_sem ↓] def uc_law05_SlotsKeeps_33 := @unC _ _ c_law05_SlotsKeeps_33.eq_1
def c_law05_SlotsKeeps_34 : C := (.seq (.seq (.reg (⟨some 87, .load 43 (.tmp 9), none⟩ :: ⟨some 88, .move (.tmp 2), none⟩ :: ⟨some 89, .call { callee := .value (.func 42), args := #[(.tmp 87), (.tmp 88)], argTypes := #[43, 22] }, none⟩ :: r_law05_SlotsKeeps_16)) (.keep [1, 2, 7, 9, 10, 12, 13, 14, 15, 16, 17])) c_law05_SlotsKeeps_33)
@[go_sem ↓] def uc_law05_SlotsKeeps_34 := @unC _ _ c_law05_SlotsKeeps_34.eq_1
def c_law05_SlotsKeeps_35 : C := (.seq (.seq (.reg (⟨some 81, .load 43 (.tmp 9), none⟩ :: ⟨some 82, .call { callee := .value (.func 25), args := #[(.tmp 81)], argTypes := #[43] }, none⟩ :: r_law05_SlotsKeeps_15)) (.keep [1, 2, 7, 9, 10, 12, 13, 14])) c_law05_SlotsKeeps_34)
@[go_sem ↓] def uc_law05_SlotsKeeps_35 := @unC _ _ c_law05_SlotsKeeps_35.eq_1
def c_law05_SlotsKeeps_36 : C := (.seq (.seq (.seq (.reg ([⟨some 69, .move (.tmp 11), none⟩, ⟨some 70, .binOp .neq 29 (.tmp 69) (.const (.int .i64 0)) 29, none⟩])) (.keep [1, 2, 7, 9, 10, 11, 70])) c_law05_SlotsKeeps_14) c_law05_SlotsKeeps_35)
@[go_sem ↓] def uc_law05_SlotsKeeps_36 := @unC _ _ c_law05_SlotsKeeps_36.eq_1
def c_law05_SlotsKeeps_37 : C := (.seq (.seq (.reg (⟨some 63, .load 43 (.tmp 7), none⟩ :: ⟨some 64, .move (.tmp 1), none⟩ :: ⟨some 65, .call { callee := .value (.func 42), args := #[(.tmp 63), (.tmp 64)], argTypes := #[43, 22] }, none⟩ :: r_law05_SlotsKeeps_11)) (.keep [1, 2, 7, 9, 10, 11])) c_law05_SlotsKeeps_36)
@[go_sem ↓] def uc_law05_SlotsKeeps_37 := @unC _ _ c_law05_SlotsKeeps_37.eq_1
def c_law05_SlotsKeeps_38 : C := (.seq (.seq (.reg (⟨some 58, .load 43 (.tmp 3), none⟩ :: ⟨some 59, .call { callee := .value (.func 27), args := #[(.tmp 58)], argTypes := #[43] }, none⟩ :: r_law05_SlotsKeeps_10)) (.keep [1, 2, 7])) c_law05_SlotsKeeps_37)
@[go_sem ↓] def uc_law05_SlotsKeeps_38 := @unC _ _ c_law05_SlotsKeeps_38.eq_1
def c_law05_SlotsKeeps_39 : C := (.seq (.seq (.seq (.reg (⟨some 53, .load 43 (.tmp 7), none⟩ :: ⟨some 54, .load 43 (.tmp 3), none⟩ :: ⟨some 55, .call { callee := .value (.func 30), args := #[(.tmp 53), (.tmp 54)], argTypes := #[43, 43] }, none⟩ :: r_law05_SlotsKeeps_7)) (.keep [1, 2, 3, 7, 56])) c_law05_SlotsKeeps_9) c_law05_SlotsKeeps_38)
@[go_sem ↓] def uc_law05_SlotsKeeps_39 := @unC _ _ c_law05_SlotsKeeps_39.eq_1
def c_law05_SlotsKeeps_40 : C := (.seq (.seq (.reg ([⟨some 50, .fieldAddr 43 (.tmp 3) 1, none⟩, ⟨some 51, .load 3 (.tmp 50), none⟩, ⟨some 52, .fieldAddr 43 (.tmp 7) 1, none⟩, ⟨none, .store 3 (.tmp 52) (.tmp 51), none⟩])) (.keep [1, 2, 3, 7])) c_law05_SlotsKeeps_39)
@[go_sem ↓] def uc_law05_SlotsKeeps_40 := @unC _ _ c_law05_SlotsKeeps_40.eq_1
def c_law05_SlotsKeeps_41 : C := (.seq (.seq (.seq (.reg ([⟨some 43, .move (.tmp 8), none⟩, ⟨some 44, .binOp .neq 29 (.tmp 43) (.const (.int .i64 0)) 29, none⟩, ⟨some 45, .move (.tmp 44), none⟩, ⟨some 46, .fieldAddr 43 (.tmp 7) 1, some (45, false)⟩, ⟨some 47, .load 3 (.tmp 46), some (45, false)⟩, ⟨some 48, .binOp .lss 3 (.tmp 47) (.const (.int .i64 1)) 3, some (45, false)⟩, ⟨some 49, .pick (.tmp 45) (.const (.bool true)) (.tmp 48), none⟩])) (.keep [1, 2, 3, 7, 49])) c_law05_SlotsKeeps_6) c_law05_SlotsKeeps_40)
@[go_sem ↓] def uc_law05_SlotsKeeps_41 := @unC _ _ c_law05_SlotsKeeps_41.eq_1
def c_law05_SlotsKeeps_42 : C := (.seq (.seq (.reg (⟨some 39, .load 43 (.tmp 3), none⟩ :: ⟨some 40, .call { callee := .value (.func 27), args := #[(.tmp 39)], argTypes := #[43] }, none⟩ :: r_law05_SlotsKeeps_4)) (.keep [1, 2, 3, 7, 8])) c_law05_SlotsKeeps_41)
@[go_sem ↓] def uc_law05_SlotsKeeps_42 := @unC _ _ c_law05_SlotsKeeps_42.eq_1
def c_law05_SlotsKeeps_43 : C := (.seq (.seq (.seq (.reg (⟨some 24, .load 43 (.tmp 3), none⟩ :: ⟨some 25, .call { callee := .value (.func 57), args := #[(.tmp 24)], argTypes := #[43] }, none⟩ :: r_law05_SlotsKeeps_0)) (.keep [1, 2, 3, 36])) c_law05_SlotsKeeps_3) c_law05_SlotsKeeps_42)
@[go_sem ↓] def uc_law05_SlotsKeeps_43 := @unC _ _ c_law05_SlotsKeeps_43.eq_1
def c_law05_SlotsKeeps : C := (.seq (.seq (.reg ([⟨some 3, .box 43 (.tmp 0), none⟩, ⟨some 6, .assign (.const (.bool false)), none⟩])) (.keep [1, 2, 3])) c_law05_SlotsKeeps_43)
attribute [go_sem ↓] c_law05_SlotsKeeps
def h_law05_SlotsKeeps : List Hint := [⟨[], [1, 2, 3], []⟩, ⟨[], [1, 2, 3, 36], []⟩, ⟨[], [6], []⟩, ⟨[], [1, 2, 3, 7, 8], []⟩, ⟨[], [1, 2, 3, 7, 49], []⟩, ⟨[], [6], []⟩, ⟨[], [1, 2, 3, 7], []⟩, ⟨[], [1, 2, 3, 7, 56], []⟩, ⟨[], [6], []⟩, ⟨[], [1, 2, 7], []⟩, ⟨[], [1, 2, 7, 9, 10, 11], []⟩, ⟨[], [1, 2, 7, 9, 10, 11, 70], []⟩, ⟨[], [6], []⟩, ⟨[], [1, 2, 7, 9, 10, 12, 13, 14], []⟩, ⟨[], [1, 2, 7, 9, 10, 12, 13, 14, 15, 16, 17], []⟩, ⟨[], [1, 2, 10, 15, 16, 17, 118], []⟩, ⟨[], [6], []⟩, ⟨[], [1, 2, 10, 15, 16, 17, 120], []⟩, ⟨[], [6], []⟩, ⟨[], [1, 2, 10, 15, 16, 18, 19, 20], []⟩, ⟨[], [1, 2, 10, 15, 16, 18, 19, 20], []⟩, ⟨[], [1, 2, 10, 16, 18, 19, 20, 21, 22, 23], []⟩, ⟨[], [6], []⟩]
theorem b_law05_SlotsKeeps : Body Try.prog 10 [] h_law05_SlotsKeeps c_law05_SlotsKeeps 176 [.tmp 6] := body_of Try.func10 (by kernel_rfl) (by kernel_rfl) (by kernel_rfl) (by kernel_rfl)

end Go.Proofs.Ytdpnjhooehadmaa.Pm
