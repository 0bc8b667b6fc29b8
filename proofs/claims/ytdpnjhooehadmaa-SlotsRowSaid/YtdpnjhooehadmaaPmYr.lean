/- code of slots: bodies, in the form in which they are walked. Printed by a program. No law of Go's is stated here. -/
import Derived.Test.YtdpnjhooehadmaaPmMd
import Derived.Test.YtdpnjhooehadmaaPmMc
set_option linter.all false
set_option maxRecDepth 100000
namespace Go.Proofs.Ytdpnjhooehadmaa.Pm
open Go Go.RowKit


def r_law05_SlotsRow_0 : List I := [⟨some 4, .assign (.tmp 22), none⟩]
@[go_sem ↓] def ur_law05_SlotsRow_0 := @unI _ _ r_law05_SlotsRow_0.eq_1
def c_law05_SlotsRow_1 : C := (.seq (.seq (.reg (⟨some 22, .call { callee := .value (.func 56), args := #[], argTypes := #[] }, none⟩ :: r_law05_SlotsRow_0)) (.keep [4])) .ret)
@[go_sem ↓] def uc_law05_SlotsRow_1 := @unC _ _ c_law05_SlotsRow_1.eq_1
def c_law05_SlotsRow_2 : C := (.cond (.tmp 21) c_law05_SlotsRow_1 .skip)
@[go_sem ↓] def uc_law05_SlotsRow_2 := @unC _ _ c_law05_SlotsRow_2.eq_1
def c_law05_SlotsRow_3 : C := (.cond (.tmp 26) .skip (.exit 0))
@[go_sem ↓] def uc_law05_SlotsRow_3 := @unC _ _ c_law05_SlotsRow_3.eq_1
def r_law05_SlotsRow_4 : List I := [⟨some 4, .assign (.tmp 35), none⟩]
@[go_sem ↓] def ur_law05_SlotsRow_4 := @unI _ _ r_law05_SlotsRow_4.eq_1
def c_law05_SlotsRow_5 : C := (.seq (.seq (.reg (⟨some 35, .call { callee := .value (.func 56), args := #[], argTypes := #[] }, none⟩ :: r_law05_SlotsRow_4)) (.keep [4])) .ret)
@[go_sem ↓] def uc_law05_SlotsRow_5 := @unC _ _ c_law05_SlotsRow_5.eq_1
def c_law05_SlotsRow_6 : C := (.cond (.tmp 34) c_law05_SlotsRow_5 .skip)
@[go_sem ↓] def uc_law05_SlotsRow_6 := @unC _ _ c_law05_SlotsRow_6.eq_1
def c_law05_SlotsRow_7 : C := (.seq (.reg ([⟨some 27, .move (.tmp 5), none⟩, ⟨some 28, .binOp .add 3 (.tmp 27) (.const (.int .i64 1)) 3, none⟩, ⟨some 5, .assign (.tmp 28), none⟩])) (.keep [0, 1, 5]))
@[go_sem ↓] def uc_law05_SlotsRow_7 := @unC _ _ c_law05_SlotsRow_7.eq_1
def c_law05_SlotsRow_8 : C := (.seq (.block 1 (.seq (.seq (.reg ([⟨some 29, .move (.tmp 1), none⟩, ⟨some 30, .move (.tmp 5), none⟩, ⟨some 31, .indexAddr 94 (.tmp 29) (.tmp 30), none⟩, ⟨some 32, .load 22 (.tmp 31), none⟩, ⟨some 33, .call { callee := .builtin .len, args := #[(.tmp 32)], argTypes := #[22] }, none⟩, ⟨some 34, .binOp .gtr 3 (.tmp 33) (.const (.int .i64 100)) 3, none⟩])) (.keep [0, 1, 5, 34])) c_law05_SlotsRow_6)) c_law05_SlotsRow_7)
@[go_sem ↓] def uc_law05_SlotsRow_8 := @unC _ _ c_law05_SlotsRow_8.eq_1
def c_law05_SlotsRow_9 : C := (.seq (.seq (.seq (.reg ([⟨some 23, .move (.tmp 5), none⟩, ⟨some 24, .move (.tmp 1), none⟩, ⟨some 25, .call { callee := .builtin .len, args := #[(.tmp 24)], argTypes := #[94] }, none⟩, ⟨some 26, .binOp .lss 3 (.tmp 23) (.tmp 25) 3, none⟩])) (.keep [0, 1, 5, 26])) c_law05_SlotsRow_3) c_law05_SlotsRow_8)
@[go_sem ↓] def uc_law05_SlotsRow_9 := @unC _ _ c_law05_SlotsRow_9.eq_1
def c_law05_SlotsRow_10 : C := (.block 0 (.loop [] [0, 1, 5] c_law05_SlotsRow_9))
@[go_sem ↓] def uc_law05_SlotsRow_10 := @unC _ _ c_law05_SlotsRow_10.eq_1
def r_law05_SlotsRow_11 : List I := [⟨some 36, .move (.tmp 38), none⟩, ⟨some 39, .extract (.tmp 36) 0, none⟩, ⟨some 40, .extract (.tmp 36) 1, none⟩, ⟨some 6, .alloc 43, none⟩, ⟨none, .store 43 (.tmp 6) (.tmp 39), none⟩, ⟨some 7, .assign (.tmp 40), none⟩]
@[go_sem ↓] def ur_law05_SlotsRow_11 := @unI _ _ r_law05_SlotsRow_11.eq_1
def r_law05_SlotsRow_12 : List I := [⟨some 47, .pick (.tmp 45) (.tmp 46) (.const (.bool false)), none⟩, ⟨some 4, .assign (.tmp 47), none⟩]
@[go_sem ↓] def ur_law05_SlotsRow_12 := @unI _ _ r_law05_SlotsRow_12.eq_1
def c_law05_SlotsRow_13 : C := (.seq (.seq (.reg (⟨some 43, .move (.tmp 7), none⟩ :: ⟨some 44, .binOp .eql 29 (.tmp 43) (.const (.int .i64 2)) 29, none⟩ :: ⟨some 45, .move (.tmp 44), none⟩ :: ⟨some 46, .call { callee := .value (.func 56), args := #[], argTypes := #[] }, some (45, true)⟩ :: r_law05_SlotsRow_12)) (.keep [4])) .ret)
@[go_sem ↓] def uc_law05_SlotsRow_13 := @unC _ _ c_law05_SlotsRow_13.eq_1
def c_law05_SlotsRow_14 : C := (.cond (.tmp 42) c_law05_SlotsRow_13 .skip)
@[go_sem ↓] def uc_law05_SlotsRow_14 := @unC _ _ c_law05_SlotsRow_14.eq_1
def c_law05_SlotsRow_15 : C := (.cond (.tmp 51) .skip (.exit 2))
@[go_sem ↓] def uc_law05_SlotsRow_15 := @unC _ _ c_law05_SlotsRow_15.eq_1
def d_law05_SlotsRow_16 : List D := [⟨⟨some 54, .move (.tmp 60), none⟩, []⟩, ⟨⟨some 61, .extract (.tmp 54) 0, none⟩, []⟩, ⟨⟨some 62, .extract (.tmp 54) 1, none⟩, [7]⟩, ⟨⟨some 63, .extract (.tmp 54) 2, none⟩, [7, 8]⟩, ⟨⟨some 9, .alloc 43, none⟩, [0, 1, 2, 3, 4, 5, 6, 7, 8, 9]⟩, ⟨⟨none, .store 43 (.tmp 9) (.tmp 61), none⟩, [8, 9]⟩, ⟨⟨some 10, .assign (.tmp 62), none⟩, [9]⟩, ⟨⟨some 11, .assign (.tmp 63), none⟩, []⟩]
@[go_sem ↓] def ud_law05_SlotsRow_16 := @unD _ _ d_law05_SlotsRow_16.eq_1
def r_law05_SlotsRow_17 : List I := [⟨some 80, .pick (.tmp 78) (.tmp 79) (.const (.bool false)), none⟩, ⟨some 4, .assign (.tmp 80), none⟩]
@[go_sem ↓] def ur_law05_SlotsRow_17 := @unI _ _ r_law05_SlotsRow_17.eq_1
def c_law05_SlotsRow_18 : C := (.seq (.seq (.reg (⟨some 66, .move (.tmp 11), none⟩ :: ⟨some 67, .binOp .eql 29 (.tmp 66) (.const (.int .i64 18)) 29, none⟩ :: ⟨some 68, .move (.tmp 67), none⟩ :: ⟨some 69, .move (.tmp 1), some (68, true)⟩ :: ⟨some 70, .move (.tmp 8), some (68, true)⟩ :: ⟨some 71, .indexAddr 94 (.tmp 69) (.tmp 70), some (68, true)⟩ :: ⟨some 72, .load 22 (.tmp 71), some (68, true)⟩ :: ⟨some 73, .call { callee := .builtin .len, args := #[(.tmp 72)], argTypes := #[22] }, some (68, true)⟩ :: ⟨some 74, .binOp .add 3 (.tmp 73) (.const (.int .i64 12)) 3, some (68, true)⟩ :: ⟨some 75, .move (.tmp 0), some (68, true)⟩ :: ⟨some 76, .binOp .gtr 3 (.tmp 74) (.tmp 75) 3, some (68, true)⟩ :: ⟨some 77, .pick (.tmp 68) (.tmp 76) (.const (.bool false)), none⟩ :: ⟨some 78, .move (.tmp 77), none⟩ :: ⟨some 79, .call { callee := .value (.func 56), args := #[], argTypes := #[] }, some (78, true)⟩ :: r_law05_SlotsRow_17)) (.keep [4])) .ret)
@[go_sem ↓] def uc_law05_SlotsRow_18 := @unC _ _ c_law05_SlotsRow_18.eq_1
def c_law05_SlotsRow_19 : C := (.cond (.tmp 65) c_law05_SlotsRow_18 .skip)
@[go_sem ↓] def uc_law05_SlotsRow_19 := @unC _ _ c_law05_SlotsRow_19.eq_1
def r_law05_SlotsRow_20 : List I := [⟨some 81, .move (.tmp 83), none⟩, ⟨some 84, .extract (.tmp 81) 0, none⟩, ⟨some 85, .extract (.tmp 81) 1, none⟩, ⟨some 86, .extract (.tmp 81) 2, none⟩, ⟨some 12, .assign (.tmp 84), none⟩, ⟨some 13, .assign (.tmp 85), none⟩, ⟨some 14, .assign (.tmp 86), none⟩]
@[go_sem ↓] def ur_law05_SlotsRow_20 := @unI _ _ r_law05_SlotsRow_20.eq_1
def r_law05_SlotsRow_21 : List I := [⟨some 114, .unOp .not 4 (.tmp 113), some (107, false)⟩, ⟨some 115, .pick (.tmp 107) (.const (.bool true)) (.tmp 114), none⟩]
@[go_sem ↓] def ur_law05_SlotsRow_21 := @unI _ _ r_law05_SlotsRow_21.eq_1
def c_law05_SlotsRow_22 : C := (.seq (.seq (.reg ([⟨some 4, .assign (.const (.bool false)), none⟩])) (.keep [4])) .ret)
@[go_sem ↓] def uc_law05_SlotsRow_22 := @unC _ _ c_law05_SlotsRow_22.eq_1
def c_law05_SlotsRow_23 : C := (.cond (.tmp 115) c_law05_SlotsRow_22 .skip)
@[go_sem ↓] def uc_law05_SlotsRow_23 := @unC _ _ c_law05_SlotsRow_23.eq_1
def d_law05_SlotsRow_24 : List D := [⟨⟨some 116, .move (.tmp 122), none⟩, []⟩, ⟨⟨some 123, .extract (.tmp 116) 0, none⟩, []⟩, ⟨⟨some 124, .extract (.tmp 116) 1, none⟩, [7]⟩, ⟨⟨some 15, .alloc 43, none⟩, [0, 1, 2, 3, 4, 5, 6, 7, 8]⟩, ⟨⟨none, .store 43 (.tmp 15) (.tmp 123), none⟩, [8]⟩, ⟨⟨some 16, .assign (.tmp 124), none⟩, []⟩]
@[go_sem ↓] def ud_law05_SlotsRow_24 := @unD _ _ d_law05_SlotsRow_24.eq_1
def r_law05_SlotsRow_25 : List I := [⟨some 125, .move (.tmp 127), none⟩, ⟨some 128, .extract (.tmp 125) 0, none⟩, ⟨some 129, .extract (.tmp 125) 1, none⟩, ⟨some 17, .alloc 43, none⟩, ⟨none, .store 43 (.tmp 17) (.tmp 128), none⟩, ⟨some 18, .assign (.tmp 129), none⟩]
@[go_sem ↓] def ur_law05_SlotsRow_25 := @unI _ _ r_law05_SlotsRow_25.eq_1
def r_law05_SlotsRow_26 : List I := [⟨some 140, .unOp .not 4 (.tmp 139), some (136, false)⟩, ⟨some 141, .pick (.tmp 136) (.const (.bool true)) (.tmp 140), none⟩]
@[go_sem ↓] def ur_law05_SlotsRow_26 := @unI _ _ r_law05_SlotsRow_26.eq_1
def c_law05_SlotsRow_27 : C := (.seq (.seq (.reg ([⟨some 4, .assign (.const (.bool false)), none⟩])) (.keep [4])) .ret)
@[go_sem ↓] def uc_law05_SlotsRow_27 := @unC _ _ c_law05_SlotsRow_27.eq_1
def c_law05_SlotsRow_28 : C := (.cond (.tmp 141) c_law05_SlotsRow_27 .skip)
@[go_sem ↓] def uc_law05_SlotsRow_28 := @unC _ _ c_law05_SlotsRow_28.eq_1
def c_law05_SlotsRow_29 : C := (.seq (.reg ([⟨some 142, .load 43 (.tmp 9), none⟩, ⟨none, .store 43 (.tmp 6) (.tmp 142), none⟩])) (.keep [0, 1, 6, 8]))
@[go_sem ↓] def uc_law05_SlotsRow_29 := @unC _ _ c_law05_SlotsRow_29.eq_1
def c_law05_SlotsRow_30 : C := (.seq (.seq (.seq (.reg (⟨some 130, .move (.tmp 16), none⟩ :: ⟨some 131, .binOp .neq 29 (.tmp 130) (.const (.int .i64 0)) 29, none⟩ :: ⟨some 132, .move (.tmp 131), none⟩ :: ⟨some 133, .move (.tmp 18), some (132, false)⟩ :: ⟨some 134, .binOp .neq 29 (.tmp 133) (.const (.int .i64 0)) 29, some (132, false)⟩ :: ⟨some 135, .pick (.tmp 132) (.const (.bool true)) (.tmp 134), none⟩ :: ⟨some 136, .move (.tmp 135), none⟩ :: ⟨some 137, .load 43 (.tmp 17), some (136, false)⟩ :: ⟨some 138, .load 43 (.tmp 9), some (136, false)⟩ :: ⟨some 139, .call { callee := .value (.func 30), args := #[(.tmp 137), (.tmp 138)], argTypes := #[43, 43] }, some (136, false)⟩ :: r_law05_SlotsRow_26)) (.keep [0, 1, 6, 8, 9, 141])) c_law05_SlotsRow_28) c_law05_SlotsRow_29)
@[go_sem ↓] def uc_law05_SlotsRow_30 := @unC _ _ c_law05_SlotsRow_30.eq_1
def c_law05_SlotsRow_31 : C := (.seq (.seq (.reg (⟨some 126, .load 43 (.tmp 15), none⟩ :: ⟨some 127, .call { callee := .value (.func 27), args := #[(.tmp 126)], argTypes := #[43] }, none⟩ :: r_law05_SlotsRow_25)) (.keep [0, 1, 6, 8, 9, 16, 17, 18])) c_law05_SlotsRow_30)
@[go_sem ↓] def uc_law05_SlotsRow_31 := @unC _ _ c_law05_SlotsRow_31.eq_1
def c_law05_SlotsRow_32 : C := (.seq (.seq (.draw (⟨⟨some 117, .load 43 (.tmp 9), none⟩, []⟩ :: ⟨⟨some 118, .move (.tmp 1), none⟩, [0]⟩ :: ⟨⟨some 119, .move (.tmp 8), none⟩, [0, 1]⟩ :: ⟨⟨some 120, .indexAddr 94 (.tmp 118) (.tmp 119), none⟩, [0]⟩ :: ⟨⟨some 121, .load 22 (.tmp 120), none⟩, [0]⟩ :: ⟨⟨some 122, .call { callee := .value (.func 44), args := #[(.tmp 117), (.tmp 121), (.const (.int .i64 0)), (.const (.int .i64 0))], argTypes := #[43, 22, 3, 3] }, none⟩, []⟩ :: d_law05_SlotsRow_24)) (.keep [0, 1, 6, 8, 9, 15, 16])) c_law05_SlotsRow_31)
@[go_sem ↓] def uc_law05_SlotsRow_32 := @unC _ _ c_law05_SlotsRow_32.eq_1
def c_law05_SlotsRow_33 : C := (.seq (.seq (.seq (.reg (⟨some 87, .move (.tmp 10), none⟩ :: ⟨some 88, .move (.tmp 8), none⟩ :: ⟨some 89, .binOp .add 3 (.tmp 88) (.const (.int .i64 1)) 3, none⟩ :: ⟨some 90, .binOp .neq 3 (.tmp 87) (.tmp 89) 3, none⟩ :: ⟨some 91, .move (.tmp 90), none⟩ :: ⟨some 92, .fieldAddr 43 (.tmp 9) 1, some (91, false)⟩ :: ⟨some 93, .load 3 (.tmp 92), some (91, false)⟩ :: ⟨some 94, .move (.tmp 8), some (91, false)⟩ :: ⟨some 95, .binOp .add 3 (.tmp 94) (.const (.int .i64 2)) 3, some (91, false)⟩ :: ⟨some 96, .binOp .neq 3 (.tmp 93) (.tmp 95) 3, some (91, false)⟩ :: ⟨some 97, .pick (.tmp 91) (.const (.bool true)) (.tmp 96), none⟩ :: ⟨some 98, .move (.tmp 97), none⟩ :: ⟨some 99, .move (.tmp 14), some (98, false)⟩ :: ⟨some 100, .binOp .neq 29 (.tmp 99) (.const (.int .i64 0)) 29, some (98, false)⟩ :: ⟨some 101, .pick (.tmp 98) (.const (.bool true)) (.tmp 100), none⟩ :: ⟨some 102, .move (.tmp 101), none⟩ :: ⟨some 103, .move (.tmp 12), some (102, false)⟩ :: ⟨some 104, .move (.tmp 10), some (102, false)⟩ :: ⟨some 105, .binOp .neq 3 (.tmp 103) (.tmp 104) 3, some (102, false)⟩ :: ⟨some 106, .pick (.tmp 102) (.const (.bool true)) (.tmp 105), none⟩ :: ⟨some 107, .move (.tmp 106), none⟩ :: ⟨some 108, .move (.tmp 13), some (107, false)⟩ :: ⟨some 109, .move (.tmp 1), some (107, false)⟩ :: ⟨some 110, .move (.tmp 8), some (107, false)⟩ :: ⟨some 111, .indexAddr 94 (.tmp 109) (.tmp 110), some (107, false)⟩ :: ⟨some 112, .load 22 (.tmp 111), some (107, false)⟩ :: ⟨some 113, .call { callee := .value (.func 29), args := #[(.tmp 108), (.tmp 112)], argTypes := #[22, 22] }, some (107, false)⟩ :: r_law05_SlotsRow_21)) (.keep [0, 1, 6, 8, 9, 115])) c_law05_SlotsRow_23) c_law05_SlotsRow_32)
@[go_sem ↓] def uc_law05_SlotsRow_33 := @unC _ _ c_law05_SlotsRow_33.eq_1
def c_law05_SlotsRow_34 : C := (.seq (.seq (.reg (⟨some 82, .load 43 (.tmp 9), none⟩ :: ⟨some 83, .call { callee := .value (.func 25), args := #[(.tmp 82)], argTypes := #[43] }, none⟩ :: r_law05_SlotsRow_20)) (.keep [0, 1, 6, 8, 9, 10, 12, 13, 14])) c_law05_SlotsRow_33)
@[go_sem ↓] def uc_law05_SlotsRow_34 := @unC _ _ c_law05_SlotsRow_34.eq_1
def c_law05_SlotsRow_35 : C := (.seq (.seq (.seq (.reg ([⟨some 64, .move (.tmp 11), none⟩, ⟨some 65, .binOp .neq 29 (.tmp 64) (.const (.int .i64 0)) 29, none⟩])) (.keep [0, 1, 6, 8, 9, 10, 11, 65])) c_law05_SlotsRow_19) c_law05_SlotsRow_34)
@[go_sem ↓] def uc_law05_SlotsRow_35 := @unC _ _ c_law05_SlotsRow_35.eq_1
def c_law05_SlotsRow_36 : C := (.seq (.reg ([⟨some 52, .move (.tmp 8), none⟩, ⟨some 53, .binOp .add 3 (.tmp 52) (.const (.int .i64 1)) 3, none⟩, ⟨some 8, .assign (.tmp 53), none⟩])) (.keep [0, 1, 6, 8]))
@[go_sem ↓] def uc_law05_SlotsRow_36 := @unC _ _ c_law05_SlotsRow_36.eq_1
def c_law05_SlotsRow_37 : C := (.seq (.block 3 (.seq (.seq (.draw (⟨⟨some 55, .load 43 (.tmp 6), none⟩, []⟩ :: ⟨⟨some 56, .move (.tmp 1), none⟩, [0]⟩ :: ⟨⟨some 57, .move (.tmp 8), none⟩, [0, 1]⟩ :: ⟨⟨some 58, .indexAddr 94 (.tmp 56) (.tmp 57), none⟩, [0]⟩ :: ⟨⟨some 59, .load 22 (.tmp 58), none⟩, [0]⟩ :: ⟨⟨some 60, .call { callee := .value (.func 42), args := #[(.tmp 55), (.tmp 59)], argTypes := #[43, 22] }, none⟩, []⟩ :: d_law05_SlotsRow_16)) (.keep [0, 1, 6, 8, 9, 10, 11])) c_law05_SlotsRow_35)) c_law05_SlotsRow_36)
@[go_sem ↓] def uc_law05_SlotsRow_37 := @unC _ _ c_law05_SlotsRow_37.eq_1
def c_law05_SlotsRow_38 : C := (.seq (.seq (.seq (.reg ([⟨some 48, .move (.tmp 8), none⟩, ⟨some 49, .move (.tmp 1), none⟩, ⟨some 50, .call { callee := .builtin .len, args := #[(.tmp 49)], argTypes := #[94] }, none⟩, ⟨some 51, .binOp .lss 3 (.tmp 48) (.tmp 50) 3, none⟩])) (.keep [0, 1, 6, 8, 51])) c_law05_SlotsRow_15) c_law05_SlotsRow_37)
@[go_sem ↓] def uc_law05_SlotsRow_38 := @unC _ _ c_law05_SlotsRow_38.eq_1
def c_law05_SlotsRow_39 : C := (.block 2 (.loop [] [0, 1, 6, 8] c_law05_SlotsRow_38))
@[go_sem ↓] def uc_law05_SlotsRow_39 := @unC _ _ c_law05_SlotsRow_39.eq_1
def r_law05_SlotsRow_40 : List I := [⟨some 4, .assign (.tmp 143), none⟩]
@[go_sem ↓] def ur_law05_SlotsRow_40 := @unI _ _ r_law05_SlotsRow_40.eq_1
def c_law05_SlotsRow_41 : C := (.seq (.seq (.reg (⟨some 143, .call { callee := .value (.func 56), args := #[], argTypes := #[] }, none⟩ :: r_law05_SlotsRow_40)) (.keep [4])) .ret)
@[go_sem ↓] def uc_law05_SlotsRow_41 := @unC _ _ c_law05_SlotsRow_41.eq_1
def c_law05_SlotsRow_42 : C := (.seq (.seq (.seq (.reg ([⟨some 8, .assign (.const (.int .i64 0)), none⟩])) (.keep [0, 1, 6, 8])) c_law05_SlotsRow_39) c_law05_SlotsRow_41)
@[go_sem ↓] def uc_law05_SlotsRow_42 := @unC _ _ c_law05_SlotsRow_42.eq_1
def c_law05_SlotsRow_43 : C := (.seq (.seq (.seq (.reg ([⟨some 41, .move (.tmp 7), none⟩, ⟨some 42, .binOp .neq 29 (.tmp 41) (.const (.int .i64 0)) 29, none⟩])) (.keep [0, 1, 6, 7, 42])) c_law05_SlotsRow_14) c_law05_SlotsRow_42)
@[go_sem ↓] def uc_law05_SlotsRow_43 := @unC _ _ c_law05_SlotsRow_43.eq_1
def c_law05_SlotsRow_44 : C := (.seq (.seq (.reg (⟨some 37, .move (.tmp 0), none⟩ :: ⟨some 38, .call { callee := .value (.func 40), args := #[(.tmp 37)], argTypes := #[3] }, none⟩ :: r_law05_SlotsRow_11)) (.keep [0, 1, 6, 7])) c_law05_SlotsRow_43)
@[go_sem ↓] def uc_law05_SlotsRow_44 := @unC _ _ c_law05_SlotsRow_44.eq_1
def c_law05_SlotsRow_45 : C := (.seq (.seq (.seq (.reg ([⟨some 5, .assign (.const (.int .i64 0)), none⟩])) (.keep [0, 1, 5])) c_law05_SlotsRow_10) c_law05_SlotsRow_44)
@[go_sem ↓] def uc_law05_SlotsRow_45 := @unC _ _ c_law05_SlotsRow_45.eq_1
def c_law05_SlotsRow_46 : C := (.seq (.seq (.seq (.reg ([⟨some 19, .move (.tmp 1), none⟩, ⟨some 20, .call { callee := .builtin .len, args := #[(.tmp 19)], argTypes := #[94] }, none⟩, ⟨some 21, .binOp .gtr 3 (.tmp 20) (.const (.int .i64 8)) 3, none⟩])) (.keep [0, 1, 21])) c_law05_SlotsRow_2) c_law05_SlotsRow_45)
@[go_sem ↓] def uc_law05_SlotsRow_46 := @unC _ _ c_law05_SlotsRow_46.eq_1
def c_law05_SlotsRow : C := (.seq (.seq (.reg ([⟨some 4, .assign (.const (.bool false)), none⟩])) (.keep [0, 1])) c_law05_SlotsRow_46)
attribute [go_sem ↓] c_law05_SlotsRow
def h_law05_SlotsRow : List Hint := [⟨[], [0, 1], []⟩, ⟨[], [0, 1, 21], []⟩, ⟨[], [4], []⟩, ⟨[], [0, 1, 5], []⟩, ⟨[], [0, 1, 5], []⟩, ⟨[], [0, 1, 5, 26], []⟩, ⟨[], [0, 1, 5, 34], []⟩, ⟨[], [4], []⟩, ⟨[], [0, 1, 5], []⟩, ⟨[], [0, 1, 6, 7], []⟩, ⟨[], [0, 1, 6, 7, 42], []⟩, ⟨[], [4], []⟩, ⟨[], [0, 1, 6, 8], []⟩, ⟨[], [0, 1, 6, 8], []⟩, ⟨[], [0, 1, 6, 8, 51], []⟩, ⟨[], [0, 1, 6, 8, 9, 10, 11], []⟩, ⟨[], [0, 1, 6, 8, 9, 10, 11, 65], []⟩, ⟨[], [4], []⟩, ⟨[], [0, 1, 6, 8, 9, 10, 12, 13, 14], []⟩, ⟨[], [0, 1, 6, 8, 9, 115], []⟩, ⟨[], [4], []⟩, ⟨[], [0, 1, 6, 8, 9, 15, 16], []⟩, ⟨[], [0, 1, 6, 8, 9, 16, 17, 18], []⟩, ⟨[], [0, 1, 6, 8, 9, 141], []⟩, ⟨[], [4], []⟩, ⟨[], [0, 1, 6, 8], []⟩, ⟨[], [0, 1, 6, 8], []⟩, ⟨[], [4], []⟩]
theorem b_law05_SlotsRow : Body Try.prog 11 [] h_law05_SlotsRow c_law05_SlotsRow 144 [.tmp 4] := body_of Try.func11 (by kernel_rfl) (by kernel_rfl) (by kernel_rfl) (by kernel_rfl)

end Go.Proofs.Ytdpnjhooehadmaa.Pm
