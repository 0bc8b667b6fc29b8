/- code of a statement of wal: bodies, in the form in which they are walked. Printed by a program. No law of Go's is stated here. -/
import Derived.Test.YtdpnjhooehadmaaPmMd
import Derived.Test.YtdpnjhooehadmaaPmMc
set_option linter.all false
set_option maxRecDepth 100000
namespace Go.Proofs.Ytdpnjhooehadmaa.Pm
open Go Go.RowKit


def r_law04_WalDrops_0 : List I := [⟨some 23, .unOp .not 4 (.tmp 22), none⟩, ⟨some 24, .move (.tmp 23), none⟩, ⟨some 25, .move (.tmp 1), some (24, false)⟩, ⟨some 26, .fieldAddr 26 (.tmp 2) 1, some (24, false)⟩, ⟨some 27, .load 3 (.tmp 26), some (24, false)⟩, ⟨some 28, .binOp .lss 3 (.tmp 25) (.tmp 27) 3, some (24, false)⟩, ⟨some 29, .pick (.tmp 24) (.const (.bool true)) (.tmp 28), none⟩, ⟨some 30, .move (.tmp 29), none⟩, ⟨some 31, .move (.tmp 1), some (30, false)⟩, ⟨some 32, .fieldAddr 26 (.tmp 2) 2, some (30, false)⟩, ⟨some 33, .load 3 (.tmp 32), some (30, false)⟩, ⟨some 34, .binOp .gtr 3 (.tmp 31) (.tmp 33) 3, some (30, false)⟩, ⟨some 35, .pick (.tmp 30) (.const (.bool true)) (.tmp 34), none⟩, ⟨some 36, .move (.tmp 35), none⟩, ⟨some 37, .move (.tmp 1), some (36, false)⟩, ⟨some 38, .binOp .gtr 3 (.tmp 37) (.const (.int .i64 1000000000)) 3, some (36, false)⟩, ⟨some 39, .pick (.tmp 36) (.const (.bool true)) (.tmp 38), none⟩]
@[go_sem ↓] def ur_law04_WalDrops_0 := @unI _ _ r_law04_WalDrops_0.eq_1
def r_law04_WalDrops_1 : List I := [⟨some 4, .assign (.tmp 40), none⟩]
@[go_sem ↓] def ur_law04_WalDrops_1 := @unI _ _ r_law04_WalDrops_1.eq_1
def c_law04_WalDrops_2 : C := (.seq (.seq (.reg (⟨some 40, .call { callee := .value (.func 59), args := #[], argTypes := #[] }, none⟩ :: r_law04_WalDrops_1)) (.keep [4])) .ret)
@[go_sem ↓] def uc_law04_WalDrops_2 := @unC _ _ c_law04_WalDrops_2.eq_1
def c_law04_WalDrops_3 : C := (.cond (.tmp 39) c_law04_WalDrops_2 .skip)
@[go_sem ↓] def uc_law04_WalDrops_3 := @unC _ _ c_law04_WalDrops_3.eq_1
def r_law04_WalDrops_4 : List I := [⟨some 41, .move (.tmp 43), none⟩, ⟨some 44, .extract (.tmp 41) 0, none⟩, ⟨some 45, .extract (.tmp 41) 1, none⟩, ⟨some 5, .assign (.tmp 44), none⟩, ⟨some 6, .assign (.tmp 45), none⟩]
@[go_sem ↓] def ur_law04_WalDrops_4 := @unI _ _ r_law04_WalDrops_4.eq_1
def r_law04_WalDrops_5 : List I := [⟨some 46, .move (.tmp 49), none⟩, ⟨some 50, .extract (.tmp 46) 0, none⟩, ⟨some 51, .extract (.tmp 46) 1, none⟩, ⟨some 7, .alloc 26, none⟩, ⟨none, .store 26 (.tmp 7) (.tmp 50), none⟩, ⟨some 8, .assign (.tmp 51), none⟩]
@[go_sem ↓] def ur_law04_WalDrops_5 := @unI _ _ r_law04_WalDrops_5.eq_1
def c_law04_WalDrops_6 : C := (.seq (.seq (.reg ([⟨some 4, .assign (.const (.bool false)), none⟩])) (.keep [4])) .ret)
@[go_sem ↓] def uc_law04_WalDrops_6 := @unC _ _ c_law04_WalDrops_6.eq_1
def c_law04_WalDrops_7 : C := (.cond (.tmp 61) c_law04_WalDrops_6 .skip)
@[go_sem ↓] def uc_law04_WalDrops_7 := @unC _ _ c_law04_WalDrops_7.eq_1
def r_law04_WalDrops_8 : List I := [⟨some 68, .pick (.tmp 66) (.tmp 67) (.const (.bool false)), none⟩, ⟨some 4, .assign (.tmp 68), none⟩]
@[go_sem ↓] def ur_law04_WalDrops_8 := @unI _ _ r_law04_WalDrops_8.eq_1
def c_law04_WalDrops_9 : C := (.seq (.seq (.reg (⟨some 64, .move (.tmp 8), none⟩ :: ⟨some 65, .binOp .eql 29 (.tmp 64) (.const (.int .i64 32)) 29, none⟩ :: ⟨some 66, .move (.tmp 65), none⟩ :: ⟨some 67, .call { callee := .value (.func 59), args := #[], argTypes := #[] }, some (66, true)⟩ :: r_law04_WalDrops_8)) (.keep [4])) .ret)
@[go_sem ↓] def uc_law04_WalDrops_9 := @unC _ _ c_law04_WalDrops_9.eq_1
def c_law04_WalDrops_10 : C := (.cond (.tmp 63) c_law04_WalDrops_9 .skip)
@[go_sem ↓] def uc_law04_WalDrops_10 := @unC _ _ c_law04_WalDrops_10.eq_1
def r_law04_WalDrops_11 : List I := [⟨some 69, .move (.tmp 72), none⟩, ⟨some 73, .extract (.tmp 69) 0, none⟩, ⟨some 74, .extract (.tmp 69) 1, none⟩, ⟨some 9, .assign (.tmp 73), none⟩, ⟨some 10, .assign (.tmp 74), none⟩]
@[go_sem ↓] def ur_law04_WalDrops_11 := @unI _ _ r_law04_WalDrops_11.eq_1
def r_law04_WalDrops_12 : List I := [⟨some 75, .move (.tmp 78), none⟩, ⟨some 79, .extract (.tmp 75) 0, none⟩, ⟨some 80, .extract (.tmp 75) 1, none⟩, ⟨some 11, .assign (.tmp 79), none⟩, ⟨some 12, .assign (.tmp 80), none⟩]
@[go_sem ↓] def ur_law04_WalDrops_12 := @unI _ _ r_law04_WalDrops_12.eq_1
def r_law04_WalDrops_13 : List I := [⟨some 81, .move (.tmp 85), none⟩, ⟨some 86, .extract (.tmp 81) 0, none⟩, ⟨some 87, .extract (.tmp 81) 1, none⟩, ⟨some 13, .alloc 26, none⟩, ⟨none, .store 26 (.tmp 13) (.tmp 86), none⟩, ⟨some 14, .assign (.tmp 87), none⟩]
@[go_sem ↓] def ur_law04_WalDrops_13 := @unI _ _ r_law04_WalDrops_13.eq_1
def r_law04_WalDrops_14 : List I := [⟨some 88, .move (.tmp 91), none⟩, ⟨some 92, .extract (.tmp 88) 0, none⟩, ⟨some 93, .extract (.tmp 88) 1, none⟩, ⟨some 15, .assign (.tmp 92), none⟩, ⟨some 16, .assign (.tmp 93), none⟩]
@[go_sem ↓] def ur_law04_WalDrops_14 := @unI _ _ r_law04_WalDrops_14.eq_1
def r_law04_WalDrops_15 : List I := [⟨some 94, .move (.tmp 97), none⟩, ⟨some 98, .extract (.tmp 94) 0, none⟩, ⟨some 99, .extract (.tmp 94) 1, none⟩, ⟨some 17, .assign (.tmp 98), none⟩, ⟨some 18, .assign (.tmp 99), none⟩]
@[go_sem ↓] def ur_law04_WalDrops_15 := @unI _ _ r_law04_WalDrops_15.eq_1
def r_law04_WalDrops_16 : List I := [⟨some 100, .move (.tmp 103), none⟩, ⟨some 104, .extract (.tmp 100) 0, none⟩, ⟨some 105, .extract (.tmp 100) 1, none⟩, ⟨some 19, .assign (.tmp 104), none⟩, ⟨some 20, .assign (.tmp 105), none⟩]
@[go_sem ↓] def ur_law04_WalDrops_16 := @unI _ _ r_law04_WalDrops_16.eq_1
def r_law04_WalDrops_17 : List I := [⟨some 168, .pick (.tmp 166) (.tmp 167) (.const (.bool false)), none⟩, ⟨some 4, .assign (.tmp 168), none⟩]
@[go_sem ↓] def ur_law04_WalDrops_17 := @unI _ _ r_law04_WalDrops_17.eq_1
def r_law04_WalDrops_18 : List I := ⟨some 142, .pick (.tmp 138) (.tmp 141) (.const (.bool false)), none⟩ :: ⟨some 143, .move (.tmp 142), none⟩ :: ⟨some 144, .move (.tmp 18), some (143, true)⟩ :: ⟨some 145, .binOp .eql 29 (.tmp 144) (.const (.int .i64 0)) 29, some (143, true)⟩ :: ⟨some 146, .pick (.tmp 143) (.tmp 145) (.const (.bool false)), none⟩ :: ⟨some 147, .move (.tmp 146), none⟩ :: ⟨some 148, .move (.tmp 20), some (147, true)⟩ :: ⟨some 149, .binOp .eql 29 (.tmp 148) (.const (.int .i64 0)) 29, some (147, true)⟩ :: ⟨some 150, .pick (.tmp 147) (.tmp 149) (.const (.bool false)), none⟩ :: ⟨some 151, .move (.tmp 150), none⟩ :: ⟨some 152, .move (.tmp 19), some (151, true)⟩ :: ⟨some 153, .move (.tmp 17), some (151, true)⟩ :: ⟨some 154, .binOp .leq 3 (.tmp 152) (.tmp 153) 3, some (151, true)⟩ :: ⟨some 155, .pick (.tmp 151) (.tmp 154) (.const (.bool false)), none⟩ :: ⟨some 156, .move (.tmp 155), none⟩ :: ⟨some 157, .move (.tmp 17), some (156, true)⟩ :: ⟨some 158, .move (.tmp 19), some (156, true)⟩ :: ⟨some 159, .binOp .eql 3 (.tmp 157) (.tmp 158) 3, some (156, true)⟩ :: ⟨some 160, .move (.tmp 1), some (156, true)⟩ :: ⟨some 161, .fieldAddr 26 (.tmp 2) 1, some (156, true)⟩ :: ⟨some 162, .load 3 (.tmp 161), some (156, true)⟩ :: ⟨some 163, .binOp .eql 3 (.tmp 160) (.tmp 162) 3, some (156, true)⟩ :: ⟨some 164, .binOp .eql 4 (.tmp 159) (.tmp 163) 4, some (156, true)⟩ :: ⟨some 165, .pick (.tmp 156) (.tmp 164) (.const (.bool false)), none⟩ :: ⟨some 166, .move (.tmp 165), none⟩ :: ⟨some 167, .call { callee := .value (.func 59), args := #[], argTypes := #[] }, some (166, true)⟩ :: r_law04_WalDrops_17
@[go_sem ↓] def ur_law04_WalDrops_18 := @unI _ _ r_law04_WalDrops_18.eq_1
def r_law04_WalDrops_19 : List I := ⟨some 116, .pick (.tmp 112) (.tmp 115) (.const (.bool false)), none⟩ :: ⟨some 117, .move (.tmp 116), none⟩ :: ⟨some 118, .fieldAddr 26 (.tmp 7) 1, some (117, true)⟩ :: ⟨some 119, .load 3 (.tmp 118), some (117, true)⟩ :: ⟨some 120, .move (.tmp 1), some (117, true)⟩ :: ⟨some 121, .binOp .eql 3 (.tmp 119) (.tmp 120) 3, some (117, true)⟩ :: ⟨some 122, .pick (.tmp 117) (.tmp 121) (.const (.bool false)), none⟩ :: ⟨some 123, .move (.tmp 122), none⟩ :: ⟨some 124, .fieldAddr 26 (.tmp 7) 2, some (123, true)⟩ :: ⟨some 125, .load 3 (.tmp 124), some (123, true)⟩ :: ⟨some 126, .fieldAddr 26 (.tmp 2) 2, some (123, true)⟩ :: ⟨some 127, .load 3 (.tmp 126), some (123, true)⟩ :: ⟨some 128, .binOp .eql 3 (.tmp 125) (.tmp 127) 3, some (123, true)⟩ :: ⟨some 129, .pick (.tmp 123) (.tmp 128) (.const (.bool false)), none⟩ :: ⟨some 130, .move (.tmp 129), none⟩ :: ⟨some 131, .move (.tmp 14), some (130, true)⟩ :: ⟨some 132, .binOp .eql 29 (.tmp 131) (.const (.int .i64 0)) 29, some (130, true)⟩ :: ⟨some 133, .pick (.tmp 130) (.tmp 132) (.const (.bool false)), none⟩ :: ⟨some 134, .move (.tmp 133), none⟩ :: ⟨some 135, .move (.tmp 16), some (134, true)⟩ :: ⟨some 136, .binOp .eql 29 (.tmp 135) (.const (.int .i64 0)) 29, some (134, true)⟩ :: ⟨some 137, .pick (.tmp 134) (.tmp 136) (.const (.bool false)), none⟩ :: ⟨some 138, .move (.tmp 137), none⟩ :: ⟨some 139, .move (.tmp 15), some (138, true)⟩ :: ⟨some 140, .move (.tmp 11), some (138, true)⟩ :: ⟨some 141, .call { callee := .value (.func 22), args := #[(.tmp 139), (.tmp 140)], argTypes := #[34, 34] }, some (138, true)⟩ :: r_law04_WalDrops_18
@[go_sem ↓] def ur_law04_WalDrops_19 := @unI _ _ r_law04_WalDrops_19.eq_1
def c_law04_WalDrops_20 : C := (.seq (.seq (.reg (⟨some 106, .move (.tmp 10), none⟩ :: ⟨some 107, .binOp .eql 29 (.tmp 106) (.const (.int .i64 0)) 29, none⟩ :: ⟨some 108, .move (.tmp 107), none⟩ :: ⟨some 109, .move (.tmp 12), some (108, true)⟩ :: ⟨some 110, .binOp .eql 29 (.tmp 109) (.const (.int .i64 0)) 29, some (108, true)⟩ :: ⟨some 111, .pick (.tmp 108) (.tmp 110) (.const (.bool false)), none⟩ :: ⟨some 112, .move (.tmp 111), none⟩ :: ⟨some 113, .move (.tmp 9), some (112, true)⟩ :: ⟨some 114, .move (.tmp 11), some (112, true)⟩ :: ⟨some 115, .call { callee := .value (.func 22), args := #[(.tmp 113), (.tmp 114)], argTypes := #[34, 34] }, some (112, true)⟩ :: r_law04_WalDrops_19)) (.keep [4])) .ret)
@[go_sem ↓] def uc_law04_WalDrops_20 := @unC _ _ c_law04_WalDrops_20.eq_1
def c_law04_WalDrops_21 : C := (.seq (.seq (.reg (⟨some 101, .fieldAddr 26 (.tmp 7) 0, none⟩ :: ⟨some 102, .load 24 (.tmp 101), none⟩ :: ⟨some 103, .call { callee := .value (.func 63), args := #[(.tmp 102)], argTypes := #[24] }, none⟩ :: r_law04_WalDrops_16)) (.keep [1, 2, 7, 9, 10, 11, 12, 14, 15, 16, 17, 18, 19, 20])) c_law04_WalDrops_20)
@[go_sem ↓] def uc_law04_WalDrops_21 := @unC _ _ c_law04_WalDrops_21.eq_1
def c_law04_WalDrops_22 : C := (.seq (.seq (.reg (⟨some 95, .fieldAddr 26 (.tmp 2) 0, none⟩ :: ⟨some 96, .load 24 (.tmp 95), none⟩ :: ⟨some 97, .call { callee := .value (.func 63), args := #[(.tmp 96)], argTypes := #[24] }, none⟩ :: r_law04_WalDrops_15)) (.keep [1, 2, 7, 9, 10, 11, 12, 14, 15, 16, 17, 18])) c_law04_WalDrops_21)
@[go_sem ↓] def uc_law04_WalDrops_22 := @unC _ _ c_law04_WalDrops_22.eq_1
def c_law04_WalDrops_23 : C := (.seq (.seq (.reg (⟨some 89, .load 26 (.tmp 13), none⟩ :: ⟨some 90, .move (.tmp 1), none⟩ :: ⟨some 91, .call { callee := .value (.func 20), args := #[(.tmp 89), (.tmp 90)], argTypes := #[26, 3] }, none⟩ :: r_law04_WalDrops_14)) (.keep [1, 2, 7, 9, 10, 11, 12, 14, 15, 16])) c_law04_WalDrops_22)
@[go_sem ↓] def uc_law04_WalDrops_23 := @unC _ _ c_law04_WalDrops_23.eq_1
def c_law04_WalDrops_24 : C := (.seq (.seq (.reg (⟨some 82, .fieldAddr 26 (.tmp 7) 0, none⟩ :: ⟨some 83, .load 24 (.tmp 82), none⟩ :: ⟨some 84, .move (.tmp 1), none⟩ :: ⟨some 85, .call { callee := .value (.func 32), args := #[(.tmp 83), (.tmp 84)], argTypes := #[24, 3] }, none⟩ :: r_law04_WalDrops_13)) (.keep [1, 2, 7, 9, 10, 11, 12, 13, 14])) c_law04_WalDrops_23)
@[go_sem ↓] def uc_law04_WalDrops_24 := @unC _ _ c_law04_WalDrops_24.eq_1
def c_law04_WalDrops_25 : C := (.seq (.seq (.reg (⟨some 76, .load 26 (.tmp 7), none⟩ :: ⟨some 77, .move (.tmp 1), none⟩ :: ⟨some 78, .call { callee := .value (.func 20), args := #[(.tmp 76), (.tmp 77)], argTypes := #[26, 3] }, none⟩ :: r_law04_WalDrops_12)) (.keep [1, 2, 7, 9, 10, 11, 12])) c_law04_WalDrops_24)
@[go_sem ↓] def uc_law04_WalDrops_25 := @unC _ _ c_law04_WalDrops_25.eq_1
def c_law04_WalDrops_26 : C := (.seq (.seq (.reg (⟨some 70, .load 26 (.tmp 2), none⟩ :: ⟨some 71, .move (.tmp 1), none⟩ :: ⟨some 72, .call { callee := .value (.func 20), args := #[(.tmp 70), (.tmp 71)], argTypes := #[26, 3] }, none⟩ :: r_law04_WalDrops_11)) (.keep [1, 2, 7, 9, 10])) c_law04_WalDrops_25)
@[go_sem ↓] def uc_law04_WalDrops_26 := @unC _ _ c_law04_WalDrops_26.eq_1
def c_law04_WalDrops_27 : C := (.seq (.seq (.seq (.reg ([⟨some 62, .move (.tmp 8), none⟩, ⟨some 63, .binOp .neq 29 (.tmp 62) (.const (.int .i64 0)) 29, none⟩])) (.keep [1, 2, 7, 8, 63])) c_law04_WalDrops_10) c_law04_WalDrops_26)
@[go_sem ↓] def uc_law04_WalDrops_27 := @unC _ _ c_law04_WalDrops_27.eq_1
def c_law04_WalDrops_28 : C := (.seq (.seq (.seq (.reg ([⟨some 52, .move (.tmp 6), none⟩, ⟨some 53, .binOp .neq 29 (.tmp 52) (.const (.int .i64 0)) 29, none⟩, ⟨some 54, .move (.tmp 53), none⟩, ⟨some 55, .move (.tmp 8), some (54, false)⟩, ⟨some 56, .binOp .eql 29 (.tmp 55) (.const (.int .i64 0)) 29, some (54, false)⟩, ⟨some 57, .move (.tmp 1), some (54, false)⟩, ⟨some 58, .move (.tmp 5), some (54, false)⟩, ⟨some 59, .binOp .leq 3 (.tmp 57) (.tmp 58) 3, some (54, false)⟩, ⟨some 60, .binOp .neq 4 (.tmp 56) (.tmp 59) 4, some (54, false)⟩, ⟨some 61, .pick (.tmp 54) (.const (.bool true)) (.tmp 60), none⟩])) (.keep [1, 2, 7, 8, 61])) c_law04_WalDrops_7) c_law04_WalDrops_27)
@[go_sem ↓] def uc_law04_WalDrops_28 := @unC _ _ c_law04_WalDrops_28.eq_1
def c_law04_WalDrops_29 : C := (.seq (.seq (.reg (⟨some 47, .load 26 (.tmp 2), none⟩ :: ⟨some 48, .move (.tmp 1), none⟩ :: ⟨some 49, .call { callee := .value (.func 52), args := #[(.tmp 47), (.tmp 48)], argTypes := #[26, 3] }, none⟩ :: r_law04_WalDrops_5)) (.keep [1, 2, 5, 6, 7, 8])) c_law04_WalDrops_28)
@[go_sem ↓] def uc_law04_WalDrops_29 := @unC _ _ c_law04_WalDrops_29.eq_1
def c_law04_WalDrops_30 : C := (.seq (.seq (.reg (⟨some 42, .load 26 (.tmp 2), none⟩ :: ⟨some 43, .call { callee := .value (.func 18), args := #[(.tmp 42)], argTypes := #[26] }, none⟩ :: r_law04_WalDrops_4)) (.keep [1, 2, 5, 6])) c_law04_WalDrops_29)
@[go_sem ↓] def uc_law04_WalDrops_30 := @unC _ _ c_law04_WalDrops_30.eq_1
def c_law04_WalDrops_31 : C := (.seq (.seq (.seq (.reg (⟨some 21, .load 26 (.tmp 2), none⟩ :: ⟨some 22, .call { callee := .value (.func 58), args := #[(.tmp 21)], argTypes := #[26] }, none⟩ :: r_law04_WalDrops_0)) (.keep [1, 2, 39])) c_law04_WalDrops_3) c_law04_WalDrops_30)
@[go_sem ↓] def uc_law04_WalDrops_31 := @unC _ _ c_law04_WalDrops_31.eq_1
def c_law04_WalDrops : C := (.seq (.seq (.reg ([⟨some 2, .box 26 (.tmp 0), none⟩, ⟨some 4, .assign (.const (.bool false)), none⟩])) (.keep [1, 2])) c_law04_WalDrops_31)
attribute [go_sem ↓] c_law04_WalDrops
def h_law04_WalDrops : List Hint := [⟨[], [1, 2], []⟩, ⟨[], [1, 2, 39], []⟩, ⟨[], [4], []⟩, ⟨[], [1, 2, 5, 6], []⟩, ⟨[], [1, 2, 5, 6, 7, 8], []⟩, ⟨[], [1, 2, 7, 8, 61], []⟩, ⟨[], [4], []⟩, ⟨[], [1, 2, 7, 8, 63], []⟩, ⟨[], [4], []⟩, ⟨[], [1, 2, 7, 9, 10], []⟩, ⟨[], [1, 2, 7, 9, 10, 11, 12], []⟩, ⟨[], [1, 2, 7, 9, 10, 11, 12, 13, 14], []⟩, ⟨[], [1, 2, 7, 9, 10, 11, 12, 14, 15, 16], []⟩, ⟨[], [1, 2, 7, 9, 10, 11, 12, 14, 15, 16, 17, 18], []⟩, ⟨[], [1, 2, 7, 9, 10, 11, 12, 14, 15, 16, 17, 18, 19, 20], []⟩, ⟨[], [4], []⟩]
theorem b_law04_WalDrops : Body Try.prog 15 [] h_law04_WalDrops c_law04_WalDrops 169 [.tmp 4] := body_of Try.func15 (by kernel_rfl) (by kernel_rfl) (by kernel_rfl) (by kernel_rfl)

end Go.Proofs.Ytdpnjhooehadmaa.Pm
