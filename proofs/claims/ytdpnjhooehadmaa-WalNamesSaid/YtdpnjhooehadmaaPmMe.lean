/- Texts of this proof in one file: PmKc, PmFa, PmFb, PmFc, PmFd, PmFe, PmFg, PmFh. No law of Go's is stated here. -/
import Derived.Test.YtdpnjhooehadmaaPmMd
/-! PmKc -/
set_option linter.all false
set_option maxRecDepth 100000
namespace Go.Proofs.Ytdpnjhooehadmaa.Pm
open Go Go.RowKit


def c_ref03_Same : C := (.seq (.seq (.reg ([⟨some 4, .assign (.const (.bool false)), none⟩])) (.keep [0, 1])) (.seq (.seq (.seq (.reg ([⟨some 6, .move (.tmp 0), none⟩, ⟨some 7, .call { callee := .builtin .len, args := #[(.tmp 6)], argTypes := #[34] }, none⟩, ⟨some 8, .move (.tmp 1), none⟩, ⟨some 9, .call { callee := .builtin .len, args := #[(.tmp 8)], argTypes := #[34] }, none⟩, ⟨some 10, .binOp .neq 3 (.tmp 7) (.tmp 9) 3, none⟩])) (.keep [0, 1, 10])) (.cond (.tmp 10) (.seq (.seq (.reg ([⟨some 4, .assign (.const (.bool false)), none⟩])) (.keep [4])) .ret) .skip)) (.seq (.seq (.seq (.reg ([⟨some 5, .assign (.const (.int .i64 0)), none⟩])) (.keep [0, 1, 5])) (.block 0 (.loop [] [0, 1, 5] (.seq (.seq (.seq (.reg ([⟨some 11, .move (.tmp 5), none⟩, ⟨some 12, .move (.tmp 0), none⟩, ⟨some 13, .call { callee := .builtin .len, args := #[(.tmp 12)], argTypes := #[34] }, none⟩, ⟨some 14, .binOp .lss 3 (.tmp 11) (.tmp 13) 3, none⟩])) (.keep [0, 1, 5, 14])) (.cond (.tmp 14) .skip (.exit 0))) (.seq (.block 1 (.seq (.seq (.draw ([⟨⟨some 17, .move (.tmp 0), none⟩, []⟩, ⟨⟨some 18, .move (.tmp 5), none⟩, [0]⟩, ⟨⟨some 19, .indexAddr 34 (.tmp 17) (.tmp 18), none⟩, []⟩, ⟨⟨some 20, .fieldAddr 100 (.tmp 19) 0, none⟩, []⟩, ⟨⟨some 21, .load 3 (.tmp 20), none⟩, []⟩, ⟨⟨some 22, .move (.tmp 1), none⟩, [0, 1, 2, 3, 4]⟩, ⟨⟨some 23, .move (.tmp 5), none⟩, [0, 1, 2, 3, 4, 5]⟩, ⟨⟨some 24, .indexAddr 34 (.tmp 22) (.tmp 23), none⟩, [0, 1, 2, 3, 4]⟩, ⟨⟨some 25, .fieldAddr 100 (.tmp 24) 0, none⟩, [0, 1, 2, 3, 4]⟩, ⟨⟨some 26, .load 3 (.tmp 25), none⟩, [0, 1, 2, 3, 4]⟩, ⟨⟨some 27, .binOp .neq 3 (.tmp 21) (.tmp 26) 3, none⟩, []⟩, ⟨⟨some 28, .move (.tmp 27), none⟩, []⟩, ⟨⟨some 29, .move (.tmp 0), some (28, false)⟩, []⟩, ⟨⟨some 30, .move (.tmp 5), some (28, false)⟩, [12]⟩, ⟨⟨some 31, .indexAddr 34 (.tmp 29) (.tmp 30), some (28, false)⟩, []⟩, ⟨⟨some 32, .fieldAddr 100 (.tmp 31) 1, some (28, false)⟩, []⟩, ⟨⟨some 33, .load 22 (.tmp 32), some (28, false)⟩, []⟩, ⟨⟨some 34, .move (.tmp 1), some (28, false)⟩, [12, 13, 14, 15, 16]⟩, ⟨⟨some 35, .move (.tmp 5), some (28, false)⟩, [12, 13, 14, 15, 16, 17]⟩, ⟨⟨some 36, .indexAddr 34 (.tmp 34) (.tmp 35), some (28, false)⟩, [12, 13, 14, 15, 16]⟩, ⟨⟨some 37, .fieldAddr 100 (.tmp 36) 1, some (28, false)⟩, [12, 13, 14, 15, 16]⟩, ⟨⟨some 38, .load 22 (.tmp 37), some (28, false)⟩, [12, 13, 14, 15, 16]⟩, ⟨⟨some 39, .call { callee := .value (.func 29), args := #[(.tmp 33), (.tmp 38)], argTypes := #[22, 22] }, some (28, false)⟩, []⟩, ⟨⟨some 40, .unOp .not 4 (.tmp 39), some (28, false)⟩, []⟩, ⟨⟨some 41, .pick (.tmp 28) (.const (.bool true)) (.tmp 40), none⟩, []⟩])) (.keep [0, 1, 5, 41])) (.cond (.tmp 41) (.seq (.seq (.reg ([⟨some 4, .assign (.const (.bool false)), none⟩])) (.keep [4])) .ret) .skip))) (.seq (.reg ([⟨some 15, .move (.tmp 5), none⟩, ⟨some 16, .binOp .add 3 (.tmp 15) (.const (.int .i64 1)) 3, none⟩, ⟨some 5, .assign (.tmp 16), none⟩])) (.keep [0, 1, 5]))))))) (.seq (.seq (.reg ([⟨some 4, .assign (.const (.bool true)), none⟩])) (.keep [4])) .ret))))
attribute [go_sem ↓] c_ref03_Same
def c_frame_Scan_0 : C := (.seq (.seq (.reg ([⟨some 2, .assign (.const (.slice none 0 0)), none⟩, ⟨some 3, .assign (.const (.int .i64 0)), none⟩, ⟨some 4, .assign (.const (.int .i64 4)), none⟩])) (.keep [2, 3, 4])) .ret)
@[go_sem ↓] def uc_frame_Scan_0 := @unC _ _ c_frame_Scan_0.eq_1
def c_frame_Scan_1 : C := (.cond (.tmp 13) c_frame_Scan_0 .skip)
@[go_sem ↓] def uc_frame_Scan_1 := @unC _ _ c_frame_Scan_1.eq_1
def c_frame_Scan_2 : C := (.cond (.tmp 19) (.goto 1) .skip)
@[go_sem ↓] def uc_frame_Scan_2 := @unC _ _ c_frame_Scan_2.eq_1
def r_frame_Scan_3 : List I := [⟨some 9, .assign (.tmp 21), none⟩]
@[go_sem ↓] def ur_frame_Scan_3 := @unI _ _ r_frame_Scan_3.eq_1
def c_frame_Scan_4 : C := (.cond (.tmp 31) (.goto 1) .skip)
@[go_sem ↓] def uc_frame_Scan_4 := @unC _ _ c_frame_Scan_4.eq_1
def c_frame_Scan_5 : C := (.seq (.seq (.reg ([⟨some 22, .move (.tmp 9), none⟩, ⟨some 23, .binOp .gtr 141 (.tmp 22) (.const (.int .u32 1000)) 141, none⟩, ⟨some 24, .move (.tmp 23), none⟩, ⟨some 25, .move (.tmp 9), some (24, false)⟩, ⟨some 26, .convert 141 3 (.tmp 25), some (24, false)⟩, ⟨some 27, .move (.tmp 8), some (24, false)⟩, ⟨some 28, .call { callee := .builtin .len, args := #[(.tmp 27)], argTypes := #[22] }, some (24, false)⟩, ⟨some 29, .binOp .sub 3 (.tmp 28) (.const (.int .i64 12)) 3, some (24, false)⟩, ⟨some 30, .binOp .gtr 3 (.tmp 26) (.tmp 29) 3, some (24, false)⟩, ⟨some 31, .pick (.tmp 24) (.const (.bool true)) (.tmp 30), none⟩])) (.keep [0, 5, 6, 7, 8, 31])) c_frame_Scan_4)
@[go_sem ↓] def uc_frame_Scan_5 := @unC _ _ c_frame_Scan_5.eq_1
def r_frame_Scan_6 : List I := [⟨some 43, .build 100 #[(0, (.tmp 35)), (1, (.tmp 42))], none⟩, ⟨none, .store 100 (.tmp 6) (.tmp 43), none⟩]
@[go_sem ↓] def ur_frame_Scan_6 := @unI _ _ r_frame_Scan_6.eq_1
def r_frame_Scan_7 : List I := ⟨some 39, .convert 141 3 (.tmp 38), none⟩ :: ⟨some 40, .binOp .add 3 (.const (.int .i64 12)) (.tmp 39) 3, none⟩ :: ⟨some 41, .slice 22 (.tmp 36) (some (.const (.int .i64 12))) (some (.tmp 40)) none, none⟩ :: ⟨some 42, .call { callee := .value (.func 104), args := #[(.tmp 41)], argTypes := #[22] }, none⟩ :: r_frame_Scan_6
@[go_sem ↓] def ur_frame_Scan_7 := @unI _ _ r_frame_Scan_7.eq_1
def r_frame_Scan_8 : List I := ⟨some 35, .convert 141 3 (.tmp 34), none⟩ :: ⟨some 36, .move (.tmp 8), none⟩ :: ⟨some 37, .move (.tmp 8), none⟩ :: ⟨some 38, .call { callee := .value (.func 103), args := #[(.tmp 37)], argTypes := #[22] }, none⟩ :: r_frame_Scan_7
@[go_sem ↓] def ur_frame_Scan_8 := @unI _ _ r_frame_Scan_8.eq_1
def d_frame_Scan_9 : List D := [⟨⟨some 56, .binOp .neq 141 (.tmp 50) (.tmp 55) 141, some (47, false)⟩, []⟩, ⟨⟨some 57, .pick (.tmp 47) (.const (.bool true)) (.tmp 56), none⟩, []⟩]
@[go_sem ↓] def ud_frame_Scan_9 := @unD _ _ d_frame_Scan_9.eq_1
def d_frame_Scan_10 : List D := ⟨⟨some 51, .move (.tmp 8), some (47, false)⟩, [4, 5, 6]⟩ :: ⟨⟨some 52, .slice 22 (.tmp 51) none (some (.const (.int .i64 8))) none, some (47, false)⟩, [4, 5, 6]⟩ :: ⟨⟨some 53, .fieldAddr 100 (.tmp 6) 1, some (47, false)⟩, [4, 5, 6, 7, 8]⟩ :: ⟨⟨some 54, .load 22 (.tmp 53), some (47, false)⟩, [4, 5, 6, 7, 8]⟩ :: ⟨⟨some 55, .call { callee := .value (.func 105), args := #[(.tmp 52), (.tmp 54)], argTypes := #[22, 22] }, some (47, false)⟩, []⟩ :: d_frame_Scan_9
@[go_sem ↓] def ud_frame_Scan_10 := @unD _ _ d_frame_Scan_10.eq_1
def c_frame_Scan_11 : C := (.cond (.tmp 57) (.goto 1) .skip)
@[go_sem ↓] def uc_frame_Scan_11 := @unC _ _ c_frame_Scan_11.eq_1
def c_frame_Scan_12 : C := (.cond (.tmp 73) (.goto 1) .skip)
@[go_sem ↓] def uc_frame_Scan_12 := @unC _ _ c_frame_Scan_12.eq_1
def c_frame_Scan_13 : C := (.seq (.seq (.draw ([⟨⟨some 60, .move (.tmp 10), none⟩, []⟩, ⟨⟨some 61, .binOp .gtr 3 (.tmp 60) (.const (.int .i64 0)) 3, none⟩, []⟩, ⟨⟨some 62, .move (.tmp 61), none⟩, []⟩, ⟨⟨some 63, .move (.tmp 5), some (62, true)⟩, []⟩, ⟨⟨some 64, .move (.tmp 10), some (62, true)⟩, [3]⟩, ⟨⟨some 65, .binOp .sub 3 (.tmp 64) (.const (.int .i64 1)) 3, some (62, true)⟩, [3]⟩, ⟨⟨some 66, .indexAddr 34 (.tmp 63) (.tmp 65), some (62, true)⟩, []⟩, ⟨⟨some 67, .fieldAddr 100 (.tmp 66) 0, some (62, true)⟩, []⟩, ⟨⟨some 68, .load 3 (.tmp 67), some (62, true)⟩, []⟩, ⟨⟨some 69, .binOp .add 3 (.tmp 68) (.const (.int .i64 1)) 3, some (62, true)⟩, []⟩, ⟨⟨some 70, .fieldAddr 100 (.tmp 6) 0, some (62, true)⟩, [3, 4, 5, 6, 7, 8, 9]⟩, ⟨⟨some 71, .load 3 (.tmp 70), some (62, true)⟩, [3, 4, 5, 6, 7, 8, 9]⟩, ⟨⟨some 72, .binOp .neq 3 (.tmp 69) (.tmp 71) 3, some (62, true)⟩, []⟩, ⟨⟨some 73, .pick (.tmp 62) (.tmp 72) (.const (.bool false)), none⟩, []⟩])) (.keep [0, 5, 6, 7, 73])) c_frame_Scan_12)
@[go_sem ↓] def uc_frame_Scan_13 := @unC _ _ c_frame_Scan_13.eq_1
def c_frame_Scan_14 : C := (.seq (.seq (.reg ([⟨some 84, .move (.tmp 5), none⟩, ⟨some 85, .move (.tmp 7), none⟩, ⟨some 2, .assign (.tmp 84), none⟩, ⟨some 3, .assign (.tmp 85), none⟩, ⟨some 4, .assign (.const (.int .i64 0)), none⟩])) (.keep [2, 3, 4])) .ret)
@[go_sem ↓] def uc_frame_Scan_14 := @unC _ _ c_frame_Scan_14.eq_1
def c_frame_Scan_15 : C := (.seq .label c_frame_Scan_14)
@[go_sem ↓] def uc_frame_Scan_15 := @unC _ _ c_frame_Scan_15.eq_1
def c_frame_Scan_16 : C := (.seq (.goto 0) c_frame_Scan_15)
@[go_sem ↓] def uc_frame_Scan_16 := @unC _ _ c_frame_Scan_16.eq_1
def c_frame_Scan_17 : C := (.seq (.seq (.reg ([⟨some 78, .move (.tmp 7), none⟩, ⟨some 79, .fieldAddr 100 (.tmp 6) 1, none⟩, ⟨some 80, .load 22 (.tmp 79), none⟩, ⟨some 81, .call { callee := .builtin .len, args := #[(.tmp 80)], argTypes := #[22] }, none⟩, ⟨some 82, .binOp .add 3 (.const (.int .i64 12)) (.tmp 81) 3, none⟩, ⟨some 83, .binOp .add 3 (.tmp 78) (.tmp 82) 3, none⟩, ⟨some 7, .assign (.tmp 83), none⟩])) (.keep [0, 5, 6, 7])) c_frame_Scan_16)
@[go_sem ↓] def uc_frame_Scan_17 := @unC _ _ c_frame_Scan_17.eq_1
def c_frame_Scan_18 : C := (.seq (.seq (.reg ([⟨some 74, .move (.tmp 5), none⟩, ⟨some 75, .load 100 (.tmp 6), none⟩, ⟨some 76, .buildSlice 34 1 #[(0, (.tmp 75))], none⟩, ⟨some 77, .call { callee := .builtin .append, args := #[(.tmp 74), (.tmp 76)], argTypes := #[34, 34] }, none⟩, ⟨some 5, .assign (.tmp 77), none⟩])) (.keep [0, 5, 6, 7])) c_frame_Scan_17)
@[go_sem ↓] def uc_frame_Scan_18 := @unC _ _ c_frame_Scan_18.eq_1
def c_frame_Scan_19 : C := (.seq (.seq (.seq (.reg ([⟨some 58, .move (.tmp 5), none⟩, ⟨some 59, .call { callee := .builtin .len, args := #[(.tmp 58)], argTypes := #[34] }, none⟩, ⟨some 10, .assign (.tmp 59), none⟩])) (.keep [0, 5, 6, 7, 10])) c_frame_Scan_13) c_frame_Scan_18)
@[go_sem ↓] def uc_frame_Scan_19 := @unC _ _ c_frame_Scan_19.eq_1
def c_frame_Scan_20 : C := (.seq (.seq (.seq (.draw (⟨⟨some 44, .fieldAddr 100 (.tmp 6) 0, none⟩, []⟩ :: ⟨⟨some 45, .load 3 (.tmp 44), none⟩, []⟩ :: ⟨⟨some 46, .binOp .gtr 3 (.tmp 45) (.const (.int .i64 1000000000)) 3, none⟩, []⟩ :: ⟨⟨some 47, .move (.tmp 46), none⟩, []⟩ :: ⟨⟨some 48, .move (.tmp 8), some (47, false)⟩, []⟩ :: ⟨⟨some 49, .slice 22 (.tmp 48) (some (.const (.int .i64 8))) none none, some (47, false)⟩, []⟩ :: ⟨⟨some 50, .call { callee := .value (.func 103), args := #[(.tmp 49)], argTypes := #[22] }, some (47, false)⟩, []⟩ :: d_frame_Scan_10)) (.keep [0, 5, 6, 7, 57])) c_frame_Scan_11) c_frame_Scan_19)
@[go_sem ↓] def uc_frame_Scan_20 := @unC _ _ c_frame_Scan_20.eq_1
def c_frame_Scan_21 : C := (.seq (.seq (.reg (⟨some 32, .move (.tmp 8), none⟩ :: ⟨some 33, .slice 22 (.tmp 32) (some (.const (.int .i64 4))) none none, none⟩ :: ⟨some 34, .call { callee := .value (.func 103), args := #[(.tmp 33)], argTypes := #[22] }, none⟩ :: r_frame_Scan_8)) (.keep [0, 5, 6, 7, 8])) c_frame_Scan_20)
@[go_sem ↓] def uc_frame_Scan_21 := @unC _ _ c_frame_Scan_21.eq_1
def c_frame_Scan_22 : C := (.seq (.seq (.seq (.reg (⟨some 20, .move (.tmp 8), none⟩ :: ⟨some 21, .call { callee := .value (.func 103), args := #[(.tmp 20)], argTypes := #[22] }, none⟩ :: r_frame_Scan_3)) (.keep [0, 5, 6, 7, 8, 9])) c_frame_Scan_5) c_frame_Scan_21)
@[go_sem ↓] def uc_frame_Scan_22 := @unC _ _ c_frame_Scan_22.eq_1
def c_frame_Scan_23 : C := (.seq (.seq (.seq (.reg ([⟨some 17, .move (.tmp 8), none⟩, ⟨some 18, .call { callee := .builtin .len, args := #[(.tmp 17)], argTypes := #[22] }, none⟩, ⟨some 19, .binOp .lss 3 (.tmp 18) (.const (.int .i64 12)) 3, none⟩])) (.keep [0, 5, 6, 7, 8, 19])) c_frame_Scan_2) c_frame_Scan_22)
@[go_sem ↓] def uc_frame_Scan_23 := @unC _ _ c_frame_Scan_23.eq_1
def c_frame_Scan_24 : C := (.seq (.seq (.reg ([⟨some 14, .move (.tmp 0), none⟩, ⟨some 15, .move (.tmp 7), none⟩, ⟨some 16, .slice 22 (.tmp 14) (some (.tmp 15)) none none, none⟩, ⟨some 8, .assign (.tmp 16), none⟩])) (.keep [0, 5, 6, 7, 8])) c_frame_Scan_23)
@[go_sem ↓] def uc_frame_Scan_24 := @unC _ _ c_frame_Scan_24.eq_1
def c_frame_Scan_25 : C := (.seq .label c_frame_Scan_24)
@[go_sem ↓] def uc_frame_Scan_25 := @unC _ _ c_frame_Scan_25.eq_1
def c_frame_Scan_26 : C := (.seq (.seq (.reg ([⟨some 7, .assign (.const (.int .i64 0)), none⟩])) (.keep [0, 5, 6, 7])) c_frame_Scan_25)
@[go_sem ↓] def uc_frame_Scan_26 := @unC _ _ c_frame_Scan_26.eq_1
def c_frame_Scan_27 : C := (.seq (.seq (.reg ([⟨some 6, .alloc 100, none⟩])) (.keep [0, 5, 6])) c_frame_Scan_26)
@[go_sem ↓] def uc_frame_Scan_27 := @unC _ _ c_frame_Scan_27.eq_1
def c_frame_Scan_28 : C := (.seq (.seq (.reg ([⟨some 5, .assign (.const (.slice none 0 0)), none⟩])) (.keep [0, 5])) c_frame_Scan_27)
@[go_sem ↓] def uc_frame_Scan_28 := @unC _ _ c_frame_Scan_28.eq_1
def c_frame_Scan_29 : C := (.seq (.seq (.seq (.reg ([⟨some 11, .move (.tmp 0), none⟩, ⟨some 12, .call { callee := .builtin .len, args := #[(.tmp 11)], argTypes := #[22] }, none⟩, ⟨some 13, .binOp .gtr 3 (.tmp 12) (.const (.int .i64 20000)) 3, none⟩])) (.keep [0, 13])) c_frame_Scan_1) c_frame_Scan_28)
@[go_sem ↓] def uc_frame_Scan_29 := @unC _ _ c_frame_Scan_29.eq_1
def c_frame_Scan_30 : C := (.cond (.tmp 19) (.goto 1) .skip)
@[go_sem ↓] def uc_frame_Scan_30 := @unC _ _ c_frame_Scan_30.eq_1
def r_frame_Scan_31 : List I := [⟨some 9, .assign (.tmp 21), none⟩]
@[go_sem ↓] def ur_frame_Scan_31 := @unI _ _ r_frame_Scan_31.eq_1
def c_frame_Scan_32 : C := (.cond (.tmp 31) (.goto 1) .skip)
@[go_sem ↓] def uc_frame_Scan_32 := @unC _ _ c_frame_Scan_32.eq_1
def c_frame_Scan_33 : C := (.seq (.seq (.reg ([⟨some 22, .move (.tmp 9), none⟩, ⟨some 23, .binOp .gtr 141 (.tmp 22) (.const (.int .u32 1000)) 141, none⟩, ⟨some 24, .move (.tmp 23), none⟩, ⟨some 25, .move (.tmp 9), some (24, false)⟩, ⟨some 26, .convert 141 3 (.tmp 25), some (24, false)⟩, ⟨some 27, .move (.tmp 8), some (24, false)⟩, ⟨some 28, .call { callee := .builtin .len, args := #[(.tmp 27)], argTypes := #[22] }, some (24, false)⟩, ⟨some 29, .binOp .sub 3 (.tmp 28) (.const (.int .i64 12)) 3, some (24, false)⟩, ⟨some 30, .binOp .gtr 3 (.tmp 26) (.tmp 29) 3, some (24, false)⟩, ⟨some 31, .pick (.tmp 24) (.const (.bool true)) (.tmp 30), none⟩])) (.keep [0, 5, 6, 7, 8, 31])) c_frame_Scan_32)
@[go_sem ↓] def uc_frame_Scan_33 := @unC _ _ c_frame_Scan_33.eq_1
def r_frame_Scan_34 : List I := [⟨some 43, .build 100 #[(0, (.tmp 35)), (1, (.tmp 42))], none⟩, ⟨none, .store 100 (.tmp 6) (.tmp 43), none⟩]
@[go_sem ↓] def ur_frame_Scan_34 := @unI _ _ r_frame_Scan_34.eq_1
def r_frame_Scan_35 : List I := ⟨some 39, .convert 141 3 (.tmp 38), none⟩ :: ⟨some 40, .binOp .add 3 (.const (.int .i64 12)) (.tmp 39) 3, none⟩ :: ⟨some 41, .slice 22 (.tmp 36) (some (.const (.int .i64 12))) (some (.tmp 40)) none, none⟩ :: ⟨some 42, .call { callee := .value (.func 104), args := #[(.tmp 41)], argTypes := #[22] }, none⟩ :: r_frame_Scan_34
@[go_sem ↓] def ur_frame_Scan_35 := @unI _ _ r_frame_Scan_35.eq_1
def r_frame_Scan_36 : List I := ⟨some 35, .convert 141 3 (.tmp 34), none⟩ :: ⟨some 36, .move (.tmp 8), none⟩ :: ⟨some 37, .move (.tmp 8), none⟩ :: ⟨some 38, .call { callee := .value (.func 103), args := #[(.tmp 37)], argTypes := #[22] }, none⟩ :: r_frame_Scan_35
@[go_sem ↓] def ur_frame_Scan_36 := @unI _ _ r_frame_Scan_36.eq_1
def d_frame_Scan_37 : List D := [⟨⟨some 56, .binOp .neq 141 (.tmp 50) (.tmp 55) 141, some (47, false)⟩, []⟩, ⟨⟨some 57, .pick (.tmp 47) (.const (.bool true)) (.tmp 56), none⟩, []⟩]
@[go_sem ↓] def ud_frame_Scan_37 := @unD _ _ d_frame_Scan_37.eq_1
def d_frame_Scan_38 : List D := ⟨⟨some 51, .move (.tmp 8), some (47, false)⟩, [4, 5, 6]⟩ :: ⟨⟨some 52, .slice 22 (.tmp 51) none (some (.const (.int .i64 8))) none, some (47, false)⟩, [4, 5, 6]⟩ :: ⟨⟨some 53, .fieldAddr 100 (.tmp 6) 1, some (47, false)⟩, [4, 5, 6, 7, 8]⟩ :: ⟨⟨some 54, .load 22 (.tmp 53), some (47, false)⟩, [4, 5, 6, 7, 8]⟩ :: ⟨⟨some 55, .call { callee := .value (.func 105), args := #[(.tmp 52), (.tmp 54)], argTypes := #[22, 22] }, some (47, false)⟩, []⟩ :: d_frame_Scan_37
@[go_sem ↓] def ud_frame_Scan_38 := @unD _ _ d_frame_Scan_38.eq_1
def c_frame_Scan_39 : C := (.cond (.tmp 57) (.goto 1) .skip)
@[go_sem ↓] def uc_frame_Scan_39 := @unC _ _ c_frame_Scan_39.eq_1
def c_frame_Scan_40 : C := (.cond (.tmp 73) (.goto 1) .skip)
@[go_sem ↓] def uc_frame_Scan_40 := @unC _ _ c_frame_Scan_40.eq_1
def c_frame_Scan_41 : C := (.seq (.seq (.draw ([⟨⟨some 60, .move (.tmp 10), none⟩, []⟩, ⟨⟨some 61, .binOp .gtr 3 (.tmp 60) (.const (.int .i64 0)) 3, none⟩, []⟩, ⟨⟨some 62, .move (.tmp 61), none⟩, []⟩, ⟨⟨some 63, .move (.tmp 5), some (62, true)⟩, []⟩, ⟨⟨some 64, .move (.tmp 10), some (62, true)⟩, [3]⟩, ⟨⟨some 65, .binOp .sub 3 (.tmp 64) (.const (.int .i64 1)) 3, some (62, true)⟩, [3]⟩, ⟨⟨some 66, .indexAddr 34 (.tmp 63) (.tmp 65), some (62, true)⟩, []⟩, ⟨⟨some 67, .fieldAddr 100 (.tmp 66) 0, some (62, true)⟩, []⟩, ⟨⟨some 68, .load 3 (.tmp 67), some (62, true)⟩, []⟩, ⟨⟨some 69, .binOp .add 3 (.tmp 68) (.const (.int .i64 1)) 3, some (62, true)⟩, []⟩, ⟨⟨some 70, .fieldAddr 100 (.tmp 6) 0, some (62, true)⟩, [3, 4, 5, 6, 7, 8, 9]⟩, ⟨⟨some 71, .load 3 (.tmp 70), some (62, true)⟩, [3, 4, 5, 6, 7, 8, 9]⟩, ⟨⟨some 72, .binOp .neq 3 (.tmp 69) (.tmp 71) 3, some (62, true)⟩, []⟩, ⟨⟨some 73, .pick (.tmp 62) (.tmp 72) (.const (.bool false)), none⟩, []⟩])) (.keep [0, 5, 6, 7, 73])) c_frame_Scan_40)
@[go_sem ↓] def uc_frame_Scan_41 := @unC _ _ c_frame_Scan_41.eq_1
def c_frame_Scan_42 : C := (.seq (.seq (.reg ([⟨some 84, .move (.tmp 5), none⟩, ⟨some 85, .move (.tmp 7), none⟩, ⟨some 2, .assign (.tmp 84), none⟩, ⟨some 3, .assign (.tmp 85), none⟩, ⟨some 4, .assign (.const (.int .i64 0)), none⟩])) (.keep [2, 3, 4])) .ret)
@[go_sem ↓] def uc_frame_Scan_42 := @unC _ _ c_frame_Scan_42.eq_1
def c_frame_Scan_43 : C := (.seq .label c_frame_Scan_42)
@[go_sem ↓] def uc_frame_Scan_43 := @unC _ _ c_frame_Scan_43.eq_1
def c_frame_Scan_44 : C := (.seq (.goto 0) c_frame_Scan_43)
@[go_sem ↓] def uc_frame_Scan_44 := @unC _ _ c_frame_Scan_44.eq_1
def c_frame_Scan_45 : C := (.seq (.seq (.reg ([⟨some 78, .move (.tmp 7), none⟩, ⟨some 79, .fieldAddr 100 (.tmp 6) 1, none⟩, ⟨some 80, .load 22 (.tmp 79), none⟩, ⟨some 81, .call { callee := .builtin .len, args := #[(.tmp 80)], argTypes := #[22] }, none⟩, ⟨some 82, .binOp .add 3 (.const (.int .i64 12)) (.tmp 81) 3, none⟩, ⟨some 83, .binOp .add 3 (.tmp 78) (.tmp 82) 3, none⟩, ⟨some 7, .assign (.tmp 83), none⟩])) (.keep [0, 5, 6, 7])) c_frame_Scan_44)
@[go_sem ↓] def uc_frame_Scan_45 := @unC _ _ c_frame_Scan_45.eq_1
def c_frame_Scan_46 : C := (.seq (.seq (.reg ([⟨some 74, .move (.tmp 5), none⟩, ⟨some 75, .load 100 (.tmp 6), none⟩, ⟨some 76, .buildSlice 34 1 #[(0, (.tmp 75))], none⟩, ⟨some 77, .call { callee := .builtin .append, args := #[(.tmp 74), (.tmp 76)], argTypes := #[34, 34] }, none⟩, ⟨some 5, .assign (.tmp 77), none⟩])) (.keep [0, 5, 6, 7])) c_frame_Scan_45)
@[go_sem ↓] def uc_frame_Scan_46 := @unC _ _ c_frame_Scan_46.eq_1
def c_frame_Scan_47 : C := (.seq (.seq (.seq (.reg ([⟨some 58, .move (.tmp 5), none⟩, ⟨some 59, .call { callee := .builtin .len, args := #[(.tmp 58)], argTypes := #[34] }, none⟩, ⟨some 10, .assign (.tmp 59), none⟩])) (.keep [0, 5, 6, 7, 10])) c_frame_Scan_41) c_frame_Scan_46)
@[go_sem ↓] def uc_frame_Scan_47 := @unC _ _ c_frame_Scan_47.eq_1
def c_frame_Scan_48 : C := (.seq (.seq (.seq (.draw (⟨⟨some 44, .fieldAddr 100 (.tmp 6) 0, none⟩, []⟩ :: ⟨⟨some 45, .load 3 (.tmp 44), none⟩, []⟩ :: ⟨⟨some 46, .binOp .gtr 3 (.tmp 45) (.const (.int .i64 1000000000)) 3, none⟩, []⟩ :: ⟨⟨some 47, .move (.tmp 46), none⟩, []⟩ :: ⟨⟨some 48, .move (.tmp 8), some (47, false)⟩, []⟩ :: ⟨⟨some 49, .slice 22 (.tmp 48) (some (.const (.int .i64 8))) none none, some (47, false)⟩, []⟩ :: ⟨⟨some 50, .call { callee := .value (.func 103), args := #[(.tmp 49)], argTypes := #[22] }, some (47, false)⟩, []⟩ :: d_frame_Scan_38)) (.keep [0, 5, 6, 7, 57])) c_frame_Scan_39) c_frame_Scan_47)
@[go_sem ↓] def uc_frame_Scan_48 := @unC _ _ c_frame_Scan_48.eq_1
def c_frame_Scan_49 : C := (.seq (.seq (.reg (⟨some 32, .move (.tmp 8), none⟩ :: ⟨some 33, .slice 22 (.tmp 32) (some (.const (.int .i64 4))) none none, none⟩ :: ⟨some 34, .call { callee := .value (.func 103), args := #[(.tmp 33)], argTypes := #[22] }, none⟩ :: r_frame_Scan_36)) (.keep [0, 5, 6, 7, 8])) c_frame_Scan_48)
@[go_sem ↓] def uc_frame_Scan_49 := @unC _ _ c_frame_Scan_49.eq_1
def c_frame_Scan_50 : C := (.seq (.seq (.seq (.reg (⟨some 20, .move (.tmp 8), none⟩ :: ⟨some 21, .call { callee := .value (.func 103), args := #[(.tmp 20)], argTypes := #[22] }, none⟩ :: r_frame_Scan_31)) (.keep [0, 5, 6, 7, 8, 9])) c_frame_Scan_33) c_frame_Scan_49)
@[go_sem ↓] def uc_frame_Scan_50 := @unC _ _ c_frame_Scan_50.eq_1
def c_frame_Scan_51 : C := (.seq (.seq (.seq (.reg ([⟨some 17, .move (.tmp 8), none⟩, ⟨some 18, .call { callee := .builtin .len, args := #[(.tmp 17)], argTypes := #[22] }, none⟩, ⟨some 19, .binOp .lss 3 (.tmp 18) (.const (.int .i64 12)) 3, none⟩])) (.keep [0, 5, 6, 7, 8, 19])) c_frame_Scan_30) c_frame_Scan_50)
@[go_sem ↓] def uc_frame_Scan_51 := @unC _ _ c_frame_Scan_51.eq_1
def c_frame_Scan_52 : C := (.seq (.seq (.reg ([⟨some 14, .move (.tmp 0), none⟩, ⟨some 15, .move (.tmp 7), none⟩, ⟨some 16, .slice 22 (.tmp 14) (some (.tmp 15)) none none, none⟩, ⟨some 8, .assign (.tmp 16), none⟩])) (.keep [0, 5, 6, 7, 8])) c_frame_Scan_51)
@[go_sem ↓] def uc_frame_Scan_52 := @unC _ _ c_frame_Scan_52.eq_1
def c_frame_Scan_53 : C := (.seq .skip c_frame_Scan_52)
@[go_sem ↓] def uc_frame_Scan_53 := @unC _ _ c_frame_Scan_53.eq_1
def c_frame_Scan_54 : C := (.seq (.seq (.reg ([⟨some 84, .move (.tmp 5), none⟩, ⟨some 85, .move (.tmp 7), none⟩, ⟨some 2, .assign (.tmp 84), none⟩, ⟨some 3, .assign (.tmp 85), none⟩, ⟨some 4, .assign (.const (.int .i64 0)), none⟩])) (.keep [2, 3, 4])) .ret)
@[go_sem ↓] def uc_frame_Scan_54 := @unC _ _ c_frame_Scan_54.eq_1
def c_frame_Scan_55 : C := (.seq .skip c_frame_Scan_54)
@[go_sem ↓] def uc_frame_Scan_55 := @unC _ _ c_frame_Scan_55.eq_1
def c_frame_Scan_56 : C := (.scope [(5, 2)] [0, 5, 6, 7] c_frame_Scan_29 [(0, c_frame_Scan_53), (1, c_frame_Scan_55)])
@[go_sem ↓] def uc_frame_Scan_56 := @unC _ _ c_frame_Scan_56.eq_1
def c_frame_Scan : C := (.seq (.seq (.reg ([⟨some 2, .assign (.const (.slice none 0 0)), none⟩, ⟨some 3, .assign (.const (.int .i64 0)), none⟩, ⟨some 4, .assign (.const (.int .i64 0)), none⟩])) (.keep [0])) c_frame_Scan_56)
attribute [go_sem ↓] c_frame_Scan
def h_frame_Scan : List Hint := [⟨[], [0], []⟩, ⟨[(5, 2)], [0, 5, 6, 7], [0, 1]⟩, ⟨[], [0, 13], []⟩, ⟨[], [2, 3, 4], []⟩, ⟨[], [0, 5], []⟩, ⟨[], [0, 5, 6], []⟩, ⟨[], [0, 5, 6, 7], []⟩, ⟨[], [0, 5, 6, 7, 8], []⟩, ⟨[], [0, 5, 6, 7, 8, 19], []⟩, ⟨[], [0, 5, 6, 7, 8, 9], []⟩, ⟨[], [0, 5, 6, 7, 8, 31], []⟩, ⟨[], [0, 5, 6, 7, 8], []⟩, ⟨[], [0, 5, 6, 7, 57], []⟩, ⟨[], [0, 5, 6, 7, 10], []⟩, ⟨[], [0, 5, 6, 7, 73], []⟩, ⟨[], [0, 5, 6, 7], []⟩, ⟨[], [0, 5, 6, 7], []⟩, ⟨[], [2, 3, 4], []⟩, ⟨[], [0, 5, 6, 7, 8], []⟩, ⟨[], [0, 5, 6, 7, 8, 19], []⟩, ⟨[], [0, 5, 6, 7, 8, 9], []⟩, ⟨[], [0, 5, 6, 7, 8, 31], []⟩, ⟨[], [0, 5, 6, 7, 8], []⟩, ⟨[], [0, 5, 6, 7, 57], []⟩, ⟨[], [0, 5, 6, 7, 10], []⟩, ⟨[], [0, 5, 6, 7, 73], []⟩, ⟨[], [0, 5, 6, 7], []⟩, ⟨[], [0, 5, 6, 7], []⟩, ⟨[], [2, 3, 4], []⟩, ⟨[], [2, 3, 4], []⟩]
theorem b_frame_Scan : Body Try.prog 75 [] h_frame_Scan c_frame_Scan 86 [.tmp 2, .tmp 3, .tmp 4] := body_of Try.func75 (by kernel_rfl) (by kernel_rfl) (by kernel_rfl) (by kernel_rfl)
def c_frame_Encode : C := (.seq (.seq (.reg ([⟨some 1, .box 100 (.tmp 0), none⟩, ⟨some 2, .assign (.const (.slice none 0 0)), none⟩, ⟨some 3, .assign (.const (.int .i64 0)), none⟩])) (.keep [1])) (.seq (.seq (.seq (.reg ([⟨some 4, .load 100 (.tmp 1), none⟩, ⟨some 5, .call { callee := .value (.func 109), args := #[(.tmp 4)], argTypes := #[100] }, none⟩, ⟨some 6, .unOp .not 4 (.tmp 5), none⟩])) (.keep [1, 6])) (.cond (.tmp 6) (.seq (.seq (.reg ([⟨some 2, .assign (.const (.slice none 0 0)), none⟩, ⟨some 3, .assign (.const (.int .i64 8)), none⟩])) (.keep [2, 3])) .ret) .skip)) (.seq (.seq (.reg ([⟨some 7, .load 100 (.tmp 1), none⟩, ⟨some 8, .call { callee := .value (.func 110), args := #[(.const (.slice none 0 0)), (.tmp 7)], argTypes := #[22, 100] }, none⟩, ⟨some 2, .assign (.tmp 8), none⟩, ⟨some 3, .assign (.const (.int .i64 0)), none⟩])) (.keep [2, 3])) .ret)))
attribute [go_sem ↓] c_frame_Encode
def h_frame_Encode : List Hint := [⟨[], [1], []⟩, ⟨[], [1, 6], []⟩, ⟨[], [2, 3], []⟩, ⟨[], [2, 3], []⟩]
theorem b_frame_Encode : Body Try.prog 87 [] h_frame_Encode c_frame_Encode 9 [.tmp 2, .tmp 3] := body_of Try.func87 (by kernel_rfl) (by kernel_rfl) (by kernel_rfl) (by kernel_rfl)
def c_ref03_Bytes : C := (.seq (.seq (.reg ([⟨some 1, .box 100 (.tmp 0), none⟩, ⟨some 2, .assign (.const (.slice none 0 0)), none⟩])) (.keep [1])) (.seq (.seq (.draw ([⟨⟨some 5, .fieldAddr 100 (.tmp 1) 1, none⟩, []⟩, ⟨⟨some 6, .load 22 (.tmp 5), none⟩, []⟩, ⟨⟨some 7, .call { callee := .builtin .len, args := #[(.tmp 6)], argTypes := #[22] }, none⟩, []⟩, ⟨⟨some 8, .convert 3 141 (.tmp 7), none⟩, []⟩, ⟨⟨some 9, .call { callee := .value (.func 111), args := #[(.tmp 8)], argTypes := #[141] }, none⟩, []⟩, ⟨⟨some 10, .fieldAddr 100 (.tmp 1) 0, none⟩, [0, 1, 2, 3, 4]⟩, ⟨⟨some 11, .load 3 (.tmp 10), none⟩, [0, 1, 2, 3, 4]⟩, ⟨⟨some 12, .convert 3 141 (.tmp 11), none⟩, [0, 1, 2, 3, 4]⟩, ⟨⟨some 13, .call { callee := .value (.func 111), args := #[(.tmp 12)], argTypes := #[141] }, none⟩, []⟩, ⟨⟨some 14, .call { callee := .builtin .append, args := #[(.tmp 9), (.tmp 13)], argTypes := #[22, 22] }, none⟩, []⟩, ⟨⟨some 3, .assign (.tmp 14), none⟩, []⟩])) (.keep [1, 3])) (.seq (.seq (.draw ([⟨⟨some 15, .buildSlice 22 0 #[], none⟩, []⟩, ⟨⟨some 16, .move (.tmp 3), none⟩, [0]⟩, ⟨⟨some 17, .call { callee := .builtin .append, args := #[(.tmp 15), (.tmp 16)], argTypes := #[22, 22] }, none⟩, []⟩, ⟨⟨some 18, .fieldAddr 100 (.tmp 1) 1, none⟩, [0, 1, 2]⟩, ⟨⟨some 19, .load 22 (.tmp 18), none⟩, [0, 1, 2]⟩, ⟨⟨some 20, .call { callee := .builtin .append, args := #[(.tmp 17), (.tmp 19)], argTypes := #[22, 22] }, none⟩, []⟩, ⟨⟨some 21, .call { callee := .value (.func 112), args := #[(.tmp 20)], argTypes := #[22] }, none⟩, []⟩, ⟨⟨some 4, .assign (.tmp 21), none⟩, []⟩])) (.keep [1, 3, 4])) (.seq (.seq (.draw ([⟨⟨some 22, .move (.tmp 3), none⟩, []⟩, ⟨⟨some 23, .move (.tmp 4), none⟩, [0]⟩, ⟨⟨some 24, .call { callee := .value (.func 111), args := #[(.tmp 23)], argTypes := #[141] }, none⟩, [0]⟩, ⟨⟨some 25, .call { callee := .builtin .append, args := #[(.tmp 22), (.tmp 24)], argTypes := #[22, 22] }, none⟩, []⟩, ⟨⟨some 26, .fieldAddr 100 (.tmp 1) 1, none⟩, [0, 1, 2, 3]⟩, ⟨⟨some 27, .load 22 (.tmp 26), none⟩, [0, 1, 2, 3]⟩, ⟨⟨some 28, .call { callee := .builtin .append, args := #[(.tmp 25), (.tmp 27)], argTypes := #[22, 22] }, none⟩, []⟩, ⟨⟨some 2, .assign (.tmp 28), none⟩, []⟩])) (.keep [2])) .ret))))
attribute [go_sem ↓] c_ref03_Bytes
def c_ref03_Found : C := (.seq (.seq (.reg ([⟨some 2, .assign (.const (.slice none 0 0)), none⟩, ⟨some 3, .assign (.const (.int .i64 0)), none⟩])) (.keep [0])) (.seq (.seq (.reg ([⟨some 4, .assign (.const (.slice none 0 0)), none⟩])) (.keep [0, 4])) (.seq (.seq (.reg ([⟨some 5, .assign (.const (.int .i64 0)), none⟩])) (.keep [0, 4, 5])) (.block 0 (.loop [(4, 2)] [0, 4, 5] (.block 1 (.seq (.seq (.reg ([⟨some 9, .move (.tmp 0), none⟩, ⟨some 10, .move (.tmp 5), none⟩, ⟨some 11, .slice 22 (.tmp 9) (some (.tmp 10)) none none, none⟩, ⟨some 12, .call { callee := .value (.func 114), args := #[(.tmp 11)], argTypes := #[22] }, none⟩, ⟨some 8, .move (.tmp 12), none⟩, ⟨some 13, .extract (.tmp 8) 0, none⟩, ⟨some 14, .extract (.tmp 8) 1, none⟩, ⟨some 6, .alloc 100, none⟩, ⟨none, .store 100 (.tmp 6) (.tmp 13), none⟩, ⟨some 7, .assign (.tmp 14), none⟩])) (.keep [0, 4, 5, 6, 7])) (.seq (.seq (.seq (.draw ([⟨⟨some 15, .move (.tmp 7), none⟩, []⟩, ⟨⟨some 16, .unOp .not 4 (.tmp 15), none⟩, []⟩, ⟨⟨some 17, .move (.tmp 16), none⟩, []⟩, ⟨⟨some 18, .move (.tmp 4), some (17, false)⟩, []⟩, ⟨⟨some 19, .call { callee := .builtin .len, args := #[(.tmp 18)], argTypes := #[34] }, some (17, false)⟩, []⟩, ⟨⟨some 20, .binOp .gtr 3 (.tmp 19) (.const (.int .i64 0)) 3, some (17, false)⟩, []⟩, ⟨⟨some 21, .move (.tmp 20), some (17, false)⟩, []⟩, ⟨⟨some 22, .fieldAddr 100 (.tmp 6) 0, some (21, true)⟩, []⟩, ⟨⟨some 23, .load 3 (.tmp 22), some (21, true)⟩, []⟩, ⟨⟨some 24, .move (.tmp 4), some (21, true)⟩, [7, 8]⟩, ⟨⟨some 25, .move (.tmp 4), some (21, true)⟩, [7, 8, 9]⟩, ⟨⟨some 26, .call { callee := .builtin .len, args := #[(.tmp 25)], argTypes := #[34] }, some (21, true)⟩, [7, 8, 9]⟩, ⟨⟨some 27, .binOp .sub 3 (.tmp 26) (.const (.int .i64 1)) 3, some (21, true)⟩, [7, 8, 9]⟩, ⟨⟨some 28, .indexAddr 34 (.tmp 24) (.tmp 27), some (21, true)⟩, [7, 8]⟩, ⟨⟨some 29, .fieldAddr 100 (.tmp 28) 0, some (21, true)⟩, [7, 8]⟩, ⟨⟨some 30, .load 3 (.tmp 29), some (21, true)⟩, [7, 8]⟩, ⟨⟨some 31, .binOp .add 3 (.tmp 30) (.const (.int .i64 1)) 3, some (21, true)⟩, [7, 8]⟩, ⟨⟨some 32, .binOp .neq 3 (.tmp 23) (.tmp 31) 3, some (21, true)⟩, []⟩, ⟨⟨some 33, .pick (.tmp 21) (.tmp 32) (.const (.bool false)), some (17, false)⟩, []⟩, ⟨⟨some 34, .pick (.tmp 17) (.const (.bool true)) (.tmp 33), none⟩, []⟩])) (.keep [0, 4, 5, 6, 34])) (.cond (.tmp 34) (.seq (.seq (.reg ([⟨some 35, .move (.tmp 4), none⟩, ⟨some 36, .move (.tmp 5), none⟩, ⟨some 2, .assign (.tmp 35), none⟩, ⟨some 3, .assign (.tmp 36), none⟩])) (.keep [2, 3])) .ret) .skip)) (.seq (.seq (.reg ([⟨some 37, .move (.tmp 4), none⟩, ⟨some 38, .load 100 (.tmp 6), none⟩, ⟨some 39, .buildSlice 34 1 #[(0, (.tmp 38))], none⟩, ⟨some 40, .call { callee := .builtin .append, args := #[(.tmp 37), (.tmp 39)], argTypes := #[34, 34] }, none⟩, ⟨some 4, .assign (.tmp 40), none⟩])) (.keep [0, 4, 5, 6])) (.seq (.reg ([⟨some 41, .move (.tmp 5), none⟩, ⟨some 42, .fieldAddr 100 (.tmp 6) 1, none⟩, ⟨some 43, .load 22 (.tmp 42), none⟩, ⟨some 44, .call { callee := .builtin .len, args := #[(.tmp 43)], argTypes := #[22] }, none⟩, ⟨some 45, .binOp .add 3 (.const (.int .i64 12)) (.tmp 44) 3, none⟩, ⟨some 46, .binOp .add 3 (.tmp 41) (.tmp 45) 3, none⟩, ⟨some 5, .assign (.tmp 46), none⟩])) (.keep [0, 4, 5])))))))))))
attribute [go_sem ↓] c_ref03_Found
def c_frame_get : C := (.seq (.seq (.reg ([⟨some 2, .assign (.const (.int .u32 0)), none⟩])) (.keep [0])) (.seq (.seq (.reg ([⟨some 3, .assign (.const (.int .u32 0)), none⟩])) (.keep [0, 3])) (.seq (.seq (.seq (.reg ([⟨some 6, .move (.tmp 0), none⟩, ⟨some 7, .slice 22 (.tmp 6) none (some (.const (.int .i64 4))) none, none⟩, ⟨some 8, .call { callee := .builtin .len, args := #[(.tmp 7)], argTypes := #[22] }, none⟩, ⟨some 9, .move (.const (.int .i64 0)), none⟩])) (.keep [3, 7, 8, 9])) (.block 0 (.loop [] [3, 7, 8, 9] (.seq (.seq (.reg ([⟨some 10, .binOp .lss 3 (.tmp 9) (.tmp 8) 3, none⟩])) (.keep [3, 7, 8, 9, 10])) (.seq (.cond (.tmp 10) .skip (.exit 0)) (.seq (.block 1 (.seq (.seq (.reg ([⟨some 11, .move (.tmp 9), none⟩, ⟨some 12, .indexAddr 22 (.tmp 7) (.tmp 9), none⟩, ⟨some 13, .load 5 (.tmp 12), none⟩, ⟨some 4, .assign (.tmp 11), none⟩, ⟨some 5, .assign (.tmp 13), none⟩])) (.keep [3, 4, 5, 7, 8, 9])) (.seq (.reg ([⟨some 14, .move (.tmp 3), none⟩, ⟨some 15, .move (.tmp 5), none⟩, ⟨some 16, .convert 5 141 (.tmp 15), none⟩, ⟨some 17, .move (.tmp 4), none⟩, ⟨some 18, .binOp .mul 3 (.const (.int .i64 8)) (.tmp 17) 3, none⟩, ⟨some 19, .binOp .shl 141 (.tmp 16) (.tmp 18) 3, none⟩, ⟨some 20, .binOp .or 141 (.tmp 14) (.tmp 19) 141, none⟩, ⟨some 3, .assign (.tmp 20), none⟩])) (.keep [3, 7, 8, 9])))) (.seq (.reg ([⟨some 21, .binOp .add 3 (.tmp 9) (.const (.int .i64 1)) 3, none⟩, ⟨some 9, .move (.tmp 21), none⟩])) (.keep [3, 7, 8, 9])))))))) (.seq (.seq (.reg ([⟨some 22, .move (.tmp 3), none⟩, ⟨some 2, .assign (.tmp 22), none⟩])) (.keep [2])) .ret))))
attribute [go_sem ↓] c_frame_get
def h_frame_get : List Hint := [⟨[], [0], []⟩, ⟨[], [0, 3], []⟩, ⟨[], [3, 7, 8, 9], []⟩, ⟨[], [3, 7, 8, 9], []⟩, ⟨[], [3, 7, 8, 9, 10], []⟩, ⟨[], [3, 4, 5, 7, 8, 9], []⟩, ⟨[], [3, 7, 8, 9], []⟩, ⟨[], [3, 7, 8, 9], []⟩, ⟨[], [2], []⟩]
theorem b_frame_get : Body Try.prog 103 [] h_frame_get c_frame_get 23 [.tmp 2] := body_of Try.func103 (by kernel_rfl) (by kernel_rfl) (by kernel_rfl) (by kernel_rfl)
def c_frame_sum : C := (.seq (.seq (.reg ([⟨some 4, .assign (.const (.int .u32 0)), none⟩])) (.keep [0, 1])) (.seq (.seq (.reg ([⟨some 8, .move (.tmp 0), none⟩, ⟨some 9, .call { callee := .value (.func 117), args := #[(.tmp 8)], argTypes := #[22] }, none⟩, ⟨some 7, .move (.tmp 9), none⟩, ⟨some 10, .extract (.tmp 7) 0, none⟩, ⟨some 11, .extract (.tmp 7) 1, none⟩, ⟨some 5, .assign (.tmp 10), none⟩, ⟨some 6, .assign (.tmp 11), none⟩])) (.keep [1, 5])) (.seq (.seq (.reg ([⟨some 13, .move (.tmp 5), none⟩, ⟨some 14, .move (.tmp 1), none⟩, ⟨some 15, .call { callee := .value (.func 118), args := #[(.tmp 13), (.tmp 14)], argTypes := #[141, 22] }, none⟩, ⟨some 12, .move (.tmp 15), none⟩, ⟨some 16, .extract (.tmp 12) 0, none⟩, ⟨some 17, .extract (.tmp 12) 1, none⟩, ⟨some 5, .assign (.tmp 16), none⟩])) (.keep [5])) (.seq (.seq (.reg ([⟨some 18, .move (.tmp 5), none⟩, ⟨some 4, .assign (.tmp 18), none⟩])) (.keep [4])) .ret))))
attribute [go_sem ↓] c_frame_sum
def h_frame_sum : List Hint := [⟨[], [0, 1], []⟩, ⟨[], [1, 5], []⟩, ⟨[], [5], []⟩, ⟨[], [4], []⟩]
theorem b_frame_sum : Body Try.prog 105 [] h_frame_sum c_frame_sum 19 [.tmp 4] := body_of Try.func105 (by kernel_rfl) (by kernel_rfl) (by kernel_rfl) (by kernel_rfl)
def c_frame_valid : C := (.seq (.seq (.reg ([⟨some 1, .box 100 (.tmp 0), none⟩, ⟨some 2, .assign (.const (.bool false)), none⟩])) (.keep [1])) (.seq (.seq (.reg ([⟨some 3, .fieldAddr 100 (.tmp 1) 0, none⟩, ⟨some 4, .load 3 (.tmp 3), none⟩, ⟨some 5, .binOp .leq 3 (.const (.int .i64 0)) (.tmp 4) 3, none⟩, ⟨some 6, .move (.tmp 5), none⟩, ⟨some 7, .fieldAddr 100 (.tmp 1) 0, some (6, true)⟩, ⟨some 8, .load 3 (.tmp 7), some (6, true)⟩, ⟨some 9, .binOp .leq 3 (.tmp 8) (.const (.int .i64 1000000000)) 3, some (6, true)⟩, ⟨some 10, .pick (.tmp 6) (.tmp 9) (.const (.bool false)), none⟩, ⟨some 11, .move (.tmp 10), none⟩, ⟨some 12, .fieldAddr 100 (.tmp 1) 1, some (11, true)⟩, ⟨some 13, .load 22 (.tmp 12), some (11, true)⟩, ⟨some 14, .call { callee := .builtin .len, args := #[(.tmp 13)], argTypes := #[22] }, some (11, true)⟩, ⟨some 15, .binOp .leq 3 (.tmp 14) (.const (.int .i64 1000)) 3, some (11, true)⟩, ⟨some 16, .pick (.tmp 11) (.tmp 15) (.const (.bool false)), none⟩, ⟨some 2, .assign (.tmp 16), none⟩])) (.keep [2])) .ret))
attribute [go_sem ↓] c_frame_valid
def h_frame_valid : List Hint := [⟨[], [1], []⟩, ⟨[], [2], []⟩]
theorem b_frame_valid : Body Try.prog 109 [] h_frame_valid c_frame_valid 17 [.tmp 2] := body_of Try.func109 (by kernel_rfl) (by kernel_rfl) (by kernel_rfl) (by kernel_rfl)
def c_frame_write : C := (.seq (.seq (.reg ([⟨some 3, .box 100 (.tmp 1), none⟩, ⟨some 4, .assign (.const (.slice none 0 0)), none⟩])) (.keep [0, 3])) (.seq (.seq (.draw ([⟨⟨some 6, .fieldAddr 100 (.tmp 3) 1, none⟩, []⟩, ⟨⟨some 7, .load 22 (.tmp 6), none⟩, []⟩, ⟨⟨some 8, .call { callee := .builtin .len, args := #[(.tmp 7)], argTypes := #[22] }, none⟩, []⟩, ⟨⟨some 9, .convert 3 141 (.tmp 8), none⟩, []⟩, ⟨⟨some 10, .call { callee := .value (.func 119), args := #[(.const (.slice none 0 0)), (.tmp 9)], argTypes := #[22, 141] }, none⟩, []⟩, ⟨⟨some 11, .fieldAddr 100 (.tmp 3) 0, none⟩, [0, 1, 2, 3, 4]⟩, ⟨⟨some 12, .load 3 (.tmp 11), none⟩, [0, 1, 2, 3, 4]⟩, ⟨⟨some 13, .convert 3 141 (.tmp 12), none⟩, [0, 1, 2, 3, 4]⟩, ⟨⟨some 14, .call { callee := .value (.func 119), args := #[(.tmp 10), (.tmp 13)], argTypes := #[22, 141] }, none⟩, []⟩, ⟨⟨some 5, .assign (.tmp 14), none⟩, []⟩])) (.keep [0, 3, 5])) (.seq (.seq (.draw ([⟨⟨some 15, .move (.tmp 0), none⟩, []⟩, ⟨⟨some 16, .move (.tmp 5), none⟩, [0]⟩, ⟨⟨some 17, .move (.tmp 5), none⟩, [0, 1]⟩, ⟨⟨some 18, .fieldAddr 100 (.tmp 3) 1, none⟩, [0, 1, 2]⟩, ⟨⟨some 19, .load 22 (.tmp 18), none⟩, [0, 1, 2]⟩, ⟨⟨some 20, .call { callee := .value (.func 105), args := #[(.tmp 17), (.tmp 19)], argTypes := #[22, 22] }, none⟩, [0, 1]⟩, ⟨⟨some 21, .call { callee := .value (.func 119), args := #[(.tmp 16), (.tmp 20)], argTypes := #[22, 141] }, none⟩, [0]⟩, ⟨⟨some 22, .fieldAddr 100 (.tmp 3) 1, none⟩, [0, 1, 2, 3, 4, 5, 6]⟩, ⟨⟨some 23, .load 22 (.tmp 22), none⟩, [0, 1, 2, 3, 4, 5, 6]⟩, ⟨⟨some 24, .buildSlice 94 3 #[(0, (.tmp 15)), (1, (.tmp 21)), (2, (.tmp 23))], none⟩, []⟩, ⟨⟨some 25, .call { callee := .value (.func 99), args := #[(.tmp 24)], argTypes := #[94] }, none⟩, []⟩, ⟨⟨some 4, .assign (.tmp 25), none⟩, []⟩])) (.keep [4])) .ret)))
attribute [go_sem ↓] c_frame_write
def h_frame_write : List Hint := [⟨[], [0, 3], []⟩, ⟨[], [0, 3, 5], []⟩, ⟨[], [4], []⟩]
theorem b_frame_write : Body Try.prog 110 [] h_frame_write c_frame_write 26 [.tmp 4] := body_of Try.func110 (by kernel_rfl) (by kernel_rfl) (by kernel_rfl) (by kernel_rfl)
def c_ref03_four : C := (.seq (.seq (.reg ([⟨some 2, .assign (.const (.slice none 0 0)), none⟩])) (.keep [0])) (.seq (.seq (.reg ([⟨some 3, .move (.tmp 0), none⟩, ⟨some 4, .convert 141 5 (.tmp 3), none⟩, ⟨some 5, .move (.tmp 0), none⟩, ⟨some 6, .binOp .shr 141 (.tmp 5) (.const (.int .u64 8)) 156, none⟩, ⟨some 7, .convert 141 5 (.tmp 6), none⟩, ⟨some 8, .move (.tmp 0), none⟩, ⟨some 9, .binOp .shr 141 (.tmp 8) (.const (.int .u64 16)) 156, none⟩, ⟨some 10, .convert 141 5 (.tmp 9), none⟩, ⟨some 11, .move (.tmp 0), none⟩, ⟨some 12, .binOp .shr 141 (.tmp 11) (.const (.int .u64 24)) 156, none⟩, ⟨some 13, .convert 141 5 (.tmp 12), none⟩, ⟨some 14, .buildSlice 22 4 #[(0, (.tmp 4)), (1, (.tmp 7)), (2, (.tmp 10)), (3, (.tmp 13))], none⟩, ⟨some 2, .assign (.tmp 14), none⟩])) (.keep [2])) .ret))
attribute [go_sem ↓] c_ref03_four
def c_frame_Size : C := (.seq (.seq (.reg ([⟨some 1, .box 100 (.tmp 0), none⟩, ⟨some 2, .assign (.const (.int .i64 0)), none⟩, ⟨some 3, .assign (.const (.int .i64 0)), none⟩])) (.keep [1])) (.seq (.seq (.seq (.reg ([⟨some 4, .load 100 (.tmp 1), none⟩, ⟨some 5, .call { callee := .value (.func 109), args := #[(.tmp 4)], argTypes := #[100] }, none⟩, ⟨some 6, .unOp .not 4 (.tmp 5), none⟩])) (.keep [1, 6])) (.cond (.tmp 6) (.seq (.seq (.reg ([⟨some 2, .assign (.const (.int .i64 0)), none⟩, ⟨some 3, .assign (.const (.int .i64 8)), none⟩])) (.keep [2, 3])) .ret) .skip)) (.seq (.seq (.reg ([⟨some 7, .fieldAddr 100 (.tmp 1) 1, none⟩, ⟨some 8, .load 22 (.tmp 7), none⟩, ⟨some 9, .call { callee := .builtin .len, args := #[(.tmp 8)], argTypes := #[22] }, none⟩, ⟨some 10, .binOp .add 3 (.const (.int .i64 12)) (.tmp 9) 3, none⟩, ⟨some 2, .assign (.tmp 10), none⟩, ⟨some 3, .assign (.const (.int .i64 0)), none⟩])) (.keep [2, 3])) .ret)))
attribute [go_sem ↓] c_frame_Size
def h_frame_Size : List Hint := [⟨[], [1], []⟩, ⟨[], [1, 6], []⟩, ⟨[], [2, 3], []⟩, ⟨[], [2, 3], []⟩]
theorem b_frame_Size : Body Try.prog 113 [] h_frame_Size c_frame_Size 11 [.tmp 2, .tmp 3] := body_of Try.func113 (by kernel_rfl) (by kernel_rfl) (by kernel_rfl) (by kernel_rfl)
def c_ref03_one : C := (.seq (.seq (.reg ([⟨some 2, .alloc 100, none⟩, ⟨some 3, .assign (.const (.bool false)), none⟩])) (.keep [0, 2])) (.seq (.seq (.seq (.reg ([⟨some 6, .move (.tmp 0), none⟩, ⟨some 7, .call { callee := .builtin .len, args := #[(.tmp 6)], argTypes := #[22] }, none⟩, ⟨some 8, .binOp .lss 3 (.tmp 7) (.const (.int .i64 12)) 3, none⟩])) (.keep [0, 2, 8])) (.cond (.tmp 8) (.seq (.seq (.reg ([⟨some 9, .build 100 #[], none⟩, ⟨none, .store 100 (.tmp 2) (.tmp 9), none⟩, ⟨some 3, .assign (.const (.bool false)), none⟩])) (.keep [2, 3])) .ret) .skip)) (.seq (.seq (.reg ([⟨some 10, .move (.tmp 0), none⟩, ⟨some 11, .call { callee := .value (.func 121), args := #[(.tmp 10)], argTypes := #[22] }, none⟩, ⟨some 4, .assign (.tmp 11), none⟩])) (.keep [0, 2, 4])) (.seq (.seq (.seq (.reg ([⟨some 12, .move (.tmp 4), none⟩, ⟨some 13, .binOp .gtr 3 (.tmp 12) (.const (.int .i64 1000)) 3, none⟩, ⟨some 14, .move (.tmp 13), none⟩, ⟨some 15, .move (.tmp 0), some (14, false)⟩, ⟨some 16, .call { callee := .builtin .len, args := #[(.tmp 15)], argTypes := #[22] }, some (14, false)⟩, ⟨some 17, .move (.tmp 4), some (14, false)⟩, ⟨some 18, .binOp .add 3 (.const (.int .i64 12)) (.tmp 17) 3, some (14, false)⟩, ⟨some 19, .binOp .lss 3 (.tmp 16) (.tmp 18) 3, some (14, false)⟩, ⟨some 20, .pick (.tmp 14) (.const (.bool true)) (.tmp 19), none⟩])) (.keep [0, 2, 4, 20])) (.cond (.tmp 20) (.seq (.seq (.reg ([⟨some 21, .build 100 #[], none⟩, ⟨none, .store 100 (.tmp 2) (.tmp 21), none⟩, ⟨some 3, .assign (.const (.bool false)), none⟩])) (.keep [2, 3])) .ret) .skip)) (.seq (.seq (.draw ([⟨⟨some 22, .move (.tmp 0), none⟩, []⟩, ⟨⟨some 23, .slice 22 (.tmp 22) (some (.const (.int .i64 4))) none none, none⟩, []⟩, ⟨⟨some 24, .call { callee := .value (.func 121), args := #[(.tmp 23)], argTypes := #[22] }, none⟩, []⟩, ⟨⟨some 25, .buildSlice 22 0 #[], none⟩, [0, 1, 2]⟩, ⟨⟨some 26, .move (.tmp 0), none⟩, [0, 1, 2, 3]⟩, ⟨⟨some 27, .move (.tmp 4), none⟩, [0, 1, 2, 3, 4]⟩, ⟨⟨some 28, .binOp .add 3 (.const (.int .i64 12)) (.tmp 27) 3, none⟩, [0, 1, 2, 3, 4]⟩, ⟨⟨some 29, .slice 22 (.tmp 26) (some (.const (.int .i64 12))) (some (.tmp 28)) none, none⟩, [0, 1, 2, 3]⟩, ⟨⟨some 30, .call { callee := .builtin .append, args := #[(.tmp 25), (.tmp 29)], argTypes := #[22, 22] }, none⟩, []⟩, ⟨⟨some 31, .build 100 #[(0, (.tmp 24)), (1, (.tmp 30))], none⟩, []⟩, ⟨⟨some 5, .alloc 100, none⟩, [0, 1, 2, 3, 4, 5, 6, 7, 8, 9]⟩, ⟨⟨none, .store 100 (.tmp 5) (.tmp 31), none⟩, []⟩])) (.keep [0, 2, 5])) (.seq (.seq (.draw ([⟨⟨some 32, .load 100 (.tmp 5), none⟩, []⟩, ⟨⟨some 33, .load 100 (.tmp 5), none⟩, [0]⟩, ⟨⟨some 34, .call { callee := .value (.func 122), args := #[(.tmp 33)], argTypes := #[100] }, none⟩, [0]⟩, ⟨⟨some 35, .move (.tmp 34), none⟩, [0]⟩, ⟨⟨some 36, .move (.tmp 0), some (35, true)⟩, [0]⟩, ⟨⟨some 37, .load 100 (.tmp 5), some (35, true)⟩, [0, 4]⟩, ⟨⟨some 38, .call { callee := .value (.func 91), args := #[(.tmp 37)], argTypes := #[100] }, some (35, true)⟩, [0, 4]⟩, ⟨⟨some 39, .call { callee := .value (.func 123), args := #[(.tmp 36), (.tmp 38)], argTypes := #[22, 22] }, some (35, true)⟩, [0]⟩, ⟨⟨some 40, .pick (.tmp 35) (.tmp 39) (.const (.bool false)), none⟩, [0]⟩, ⟨⟨none, .store 100 (.tmp 2) (.tmp 32), none⟩, [8]⟩, ⟨⟨some 3, .assign (.tmp 40), none⟩, []⟩])) (.keep [2, 3])) .ret))))))
attribute [go_sem ↓] c_ref03_one
def c_frame_put : C := (.seq (.seq (.reg ([⟨some 4, .assign (.const (.slice none 0 0)), none⟩])) (.keep [0, 1])) (.seq (.seq (.reg ([⟨some 5, .move (.tmp 0), none⟩, ⟨some 6, .move (.tmp 1), none⟩, ⟨some 7, .convert 141 5 (.tmp 6), none⟩, ⟨some 8, .move (.tmp 1), none⟩, ⟨some 9, .binOp .shr 141 (.tmp 8) (.const (.int .u64 8)) 156, none⟩, ⟨some 10, .convert 141 5 (.tmp 9), none⟩, ⟨some 11, .move (.tmp 1), none⟩, ⟨some 12, .binOp .shr 141 (.tmp 11) (.const (.int .u64 16)) 156, none⟩, ⟨some 13, .convert 141 5 (.tmp 12), none⟩, ⟨some 14, .move (.tmp 1), none⟩, ⟨some 15, .binOp .shr 141 (.tmp 14) (.const (.int .u64 24)) 156, none⟩, ⟨some 16, .convert 141 5 (.tmp 15), none⟩, ⟨some 17, .buildSlice 22 4 #[(0, (.tmp 7)), (1, (.tmp 10)), (2, (.tmp 13)), (3, (.tmp 16))], none⟩, ⟨some 18, .call { callee := .builtin .append, args := #[(.tmp 5), (.tmp 17)], argTypes := #[22, 22] }, none⟩, ⟨some 4, .assign (.tmp 18), none⟩])) (.keep [4])) .ret))
attribute [go_sem ↓] c_frame_put
def h_frame_put : List Hint := [⟨[], [0, 1], []⟩, ⟨[], [4], []⟩]
theorem b_frame_put : Body Try.prog 119 [] h_frame_put c_frame_put 19 [.tmp 4] := body_of Try.func119 (by kernel_rfl) (by kernel_rfl) (by kernel_rfl) (by kernel_rfl)
def c_ref03_number : C := (.seq (.seq (.reg ([⟨some 2, .assign (.const (.int .i64 0)), none⟩])) (.keep [0])) (.seq (.seq (.draw ([⟨⟨some 3, .move (.tmp 0), none⟩, []⟩, ⟨⟨some 4, .indexAddr 22 (.tmp 3) (.const (.int .i64 0)), none⟩, []⟩, ⟨⟨some 5, .load 5 (.tmp 4), none⟩, []⟩, ⟨⟨some 6, .convert 5 3 (.tmp 5), none⟩, []⟩, ⟨⟨some 7, .move (.tmp 0), none⟩, [0, 1, 2, 3]⟩, ⟨⟨some 8, .indexAddr 22 (.tmp 7) (.const (.int .i64 1)), none⟩, [0, 1, 2, 3]⟩, ⟨⟨some 9, .load 5 (.tmp 8), none⟩, [0, 1, 2, 3]⟩, ⟨⟨some 10, .convert 5 3 (.tmp 9), none⟩, [0, 1, 2, 3]⟩, ⟨⟨some 11, .binOp .mul 3 (.const (.int .i64 256)) (.tmp 10) 3, none⟩, [0, 1, 2, 3]⟩, ⟨⟨some 12, .binOp .add 3 (.tmp 6) (.tmp 11) 3, none⟩, []⟩, ⟨⟨some 13, .move (.tmp 0), none⟩, [0, 1, 2, 3, 4, 5, 6, 7, 8, 9]⟩, ⟨⟨some 14, .indexAddr 22 (.tmp 13) (.const (.int .i64 2)), none⟩, [0, 1, 2, 3, 4, 5, 6, 7, 8, 9]⟩, ⟨⟨some 15, .load 5 (.tmp 14), none⟩, [0, 1, 2, 3, 4, 5, 6, 7, 8, 9]⟩, ⟨⟨some 16, .convert 5 3 (.tmp 15), none⟩, [0, 1, 2, 3, 4, 5, 6, 7, 8, 9]⟩, ⟨⟨some 17, .binOp .mul 3 (.const (.int .i64 65536)) (.tmp 16) 3, none⟩, [0, 1, 2, 3, 4, 5, 6, 7, 8, 9]⟩, ⟨⟨some 18, .binOp .add 3 (.tmp 12) (.tmp 17) 3, none⟩, []⟩, ⟨⟨some 19, .move (.tmp 0), none⟩, [0, 1, 2, 3, 4, 5, 6, 7, 8, 9, 10, 11, 12, 13, 14, 15]⟩, ⟨⟨some 20, .indexAddr 22 (.tmp 19) (.const (.int .i64 3)), none⟩, [0, 1, 2, 3, 4, 5, 6, 7, 8, 9, 10, 11, 12, 13, 14, 15]⟩, ⟨⟨some 21, .load 5 (.tmp 20), none⟩, [0, 1, 2, 3, 4, 5, 6, 7, 8, 9, 10, 11, 12, 13, 14, 15]⟩, ⟨⟨some 22, .convert 5 3 (.tmp 21), none⟩, [0, 1, 2, 3, 4, 5, 6, 7, 8, 9, 10, 11, 12, 13, 14, 15]⟩, ⟨⟨some 23, .binOp .mul 3 (.const (.int .i64 16777216)) (.tmp 22) 3, none⟩, [0, 1, 2, 3, 4, 5, 6, 7, 8, 9, 10, 11, 12, 13, 14, 15]⟩, ⟨⟨some 24, .binOp .add 3 (.tmp 18) (.tmp 23) 3, none⟩, []⟩, ⟨⟨some 2, .assign (.tmp 24), none⟩, []⟩])) (.keep [2])) .ret))
attribute [go_sem ↓] c_ref03_number
def c_ref03_Valid : C := (.seq (.seq (.reg ([⟨some 1, .box 100 (.tmp 0), none⟩, ⟨some 2, .assign (.const (.bool false)), none⟩])) (.keep [1])) (.seq (.seq (.reg ([⟨some 3, .fieldAddr 100 (.tmp 1) 0, none⟩, ⟨some 4, .load 3 (.tmp 3), none⟩, ⟨some 5, .binOp .geq 3 (.tmp 4) (.const (.int .i64 0)) 3, none⟩, ⟨some 6, .move (.tmp 5), none⟩, ⟨some 7, .fieldAddr 100 (.tmp 1) 0, some (6, true)⟩, ⟨some 8, .load 3 (.tmp 7), some (6, true)⟩, ⟨some 9, .binOp .leq 3 (.tmp 8) (.const (.int .i64 1000000000)) 3, some (6, true)⟩, ⟨some 10, .pick (.tmp 6) (.tmp 9) (.const (.bool false)), none⟩, ⟨some 11, .move (.tmp 10), none⟩, ⟨some 12, .fieldAddr 100 (.tmp 1) 1, some (11, true)⟩, ⟨some 13, .load 22 (.tmp 12), some (11, true)⟩, ⟨some 14, .call { callee := .builtin .len, args := #[(.tmp 13)], argTypes := #[22] }, some (11, true)⟩, ⟨some 15, .binOp .leq 3 (.tmp 14) (.const (.int .i64 1000)) 3, some (11, true)⟩, ⟨some 16, .pick (.tmp 11) (.tmp 15) (.const (.bool false)), none⟩, ⟨some 2, .assign (.tmp 16), none⟩])) (.keep [2])) .ret))
attribute [go_sem ↓] c_ref03_Valid
end Go.Proofs.Ytdpnjhooehadmaa.Pm

/-! PmFa -/
set_option linter.all false
set_option maxRecDepth 100000
namespace Go.Proofs.Ytdpnjhooehadmaa.Pm
open Go Go.RowKit

/-- The number of four bytes, so far. -/
def getV (b0 b1 b2 b3 : BitVec 8) : Nat → BitVec 32
  | 0 => 0#32
  | 1 => 0#32 ||| b0.setWidth 32 <<< 0
  | 2 => 0#32 ||| b0.setWidth 32 <<< 0 ||| b1.setWidth 32 <<< 8
  | 3 => 0#32 ||| b0.setWidth 32 <<< 0 ||| b1.setWidth 32 <<< 8 ||| b2.setWidth 32 <<< 16
  | _ => 0#32 ||| b0.setWidth 32 <<< 0 ||| b1.setWidth 32 <<< 8 ||| b2.setWidth 32 <<< 16 ||| b3.setWidth 32 <<< 24
theorem s_frame_get (b0 b1 b2 b3 : BitVec 8) (bs : List (BitVec 8)) (hl : bs.length ≤ 1000000) : Spec Try.prog 103 [.sl (bT (b0 :: b1 :: b2 :: b3 :: bs))] [] (.t (.i .u32 (getV b0 b1 b2 b3 4).toNat) true) := by
  refine spec_k (hold mixed) b_frame_get [(.i .u32 (getV b0 b1 b2 b3 4).toNat, true)] ?_
  have h1 : (4 : Int) ≤ ((bs.length + 1 + 1 + 1 + 1 : Nat) : Int) := by omega
  simp -implicitDefEqProofs only [go_sem, reduceIte, Nat.reduceAdd, Nat.reduceSub, Nat.reduceMul, Nat.reduceLT, Nat.reduceLeDiff, Nat.reduceEqDiff, Nat.reduceBEq, Int.reduceLE, Int.reduceLT, Int.reduceToNat, Int.reduceMul, Int.reduceAdd, Int.reduceSub, Int.reduceNeg, Int.reduceEq, reduceCtorEq, Nat.reduceMod, bT_cons, h1, Int.natCast_zero]
  refine ⟨.inl trivial, ?_⟩
  refine loop_l (α := Nat) (fun k => ⟨tmL [(3, .t (.i .u32 (getV b0 b1 b2 b3 k).toNat) true), (7, .t (.sl (bT [b0, b1, b2, b3])) false), (8, .t (.i .i64 4) true), (9, .t (.i .i64 k) true)], []⟩) (fun k => 4 - k) (fun k => k ≤ 4) 0 (by simp -implicitDefEqProofs only [go_sem, reduceIte, Nat.reduceAdd, Nat.reduceSub, Nat.reduceMul, Nat.reduceLT, Nat.reduceLeDiff, Nat.reduceEqDiff, Nat.reduceBEq, Int.reduceLE, Int.reduceLT, Int.reduceToNat, Int.reduceMul, Int.reduceAdd, Int.reduceSub, Int.reduceNeg, Int.reduceEq, reduceCtorEq, Nat.reduceMod]; rfl) (by omega) ?_
  intro k hk R hR
  have w0 : IntKind.i64.wrap 0 = 0 := by decide
  have w1 : IntKind.i64.wrap 1 = 1 := by decide
  have w2 : IntKind.i64.wrap 2 = 2 := by decide
  have w3 : IntKind.i64.wrap 3 = 3 := by decide
  have w4 : IntKind.i64.wrap 4 = 4 := by decide
  have w8 : IntKind.i64.wrap 8 = 8 := by decide
  have w16 : IntKind.i64.wrap 16 = 16 := by decide
  have w24 : IntKind.i64.wrap 24 = 24 := by decide
  have m0 : min 0 32 = 0 := by decide
  have m8 : min 8 32 = 8 := by decide
  have m16 : min 16 32 = 16 := by decide
  have m24 : min 24 32 = 24 := by decide
  obtain rfl | rfl | rfl | rfl | rfl : k = 0 ∨ k = 1 ∨ k = 2 ∨ k = 3 ∨ k = 4 := by omega
  all_goals simp -implicitDefEqProofs only [go_sem, reduceIte, Nat.reduceAdd, Nat.reduceSub, Nat.reduceMul, Nat.reduceLT, Nat.reduceLeDiff, Nat.reduceEqDiff, Nat.reduceBEq, Int.reduceLE, Int.reduceLT, Int.reduceToNat, Int.reduceMul, Int.reduceAdd, Int.reduceSub, Int.reduceNeg, Int.reduceEq, reduceCtorEq, Nat.reduceMod, getV, bT_cons, Int.cast_ofNat_Int, Int.natCast_zero, Int.natCast_one, w0, w1, w2, w3, w4, w8, w16, w24, m0, m8, m16, m24, AV.one, T.one]
  · refine hR 1 _ ?_ (by omega) (by omega)
    simp -implicitDefEqProofs only [go_sem, reduceIte, Nat.reduceAdd, Nat.reduceSub, Nat.reduceMul, Nat.reduceLT, Nat.reduceLeDiff, Nat.reduceEqDiff, Nat.reduceBEq, Int.reduceLE, Int.reduceLT, Int.reduceToNat, Int.reduceMul, Int.reduceAdd, Int.reduceSub, Int.reduceNeg, Int.reduceEq, reduceCtorEq, Nat.reduceMod]
    rfl
  · refine hR 2 _ ?_ (by omega) (by omega)
    simp -implicitDefEqProofs only [go_sem, reduceIte, Nat.reduceAdd, Nat.reduceSub, Nat.reduceMul, Nat.reduceLT, Nat.reduceLeDiff, Nat.reduceEqDiff, Nat.reduceBEq, Int.reduceLE, Int.reduceLT, Int.reduceToNat, Int.reduceMul, Int.reduceAdd, Int.reduceSub, Int.reduceNeg, Int.reduceEq, reduceCtorEq, Nat.reduceMod]
    rfl
  · refine hR 3 _ ?_ (by omega) (by omega)
    simp -implicitDefEqProofs only [go_sem, reduceIte, Nat.reduceAdd, Nat.reduceSub, Nat.reduceMul, Nat.reduceLT, Nat.reduceLeDiff, Nat.reduceEqDiff, Nat.reduceBEq, Int.reduceLE, Int.reduceLT, Int.reduceToNat, Int.reduceMul, Int.reduceAdd, Int.reduceSub, Int.reduceNeg, Int.reduceEq, reduceCtorEq, Nat.reduceMod]
    rfl
  · refine hR 4 _ ?_ (by omega) (by omega)
    simp -implicitDefEqProofs only [go_sem, reduceIte, Nat.reduceAdd, Nat.reduceSub, Nat.reduceMul, Nat.reduceLT, Nat.reduceLeDiff, Nat.reduceEqDiff, Nat.reduceBEq, Int.reduceLE, Int.reduceLT, Int.reduceToNat, Int.reduceMul, Int.reduceAdd, Int.reduceSub, Int.reduceNeg, Int.reduceEq, reduceCtorEq, Nat.reduceMod]
    rfl
end Go.Proofs.Ytdpnjhooehadmaa.Pm

/-! PmFb -/
set_option linter.all false
set_option maxRecDepth 100000
namespace Go.Proofs.Ytdpnjhooehadmaa.Pm
open Go Go.RowKit

/-- A record. -/
structure Rec where
  num : Int
  data : List (BitVec 8)
  deriving DecidableEq
def Rec.cells (r : Rec) : List T := [.i .i64 r.num, .sl (bT r.data)]
def Rec.ok (r : Rec) : Bool := decide (0 ≤ r.num) && (decide (r.num ≤ 1000000000) && decide (r.data.length ≤ 1000))
theorem s_frame_valid (r : Rec) : Spec Try.prog 109 [.agg r.cells] [] (.t (.b r.ok) true) := by
  refine spec_k (hold mixed) b_frame_valid [(.b r.ok, true)] ?_
  have e3 : ((r.data.length : Int) ≤ 1000) = (r.data.length ≤ 1000) := propext (by omega)
  by_cases h0 : 0 ≤ r.num <;> by_cases h1 : r.num ≤ 1000000000 <;> simp -implicitDefEqProofs only [go_sem, reduceIte, Nat.reduceAdd, Nat.reduceSub, Nat.reduceMul, Nat.reduceLT, Nat.reduceLeDiff, Nat.reduceEqDiff, Nat.reduceBEq, Int.reduceLE, Int.reduceLT, Int.reduceToNat, Int.reduceMul, Int.reduceAdd, Int.reduceSub, Int.reduceNeg, Int.reduceEq, reduceCtorEq, Nat.reduceMod, Rec.cells, Rec.ok, h0, h1, e3, ge_iff_le]
/-- The four bytes of a number. -/
def fourL (n : BitVec 32) : List (BitVec 8) := [n.setWidth 8, (n >>> 8).setWidth 8, (n >>> 16).setWidth 8, (n >>> 24).setWidth 8]
end Go.Proofs.Ytdpnjhooehadmaa.Pm

/-! PmFc -/
set_option linter.all false
set_option maxRecDepth 100000
namespace Go.Proofs.Ytdpnjhooehadmaa.Pm
open Go Go.RowKit

def numL (b0 b1 b2 b3 : BitVec 8) : Nat := b0.toNat + 256 * b1.toNat + 65536 * b2.toNat + 16777216 * b3.toNat
def recsT (l : List Rec) : List (List T) := l.map Rec.cells
theorem recsT_length (l : List Rec) : (recsT l).length = l.length := by simp [recsT]
theorem recsT_get {l : List Rec} {k : Nat} (h : k < l.length) : (recsT l)[k]? = some l[k].cells := by simp [recsT, h]
end Go.Proofs.Ytdpnjhooehadmaa.Pm

/-! PmFd -/
set_option linter.all false
set_option maxRecDepth 100000
namespace Go.Proofs.Ytdpnjhooehadmaa.Pm
open Go Go.RowKit

/-- The head of a record: its length, its number. -/
def headL (r : Rec) : List (BitVec 8) := fourL (BitVec.ofNat 32 r.data.length) ++ fourL (BitVec.ofInt 32 r.num)
def bytesL (r : Rec) : List (BitVec 8) := headL r ++ fourL (updV 0#32 (headL r ++ r.data)) ++ r.data
theorem wrap_u32_nat (n : Nat) : IntKind.u32.wrap (n : Int) = (((BitVec.ofNat 32 n).toNat : Nat) : Int) := by
  rw [IntKind.wrap_u32', BitVec.toNat_ofNat]; omega
theorem wrap_u32_int {i : Int} (h0 : 0 ≤ i) (h1 : i < 4294967296) : IntKind.u32.wrap i = (((BitVec.ofInt 32 i).toNat : Nat) : Int) := by
  rw [← bv32_of h0 (by omega), IntKind.wrap_u32']; omega
theorem fourL_length (n : BitVec 32) : (fourL n).length = 4 := rfl
theorem headL_length (r : Rec) : (headL r).length = 8 := rfl
theorem head_eq (r : Rec) : bT (fourL (BitVec.ofNat 32 r.data.length)) ++ bT (fourL (BitVec.ofInt 32 r.num)) = bT (headL r) := (bT_append _ _).symm
theorem head_take (r : Rec) : List.take 8 (bT (headL r)) = bT (headL r) := rfl
end Go.Proofs.Ytdpnjhooehadmaa.Pm

/-! PmFe -/
set_option linter.all false
set_option maxRecDepth 100000
namespace Go.Proofs.Ytdpnjhooehadmaa.Pm
open Go Go.RowKit

theorem Rec.ok_iff (r : Rec) : r.ok = true ↔ 0 ≤ r.num ∧ r.num ≤ 1000000000 ∧ r.data.length ≤ 1000 := by simp [Rec.ok]
theorem bytesL_length (r : Rec) : (bytesL r).length = 12 + r.data.length := by simp [bytesL, headL_length, fourL_length]; omega
def sizeT (r : Rec) : List (T × Bool) := if r.ok = true then [(.i .i64 (12 + r.data.length : Nat), true), (.i .i64 0, true)] else [(.i .i64 0, true), (.i .i64 8, true)]
theorem s_frame_Size (r : Rec) (hd : r.data.length ≤ 1000000) : Spec Try.prog 113 [.agg r.cells] [] (resV ((sizeT r).map AV.ofT)) := by
  refine spec_k (hold mixed) b_frame_Size (sizeT r) ?_
  simp -implicitDefEqProofs only [go_sem, reduceIte, Nat.reduceAdd, Nat.reduceSub, Nat.reduceMul, Nat.reduceLT, Nat.reduceLeDiff, Nat.reduceEqDiff, Nat.reduceBEq, Int.reduceLE, Int.reduceLT, Int.reduceToNat, Int.reduceMul, Int.reduceAdd, Int.reduceSub, Int.reduceNeg, Int.reduceEq, reduceCtorEq, Nat.reduceMod, Rec.cells]
  refine call_k (s_frame_valid r) ?_ (by simp -implicitDefEqProofs only [go_sem, reduceIte, Nat.reduceAdd, Nat.reduceSub, Nat.reduceMul, Nat.reduceLT, Nat.reduceLeDiff, Nat.reduceEqDiff, Nat.reduceBEq, Int.reduceLE, Int.reduceLT, Int.reduceToNat, Int.reduceMul, Int.reduceAdd, Int.reduceSub, Int.reduceNeg, Int.reduceEq, reduceCtorEq, Nat.reduceMod, Rec.cells])
  by_cases h : r.ok = true
  · have hw : IntKind.i64.wrap (12 + (r.data.length : Int)) = ((12 + r.data.length : Nat) : Int) := by rw [wrap_i64_id (by omega) (by omega)]; omega
    simp -implicitDefEqProofs only [go_sem, reduceIte, Nat.reduceAdd, Nat.reduceSub, Nat.reduceMul, Nat.reduceLT, Nat.reduceLeDiff, Nat.reduceEqDiff, Nat.reduceBEq, Int.reduceLE, Int.reduceLT, Int.reduceToNat, Int.reduceMul, Int.reduceAdd, Int.reduceSub, Int.reduceNeg, Int.reduceEq, reduceCtorEq, Nat.reduceMod, h, sizeT, hw]
  · have h : r.ok = false := by simpa using h
    simp -implicitDefEqProofs only [go_sem, reduceIte, Nat.reduceAdd, Nat.reduceSub, Nat.reduceMul, Nat.reduceLT, Nat.reduceLeDiff, Nat.reduceEqDiff, Nat.reduceBEq, Int.reduceLE, Int.reduceLT, Int.reduceToNat, Int.reduceMul, Int.reduceAdd, Int.reduceSub, Int.reduceNeg, Int.reduceEq, reduceCtorEq, Nat.reduceMod, h, sizeT]
end Go.Proofs.Ytdpnjhooehadmaa.Pm

/-! PmFg -/
set_option linter.all false
set_option maxRecDepth 100000
namespace Go.Proofs.Ytdpnjhooehadmaa.Pm
open Go Go.RowKit

theorem s_bytes_Clone_nl : Spec Try.prog 104 [.nl] [] (.t (.sl []) true) := by
  refine spec_k (hold mixed) b_bytes_Clone [(.sl [], true)] ?_
  simp -implicitDefEqProofs only [go_sem, reduceIte, Nat.reduceAdd, Nat.reduceSub, Nat.reduceMul, Nat.reduceLT, Nat.reduceLeDiff, Nat.reduceEqDiff, Nat.reduceBEq, Int.reduceLE, Int.reduceLT, Int.reduceToNat, Int.reduceMul, Int.reduceAdd, Int.reduceSub, Int.reduceNeg, Int.reduceEq, reduceCtorEq, Nat.reduceMod]
theorem s_bytes_Clone_ne : Spec Try.prog 104 [.ne] [] (.t (.sl []) true) := by
  refine spec_k (hold mixed) b_bytes_Clone [(.sl [], true)] ?_
  simp -implicitDefEqProofs only [go_sem, reduceIte, Nat.reduceAdd, Nat.reduceSub, Nat.reduceMul, Nat.reduceLT, Nat.reduceLeDiff, Nat.reduceEqDiff, Nat.reduceBEq, Int.reduceLE, Int.reduceLT, Int.reduceToNat, Int.reduceMul, Int.reduceAdd, Int.reduceSub, Int.reduceNeg, Int.reduceEq, reduceCtorEq, Nat.reduceMod]
  exact okEs_bT []
theorem s_bytes_Clone (bs : List (BitVec 8)) (hl : bs.length ≤ 1000000) : Spec Try.prog 104 [.sl (bT bs)] [] (.t (.sl (bT bs)) true) := by
  cases bs with
  | nil => exact spec_sl0 s_bytes_Clone_nl s_bytes_Clone_ne
  | cons b bs =>
    refine spec_k (hold mixed) b_bytes_Clone [(.sl (bT (b :: bs)), true)] ?_
    simp -implicitDefEqProofs only [go_sem, reduceIte, Nat.reduceAdd, Nat.reduceSub, Nat.reduceMul, Nat.reduceLT, Nat.reduceLeDiff, Nat.reduceEqDiff, Nat.reduceBEq, Int.reduceLE, Int.reduceLT, Int.reduceToNat, Int.reduceMul, Int.reduceAdd, Int.reduceSub, Int.reduceNeg, Int.reduceEq, reduceCtorEq, Nat.reduceMod, bT_cons]
    exact ⟨⟨okEs_bT (b :: bs), by unfold room; simp at hl; omega⟩, by rw [bT_take_self]⟩
theorem s_frame_sum (h d : List (BitVec 8)) (hh : h.length ≤ 20000) (hd : d.length ≤ 20000) : Spec Try.prog 105 [.sl (bT h), .sl (bT d)] [] (.t (.i .u32 (updV 0#32 (h ++ d)).toNat) true) := by
  refine spec_k (hold mixed) b_frame_sum [(.i .u32 (updV 0#32 (h ++ d)).toNat, true)] ?_
  simp -implicitDefEqProofs only [go_sem, reduceIte, Nat.reduceAdd, Nat.reduceSub, Nat.reduceMul, Nat.reduceLT, Nat.reduceLeDiff, Nat.reduceEqDiff, Nat.reduceBEq, Int.reduceLE, Int.reduceLT, Int.reduceToNat, Int.reduceMul, Int.reduceAdd, Int.reduceSub, Int.reduceNeg, Int.reduceEq, reduceCtorEq, Nat.reduceMod]
  refine call_k (s_crc_Sum' h hh) ?_
  simp -implicitDefEqProofs only [go_sem, reduceIte, Nat.reduceAdd, Nat.reduceSub, Nat.reduceMul, Nat.reduceLT, Nat.reduceLeDiff, Nat.reduceEqDiff, Nat.reduceBEq, Int.reduceLE, Int.reduceLT, Int.reduceToNat, Int.reduceMul, Int.reduceAdd, Int.reduceSub, Int.reduceNeg, Int.reduceEq, reduceCtorEq, Nat.reduceMod]
  refine call_k (s_crc_Update' (updV 0#32 h) d hd) ?_
  simp -implicitDefEqProofs only [go_sem, reduceIte, Nat.reduceAdd, Nat.reduceSub, Nat.reduceMul, Nat.reduceLT, Nat.reduceLeDiff, Nat.reduceEqDiff, Nat.reduceBEq, Int.reduceLE, Int.reduceLT, Int.reduceToNat, Int.reduceMul, Int.reduceAdd, Int.reduceSub, Int.reduceNeg, Int.reduceEq, reduceCtorEq, Nat.reduceMod, upd_upd]
theorem flat_bT (bs : List (BitVec 8)) : ∀ e ∈ bT bs, ∃ k n, e = [T.i k n] := by
  intro e he
  simp only [bT, List.mem_map] at he
  obtain ⟨b, _, rfl⟩ := he
  exact ⟨_, _, rfl⟩
theorem s_frame_put (xs : List (BitVec 8)) (n : BitVec 32) (hx : xs.length ≤ 1000000) : SpecAp Try.prog 119 (bT xs) [.i .u32 n.toNat] (bT (fourL n)) := by
  refine spec_kap (hold mixed) b_frame_put (bT (fourL n)) (by rw [← bT_append]; exact flat_bT _) (by rw [bT_length]; show _ + 4 ≤ room; unfold room; omega) ?_
  simp -implicitDefEqProofs only [go_sem, reduceIte, Nat.reduceAdd, Nat.reduceSub, Nat.reduceMul, Nat.reduceLT, Nat.reduceLeDiff, Nat.reduceEqDiff, Nat.reduceBEq, Int.reduceLE, Int.reduceLT, Int.reduceToNat, Int.reduceMul, Int.reduceAdd, Int.reduceSub, Int.reduceNeg, Int.reduceEq, reduceCtorEq, Nat.reduceMod]
  refine ⟨⟨okEs_bT (fourL n), by unfold room; omega⟩, by rw [List.length_append, bT_length, bT_length]; rfl, ?_⟩
  rw [bT_take_self]
  rfl
theorem s_frame_write (xs : List (BitVec 8)) (r : Rec) (hx : xs.length ≤ 100000) (h0 : 0 ≤ r.num) (h1 : r.num ≤ 1000000000) (h2 : r.data.length ≤ 1000) : Spec Try.prog 110 [.sl (bT xs), .agg r.cells] [.row 0 1 (bT (xs ++ bytesL r)) true] (.row 0 0 0 (xs ++ bytesL r).length) := by
  refine spec_ko (hold mixed) b_frame_write [.row 0 1 (bT (xs ++ bytesL r)) true] [.row 0 0 0 (xs ++ bytesL r).length] ?_
  simp -implicitDefEqProofs only [go_sem, reduceIte, Nat.reduceAdd, Nat.reduceSub, Nat.reduceMul, Nat.reduceLT, Nat.reduceLeDiff, Nat.reduceEqDiff, Nat.reduceBEq, Int.reduceLE, Int.reduceLT, Int.reduceToNat, Int.reduceMul, Int.reduceAdd, Int.reduceSub, Int.reduceNeg, Int.reduceEq, reduceCtorEq, Nat.reduceMod, Rec.cells, wrap_u32_nat, wrap_u32_int h0 (by omega)]
  refine onto_d (bT (fourL (BitVec.ofNat 32 r.data.length))) (s_frame_put [] _ (by simp)) ?_
  simp -implicitDefEqProofs only [go_sem, reduceIte, Nat.reduceAdd, Nat.reduceSub, Nat.reduceMul, Nat.reduceLT, Nat.reduceLeDiff, Nat.reduceEqDiff, Nat.reduceBEq, Int.reduceLE, Int.reduceLT, Int.reduceToNat, Int.reduceMul, Int.reduceAdd, Int.reduceSub, Int.reduceNeg, Int.reduceEq, reduceCtorEq, Nat.reduceMod, wrap_u32_nat, wrap_u32_int h0 (by omega)]
  refine over_d (b := true) (bT (fourL (BitVec.ofInt 32 r.num))) (s_frame_put (fourL (BitVec.ofNat 32 r.data.length)) (BitVec.ofInt 32 r.num) (by rw [fourL_length]; omega)) (by simp -implicitDefEqProofs only [go_sem, reduceIte, Nat.reduceAdd, Nat.reduceSub, Nat.reduceMul, Nat.reduceLT, Nat.reduceLeDiff, Nat.reduceEqDiff, Nat.reduceBEq, Int.reduceLE, Int.reduceLT, Int.reduceToNat, Int.reduceMul, Int.reduceAdd, Int.reduceSub, Int.reduceNeg, Int.reduceEq, reduceCtorEq, Nat.reduceMod]) (by simp -implicitDefEqProofs only [go_sem, reduceIte, Nat.reduceAdd, Nat.reduceSub, Nat.reduceMul, Nat.reduceLT, Nat.reduceLeDiff, Nat.reduceEqDiff, Nat.reduceBEq, Int.reduceLE, Int.reduceLT, Int.reduceToNat, Int.reduceMul, Int.reduceAdd, Int.reduceSub, Int.reduceNeg, Int.reduceEq, reduceCtorEq, Nat.reduceMod]) ?_
  simp -implicitDefEqProofs only [go_sem, reduceIte, Nat.reduceAdd, Nat.reduceSub, Nat.reduceMul, Nat.reduceLT, Nat.reduceLeDiff, Nat.reduceEqDiff, Nat.reduceBEq, Int.reduceLE, Int.reduceLT, Int.reduceToNat, Int.reduceMul, Int.reduceAdd, Int.reduceSub, Int.reduceNeg, Int.reduceEq, reduceCtorEq, Nat.reduceMod, fourL_length, head_eq]
  refine call_d (s_frame_sum (headL r) r.data (by rw [headL_length]; omega) (by omega)) ?_ (by simp -implicitDefEqProofs only [go_sem, reduceIte, Nat.reduceAdd, Nat.reduceSub, Nat.reduceMul, Nat.reduceLT, Nat.reduceLeDiff, Nat.reduceEqDiff, Nat.reduceBEq, Int.reduceLE, Int.reduceLT, Int.reduceToNat, Int.reduceMul, Int.reduceAdd, Int.reduceSub, Int.reduceNeg, Int.reduceEq, reduceCtorEq, Nat.reduceMod, headL_length, head_take])
  simp -implicitDefEqProofs only [go_sem, reduceIte, Nat.reduceAdd, Nat.reduceSub, Nat.reduceMul, Nat.reduceLT, Nat.reduceLeDiff, Nat.reduceEqDiff, Nat.reduceBEq, Int.reduceLE, Int.reduceLT, Int.reduceToNat, Int.reduceMul, Int.reduceAdd, Int.reduceSub, Int.reduceNeg, Int.reduceEq, reduceCtorEq, Nat.reduceMod]
  refine over_d (b := true) (bT (fourL (updV 0#32 (headL r ++ r.data)))) (s_frame_put (headL r) _ (by rw [headL_length]; omega)) (by simp -implicitDefEqProofs only [go_sem, reduceIte, Nat.reduceAdd, Nat.reduceSub, Nat.reduceMul, Nat.reduceLT, Nat.reduceLeDiff, Nat.reduceEqDiff, Nat.reduceBEq, Int.reduceLE, Int.reduceLT, Int.reduceToNat, Int.reduceMul, Int.reduceAdd, Int.reduceSub, Int.reduceNeg, Int.reduceEq, reduceCtorEq, Nat.reduceMod]) (by simp -implicitDefEqProofs only [go_sem, reduceIte, Nat.reduceAdd, Nat.reduceSub, Nat.reduceMul, Nat.reduceLT, Nat.reduceLeDiff, Nat.reduceEqDiff, Nat.reduceBEq, Int.reduceLE, Int.reduceLT, Int.reduceToNat, Int.reduceMul, Int.reduceAdd, Int.reduceSub, Int.reduceNeg, Int.reduceEq, reduceCtorEq, Nat.reduceMod, headL_length]) ?_
  simp -implicitDefEqProofs only [go_sem, reduceIte, Nat.reduceAdd, Nat.reduceSub, Nat.reduceMul, Nat.reduceLT, Nat.reduceLeDiff, Nat.reduceEqDiff, Nat.reduceBEq, Int.reduceLE, Int.reduceLT, Int.reduceToNat, Int.reduceMul, Int.reduceAdd, Int.reduceSub, Int.reduceNeg, Int.reduceEq, reduceCtorEq, Nat.reduceMod, fourL_length, ← bT_append, List.length_append, headL_length]
  refine call_d (s_slices_Concat [xs, headL r ++ fourL (updV 0#32 (headL r ++ r.data)), r.data] (by simp) (by simp [catL, headL_length, fourL_length]; omega)) ?_ (by simp -implicitDefEqProofs only [go_sem, reduceIte, Nat.reduceAdd, Nat.reduceSub, Nat.reduceMul, Nat.reduceLT, Nat.reduceLeDiff, Nat.reduceEqDiff, Nat.reduceBEq, Int.reduceLE, Int.reduceLT, Int.reduceToNat, Int.reduceMul, Int.reduceAdd, Int.reduceSub, Int.reduceNeg, Int.reduceEq, reduceCtorEq, Nat.reduceMod, catE]; rfl)
  simp -implicitDefEqProofs only [go_sem, reduceIte, Nat.reduceAdd, Nat.reduceSub, Nat.reduceMul, Nat.reduceLT, Nat.reduceLeDiff, Nat.reduceEqDiff, Nat.reduceBEq, Int.reduceLE, Int.reduceLT, Int.reduceToNat, Int.reduceMul, Int.reduceAdd, Int.reduceSub, Int.reduceNeg, Int.reduceEq, reduceCtorEq, Nat.reduceMod]
  refine ends_mk [3] ?_ ?_
  · simp -implicitDefEqProofs only [go_sem, reduceIte, Nat.reduceAdd, Nat.reduceSub, Nat.reduceMul, Nat.reduceLT, Nat.reduceLeDiff, Nat.reduceEqDiff, Nat.reduceBEq, Int.reduceLE, Int.reduceLT, Int.reduceToNat, Int.reduceMul, Int.reduceAdd, Int.reduceSub, Int.reduceNeg, Int.reduceEq, reduceCtorEq, Nat.reduceMod]
    exact ⟨bT_take_self _, Nat.le_refl _⟩
  · simp -implicitDefEqProofs only [go_sem, reduceIte, Nat.reduceAdd, Nat.reduceSub, Nat.reduceMul, Nat.reduceLT, Nat.reduceLeDiff, Nat.reduceEqDiff, Nat.reduceBEq, Int.reduceLE, Int.reduceLT, Int.reduceToNat, Int.reduceMul, Int.reduceAdd, Int.reduceSub, Int.reduceNeg, Int.reduceEq, reduceCtorEq, Nat.reduceMod]
    simp [catL, bytesL]
theorem s_frame_Encode_ok (r : Rec) (h : r.ok = true) : Spec Try.prog 87 [.agg r.cells] [.row 0 1 (bT (bytesL r)) true] (.tup [.row 0 0 0 (bytesL r).length, .t (.i .i64 0) true]) := by
  refine spec_ko (hold mixed) b_frame_Encode [.row 0 1 (bT (bytesL r)) true] [.row 0 0 0 (bytesL r).length, .t (.i .i64 0) true] ?_
  obtain ⟨h0, h1, h2⟩ := r.ok_iff.1 h
  simp -implicitDefEqProofs only [go_sem, reduceIte, Nat.reduceAdd, Nat.reduceSub, Nat.reduceMul, Nat.reduceLT, Nat.reduceLeDiff, Nat.reduceEqDiff, Nat.reduceBEq, Int.reduceLE, Int.reduceLT, Int.reduceToNat, Int.reduceMul, Int.reduceAdd, Int.reduceSub, Int.reduceNeg, Int.reduceEq, reduceCtorEq, Nat.reduceMod, Rec.cells]
  refine call_k (s_frame_valid r) ?_ (by simp -implicitDefEqProofs only [go_sem, reduceIte, Nat.reduceAdd, Nat.reduceSub, Nat.reduceMul, Nat.reduceLT, Nat.reduceLeDiff, Nat.reduceEqDiff, Nat.reduceBEq, Int.reduceLE, Int.reduceLT, Int.reduceToNat, Int.reduceMul, Int.reduceAdd, Int.reduceSub, Int.reduceNeg, Int.reduceEq, reduceCtorEq, Nat.reduceMod, Rec.cells])
  simp -implicitDefEqProofs only [go_sem, reduceIte, Nat.reduceAdd, Nat.reduceSub, Nat.reduceMul, Nat.reduceLT, Nat.reduceLeDiff, Nat.reduceEqDiff, Nat.reduceBEq, Int.reduceLE, Int.reduceLT, Int.reduceToNat, Int.reduceMul, Int.reduceAdd, Int.reduceSub, Int.reduceNeg, Int.reduceEq, reduceCtorEq, Nat.reduceMod, h]
  refine call_k (s_frame_write [] r (by simp) h0 h1 h2) ?_ (by simp -implicitDefEqProofs only [go_sem, reduceIte, Nat.reduceAdd, Nat.reduceSub, Nat.reduceMul, Nat.reduceLT, Nat.reduceLeDiff, Nat.reduceEqDiff, Nat.reduceBEq, Int.reduceLE, Int.reduceLT, Int.reduceToNat, Int.reduceMul, Int.reduceAdd, Int.reduceSub, Int.reduceNeg, Int.reduceEq, reduceCtorEq, Nat.reduceMod, Rec.cells]; rfl)
  simp -implicitDefEqProofs only [go_sem, reduceIte, Nat.reduceAdd, Nat.reduceSub, Nat.reduceMul, Nat.reduceLT, Nat.reduceLeDiff, Nat.reduceEqDiff, Nat.reduceBEq, Int.reduceLE, Int.reduceLT, Int.reduceToNat, Int.reduceMul, Int.reduceAdd, Int.reduceSub, Int.reduceNeg, Int.reduceEq, reduceCtorEq, Nat.reduceMod]
  refine ends_mk [1] ?_ ?_
  · simp -implicitDefEqProofs only [go_sem, reduceIte, Nat.reduceAdd, Nat.reduceSub, Nat.reduceMul, Nat.reduceLT, Nat.reduceLeDiff, Nat.reduceEqDiff, Nat.reduceBEq, Int.reduceLE, Int.reduceLT, Int.reduceToNat, Int.reduceMul, Int.reduceAdd, Int.reduceSub, Int.reduceNeg, Int.reduceEq, reduceCtorEq, Nat.reduceMod]
    exact bT_take_self _
  · simp -implicitDefEqProofs only [go_sem, reduceIte, Nat.reduceAdd, Nat.reduceSub, Nat.reduceMul, Nat.reduceLT, Nat.reduceLeDiff, Nat.reduceEqDiff, Nat.reduceBEq, Int.reduceLE, Int.reduceLT, Int.reduceToNat, Int.reduceMul, Int.reduceAdd, Int.reduceSub, Int.reduceNeg, Int.reduceEq, reduceCtorEq, Nat.reduceMod]
end Go.Proofs.Ytdpnjhooehadmaa.Pm

/-! PmFh -/
set_option linter.all false
set_option maxRecDepth 100000
namespace Go.Proofs.Ytdpnjhooehadmaa.Pm
open Go Go.RowKit

/-- Captured values, as a call of the closure sees them. -/
def capV (cap : List T) : List AV := cap.map (AV.t · false)
theorem capV_all (h : H) (cap : List T) : argsOK h (capV cap) cap := by
  induction cap with
  | nil => simp [capV, argsOK]
  | cons x xs ih =>
    simp only [capV, List.map_cons] at ih ⊢
    rw [argsOK_cons]
    exact ⟨by simp [argOK, arg1], ih⟩
theorem capV_loose (cap : List T) : (capV cap).any AV.loose = false := by
  rw [List.any_eq_false]
  intro v hv
  simp only [capV, List.mem_map] at hv
  obtain ⟨x, _, rfl⟩ := hv
  simp [AV.loose]
theorem capV_allf (cap : List T) (f : AV → Bool) (hf : ∀ x, f (AV.t x false) = true) : (capV cap).all f = true := by
  simp only [capV, List.all_map, List.all_eq_true]
  intro x _
  exact hf x
def ixF {α : Type} (p : α → Bool) (l : List α) : Int := match l.findIdx? p with
  | some i => (i : Nat)
  | none => -1
theorem findIdx_at {α : Type} {p : α → Bool} {l : List α} {k : Nat} (hk : k < l.length) (h : (l.take k).any p = false) (hp : p l[k] = true) : l.findIdx? p = some k := by
  rw [List.findIdx?_eq_some_iff_getElem]
  refine ⟨hk, hp, fun j hj => ?_⟩
  rw [List.any_eq_false] at h
  exact h _ (List.mem_take_iff_getElem.2 ⟨j, by omega, rfl⟩)
theorem s_slices_IndexFunc (l : List Rec) (g : Nat) (cap : List T) (p : Rec → Bool) (hn : l.length ≤ 1000000) (hp : ∀ r ∈ l, Spec Try.prog g (.agg r.cells :: cap) [] (.t (.b (p r)) true)) : Spec Try.prog 97 [.sl (recsT l), .fn g cap] [] (.t (.i .i64 (ixF p l)) true) := by
  refine spec_k (hold mixed) b_slices_IndexFunc [(.i .i64 (ixF p l), true)] ?_
  have cf : List.map (fun x => AV.t x false) cap = capV cap := rfl
  simp -implicitDefEqProofs only [go_sem, reduceIte, Nat.reduceAdd, Nat.reduceSub, Nat.reduceMul, Nat.reduceLT, Nat.reduceLeDiff, Nat.reduceEqDiff, Nat.reduceBEq, Int.reduceLE, Int.reduceLT, Int.reduceToNat, Int.reduceMul, Int.reduceAdd, Int.reduceSub, Int.reduceNeg, Int.reduceEq, reduceCtorEq, Nat.reduceMod, recsT_length, cf]
  refine loop_l (α := Nat) (fun k => ⟨tmL [(0, .t (.sl (recsT l)) false), (1, .fn g (capV cap)), (7, .t (.i .i64 l.length) true), (8, .t (.i .i64 k) true)], []⟩) (fun k => l.length - k) (fun k => k ≤ l.length ∧ (l.take k).any p = false) 0 (by simp -implicitDefEqProofs only [go_sem, reduceIte, Nat.reduceAdd, Nat.reduceSub, Nat.reduceMul, Nat.reduceLT, Nat.reduceLeDiff, Nat.reduceEqDiff, Nat.reduceBEq, Int.reduceLE, Int.reduceLT, Int.reduceToNat, Int.reduceMul, Int.reduceAdd, Int.reduceSub, Int.reduceNeg, Int.reduceEq, reduceCtorEq, Nat.reduceMod, capV_allf]; rfl) ⟨by omega, rfl⟩ ?_
  rintro k ⟨hk, he⟩ R hR
  simp -implicitDefEqProofs only [go_sem, reduceIte, Nat.reduceAdd, Nat.reduceSub, Nat.reduceMul, Nat.reduceLT, Nat.reduceLeDiff, Nat.reduceEqDiff, Nat.reduceBEq, Int.reduceLE, Int.reduceLT, Int.reduceToNat, Int.reduceMul, Int.reduceAdd, Int.reduceSub, Int.reduceNeg, Int.reduceEq, reduceCtorEq, Nat.reduceMod]
  refine wcond_mk (fun h => ?_) (fun h => ?_)
  · have hk' : k < l.length := by have := of_decide_eq_true h; omega
    simp -implicitDefEqProofs only [go_sem, reduceIte, Nat.reduceAdd, Nat.reduceSub, Nat.reduceMul, Nat.reduceLT, Nat.reduceLeDiff, Nat.reduceEqDiff, Nat.reduceBEq, Int.reduceLE, Int.reduceLT, Int.reduceToNat, Int.reduceMul, Int.reduceAdd, Int.reduceSub, Int.reduceNeg, Int.reduceEq, reduceCtorEq, Nat.reduceMod, recsT_get hk', recsT_length, Rec.cells]
    refine call_k (hp l[k] (List.getElem_mem hk')) ?_ (by simp -implicitDefEqProofs only [go_sem, reduceIte, Nat.reduceAdd, Nat.reduceSub, Nat.reduceMul, Nat.reduceLT, Nat.reduceLeDiff, Nat.reduceEqDiff, Nat.reduceBEq, Int.reduceLE, Int.reduceLT, Int.reduceToNat, Int.reduceMul, Int.reduceAdd, Int.reduceSub, Int.reduceNeg, Int.reduceEq, reduceCtorEq, Nat.reduceMod, Rec.cells]; exact capV_all _ _) (by simp -implicitDefEqProofs only [go_sem, reduceIte, Nat.reduceAdd, Nat.reduceSub, Nat.reduceMul, Nat.reduceLT, Nat.reduceLeDiff, Nat.reduceEqDiff, Nat.reduceBEq, Int.reduceLE, Int.reduceLT, Int.reduceToNat, Int.reduceMul, Int.reduceAdd, Int.reduceSub, Int.reduceNeg, Int.reduceEq, reduceCtorEq, Nat.reduceMod, capV_loose])
    simp -implicitDefEqProofs only [go_sem, reduceIte, Nat.reduceAdd, Nat.reduceSub, Nat.reduceMul, Nat.reduceLT, Nat.reduceLeDiff, Nat.reduceEqDiff, Nat.reduceBEq, Int.reduceLE, Int.reduceLT, Int.reduceToNat, Int.reduceMul, Int.reduceAdd, Int.reduceSub, Int.reduceNeg, Int.reduceEq, reduceCtorEq, Nat.reduceMod]
    refine wcond_mk (fun h => ?_) (fun h => ?_)
    · have hx : ixF p l = (k : Nat) := by unfold ixF; rw [findIdx_at hk' he h]
      simp -implicitDefEqProofs only [go_sem, reduceIte, Nat.reduceAdd, Nat.reduceSub, Nat.reduceMul, Nat.reduceLT, Nat.reduceLeDiff, Nat.reduceEqDiff, Nat.reduceBEq, Int.reduceLE, Int.reduceLT, Int.reduceToNat, Int.reduceMul, Int.reduceAdd, Int.reduceSub, Int.reduceNeg, Int.reduceEq, reduceCtorEq, Nat.reduceMod, hx]
    · simp -implicitDefEqProofs only [go_sem, reduceIte, Nat.reduceAdd, Nat.reduceSub, Nat.reduceMul, Nat.reduceLT, Nat.reduceLeDiff, Nat.reduceEqDiff, Nat.reduceBEq, Int.reduceLE, Int.reduceLT, Int.reduceToNat, Int.reduceMul, Int.reduceAdd, Int.reduceSub, Int.reduceNeg, Int.reduceEq, reduceCtorEq, Nat.reduceMod]
      refine hR (k + 1) _ ?_ ⟨by omega, ?_⟩ (by omega)
      · simp -implicitDefEqProofs only [go_sem, reduceIte, Nat.reduceAdd, Nat.reduceSub, Nat.reduceMul, Nat.reduceLT, Nat.reduceLeDiff, Nat.reduceEqDiff, Nat.reduceBEq, Int.reduceLE, Int.reduceLT, Int.reduceToNat, Int.reduceMul, Int.reduceAdd, Int.reduceSub, Int.reduceNeg, Int.reduceEq, reduceCtorEq, Nat.reduceMod, wrap_i64_id (show -9223372036854775808 ≤ (k : Int) + 1 by omega) (by omega), Int.natCast_add, capV_allf]
        rfl
      · rw [← List.take_append_getElem hk', List.any_append, he]
        simp [h]
  · have hk' : ¬ k < l.length := by have := of_decide_eq_false h; omega
    obtain rfl : k = l.length := by omega
    rw [List.take_length] at he
    have hx : ixF p l = -1 := by
      unfold ixF
      have : l.findIdx? p = none := by
        rw [List.findIdx?_eq_none_iff]
        intro x hx
        rw [List.any_eq_false] at he
        simpa using he x hx
      rw [this]
    simp -implicitDefEqProofs only [go_sem, reduceIte, Nat.reduceAdd, Nat.reduceSub, Nat.reduceMul, Nat.reduceLT, Nat.reduceLeDiff, Nat.reduceEqDiff, Nat.reduceBEq, Int.reduceLE, Int.reduceLT, Int.reduceToNat, Int.reduceMul, Int.reduceAdd, Int.reduceSub, Int.reduceNeg, Int.reduceEq, reduceCtorEq, Nat.reduceMod, hx]
def catR (l : List Rec) : List (BitVec 8) := (l.map bytesL).flatten
theorem catR_step {l : List Rec} {k : Nat} (h : k < l.length) : catR (l.take (k + 1)) = catR (l.take k) ++ bytesL l[k] := by
  unfold catR
  rw [← List.take_append_getElem h, List.map_append, List.flatten_append]
  simp
theorem catR_le (l : List Rec) (k : Nat) : (catR (l.take k)).length ≤ (catR l).length := by
  unfold catR
  conv => rhs; rw [← List.take_append_drop k l]
  rw [List.map_append, List.flatten_append, List.length_append]
  omega
theorem catR_length_step {l : List Rec} {k : Nat} (h : k < l.length) : (catR (l.take (k + 1))).length = (catR (l.take k)).length + 12 + l[k].data.length := by
  rw [catR_step h, List.length_append, bytesL_length]; omega
end Go.Proofs.Ytdpnjhooehadmaa.Pm
